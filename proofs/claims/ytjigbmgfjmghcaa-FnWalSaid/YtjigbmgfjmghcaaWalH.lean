/- Logs: what is dropped in front. -/
import Derived.Test.YtjigbmgfjmghcaaWalF
namespace Go.Proofs.Ytjigbmgfjmghcaa
open Go Go.RowKit Go.Sort
set_option linter.unusedVariables false
set_option linter.unusedSimpArgs false

/-- The rest of a slice that is read. -/
theorem Rp.C_drop {α : Type} {d : Rp α} {w : World} {b off : Nat} {xs : List α} (h : d.C w (some ⟨b, off, none⟩) xs) (k : Nat) : d.C w (some ⟨b, off + k * d.sz, none⟩) (xs.drop k) := by
  rcases h with rfl | ⟨b', off', e, h⟩
  · exact .inl (by simp)
  · simp only [Option.some.injEq, Addr.mk.injEq, and_true] at e
    obtain ⟨rfl, rfl⟩ := e
    refine .inr ⟨b, off + k * d.sz, rfl, fun i y hy => ?_⟩
    rw [List.getElem?_drop] at hy
    obtain ⟨cs, h1, h2⟩ := h (k + i) y hy
    exact ⟨cs, h1, fun j u hu => by
      have := h2 j u hu
      rwa [show off + k * d.sz + i * d.sz + j = off + (k + i) * d.sz + j by rw [Nat.add_mul]; omega]⟩

theorem Rp.S_drop {α : Type} {d : Rp α} {w : World} {b off n c : Nat} {xs : List α} (h : d.S w xs (.slice (some ⟨b, off, none⟩) n c)) (k : Nat) (hk : k ≤ xs.length) (P : Prop) [Decidable P] (hP : P → xs.length ≤ k) :
    d.S w (xs.drop k) (.slice (if P then some ⟨b, off, none⟩ else some ⟨b, off + k * d.sz, none⟩) (xs.length - k) (c - k)) := by
  obtain ⟨A', c', e, h1, h2⟩ := h
  simp only [Value.slice.injEq] at e
  obtain ⟨rfl, rfl, rfl⟩ := e
  have hl : (xs.drop k).length = xs.length - k := by rw [List.length_drop]
  refine ⟨_, c - k, by rw [hl], ⟨by have := h1.1; omega, fun h => by split at h <;> cases h⟩, ?_⟩
  split
  · rename_i hp
    exact .inl (List.drop_of_length_le (hP hp))
  · exact Rp.C_drop h2 k

theorem Rp.S_dropE {α : Type} {d : Rp α} {w : World} {xs : List α} (k : Nat) (hk : xs.length ≤ k) (a : Addr) (n c : Nat) (hn : n = xs.length - k) : d.S w (xs.drop k) (.slice (some a) n c) := by
  have hl : (xs.drop k).length = n := by rw [List.length_drop, hn]
  exact ⟨some a, c, by rw [hl], ⟨by omega, fun h => by cases h⟩, .inl (List.drop_of_length_le hk)⟩
theorem Rp.S_dropN {α : Type} {d : Rp α} {w : World} {b off n c : Nat} {xs : List α} (h : d.S w xs (.slice (some ⟨b, off, none⟩) n c)) (k : Nat) (hk : k ≤ xs.length) (o2 : Nat) (ho : o2 = off + k * d.sz) :
    d.S w (xs.drop k) (.slice (some ⟨b, o2, none⟩) (xs.length - k) (c - k)) := by
  subst ho
  have := Rp.S_drop h k hk False (fun h => h.elim)
  simpa using this

def dropB (x : DWal) (n : Int) : Bool := goodWal x && inB n (x.fFirst - 1) (x.fFirst + x.fEntries.length - 1) && decide (n < 1000000)
def dropB0 (x : DWal) (n : Int) : Bool := goodWal x && inB n (x.fFirst - 1) (x.fFirst + x.fEntries.length - 1)
/-- k entries are dropped. -/
def restW (x : DWal) (k : Nat) : DWal := if k = 0 then x else ⟨x.fFirst + k, (x.fEntries[k - 1]?.map (·.fTerm)).getD 0, x.fEntries.drop k⟩
def dropW (x : DWal) (n : Int) : DWal := if dropB x n then restW x (n - x.fFirst + 1).toNat else zWal

theorem entriesOk_drop : ∀ (k : Nat) (t : Int) (es : List DEntry) (e : DEntry), entriesOk t es = true → es[k]? = some e → entriesOk e.fTerm (es.drop (k + 1)) = true ∧ goodE e = true
  | 0, t, a :: es, e, h, he => by
    simp only [entriesOk, Bool.and_eq_true] at h
    simp only [List.getElem?_cons_zero, Option.some.injEq] at he
    subst he
    exact ⟨h.2, h.1.1⟩
  | k + 1, t, a :: es, e, h, he => by
    simp only [entriesOk, Bool.and_eq_true] at h
    simp only [List.getElem?_cons_succ] at he
    simpa using entriesOk_drop k _ es e h.2 he
theorem goodWal_rest {x : DWal} (h : goodWal x = true) {k : Nat} (hk : k ≤ x.fEntries.length) : goodWal (restW x k) = decide (x.fFirst + k ≤ 1000000) := by
  have h0 := h
  simp only [goodWal, headOk, inB, Bool.and_eq_true, decide_eq_true_eq, beq_iff_eq] at h
  obtain ⟨⟨⟨⟨h1, h2⟩, h3⟩, h4⟩, h5⟩ := h
  unfold restW
  split
  · rename_i hz
    subst hz
    rw [h0]
    simp; omega
  · rename_i hz
    have hlt : k - 1 < x.fEntries.length := by omega
    have he := List.getElem?_eq_getElem hlt
    obtain ⟨g1, g2⟩ := entriesOk_drop (k - 1) _ _ _ h5 he
    rw [show k - 1 + 1 = k by omega] at g1
    simp only [goodE, inB, Bool.and_eq_true, decide_eq_true_eq] at g2
    have hl : (x.fEntries.drop k).length ≤ 60 := by rw [List.length_drop]; omega
    simp only [goodWal, headOk, inB, he, Option.map_some, Option.getD_some, g1, Bool.and_true]
    have e1 : decide ((x.fEntries.drop k).length ≤ 60) = true := by simpa using hl
    have e2 : (x.fEntries[k - 1].fTerm == 0) = false := by
      have := g2.1.1
      simp; omega
    have e3 : (x.fFirst + (k : Int) == 1) = false := by simp; omega
    rw [e1, e2, e3]
    have e4 : decide (0 ≤ x.fEntries[k - 1].fTerm) = true := by have := g2.1.1; simp; omega
    have e5 : decide (x.fEntries[k - 1].fTerm ≤ 1000000) = true := by have := g2.1.2; simpa using this
    have e6 : decide (1 ≤ x.fFirst + (k : Int)) = true := by simp; omega
    rw [e4, e5, e6]
    simp
end Go.Proofs.Ytjigbmgfjmghcaa
