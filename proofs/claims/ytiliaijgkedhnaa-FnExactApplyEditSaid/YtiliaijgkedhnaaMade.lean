/- What a call hands back that is its caller's own. Nothing of the program. -/
import Derived.Test.YtiliaijgkedhnaaInv
namespace Go.Proofs.Ytiliaijgkedhnaa
open Go Go.RowKit
variable {α : Type}

/-- A struct, owned, made since w. -/
def Made (d : Rp α) (x : α) (w w' : World) (v : Value) : Prop :=
  ∃ cs F, v = .agg cs.toArray ∧ d.M w' F x cs ∧ (∀ b ∈ F, w.heap.size ≤ b) ∧ F.Nodup ∧ Below w.heap.size w w'
/-- A slice, owned, made since w. -/
def MadeR (d : Rp α) (e : TypeId) (xs : List α) (w w' : World) (v : Value) : Prop :=
  ∃ F, d.Row e w' F xs v ∧ (∀ b ∈ F, w.heap.size ≤ b) ∧ F.Nodup ∧ Below w.heap.size w w'
theorem MadeR.nil (d : Rp α) (e : TypeId) {w w' : World} (h : Below w.heap.size w w') : MadeR d e [] w w' (.slice none 0 0) := ⟨[], Rp.Row_nil _ _ _, by simp, by simp, h⟩
/-- What lies in other blocks than those written. -/
theorem Row_off {d : Rp α} {e : TypeId} {w w' : World} {F : List Nat} {xs : List α} {v : Value} {g N : Nat} (h : d.Row e w F xs v) (hk : KeptF [g] w w') (hF : ∀ b ∈ F, N ≤ b) (hg : g < N) : d.Row e w' F xs v :=
  Rp.Row_kept h hk (fun b hb hm => by have := hF b hb; have h2 : b = g := (by simpa using hm); omega)
theorem kept_set (w : World) (g o : Nat) (v : Value) : KeptF [g] w (w.setCell ⟨g, o, none⟩ v) := (KeptF.refl [g] w).set (p := ⟨g, o, none⟩) (by simp) v
theorem nodup3 {F G H : List Nat} (f : F.Nodup) (g : G.Nodup) (h : H.Nodup) (d1 : ∀ b ∈ G, b ∉ F) (d2 : ∀ b ∈ H, b ∉ F) (d3 : ∀ b ∈ H, b ∉ G) : (F ++ (G ++ H)).Nodup := by
  rw [List.nodup_append, List.nodup_append]
  exact ⟨f, ⟨g, h, fun a ha b hb e => d3 b hb (e ▸ ha)⟩, fun a ha b hb e => by
    rcases List.mem_append.1 hb with hb | hb
    · exact d1 b hb (e ▸ ha)
    · exact d2 b hb (e ▸ ha)⟩
theorem bound3 {F G H : List Nat} {n m : Nat} (hn : n ≤ m) (f : ∀ b ∈ F, m ≤ b) (g : ∀ b ∈ G, m ≤ b) (h : ∀ b ∈ H, m ≤ b) : ∀ b ∈ F ++ (G ++ H), n ≤ b := fun b hb => by
  simp only [List.mem_append] at hb
  rcases hb with hb | hb | hb
  · exact Nat.le_trans hn (f b hb)
  · exact Nat.le_trans hn (g b hb)
  · exact Nat.le_trans hn (h b hb)
/-- A variable laid and filled. -/
theorem below_new (w : World) (o : Obj) (vs : List Value) : Below w.heap.size w (Rp.setN (w.alloc o) w.heap.size 0 vs) :=
  ((Below.refl w.heap.size w).alloc (Nat.le_refl _) o).trans ((Rp.setN_kept (F := [w.heap.size]) (by simp) vs _ 0 (KeptF.refl _ _)).toBelow (by simp) (by simp))
theorem Box.filled (w : World) {z : Array Value} {T : TypeId} {vs : List Value} (h : z.size = vs.length) : Box (Rp.setN (w.alloc (.cells z T)) w.heap.size 0 vs) w.heap.size vs.toArray T := by
  have := Box.setN vs (Box.new (w := w) (cs := z) (T := T) rfl) 0
  rwa [setA_all h] at this
theorem below_filled (w : World) (o : Obj) (vs : List Value) : w.heap.size + 1 ≤ (Rp.setN (w.alloc o) w.heap.size 0 vs).heap.size := by
  rw [Rp.setN_size]; simp
theorem Row_ne {d : Rp α} {e : TypeId} {w w' : World} {F : List Nat} {xs : List α} {v : Value} {g : Nat} (h : d.Row e w F xs v) (hk : KeptF [g] w w') (hg : g ∉ F) : d.Row e w' F xs v :=
  Rp.Row_kept h hk (fun b hb hm => hg (by have h2 : b = g := (by simpa using hm); exact h2 ▸ hb))
theorem Box_ne {w w' : World} {b g : Nat} {cs : Array Value} {T : TypeId} (h : Box w b cs T) (hk : KeptF [g] w w') (hg : b ≠ g) : Box w' b cs T := h.kept hk (by simpa using hg)
/-- A part of a slice that is read. -/
theorem Rp.S_cut {d : Rp α} {w : World} {xs : List α} {A A' : Option Addr} {n c k m' : Nat} (h : d.S w xs (.slice A n c)) (z : Nat) (hsz : d.sz = z) (lo m : Nat) (hm : lo + m ≤ xs.length) (hm' : m' = m)
    (hA : A' = A.map (fun x => x.add (lo * z)) ∨ c = lo ∧ A' = A) (hk : k = c - lo) : d.S w ((xs.drop lo).take m) (.slice A' m' k) := by
  obtain ⟨A0, c0, e, h1, h2⟩ := h
  simp only [Value.slice.injEq] at e
  obtain ⟨rfl, rfl, rfl⟩ := e
  have hl : ((xs.drop lo).take m).length = m := by rw [List.length_take, List.length_drop]; omega
  subst hm' hk
  have hc := h1.1
  refine ⟨A', c - lo, by rw [hl], ⟨by omega, fun hn => ?_⟩, ?_⟩
  · rcases hA with hA | ⟨hA, _⟩
    · cases A with
      | none => have := h1.2 rfl; omega
      | some a => rw [hA] at hn; cases hn
    · omega
  · by_cases hm0 : m' = 0
    · left
      rw [hm0]; rfl
    rcases hA with hA | ⟨hA, _⟩
    · rcases h2 with h2 | ⟨b, off, rfl, h2⟩
      · subst h2; simp at hm; omega
      · right
        refine ⟨b, off + lo * z, ?_, fun i x hi => ?_⟩
        · rw [hA, Option.map_some]
          unfold Addr.add
          split
          · rename_i h0; rw [h0]; rfl
          · rfl
        · have hi2 : i < m' := by
            have := (List.getElem?_eq_some_iff.1 hi).1
            omega
          rw [List.getElem?_take_of_lt hi2, List.getElem?_drop] at hi
          obtain ⟨cs, k1, k2⟩ := h2 (lo + i) x hi
          refine ⟨cs, k1, fun j u hu => ?_⟩
          rw [hsz] at k2 ⊢
          have := k2 j u hu
          rwa [Nat.add_mul, ← Nat.add_assoc] at this
    · omega
end Go.Proofs.Ytiliaijgkedhnaa
