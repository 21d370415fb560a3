/- What is missing: the plain law. -/
import Derived.Test.YtioelmhikablcaaBsC
namespace Go.Proofs.Ytioelmhikablcaa
open Go Go.RowKit Go.Sort
set_option linter.unusedVariables false
set_option linter.unusedSimpArgs false

/-- Below a place. -/
def ltP (z : DChunk) (f a : Int) : Prop := z.fFile < f ∨ z.fFile = f ∧ z.fAt < a
def eqP (z : DChunk) (f a : Int) : Prop := z.fFile = f ∧ z.fAt = a
instance (z : DChunk) (f a : Int) : Decidable (ltP z f a) := by unfold ltP; infer_instance
instance (z : DChunk) (f a : Int) : Decidable (eqP z f a) := by unfold eqP; infer_instance
theorem ordC_lt {z t : DChunk} : ordC z t < 0 ↔ ltP z t.fFile t.fAt := by
  unfold ordC orI cmpI ltP
  (repeat' split) <;> omega
theorem ordC_eq {z t : DChunk} : ordC z t = 0 ↔ eqP z t.fFile t.fAt := by
  unfold ordC orI cmpI eqP
  (repeat' split) <;> omega
theorem chLess_iff {z y : DChunk} : chLess z y = true ↔ ltP z y.fFile y.fAt := by
  simp [chLess, ltP]
/-- In order. -/
def Ord (xs : List DChunk) : Prop := ∀ a b (hb : b < xs.length) (hab : a < b), chLess (xs[a]'(by omega)) xs[b] = true
theorem got_ord {ws : List DWanted} : ∀ (xs : List DChunk) (p : Option DChunk), gotFrom ws p xs = true → Ord xs ∧ (∀ z, p = some z → ∀ i (h : i < xs.length), chLess z xs[i] = true) ∧ ∀ z ∈ xs, chGood ws z = true
  | [], p, _ => ⟨fun a b hb => absurd hb (by simp), fun z _ i h => absurd h (by simp), fun z hz => absurd hz (by simp)⟩
  | y :: r, p, h => by
    rw [gotFrom, Bool.and_eq_true, Bool.and_eq_true] at h
    obtain ⟨⟨h1, h2⟩, h3⟩ := h
    obtain ⟨q1, q2, q3⟩ := got_ord r (some y) h3
    have q2 := q2 y rfl
    have tr : ∀ z, p = some z → ∀ i (h : i < (y :: r).length), chLess z (y :: r)[i] = true := fun z hz i hi => by
      subst hz
      have h2 : chLess z y = true := h2
      cases i with
      | zero => exact h2
      | succ i =>
        have h4 := q2 i (by simpa using hi)
        rw [List.getElem_cons_succ]
        rw [chLess_iff] at h2 h4 ⊢
        unfold ltP at *
        omega
    refine ⟨fun a b hb hab => ?_, tr, fun z hz => ?_⟩
    · cases b with
      | zero => omega
      | succ b =>
        cases a with
        | zero => simpa using q2 b (by simpa using hb)
        | succ a => simpa using q1 a b (by simpa using hb) (by omega)
    · rcases List.mem_cons.1 hz with rfl | hz
      · exact h1
      · exact q3 z hz
theorem ord_mono {xs : List DChunk} (h : Ord xs) (t : DChunk) : ∀ a b (hb : b < xs.length) (ha : a ≤ b), ordC xs[b] t < 0 → ordC (xs[a]'(by omega)) t < 0 := fun a b hb ha hq => by
  rcases Nat.eq_or_lt_of_le ha with rfl | hab
  · exact hq
  · have h1 := chLess_iff.1 (h a b hb hab)
    rw [ordC_lt] at hq ⊢
    unfold ltP at *
    omega
def memC (xs : List DChunk) (f a : Int) : Bool := xs.any fun z => decide (eqP z f a)
/-- The boundary of a place. -/
def Bnd (xs : List DChunk) (k : Nat) (f a : Int) : Prop := k ≤ xs.length ∧ (∀ i (h : i < xs.length), i < k → ltP xs[i] f a) ∧ ∀ i (h : i < xs.length), k ≤ i → ¬ ltP xs[i] f a
def isC (xs : List DChunk) (k : Nat) (f a : Int) : Bool := match xs[k]? with
  | some z => decide (eqP z f a)
  | none => false
theorem bnd_mem {xs : List DChunk} (h : Ord xs) {k : Nat} {f a : Int} (hb : Bnd xs k f a) : isC xs k f a = memC xs f a := by
  obtain ⟨h0, h1, h2⟩ := hb
  rw [Bool.eq_iff_iff, memC, List.any_eq_true]
  constructor
  · intro q
    by_cases hk : k < xs.length
    · rw [isC, List.getElem?_eq_getElem hk] at q
      exact ⟨_, List.getElem_mem hk, q⟩
    · rw [isC, List.getElem?_eq_none (by omega)] at q
      cases q
  · rintro ⟨z, hz, q⟩
    obtain ⟨i, hi, rfl⟩ := List.getElem_of_mem hz
    have q := of_decide_eq_true q
    have hki : k ≤ i := by
      rcases Nat.lt_or_ge i k with h3 | h3
      · have := h1 i hi h3
        unfold ltP eqP at *
        omega
      · exact h3
    have hk : k < xs.length := by omega
    rw [isC, List.getElem?_eq_getElem hk]
    rcases Nat.eq_or_lt_of_le hki with rfl | hlt
    · exact decide_eq_true q
    · have h3 := chLess_iff.1 (h k i hi hlt)
      have h4 := h2 k hk (Nat.le_refl _)
      unfold ltP eqP at *
      omega
/-- The next place of a file. -/
theorem bnd_next {xs : List DChunk} (h : Ord xs) (h64 : ∀ z ∈ xs, z.fAt % 64 = 0) {k : Nat} {f a : Int} (ha : a % 64 = 0) (hb : Bnd xs k f a) : Bnd xs (if isC xs k f a then k + 1 else k) f (a + 64) := by
  obtain ⟨h0, h1, h2⟩ := hb
  have up : ∀ z ∈ xs, ¬ ltP z f a → ¬ eqP z f a → ¬ ltP z f (a + 64) := fun z hz q1 q2 => by
    have := h64 z hz
    unfold ltP eqP at *
    omega
  have dn : ∀ z : DChunk, ltP z f a → ltP z f (a + 64) := fun z q => by unfold ltP at *; omega
  by_cases hk : k < xs.length
  · by_cases he : eqP xs[k] f a
    · rw [show isC xs k f a = true by rw [isC, List.getElem?_eq_getElem hk]; exact decide_eq_true he, if_pos rfl]
      refine ⟨hk, fun i hi q => ?_, fun i hi q => ?_⟩
      · rcases Nat.eq_or_lt_of_le (Nat.le_of_lt_succ q) with rfl | q
        · unfold ltP eqP at *; omega
        · exact dn _ (h1 i hi q)
      · refine up _ (List.getElem_mem hi) (h2 i hi (by omega)) fun q2 => ?_
        have := chLess_iff.1 (h k i hi (by omega))
        unfold ltP eqP at *
        omega
    · rw [show isC xs k f a = false by rw [isC, List.getElem?_eq_getElem hk]; exact decide_eq_false he, if_neg (by simp)]
      refine ⟨h0, fun i hi q => dn _ (h1 i hi q), fun i hi q => up _ (List.getElem_mem hi) (h2 i hi q) fun q2 => ?_⟩
      rcases Nat.eq_or_lt_of_le q with rfl | q
      · exact he q2
      · have h3 := chLess_iff.1 (h k i hi q)
        have h4 := h2 k hk (Nat.le_refl _)
        unfold ltP eqP at *
        omega
  · rw [show isC xs k f a = false by rw [isC, List.getElem?_eq_none (by omega)], if_neg (by simp)]
    exact ⟨h0, fun i hi q => dn _ (h1 i hi q), fun i hi q => absurd hi (by omega)⟩
/-- The next file. -/
theorem bnd_file {xs : List DChunk} {k : Nat} {f a : Int} (hs : ∀ z ∈ xs, z.fFile = f → z.fAt < a) (hn : ∀ z ∈ xs, 0 ≤ z.fAt) (hb : Bnd xs k f a) : Bnd xs k (f + 1) 0 := by
  obtain ⟨h0, h1, h2⟩ := hb
  refine ⟨h0, fun i hi q => ?_, fun i hi q => ?_⟩
  · have := h1 i hi q
    unfold ltP at *; omega
  · have q1 := h2 i hi q
    have q2 := hs _ (List.getElem_mem hi)
    have q3 := hn _ (List.getElem_mem hi)
    unfold ltP at *; omega
theorem bs_mem {xs : List DChunk} (h : Ord xs) {i : Nat} {t : DChunk} (h0 : i ≤ xs.length) (h1 : ∀ k (h : k < xs.length), k < i → ordC xs[k] t < 0) (h2 : ∀ k (h : k < xs.length), i ≤ k → 0 ≤ ordC xs[k] t) : foundC xs t i = memC xs t.fFile t.fAt := by
  have hb : Bnd xs i t.fFile t.fAt := ⟨h0, fun k hk q => ordC_lt.1 (h1 k hk q), fun k hk q q2 => by have := h2 k hk q; have := ordC_lt.2 q2; omega⟩
  rw [← bnd_mem h hb, foundC, isC]
  cases xs[i]? with
  | none => rfl
  | some z =>
    show (ordC z t == 0) = decide (eqP z t.fFile t.fAt)
    rw [Bool.eq_iff_iff, beq_iff_eq, decide_eq_true_eq, ordC_eq]
def misF (xs : List DChunk) (f : Nat) : Nat → List DChunk
  | 0 => []
  | j + 1 => misF xs f j ++ (if memC xs f ((64 * j : Nat) : Int) then [] else [⟨f, ((64 * j : Nat) : Int), ⟨#[]⟩, 0⟩])
theorem misF_len (xs : List DChunk) (f : Nat) : ∀ j, (misF xs f j).length ≤ j
  | 0 => Nat.le_refl _
  | j + 1 => by
    have := misF_len xs f j
    rw [misF, List.length_append]
    split <;> simp <;> omega
def nW (m : DWanted) : Nat := ((m.fSize + 63) / 64).toNat
def misA (ws : List DWanted) (xs : List DChunk) : Nat → List DChunk
  | 0 => []
  | k + 1 => misA ws xs k ++ misF xs k (nW (ws.getD k ⟨0, 0⟩))
theorem misA_len (ws : List DWanted) (xs : List DChunk) (h : ∀ m ∈ ws, wantB m = false) : ∀ k, (misA ws xs k).length ≤ 63 * k
  | 0 => Nat.le_refl _
  | k + 1 => by
    have h2 : nW (ws.getD k ⟨0, 0⟩) ≤ 63 := by
      by_cases hk : k < ws.length
      · rw [List.getD, List.getElem?_eq_getElem hk]
        have := h _ (List.getElem_mem hk)
        simp only [wantB, Bool.not_eq_false'] at this
        have := inR_iff.1 this
        show nW ws[k] ≤ 63
        unfold nW
        omega
      · rw [List.getD, List.getElem?_eq_none (by omega)]
        decide
    have := misA_len ws xs h k
    have := misF_len xs k (nW (ws.getD k ⟨0, 0⟩))
    rw [misA, List.length_append]
    omega
end Go.Proofs.Ytioelmhikablcaa
