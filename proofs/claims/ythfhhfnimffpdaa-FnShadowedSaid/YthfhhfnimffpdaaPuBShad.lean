/- Words for the plain laws: what holds from some number of rounds on. Nothing of the program. -/
import Derived.Test.YthfhhfnimffpdaaQFnShadowed
namespace Go.Proofs.Ythfhhfnimffpdaa
open Go Go.RowKit
set_option linter.unusedVariables false
set_option linter.unusedSimpArgs false

/-- From some number of rounds on. -/
def Alw (p : Nat → Prop) : Prop := ∃ K, ∀ k, K ≤ k → p k
namespace Alw
variable {p q : Nat → Prop}
theorem now (h : ∀ k, p k) : Alw p := ⟨0, fun k _ => h k⟩
theorem and (h : Alw p) (g : Alw q) : Alw fun k => p k ∧ q k := by
  obtain ⟨a, h⟩ := h
  obtain ⟨b, g⟩ := g
  exact ⟨a + b, fun k hk => ⟨h k (by omega), g k (by omega)⟩⟩
theorem imp (h : Alw p) (g : ∀ k, p k → q k) : Alw q := by
  obtain ⟨a, h⟩ := h
  exact ⟨a, fun k hk => g k (h k hk)⟩
theorem succ (h : Alw p) (g : ∀ k, p k → q (k + 1)) : Alw q := by
  obtain ⟨a, h⟩ := h
  refine ⟨a + 1, fun k hk => ?_⟩
  obtain ⟨k, rfl⟩ : ∃ j, k = j + 1 := ⟨k - 1, by omega⟩
  exact g k (h k (by omega))
theorem one (g : ∀ k, q (k + 1)) : Alw q := succ (p := fun _ => True) (now fun _ => trivial) fun k _ => g k
theorem pick (h : Alw p) : ∃ K, ∀ j, p (K + j) := by
  obtain ⟨a, h⟩ := h
  exact ⟨a, fun j => h _ (by omega)⟩
theorem up (h : Alw p) : Alw fun k => p (k + 1) := by
  obtain ⟨a, h⟩ := h
  exact ⟨a, fun k hk => h _ (by omega)⟩
theorem all {P : Nat → Nat → Prop} : ∀ {n : Nat}, (∀ i, i < n → Alw (P i)) → Alw fun k => ∀ i, i < n → P i k
  | 0, _ => now fun _ i h => absurd h (by omega)
  | n + 1, h => by
    refine ((all (P := P) (n := n) fun i hi => h i (by omega)).and (h n (by omega))).imp fun k hk i hi => ?_
    rcases Nat.lt_or_ge i n with h1 | h1
    · exact hk.1 i h1
    · obtain rfl : i = n := by omega
      exact hk.2
end Alw
theorem wS {i : Nat} (h : i ≤ 4611686018427387904) : wrap64 ((i : Int) + 1) = ((i + 1 : Nat) : Int) := by unfold wrap64; omega
theorem wP {i : Nat} (h : 0 < i) (h2 : i ≤ 4611686018427387904) : wrap64 ((i : Int) - 1) = ((i - 1 : Nat) : Int) := by unfold wrap64; omega
theorem w1 {c : Int} (h : 0 ≤ c) (h2 : c ≤ 4611686018427387904) : wrap64 (c + 1) = c + 1 := by unfold wrap64; omega
theorem take_set_succ {α : Type} {l : List α} {i : Nat} (h : i < l.length) (v : α) : (l.set i v).take (i + 1) = l.take i ++ [v] := by
  rw [List.take_succ_eq_append_getElem (by simpa using h), List.getElem_set_self]
  congr 1
  rw [List.take_set, List.set_eq_of_length_le (by rw [List.length_take]; omega)]
theorem getD_nat {α : Type} {l : List α} {i : Nat} (h : i < l.length) (d : α) : l.getD ((i : Nat) : Int).toNat d = l[i] := by
  rw [Int.toNat_natCast, List.getD_eq_getElem?_getD, List.getElem?_eq_getElem h]; rfl
/-- Element i is good, and fits the one ahead of it. -/
def okAt {α : Type} (g : α → Bool) (r : α → α → Bool) (l : List α) (i : Nat) : Bool := match l[i]? with
  | none => true
  | some x => g x && (if i = 0 then true else match l[i - 1]? with | none => true | some p => r p x)
/-- From the i-th on. -/
def okFrom {α : Type} (g : α → Bool) (r : α → α → Bool) (l : List α) : Nat → Nat → Bool
  | 0, _ => true
  | d + 1, i => okAt g r l i && okFrom g r l d (i + 1)
section
variable {α : Type} {g : α → Bool} {r : α → α → Bool} {l : List α}
theorem okAt_zero (h : 0 < l.length) : okAt g r l 0 = g l[0] := by
  rw [okAt, List.getElem?_eq_getElem h]; simp
theorem okAt_succ {j : Nat} (h : j + 1 < l.length) : okAt g r l (j + 1) = (g l[j + 1] && r l[j] l[j + 1]) := by
  rw [okAt, List.getElem?_eq_getElem h]
  simp only [Nat.add_sub_cancel, List.getElem?_eq_getElem (show j < l.length by omega)]
  simp
theorem okAt_good {i : Nat} (h : i < l.length) (hk : okAt g r l i = true) : g l[i] = true := by
  rw [okAt, List.getElem?_eq_getElem h] at hk
  simp only [Bool.and_eq_true] at hk
  exact hk.1
theorem okFrom_at : ∀ (d i : Nat), okFrom g r l d i = true → ∀ j, i ≤ j → j < i + d → okAt g r l j = true
  | 0, i, _, j, h1, h2 => by omega
  | d + 1, i, h, j, h1, h2 => by
    rw [okFrom, Bool.and_eq_true] at h
    rcases Nat.eq_or_lt_of_le h1 with rfl | h3
    · exact h.1
    · exact okFrom_at d (i + 1) h.2 j h3 (by omega)
theorem okFrom_good (h : okFrom g r l l.length 0 = true) : ∀ i (hi : i < l.length), g l[i] = true := fun i hi => okAt_good hi (okFrom_at _ _ h i (Nat.zero_le _) (by omega))
theorem okFrom_next (h : okFrom g r l l.length 0 = true) (j : Nat) (hj : j + 1 < l.length) : r l[j] l[j + 1] = true := by
  have := okFrom_at _ _ h (j + 1) (Nat.zero_le _) (by omega)
  rw [okAt_succ hj, Bool.and_eq_true] at this
  exact this.2
end
end Go.Proofs.Ythfhhfnimffpdaa
