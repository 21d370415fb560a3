/- Plain facts of searches. -/
import Derived.Test.YtfcodelfgjnkhaaCell
namespace Go.Proofs.Ytfcodelfgjnkhaa
open Go Go.RowKit Go.Sort
set_option linter.unusedVariables false
set_option linter.unusedSimpArgs false

theorem linR_under {p : Nat → Bool} {n : Nat} (k0 k : Nat) (h0 : k0 ≤ k) (h : k < linR p k0 n) : p k = true := by
  unfold linR at h
  split at h
  · rename_i hlt
    split at h
    · rename_i hp
      rcases Nat.eq_or_lt_of_le h0 with rfl | h1
      · exact hp
      · exact linR_under (k0 + 1) k h1 h
    · omega
  · omega
termination_by n - k0
theorem linR_stop {p : Nat → Bool} {n : Nat} (k0 : Nat) (h : linR p k0 n < n) : p (linR p k0 n) = false := by
  unfold linR at h ⊢
  split at h
  · rename_i hlt
    rw [dif_pos hlt]
    split at h
    · rename_i hp
      rw [if_pos hp]
      exact linR_stop (k0 + 1) h
    · rename_i hp
      rw [if_neg hp]
      simpa using hp
  · omega
termination_by n - k0
theorem linR_anti {p : Nat → Bool} {n : Nat} (hp : ∀ k, k + 1 < n → p (k + 1) = true → p k = true) : ∀ k, k < n → p k = decide (k < linR p 0 n) := by
  intro k hk
  by_cases h : k < linR p 0 n
  · rw [decide_eq_true h]
    exact linR_under 0 k (Nat.zero_le _) h
  · rw [decide_eq_false h]
    have hs := linR_stop (p := p) (n := n) 0 (by omega)
    have : ∀ m, linR p 0 n + m < n → p (linR p 0 n + m) = false := by
      intro m
      induction m with
      | zero => intro _; simpa using hs
      | succ m ih =>
        intro hm
        have h1 := ih (by omega)
        cases h2 : p (linR p 0 n + (m + 1))
        · rfl
        · have h3 : p (linR p 0 n + m) = true := hp _ hm h2
          rw [h1] at h3
          cases h3
    have := this (k - linR p 0 n) (by omega)
    rwa [show linR p 0 n + (k - linR p 0 n) = k by omega] at this
theorem bs_lin {p : Nat → Bool} {n : Nat} (hp : ∀ k, k + 1 < n → p (k + 1) = true → p k = true) : bsR p 0 n = linR p 0 n :=
  bsR_at (linR_anti hp) 0 n (Nat.zero_le _) (linR_le p 0 n (Nat.zero_le _)).2 (Nat.le_refl _)

theorem cmpS_neg (a b : ByteArray) : decide (cmpS a b < 0) = Op.bytesLess a.toList b.toList := by
  unfold cmpS
  cases h : Op.bytesLess a.toList b.toList
  · simp
    split <;> simp
  · simp
theorem less_lt : ∀ a b : List UInt8, Op.bytesLess a b = decide (a < b)
  | [], [] => by simp [Op.bytesLess]
  | [], _ :: _ => by simp [Op.bytesLess]
  | _ :: _, [] => by simp [Op.bytesLess]
  | x :: a, y :: b => by
    rw [Op.bytesLess, less_lt a b]
    simp only [List.cons_lt_cons_iff]
    by_cases h1 : x < y <;> by_cases h2 : x = y <;> by_cases h3 : a < b <;> simp [h1, h2, h3]
theorem less_irrefl (a : List UInt8) : Op.bytesLess a a = false := by
  rw [less_lt]
  simp [List.lt_irrefl]
theorem less_trans {a b c : List UInt8} (h1 : Op.bytesLess a b = true) (h2 : Op.bytesLess b c = true) : Op.bytesLess a c = true := by
  rw [less_lt] at *
  simp at *
  exact List.lt_trans h1 h2
theorem cmpS_zero (a b : ByteArray) : decide (cmpS a b = 0) = (a.toList == b.toList) := by
  unfold cmpS
  by_cases h : a.toList = b.toList
  · rw [h, less_irrefl]
    simp
  · cases Op.bytesLess a.toList b.toList <;> simp [h]
theorem cmpI_neg (a b : Int) : decide (cmpI a b < 0) = decide (a < b) := by
  unfold cmpI
  split <;> (try split) <;> simp <;> omega
theorem cmpI_zero (a b : Int) : decide (cmpI a b = 0) = decide (a = b) := by
  unfold cmpI
  split <;> (try split) <;> simp <;> omega
theorem cellsFrom_up : ∀ (xs : List DPair) (o : Option ByteArray) (k : Nat) (h : k + 1 < xs.length), cellsFrom o xs = true → Op.bytesLess xs[k].fKey.toList xs[k + 1].fKey.toList = true
  | x :: y :: xs, o, 0, h, hc => by
    simp only [cellsFrom, overK, Bool.and_eq_true] at hc
    exact hc.2.1.2
  | x :: xs, o, k + 1, h, hc => by
    simp only [cellsFrom, Bool.and_eq_true] at hc
    exact cellsFrom_up xs _ k (by simpa using h) hc.2
theorem sessFrom_up : ∀ (xs : List DSession) (o : Option Int) (k : Nat) (h : k + 1 < xs.length), sessFrom o xs = true → xs[k].fId < xs[k + 1].fId
  | x :: y :: xs, o, 0, h, hc => by
    simp only [sessFrom, overI, Bool.and_eq_true, decide_eq_true_eq] at hc
    exact hc.2.1.2
  | x :: xs, o, k + 1, h, hc => by
    simp only [sessFrom, Bool.and_eq_true] at hc
    exact sessFrom_up xs _ k (by simpa using h) hc.2
end Go.Proofs.Ytfcodelfgjnkhaa
