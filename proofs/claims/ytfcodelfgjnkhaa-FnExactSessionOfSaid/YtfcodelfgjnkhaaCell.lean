/- Cells and sessions found. -/
import Derived.Test.YtfcodelfgjnkhaaSt2
namespace Go.Proofs.Ytfcodelfgjnkhaa
open Go Go.RowKit Go.Sort
set_option linter.unusedVariables false
set_option linter.unusedSimpArgs false

def cmpS (a b : ByteArray) : Int := if Op.bytesLess a.toList b.toList then -1 else if a.toList == b.toList then 0 else 1
def cmpI (a b : Int) : Int := if a < b then -1 else if a = b then 0 else 1

set_option maxHeartbeats 1000000 in
theorem nanS_calls (a : ByteArray) (w : World) : Calls Try.prog 106 #[.string a] w fun e w' => e = .returned (.bool false) ∧ w' = w := by
  go_enter Try.func106, Try.ntmps106
  go_wp2
  go_ret
  exact ⟨by simp, rfl⟩
set_option maxHeartbeats 1000000 in
theorem nanI_calls (a : Int) (w : World) : Calls Try.prog 107 #[.int .i64 a] w fun e w' => e = .returned (.bool false) ∧ w' = w := by
  go_enter Try.func107, Try.ntmps107
  go_wp2
  go_ret
  exact ⟨by simp, rfl⟩
set_option maxHeartbeats 1000000 in
theorem cmpS_calls (a b : ByteArray) (w : World) : Calls Try.prog 100 #[.string a, .string b] w fun e w' => e = .returned (.int .i64 (cmpS a b)) ∧ w' = w := by
  cases h1 : Op.bytesLess a.toList b.toList
  · by_cases h2 : a.toList = b.toList
    · go_enter Try.func100, Try.ntmps100
      go_wp2_with (with_reducible refine (nanS_calls _ _).mono ?_; rintro e w1 ⟨rfl, rfl⟩)
      all_goals (go_ret; exact ⟨by simp_all [cmpS], rfl⟩)
    · go_enter Try.func100, Try.ntmps100
      go_wp2_with (with_reducible refine (nanS_calls _ _).mono ?_; rintro e w1 ⟨rfl, rfl⟩)
      all_goals (go_ret; exact ⟨by simp_all [cmpS], rfl⟩)
  · go_enter Try.func100, Try.ntmps100
    go_wp2_with (with_reducible refine (nanS_calls _ _).mono ?_; rintro e w1 ⟨rfl, rfl⟩)
    all_goals (go_ret; exact ⟨by simp_all [cmpS], rfl⟩)
set_option maxHeartbeats 1000000 in
theorem cmpI_calls (a b : Int) (w : World) : Calls Try.prog 103 #[.int .i64 a, .int .i64 b] w fun e w' => e = .returned (.int .i64 (cmpI a b)) ∧ w' = w := by
  rcases Int.lt_trichotomy a b with h | h | h
  all_goals
    go_enter Try.func103, Try.ntmps103
    go_wp2_with (with_reducible refine (nanI_calls _ _).mono ?_; rintro e w1 ⟨rfl, rfl⟩)
  all_goals (go_ret; exact ⟨ret_int (by unfold cmpI; split <;> (try split) <;> omega), rfl⟩)

/-- A search by halves. -/
def bsR (p : Nat → Bool) (i j : Nat) : Nat :=
  if h : i < j then (if p ((i + j) / 2) then bsR p ((i + j) / 2 + 1) j else bsR p i ((i + j) / 2)) else i
termination_by j - i
decreasing_by all_goals omega
theorem bsR_le (p : Nat → Bool) (i j : Nat) (h : i ≤ j) : i ≤ bsR p i j ∧ bsR p i j ≤ j := by
  unfold bsR
  split
  · split
    · have := bsR_le p ((i + j) / 2 + 1) j (by omega)
      omega
    · have := bsR_le p i ((i + j) / 2) (by omega)
      omega
  · omega
termination_by j - i
decreasing_by all_goals omega
theorem bsR_at {p : Nat → Bool} {n K : Nat} (hp : ∀ k, k < n → p k = decide (k < K)) (i j : Nat) (h1 : i ≤ K) (h2 : K ≤ j) (h3 : j ≤ n) : bsR p i j = K := by
  unfold bsR
  split
  · rename_i hlt
    have hm := hp ((i + j) / 2) (by omega)
    by_cases hk : (i + j) / 2 < K
    · rw [hm, decide_eq_true hk, if_pos rfl]
      exact bsR_at hp _ _ (by omega) h2 h3
    · rw [hm, decide_eq_false hk, if_neg (by simp)]
      exact bsR_at hp _ _ h1 (by omega) (by omega)
  · omega
termination_by j - i
decreasing_by all_goals omega
/-- A search one by one. -/
def linR (p : Nat → Bool) (k n : Nat) : Nat := if h : k < n then (if p k then linR p (k + 1) n else k) else k
termination_by n - k
theorem linR_at {p : Nat → Bool} {n K : Nat} (hp : ∀ k, k < n → p k = decide (k < K)) (hK : K ≤ n) (k : Nat) (h1 : k ≤ K) : linR p k n = K := by
  unfold linR
  split
  · rename_i hlt
    by_cases hk : k < K
    · rw [hp k hlt, decide_eq_true hk, if_pos rfl]
      exact linR_at hp hK (k + 1) hk
    · rw [hp k hlt, decide_eq_false hk, if_neg (by simp)]
      omega
  · omega
termination_by n - k
theorem linR_le (p : Nat → Bool) (k n : Nat) (h : k ≤ n) : k ≤ linR p k n ∧ linR p k n ≤ n := by
  unfold linR
  split
  · split
    · have := linR_le p (k + 1) n (by omega)
      omega
    · omega
  · omega
termination_by n - k
end Go.Proofs.Ytfcodelfgjnkhaa
