/- What sorts a version's files, walked. -/
import Derived.Test.YtiliaijgkedhnaaApD
import Derived.Test.YtiliaijgkedhnaaSoA
namespace Go.Proofs.Ytiliaijgkedhnaa
open Go Go.RowKit Go.Sort Go.Shelf
set_option linter.unusedVariables false
set_option linter.unusedSimpArgs false

instance : Inhabited DMeta := ⟨⟨0, 0, ⟨#[]⟩, ⟨#[]⟩⟩⟩
def cmpI (a b : Int) : Int := if a < b then -1 else if a = b then 0 else 1
def ordM (x y : DMeta) : Int := cmpI x.fNumber y.fNumber
set_option maxHeartbeats 1000000 in
theorem nanI_calls (a : Int) (w : World) : Calls Try.prog 49 #[.int .i64 a] w fun e w' => e = .returned (.bool false) ∧ w' = w := by
  go_enter Try.func49, Try.ntmps49
  go_wp2
  go_ret
  exact ⟨by simp, rfl⟩
set_option maxHeartbeats 1000000 in
theorem cmpI_calls (a b : Int) (w : World) : Calls Try.prog 28 #[.int .i64 a, .int .i64 b] w fun e w' => e = .returned (.int .i64 (cmpI a b)) ∧ w' = w := by
  rcases Int.lt_trichotomy a b with h | h | h
  all_goals
    go_enter Try.func28, Try.ntmps28
    go_wp2_with (with_reducible refine (nanI_calls _ _).mono ?_; rintro e w1 ⟨rfl, rfl⟩)
  all_goals (go_ret; exact ⟨ret_int (by unfold cmpI; split <;> (try split) <;> omega), rfl⟩)
set_option maxHeartbeats 4000000 in
theorem cloM_calls (x y : DMeta) (w : World) : Calls Try.prog 27 #[.agg #[.int .i64 x.fNumber, .int .i64 x.fLevel, .string x.fLeast, .string x.fMost], .agg #[.int .i64 y.fNumber, .int .i64 y.fLevel, .string y.fLeast, .string y.fMost]] w fun e w' => e = .returned (.int .i64 (ordM x y)) ∧ ∃ q os', w' = grow (w.drewN q) os' := by
  go_enter Try.func27, Try.ntmps27
  go_wp2_with (with_reducible refine (cmpI_calls _ _ _).mono ?_; rintro e wq ⟨rfl, rfl⟩)
  go_ret
  exact ⟨rfl, 0, _, by rw [alloc_eq_grow, alloc_eq_grow, grow_grow]; rfl⟩
end Go.Proofs.Ytiliaijgkedhnaa
