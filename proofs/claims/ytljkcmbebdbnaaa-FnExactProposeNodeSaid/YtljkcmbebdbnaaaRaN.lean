/- The first node. -/
import Derived.Test.YtljkcmbebdbnaaaRaP
namespace Go.Proofs.Ytljkcmbebdbnaaa
open Go Go.RowKit Go.Sort
set_option linter.unusedVariables false
set_option linter.unusedSimpArgs false

set_option maxHeartbeats 400000 in
theorem iInR_calls (n lo hi : Int) (w : World) : Calls Try.prog 63 #[.int .i64 n, .int .i64 lo, .int .i64 hi] w fun e w' => e = .returned (.bool (inR n lo hi)) ∧ w' = w := by
  go_enter Try.func63, Try.ntmps63
  go_wp2
  all_goals (go_ret; exact ⟨by congr 2; simp [inR]; omega, rfl⟩)
set_option maxHeartbeats 400000 in
theorem iPeers_calls (n : Int) (w : World) : Calls Try.prog 62 #[.int .i64 n] w fun e w' => e = .returned (.bool (inR n 1 7)) ∧ w' = w := by
  go_enter Try.func62, Try.ntmps62
  go_wp2_with (with_reducible refine (iInR_calls _ _ _ _).mono ?_; rintro e w1 ⟨rfl, rfl⟩)
  all_goals (go_ret; exact ⟨rfl, rfl⟩)
set_option maxHeartbeats 400000 in
theorem sInR_calls (n lo hi : Int) (w : World) : Calls Try.prog 57 #[.int .i64 n, .int .i64 lo, .int .i64 hi] w fun e w' => e = .returned (.bool (inR n lo hi)) ∧ w' = w := by
  go_enter Try.func57, Try.ntmps57
  go_wp2
  all_goals (go_ret; exact ⟨by congr 2; simp [inR]; omega, rfl⟩)
set_option maxHeartbeats 400000 in
theorem sPeers_calls (n : Int) (w : World) : Calls Try.prog 56 #[.int .i64 n] w fun e w' => e = .returned (.bool (inR n 1 7)) ∧ w' = w := by
  go_enter Try.func56, Try.ntmps56
  go_wp2_with (with_reducible refine (sInR_calls _ _ _ _).mono ?_; rintro e w1 ⟨rfl, rfl⟩)
  all_goals (go_ret; exact ⟨rfl, rfl⟩)
end Go.Proofs.Ytljkcmbebdbnaaa
