/- Good takings: the order of chunks. -/
import Derived.Test.YtioelmhikablcaaTkA
import Derived.Test.YtioelmhikablcaaCrc
namespace Go.Proofs.Ytioelmhikablcaa
open Go Go.RowKit Go.Sort
set_option linter.unusedVariables false
set_option linter.unusedSimpArgs false

def cmpI (a b : Int) : Int := if a < b then -1 else if b < a then 1 else 0
def orI (a b : Int) : Int := if a = 0 then b else a
def chLess (x y : DChunk) : Bool := decide (x.fFile < y.fFile) || (decide (x.fFile = y.fFile) && decide (x.fAt < y.fAt))
def ordC (x y : DChunk) : Int := orI (cmpI x.fFile y.fFile) (cmpI x.fAt y.fAt)
theorem ordC_ge (x y : DChunk) : decide (0 ≤ ordC x y) = !chLess x y := by
  unfold ordC orI cmpI chLess
  rw [Bool.eq_iff_iff]
  simp only [decide_eq_true_eq, Bool.not_eq_true', Bool.or_eq_false_iff, Bool.and_eq_false_iff, decide_eq_false_iff_not]
  split <;> split <;> (repeat' split) <;> omega
set_option maxHeartbeats 400000 in
theorem nan_calls (a : Int) (w : World) : Calls Try.prog 205 #[.int .i64 a] w fun e w' => e = .returned (.bool false) ∧ w' = w := by
  go_enter Try.func205, Try.ntmps205
  go_wp2
  all_goals (go_ret; exact ⟨by simp, rfl⟩)
set_option maxHeartbeats 1000000 in
theorem cmp_calls (a b : Int) (w : World) : Calls Try.prog 143 #[.int .i64 a, .int .i64 b] w fun e w' => e = .returned (.int .i64 (cmpI a b)) ∧ w' = w := by
  go_enter Try.func143, Try.ntmps143
  go_wp2_with ((with_reducible refine (nan_calls _ _).mono ?_); rintro e wq ⟨rfl, rfl⟩)
  all_goals (go_ret; exact ⟨by unfold cmpI; congr 2; (repeat' split) <;> first | rfl | omega, rfl⟩)
set_option maxHeartbeats 1000000 in
theorem or_calls (a b : Int) (g : Nat) (w : World) (c0 : w.cell? ⟨g, 0, none⟩ = some (.int .i64 a)) (c1 : w.cell? ⟨g, 1, none⟩ = some (.int .i64 b)) : Calls Try.prog 221 #[.slice (some ⟨g, 0, none⟩) 2 2] w fun e w' => e = .returned (.int .i64 (orI a b)) ∧ w' = w := by
  go_enter Try.func221, Try.ntmps221
  go_wp2
  go_loopw [8] (fun i wr => ∃ k : Nat, k ≤ 2 ∧ i = .int .i64 k ∧ Hid (0 < k → a = 0) ∧ Hid (1 < k → b = 0) ∧ Hid (wr = w)) (fun i _ => 2 - (intOf i).toNat)
  case atStart => exact ⟨0, by omega, rfl, by simp [Hid], by simp [Hid], rfl⟩
  case round =>
    obtain ⟨k, hk, rfl, h0, h1, HW⟩ := hrel
    obtain rfl := HW.out
    obtain rfl | rfl | rfl : k = 0 ∨ k = 1 ∨ k = 2 := by omega
    · by_cases ha : a = 0
      · subst ha
        go_wp2
        exact ⟨⟨1, by omega, rfl, fun _ => trivial, by simp [Hid], trivial⟩, by simp [intOf]⟩
      · go_wp2
        go_ret
        exact ⟨by simp [orI, ha], rfl⟩
    · have ha := h0.out (by omega)
      by_cases hb : b = 0
      · subst hb
        go_wp2
        exact ⟨⟨2, by omega, rfl, fun _ => ha, fun _ => trivial, trivial⟩, by simp [intOf]⟩
      · go_wp2
        go_ret
        exact ⟨by simp [orI, ha], rfl⟩
    · have ha := h0.out (by omega)
      have hb := h1.out (by omega)
      go_wp2
      go_ret
      exact ⟨by simp [orI, ha, hb], rfl⟩
end Go.Proofs.Ytioelmhikablcaa
