/- Commands: which are right. -/
import Derived.Test.YtfcodelfgjnkhaaG5
import Derived.Laws.Slices
namespace Go.Proofs.Ytfcodelfgjnkhaa
open Go Go.RowKit Go.Sort
set_option linter.unusedVariables false
set_option linter.unusedSimpArgs false

def inR (n lo hi : Int) : Bool := decide (lo ≤ n) && decide (n ≤ hi)
set_option maxHeartbeats 400000 in
theorem sInR_calls (n lo hi : Int) (w : World) : Calls Try.prog 49 #[.int .i64 n, .int .i64 lo, .int .i64 hi] w fun e w' => e = .returned (.bool (inR n lo hi)) ∧ w' = w := by
  go_enter Try.func49, Try.ntmps49
  go_wp2
  all_goals (go_ret; exact ⟨by congr 2; simp [inR]; omega, rfl⟩)
set_option maxHeartbeats 400000 in
theorem iInR_calls (n lo hi : Int) (w : World) : Calls Try.prog 51 #[.int .i64 n, .int .i64 lo, .int .i64 hi] w fun e w' => e = .returned (.bool (inR n lo hi)) ∧ w' = w := by
  go_enter Try.func51, Try.ntmps51
  go_wp2
  all_goals (go_ret; exact ⟨by congr 2; simp [inR]; omega, rfl⟩)
theorem inR2 : inR 2 1 4 = true := rfl
theorem inR4 : inR 4 1 4 = true := rfl
def goodKey (s : ByteArray) : Bool := inR s.size 1 16
def goodVal (s : ByteArray) : Bool := decide ((s.size : Int) ≤ 40)
set_option maxHeartbeats 400000 in
theorem sKey_calls (s : ByteArray) (w : World) : Calls Try.prog 67 #[.string s] w fun e w' => e = .returned (.bool (goodKey s)) ∧ w' = w := by
  go_enter Try.func67, Try.ntmps67
  go_wp2_with (first | (with_reducible refine (sInR_calls _ _ _ _).mono ?_; rintro e w1 ⟨rfl, rfl⟩))
  all_goals (go_ret; exact ⟨rfl, rfl⟩)
set_option maxHeartbeats 400000 in
theorem iKey_calls (s : ByteArray) (w : World) : Calls Try.prog 68 #[.string s] w fun e w' => e = .returned (.bool (goodKey s)) ∧ w' = w := by
  go_enter Try.func68, Try.ntmps68
  go_wp2_with (first | (with_reducible refine (iInR_calls _ _ _ _).mono ?_; rintro e w1 ⟨rfl, rfl⟩))
  all_goals (go_ret; exact ⟨rfl, rfl⟩)
set_option maxHeartbeats 400000 in
theorem iValue_calls (s : ByteArray) (w : World) : Calls Try.prog 69 #[.string s] w fun e w' => e = .returned (.bool (goodVal s)) ∧ w' = w := by
  go_enter Try.func69, Try.ntmps69
  go_wp2
  all_goals (go_ret; exact ⟨by congr 2; try simp [goodVal]; try omega, rfl⟩)

def goodCmd (x : DCommand) : Bool :=
  inR x.fSession 0 99 && inR x.fN 1 1000000 && inR x.fOp 1 4 && goodKey x.fKey && goodVal x.fValue && goodVal x.fOld &&
  (x.fValue.toList.isEmpty || x.fOp == 2 || x.fOp == 4) && (x.fOld.toList.isEmpty || x.fOp == 4)

set_option maxHeartbeats 4000000 in
set_option maxRecDepth 100000 in
theorem sGoodCommand_calls (x : DCommand) (w : World) : Calls Try.prog 32 #[.agg #[.int .i64 x.fSession, .int .i64 x.fN, .int .i64 x.fOp, .string x.fKey, .string x.fValue, .string x.fOld]] w
    fun e w' => e = .returned (.bool (goodCmd x)) ∧ Below w.heap.size w w' := by
  go_enter Try.func32, Try.ntmps32
  go_wp2_with (first | (with_reducible refine (sInR_calls _ _ _ _).mono ?_; rintro e w1 ⟨rfl, rfl⟩) | (with_reducible refine (sKey_calls _ _).mono ?_; rintro e w1 ⟨rfl, rfl⟩))
  all_goals (go_ret; exact ⟨by congr 2; (try simp [goodCmd, goodVal, inR2, inR4, *]) <;> omega, (Below.refl _ _).alloc (Nat.le_refl _) _⟩)
set_option maxHeartbeats 4000000 in
set_option maxRecDepth 100000 in
theorem iGoodCommand_calls (x : DCommand) (w : World) : Calls Try.prog 34 #[.agg #[.int .i64 x.fSession, .int .i64 x.fN, .int .i64 x.fOp, .string x.fKey, .string x.fValue, .string x.fOld]] w
    fun e w' => e = .returned (.bool (goodCmd x)) ∧ Below w.heap.size w w' := by
  go_enter Try.func34, Try.ntmps34
  go_wp2_with (first | (with_reducible refine (iInR_calls _ _ _ _).mono ?_; rintro e w1 ⟨rfl, rfl⟩) | (with_reducible refine (iKey_calls _ _).mono ?_; rintro e w1 ⟨rfl, rfl⟩) | (with_reducible refine (iValue_calls _ _).mono ?_; rintro e w1 ⟨rfl, rfl⟩))
  all_goals go_ret
  all_goals refine ⟨?_, (Below.refl _ _).alloc (Nat.le_refl _) _⟩
  all_goals congr 2
  all_goals first
    | (have h9 : (!goodVal x.fOld) = true := by assumption
       simp at h9
       simp [goodCmd, inR2, inR4, *]
       done)
    | (have h9 : (!goodVal x.fOld) = false := by assumption
       simp at h9
       simp [goodCmd, inR2, inR4, *]
       done)
    | (simp [goodCmd, inR2, inR4, *]
       done)
theorem sGoodCommand_k {x : DCommand} {c0 : List Value} {w : World} (k0 : kCommand.K w x c0) (h0 : wfCommand x) (s0 : smCommand 1048576 x) : Calls Try.prog 32 #[.agg c0.toArray] w
    fun e w' => e = .returned (.bool (goodCmd x)) ∧ Below w.heap.size w w' := by
  obtain rfl := kCommand_K k0
  exact sGoodCommand_calls x w
theorem iGoodCommand_k {x : DCommand} {c0 : List Value} {w : World} (k0 : kCommand.K w x c0) (h0 : wfCommand x) (s0 : smCommand 1048576 x) : Calls Try.prog 34 #[.agg c0.toArray] w
    fun e w' => e = .returned (.bool (goodCmd x)) ∧ Below w.heap.size w w' := by
  obtain rfl := kCommand_K k0
  exact iGoodCommand_calls x w
end Go.Proofs.Ytfcodelfgjnkhaa
