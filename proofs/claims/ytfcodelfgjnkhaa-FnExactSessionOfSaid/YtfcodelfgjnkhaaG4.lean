/- The laws' own functions of some types, one by one. -/
import Derived.Test.YtfcodelfgjnkhaaTxt
namespace Go.Proofs.Ytfcodelfgjnkhaa
open Go Go.RowKit Go.Sort
set_option linter.unusedVariables false
set_option linter.unusedSimpArgs false

structure DCommand where
  fSession : Int
  fN : Int
  fOp : Int
  fKey : ByteArray
  fValue : ByteArray
  fOld : ByteArray
def kCommand : Rp DCommand := Rp.iso (Rp.pair (Rp.int .i64) (Rp.pair (Rp.int .i64) (Rp.pair (Rp.int .i64) (Rp.pair (Rp.str) (Rp.pair (Rp.str) (Rp.str)))))) (fun x => (x.fSession, x.fN, x.fOp, x.fKey, x.fValue, x.fOld))
theorem kCommand_sz : kCommand.sz = 6 := rfl
theorem kCommand_K {w : World} {x : DCommand} {cs : List Value} (h : kCommand.K w x cs) : cs = [.int .i64 x.fSession, .int .i64 x.fN, .int .i64 x.fOp, .string x.fKey, .string x.fValue, .string x.fOld] := by
  obtain ⟨_, _, rfl, rfl, ⟨_, _, rfl, rfl, ⟨_, _, rfl, rfl, ⟨_, _, rfl, rfl, ⟨_, _, rfl, rfl, rfl⟩⟩⟩⟩⟩ := h
  rfl
theorem kCommand_M {w : World} {F : List Nat} {x : DCommand} {cs : List Value} (h : kCommand.M w F x cs) : F = [] ∧ cs = [.int .i64 x.fSession, .int .i64 x.fN, .int .i64 x.fOp, .string x.fKey, .string x.fValue, .string x.fOld] := by
  obtain ⟨_, _, _, _, rfl, rfl, ⟨rfl, rfl⟩, ⟨_, _, _, _, rfl, rfl, ⟨rfl, rfl⟩, ⟨_, _, _, _, rfl, rfl, ⟨rfl, rfl⟩, ⟨_, _, _, _, rfl, rfl, ⟨rfl, rfl⟩, ⟨_, _, _, _, rfl, rfl, ⟨rfl, rfl⟩, ⟨rfl, rfl⟩⟩⟩⟩⟩⟩ := h
  exact ⟨rfl, rfl⟩
theorem kCommand_mk (w : World) (x : DCommand) : kCommand.M w [] x [.int .i64 x.fSession, .int .i64 x.fN, .int .i64 x.fOp, .string x.fKey, .string x.fValue, .string x.fOld] := ⟨[.int .i64 x.fSession], [.int .i64 x.fN, .int .i64 x.fOp, .string x.fKey, .string x.fValue, .string x.fOld], [], [], rfl, rfl, ⟨rfl, rfl⟩, ⟨[.int .i64 x.fN], [.int .i64 x.fOp, .string x.fKey, .string x.fValue, .string x.fOld], [], [], rfl, rfl, ⟨rfl, rfl⟩, ⟨[.int .i64 x.fOp], [.string x.fKey, .string x.fValue, .string x.fOld], [], [], rfl, rfl, ⟨rfl, rfl⟩, ⟨[.string x.fKey], [.string x.fValue, .string x.fOld], [], [], rfl, rfl, ⟨rfl, rfl⟩, ⟨[.string x.fValue], [.string x.fOld], [], [], rfl, rfl, ⟨rfl, rfl⟩, ⟨rfl, rfl⟩⟩⟩⟩⟩⟩
theorem kCommand_mkK (w : World) (x : DCommand) : kCommand.K w x [.int .i64 x.fSession, .int .i64 x.fN, .int .i64 x.fOp, .string x.fKey, .string x.fValue, .string x.fOld] := kCommand.M_K (kCommand_mk w x)

def szNCommand (x : DCommand) : Nat := x.fKey.size + x.fValue.size + x.fOld.size

def wfCommand (x : DCommand) : Prop := x.fKey.size ≤ 140737488355328 ∧ x.fValue.size ≤ 140737488355328 ∧ x.fOld.size ≤ 140737488355328

set_option maxHeartbeats 1000000 in
set_option maxRecDepth 100000 in
theorem szCommand_calls (x : DCommand) (left : Int) (w : World) (h0 : 0 ≤ left) (h1 : left ≤ 140737488355328) (hw : wfCommand x) : Calls Try.prog 31 #[.agg #[.int .i64 x.fSession, .int .i64 x.fN, .int .i64 x.fOp, .string x.fKey, .string x.fValue, .string x.fOld], .int .i64 left] w
    fun e w' => e = .returned (.int .i64 (szR (szNCommand x) left)) ∧ Below w.heap.size w w' := by
  have HF := Lib.hid (show (szNCommand x : Int) = (x.fKey.size : Int) + (x.fValue.size : Int) + (x.fOld.size : Int) by unfold szNCommand; omega)
  obtain ⟨hs0, hs1, hs2⟩ := hw
  go_enter Try.func31, Try.ntmps31
  go_wp2
  all_goals (go_ret; exact ⟨ret_int (by rw [szR_of HF.out]; first | (rw [if_pos (by omega)]; try omega) | (rw [if_neg (by omega)])), (by repeat (first | exact Below.refl _ _ | (refine Below.setCell ?_ (by first | (simp; done) | (simp; omega)) _) | (refine Below.alloc ?_ (by first | (simp; done) | (simp; omega)) _)))⟩)

set_option maxHeartbeats 1000000 in
set_option maxRecDepth 100000 in
theorem toCommand_calls (x : DCommand) (w : World) : Calls Try.prog 33 #[.agg #[.int .i64 x.fSession, .int .i64 x.fN, .int .i64 x.fOp, .string x.fKey, .string x.fValue, .string x.fOld]] w
    fun e w' => e = .returned (.agg #[.int .i64 x.fSession, .int .i64 x.fN, .int .i64 x.fOp, .string x.fKey, .string x.fValue, .string x.fOld]) ∧ Below w.heap.size w w' := by
  go_enter Try.func33, Try.ntmps33
  go_wp2
  exact bodyPost_ret (v := .agg #[.int .i64 x.fSession, .int .i64 x.fN, .int .i64 x.fOp, .string x.fKey, .string x.fValue, .string x.fOld]) (by simp [results, Try.results33, go_sem]) rfl ⟨rfl, (by repeat (first | exact Below.refl _ _ | (refine Below.setCell ?_ (by first | (simp; done) | (simp; omega)) _) | (refine Below.alloc ?_ (by first | (simp; done) | (simp; omega)) _)))⟩

end Go.Proofs.Ytfcodelfgjnkhaa
