/- The laws' own functions, all in one form. -/
import Derived.Test.YtfcodelfgjnkhaaG4
import Derived.Test.YtfcodelfgjnkhaaKitB
namespace Go.Proofs.Ytfcodelfgjnkhaa
open Go Go.RowKit Go.Sort
set_option linter.unusedVariables false
set_option linter.unusedSimpArgs false

def smCommand (n : Nat) (x : DCommand) : Prop := True
theorem szCommand_sm {n : Nat} {x : DCommand} (h : szNCommand x ≤ n) : smCommand n x := trivial
theorem szCommand_k {x : DCommand} {cs : List Value} {left : Int} {w : World} (hk : kCommand.K w x cs) (h0 : 0 ≤ left) (h1 : left ≤ 140737488355328) (hw : wfCommand x) : Calls Try.prog 31 #[.agg cs.toArray, .int .i64 left] w
    fun e w' => e = .returned (.int .i64 (szR (szNCommand x) left)) ∧ Below w.heap.size w w' := by
  obtain rfl := kCommand_K hk
  exact szCommand_calls x left w h0 h1 hw
theorem toCommand_k {x : DCommand} {cs : List Value} {w : World} (hk : kCommand.K w x cs) (hs : smCommand 1048576 x) : Calls Try.prog 33 #[.agg cs.toArray] w
    fun e w' => ∃ ds F, e = .returned (.agg ds.toArray) ∧ kCommand.M w' F x ds ∧ (∀ b ∈ F, w.heap.size ≤ b) ∧ F.Nodup ∧ Below w.heap.size w w' := by
  obtain rfl := kCommand_K hk
  refine (toCommand_calls x w).mono ?_
  rintro e w' ⟨rfl, hb⟩
  exact ⟨_, [], rfl, kCommand_mk w' x, by simp, by simp, hb⟩

end Go.Proofs.Ytfcodelfgjnkhaa
