-- Printed by a program of this session, over the kit's print, for the law FnExactCommandBytes.
import Derived.Test.YtioelmhikablcaaProg
import Derived.Below
import Derived.Deep.Draws
import Derived.Deep.AppendLies
import Derived.Maps.AppendAt
import Derived.OwnWalk
import Derived.Laws.BytesArg
import Derived.Laws.MakeOwn
import Derived.Laws.OwnMore
import Derived.Deep.OwnRows
import Derived.Tactics
import Derived.Lib.ConvBytes
import Derived.Laws.Slices
import Derived.WalkKit
import Derived.KernelRfl
import Derived.RowKit3
import Derived.Deep.LoopGhost
import Derived.Deep.QuietTactic
import Derived.BigQuiet
import Derived.WideLaws
import Derived.Deep.DeepCutAuto
import Derived.Deep.CutBlock
import Derived.Deep.RegionHeld3
import Derived.Laws.Rows
import Derived.Lib.AppendStr
import Derived.ArgAppend
import Derived.Laws.IdiomCopy
import Derived.OrdersHeld
import Derived.Laws.BitsLemmas
import Derived.RowKit
import Derived.Test.YtioelmhikablcaaVar
import Derived.Test.YtioelmhikablcaaWWords
import Derived.Test.YtioelmhikablcaaWLast
import Derived.Test.YtioelmhikablcaaWTab
import Derived.Test.YtioelmhikablcaaWFour
import Derived.Test.YtioelmhikablcaaWQPut
import Derived.Test.YtioelmhikablcaaWApart
import Derived.Test.YtioelmhikablcaaWArr
import Derived.Test.YtioelmhikablcaaWZeros
import Derived.Test.YtioelmhikablcaaWFoot
import Derived.Test.YtioelmhikablcaaWKept
import Derived.Test.YtioelmhikablcaaWShare
import Derived.Test.YtioelmhikablcaaWN
import Derived.Test.YtioelmhikablcaaWFootNe
import Derived.Test.YtioelmhikablcaaWAt
import Derived.Test.YtioelmhikablcaaWEqStruct
import Derived.Test.YtioelmhikablcaaWRepsOne
import Derived.Test.YtioelmhikablcaaWInv
import Derived.Test.YtioelmhikablcaaWInvWords
import Derived.Test.YtioelmhikablcaaWGuard
import Derived.Test.YtioelmhikablcaaWNEv
import Derived.Test.YtioelmhikablcaaWMore
namespace Go.Proofs.Ytioelmhikablcaa.PFnExactCommandBytes
open Go.RowKit Go.Proofs.YtioelmhikablcaaW.PrintWords Go.Proofs.YtioelmhikablcaaW.PrintLast Go.Proofs.YtioelmhikablcaaW.PrintMore
attribute [local go_sem] max2_int min2_int max_two min_two max_three min_three max_four min_four   -- for this text's walks alone
set_option linter.unusedVariables false
set_option linter.unusedSimpArgs false



def errW : Option Int → Value
  | none => .nilIface
  | some c => .iface 0 (.int .i64 c)
theorem errW_none : errW none = .nilIface := rfl
theorem errW_some (c : Int) : errW (some c) = .iface 0 (.int .i64 c) := rfl

theorem info5 : (Try.prog.info? 5).map (fun i => (i.zero, i.size, i.bytes)) = some (some (.int .u8 0), 1, 1) := by kernel_rfl
theorem info9 : (Try.prog.info? 9).map (fun i => (i.zero, i.size, i.bytes)) = some (some (.string ⟨#[]⟩), 1, 16) := by kernel_rfl
-- the values' own types

end Go.Proofs.Ytioelmhikablcaa.PFnExactCommandBytes
