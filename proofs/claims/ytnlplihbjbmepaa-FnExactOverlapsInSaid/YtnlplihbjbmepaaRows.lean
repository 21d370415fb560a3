/-
  No cell of these rows narrows 'for every input' (looked for: loops, veiled, ifaces, maps, wideKeys, modest, calm, conditions, laid).
  DERIVED. THE GIVEN ROWS OF THIS SEAT. 9 by the template 'for every input the law returns true; each argument reads behind the call as it read before'; 0 by the template 'total and deterministic' (their statements: YtnlplihbjbmepaaTotals.lean).
  GIVEN WITH THE SEED: the statements are not yours to turn. If you find one false, say at which input.
  Laid BY PROGRAM, IN A SANDBOX (cutbox-rows.mjs): the forced cells as the released guide's own fill.sh prints them over the translation edb97adcb0c91d4a… (all of the seat's roots in one cut). By AI agents, Wed Nov 11 2026. No macro, syntax, notation, axiom, sorry.
-/
import Derived.Test.YtnlplihbjbmepaaChecked
import GoSem.Claim
import GoSem.ClaimJoined
import GoSem.ClaimMapViews
import Derived.JoinedTies
import Derived.KernelRfl
namespace Go.Proofs.Ytnlplihbjbmepaa
/- THE CELL 'sum', in the pinned program and in every row, IS THE sha256 OF THE DUMP (.gsa) THAT YtnlplihbjbmepaaProg.lean LOADS. Nothing in Lean hashes anything: it is a label: what it is worth is what the hold of that sum in a sandbox is worth. -/
noncomputable def Try.pinned : Pinned := { name := "ytnlplihbjbmepaa", sum := "edb97adcb0c91d4abc4e039a8cff5b0bbbe4b2893a22e69abbc0071a4350ddc4", checked := Try.checked }
namespace Rows
def none {H : Type} : Left H := { results := [], args := [] }

/-- 'laws.FnExactNewVersion': WHATEVER THE INPUT: true; the input reads as it did. -/
def fnExactNewVersionSpec : ChangeSpec := { name := "fnExactNewVersion", fn := fun _ => fun
  | [] => { results := [.lit (.bool true)], args := [] }
  | _ => none }
def fnExactNewVersionRow : OpenClaim := { program := "ytnlplihbjbmepaa", sum := "edb97adcb0c91d4abc4e039a8cff5b0bbbe4b2893a22e69abbc0071a4350ddc4", func := "loop.example/g00224/laws.FnExactNewVersion", spec := "fnExactNewVersion", apart := false }
def FnExactNewVersionSaid : Prop := fnExactNewVersionRow.holds Try.pinned (OpenSpec.ofChange fnExactNewVersionSpec)

/-- ITS FALSE NEIGHBOUR: 'it returns false'. Refute it at one input. -/
def fnExactNewVersionWrong : ChangeSpec := { name := "fnExactNewVersion", fn := fun _ => fun
  | [] => { results := [.lit (.bool false)], args := [] }
  | _ => none }
def FnExactNewVersionWrongFalsely : Prop := fnExactNewVersionRow.holds Try.pinned (OpenSpec.ofChange fnExactNewVersionWrong)

/-- 'laws.FnExactGoodVersion': WHATEVER THE INPUT: true; the input reads as it did. -/
def fnExactGoodVersionSpec : ChangeSpec := { name := "fnExactGoodVersion", fn := fun _ => fun
  | [d] => { results := [.lit (.bool true)], args := [d] }
  | _ => none }
def fnExactGoodVersionRow : OpenClaim := { program := "ytnlplihbjbmepaa", sum := "edb97adcb0c91d4abc4e039a8cff5b0bbbe4b2893a22e69abbc0071a4350ddc4", func := "loop.example/g00224/laws.FnExactGoodVersion", spec := "fnExactGoodVersion", unfollowed := true, recurses := true, apart := false }
def FnExactGoodVersionSaid : Prop := fnExactGoodVersionRow.holds Try.pinned (OpenSpec.ofChange fnExactGoodVersionSpec)

/-- ITS FALSE NEIGHBOUR: 'it returns false'. Refute it at one input. -/
def fnExactGoodVersionWrong : ChangeSpec := { name := "fnExactGoodVersion", fn := fun _ => fun
  | [d] => { results := [.lit (.bool false)], args := [d] }
  | _ => none }
def FnExactGoodVersionWrongFalsely : Prop := fnExactGoodVersionRow.holds Try.pinned (OpenSpec.ofChange fnExactGoodVersionWrong)

/-- 'laws.FnExactPickLevel': WHATEVER THE INPUT: true; the input reads as it did. -/
def fnExactPickLevelSpec : ChangeSpec := { name := "fnExactPickLevel", fn := fun _ => fun
  | [d] => { results := [.lit (.bool true)], args := [d] }
  | _ => none }
def fnExactPickLevelRow : OpenClaim := { program := "ytnlplihbjbmepaa", sum := "edb97adcb0c91d4abc4e039a8cff5b0bbbe4b2893a22e69abbc0071a4350ddc4", func := "loop.example/g00224/laws.FnExactPickLevel", spec := "fnExactPickLevel", unfollowed := true, recurses := true, apart := false }
def FnExactPickLevelSaid : Prop := fnExactPickLevelRow.holds Try.pinned (OpenSpec.ofChange fnExactPickLevelSpec)

/-- ITS FALSE NEIGHBOUR: 'it returns false'. Refute it at one input. -/
def fnExactPickLevelWrong : ChangeSpec := { name := "fnExactPickLevel", fn := fun _ => fun
  | [d] => { results := [.lit (.bool false)], args := [d] }
  | _ => none }
def FnExactPickLevelWrongFalsely : Prop := fnExactPickLevelRow.holds Try.pinned (OpenSpec.ofChange fnExactPickLevelWrong)

/-- 'laws.FnExactEditBytes': WHATEVER THE INPUT: true; the input reads as it did. -/
def fnExactEditBytesSpec : ChangeSpec := { name := "fnExactEditBytes", fn := fun _ => fun
  | [d] => { results := [.lit (.bool true)], args := [d] }
  | _ => none }
def fnExactEditBytesRow : OpenClaim := { program := "ytnlplihbjbmepaa", sum := "edb97adcb0c91d4abc4e039a8cff5b0bbbe4b2893a22e69abbc0071a4350ddc4", func := "loop.example/g00224/laws.FnExactEditBytes", spec := "fnExactEditBytes", apart := false }
def FnExactEditBytesSaid : Prop := fnExactEditBytesRow.holds Try.pinned (OpenSpec.ofChange fnExactEditBytesSpec)

/-- ITS FALSE NEIGHBOUR: 'it returns false'. Refute it at one input. -/
def fnExactEditBytesWrong : ChangeSpec := { name := "fnExactEditBytes", fn := fun _ => fun
  | [d] => { results := [.lit (.bool false)], args := [d] }
  | _ => none }
def FnExactEditBytesWrongFalsely : Prop := fnExactEditBytesRow.holds Try.pinned (OpenSpec.ofChange fnExactEditBytesWrong)

/-- 'laws.FnExactOverlapsIn': WHATEVER THE INPUT: true; the input reads as it did. -/
def fnExactOverlapsInSpec : ChangeSpec := { name := "fnExactOverlapsIn", fn := fun _ => fun
  | [d1, d2, d3, d4] => { results := [.lit (.bool true)], args := [d1, d2, d3, d4] }
  | _ => none }
def fnExactOverlapsInRow : OpenClaim := { program := "ytnlplihbjbmepaa", sum := "edb97adcb0c91d4abc4e039a8cff5b0bbbe4b2893a22e69abbc0071a4350ddc4", func := "loop.example/g00224/laws.FnExactOverlapsIn", spec := "fnExactOverlapsIn", unfollowed := true, recurses := true, apart := false }
def FnExactOverlapsInSaid : Prop := fnExactOverlapsInRow.holds Try.pinned (OpenSpec.ofChange fnExactOverlapsInSpec)

/-- ITS FALSE NEIGHBOUR: 'it returns false'. Refute it at one input. -/
def fnExactOverlapsInWrong : ChangeSpec := { name := "fnExactOverlapsIn", fn := fun _ => fun
  | [d1, d2, d3, d4] => { results := [.lit (.bool false)], args := [d1, d2, d3, d4] }
  | _ => none }
def FnExactOverlapsInWrongFalsely : Prop := fnExactOverlapsInRow.holds Try.pinned (OpenSpec.ofChange fnExactOverlapsInWrong)

/-- 'laws.FnExactEditBetween': WHATEVER THE INPUT: true; the input reads as it did. -/
def fnExactEditBetweenSpec : ChangeSpec := { name := "fnExactEditBetween", fn := fun _ => fun
  | [d1, d2] => { results := [.lit (.bool true)], args := [d1, d2] }
  | _ => none }
def fnExactEditBetweenRow : OpenClaim := { program := "ytnlplihbjbmepaa", sum := "edb97adcb0c91d4abc4e039a8cff5b0bbbe4b2893a22e69abbc0071a4350ddc4", func := "loop.example/g00224/laws.FnExactEditBetween", spec := "fnExactEditBetween", unfollowed := true, recurses := true, apart := false }
def FnExactEditBetweenSaid : Prop := fnExactEditBetweenRow.holds Try.pinned (OpenSpec.ofChange fnExactEditBetweenSpec)

/-- ITS FALSE NEIGHBOUR: 'it returns false'. Refute it at one input. -/
def fnExactEditBetweenWrong : ChangeSpec := { name := "fnExactEditBetween", fn := fun _ => fun
  | [d1, d2] => { results := [.lit (.bool false)], args := [d1, d2] }
  | _ => none }
def FnExactEditBetweenWrongFalsely : Prop := fnExactEditBetweenRow.holds Try.pinned (OpenSpec.ofChange fnExactEditBetweenWrong)

/-- 'laws.FnExactApplyEdit': WHATEVER THE INPUT: true; the input reads as it did. -/
def fnExactApplyEditSpec : ChangeSpec := { name := "fnExactApplyEdit", fn := fun _ => fun
  | [d1, d2] => { results := [.lit (.bool true)], args := [d1, d2] }
  | _ => none }
def fnExactApplyEditRow : OpenClaim := { program := "ytnlplihbjbmepaa", sum := "edb97adcb0c91d4abc4e039a8cff5b0bbbe4b2893a22e69abbc0071a4350ddc4", func := "loop.example/g00224/laws.FnExactApplyEdit", spec := "fnExactApplyEdit", unfollowed := true, recurses := true, apart := false }
def FnExactApplyEditSaid : Prop := fnExactApplyEditRow.holds Try.pinned (OpenSpec.ofChange fnExactApplyEditSpec)

/-- ITS FALSE NEIGHBOUR: 'it returns false'. Refute it at one input. -/
def fnExactApplyEditWrong : ChangeSpec := { name := "fnExactApplyEdit", fn := fun _ => fun
  | [d1, d2] => { results := [.lit (.bool false)], args := [d1, d2] }
  | _ => none }
def FnExactApplyEditWrongFalsely : Prop := fnExactApplyEditRow.holds Try.pinned (OpenSpec.ofChange fnExactApplyEditWrong)

/-- 'laws.FnVersions': WHATEVER THE INPUT: true; the input reads as it did. -/
def fnVersionsSpec : ChangeSpec := { name := "fnVersions", fn := fun _ => fun
  | [d1, d2] => { results := [.lit (.bool true)], args := [d1, d2] }
  | _ => none }
def fnVersionsRow : OpenClaim := { program := "ytnlplihbjbmepaa", sum := "edb97adcb0c91d4abc4e039a8cff5b0bbbe4b2893a22e69abbc0071a4350ddc4", func := "loop.example/g00224/laws.FnVersions", spec := "fnVersions", unfollowed := true, recurses := true, apart := false }
def FnVersionsSaid : Prop := fnVersionsRow.holds Try.pinned (OpenSpec.ofChange fnVersionsSpec)

/-- ITS FALSE NEIGHBOUR: 'it returns false'. Refute it at one input. -/
def fnVersionsWrong : ChangeSpec := { name := "fnVersions", fn := fun _ => fun
  | [d1, d2] => { results := [.lit (.bool false)], args := [d1, d2] }
  | _ => none }
def FnVersionsWrongFalsely : Prop := fnVersionsRow.holds Try.pinned (OpenSpec.ofChange fnVersionsWrong)

/-- 'laws.FnExactNewEngine': WHATEVER THE INPUT: true; the input reads as it did. -/
def fnExactNewEngineSpec : ChangeSpec := { name := "fnExactNewEngine", fn := fun _ => fun
  | [] => { results := [.lit (.bool true)], args := [] }
  | _ => none }
def fnExactNewEngineRow : OpenClaim := { program := "ytnlplihbjbmepaa", sum := "edb97adcb0c91d4abc4e039a8cff5b0bbbe4b2893a22e69abbc0071a4350ddc4", func := "loop.example/g00224/laws.FnExactNewEngine", spec := "fnExactNewEngine", apart := false }
def FnExactNewEngineSaid : Prop := fnExactNewEngineRow.holds Try.pinned (OpenSpec.ofChange fnExactNewEngineSpec)

/-- ITS FALSE NEIGHBOUR: 'it returns false'. Refute it at one input. -/
def fnExactNewEngineWrong : ChangeSpec := { name := "fnExactNewEngine", fn := fun _ => fun
  | [] => { results := [.lit (.bool false)], args := [] }
  | _ => none }
def FnExactNewEngineWrongFalsely : Prop := fnExactNewEngineRow.holds Try.pinned (OpenSpec.ofChange fnExactNewEngineWrong)

/- THE SECOND FORM. 'bulk': how many values and letters a reading holds, each counted each time it is reached (what is shared counts as often as it is met; a slice's spare places count too). A statement '..UptoSaid' is the law's where the arguments, and the package variables that the reading takes, are together of bulk at most 1048576: NARROWER than '..Said'. Prove '..Said' where nothing that the law and all that it calls make is longer than what came in: it says more and counts as full. Else prove '..UptoSaid'. A law counts once. -/
mutual
def uptoBulk {H : Type} : DataW H → Nat
  | .lit (.string bytes) => bytes.length + 1
  | .lit _ => 1
  | .nil => 1
  | .ptr d => uptoBulk d + 1
  | .slice elems spare => uptoBulkAll elems + uptoBulkAll spare + 1
  | .agg parts => uptoBulkAll parts + 1
  | .iface _ d => uptoBulk d + 1
  | .map entries => uptoBulkEntries entries + 1
  | .held _ => 1
def uptoBulkAll {H : Type} : List (DataW H) → Nat
  | [] => 0
  | d :: r => uptoBulk d + uptoBulkAll r
def uptoBulkEntries {H : Type} : List (Lit × DataW H) → Nat
  | [] => 0
  | x :: r => uptoBulkEntry x + uptoBulkEntries r
def uptoBulkEntry {H : Type} : Lit × DataW H → Nat
  | (.string bytes, d) => bytes.length + uptoBulk d + 1
  | (_, d) => uptoBulk d + 1
 end
def uptoSmall : (H : Type) → List (DataW H) → Bool := fun _ ds => decide (uptoBulkAll ds ≤ 1048576)
def OpenSpec.upto (s : _root_.Go.ChangeSpec) : _root_.Go.OpenSpec := { _root_.Go.OpenSpec.ofChange s with cond := some uptoSmall }

/-- 'laws.FnExactNewVersion', WHERE WHAT IT READS IS OF BULK AT MOST 1048576: true; the input reads as it did. -/
def fnExactNewVersionUptoRow : OpenClaim := { program := "ytnlplihbjbmepaa", sum := "edb97adcb0c91d4abc4e039a8cff5b0bbbe4b2893a22e69abbc0071a4350ddc4", func := "loop.example/g00224/laws.FnExactNewVersion", spec := "fnExactNewVersion", apart := false, narrowed := true }
def FnExactNewVersionUptoSaid : Prop := fnExactNewVersionUptoRow.holds Try.pinned (OpenSpec.upto fnExactNewVersionSpec)

/-- 'laws.FnExactGoodVersion', WHERE WHAT IT READS IS OF BULK AT MOST 1048576: true; the input reads as it did. -/
def fnExactGoodVersionUptoRow : OpenClaim := { program := "ytnlplihbjbmepaa", sum := "edb97adcb0c91d4abc4e039a8cff5b0bbbe4b2893a22e69abbc0071a4350ddc4", func := "loop.example/g00224/laws.FnExactGoodVersion", spec := "fnExactGoodVersion", unfollowed := true, recurses := true, apart := false, narrowed := true }
def FnExactGoodVersionUptoSaid : Prop := fnExactGoodVersionUptoRow.holds Try.pinned (OpenSpec.upto fnExactGoodVersionSpec)

/-- 'laws.FnExactPickLevel', WHERE WHAT IT READS IS OF BULK AT MOST 1048576: true; the input reads as it did. -/
def fnExactPickLevelUptoRow : OpenClaim := { program := "ytnlplihbjbmepaa", sum := "edb97adcb0c91d4abc4e039a8cff5b0bbbe4b2893a22e69abbc0071a4350ddc4", func := "loop.example/g00224/laws.FnExactPickLevel", spec := "fnExactPickLevel", unfollowed := true, recurses := true, apart := false, narrowed := true }
def FnExactPickLevelUptoSaid : Prop := fnExactPickLevelUptoRow.holds Try.pinned (OpenSpec.upto fnExactPickLevelSpec)

/-- 'laws.FnExactEditBytes', WHERE WHAT IT READS IS OF BULK AT MOST 1048576: true; the input reads as it did. -/
def fnExactEditBytesUptoRow : OpenClaim := { program := "ytnlplihbjbmepaa", sum := "edb97adcb0c91d4abc4e039a8cff5b0bbbe4b2893a22e69abbc0071a4350ddc4", func := "loop.example/g00224/laws.FnExactEditBytes", spec := "fnExactEditBytes", apart := false, narrowed := true }
def FnExactEditBytesUptoSaid : Prop := fnExactEditBytesUptoRow.holds Try.pinned (OpenSpec.upto fnExactEditBytesSpec)

/-- 'laws.FnExactOverlapsIn', WHERE WHAT IT READS IS OF BULK AT MOST 1048576: true; the input reads as it did. -/
def fnExactOverlapsInUptoRow : OpenClaim := { program := "ytnlplihbjbmepaa", sum := "edb97adcb0c91d4abc4e039a8cff5b0bbbe4b2893a22e69abbc0071a4350ddc4", func := "loop.example/g00224/laws.FnExactOverlapsIn", spec := "fnExactOverlapsIn", unfollowed := true, recurses := true, apart := false, narrowed := true }
def FnExactOverlapsInUptoSaid : Prop := fnExactOverlapsInUptoRow.holds Try.pinned (OpenSpec.upto fnExactOverlapsInSpec)

/-- 'laws.FnExactEditBetween', WHERE WHAT IT READS IS OF BULK AT MOST 1048576: true; the input reads as it did. -/
def fnExactEditBetweenUptoRow : OpenClaim := { program := "ytnlplihbjbmepaa", sum := "edb97adcb0c91d4abc4e039a8cff5b0bbbe4b2893a22e69abbc0071a4350ddc4", func := "loop.example/g00224/laws.FnExactEditBetween", spec := "fnExactEditBetween", unfollowed := true, recurses := true, apart := false, narrowed := true }
def FnExactEditBetweenUptoSaid : Prop := fnExactEditBetweenUptoRow.holds Try.pinned (OpenSpec.upto fnExactEditBetweenSpec)

/-- 'laws.FnExactApplyEdit', WHERE WHAT IT READS IS OF BULK AT MOST 1048576: true; the input reads as it did. -/
def fnExactApplyEditUptoRow : OpenClaim := { program := "ytnlplihbjbmepaa", sum := "edb97adcb0c91d4abc4e039a8cff5b0bbbe4b2893a22e69abbc0071a4350ddc4", func := "loop.example/g00224/laws.FnExactApplyEdit", spec := "fnExactApplyEdit", unfollowed := true, recurses := true, apart := false, narrowed := true }
def FnExactApplyEditUptoSaid : Prop := fnExactApplyEditUptoRow.holds Try.pinned (OpenSpec.upto fnExactApplyEditSpec)

/-- 'laws.FnVersions', WHERE WHAT IT READS IS OF BULK AT MOST 1048576: true; the input reads as it did. -/
def fnVersionsUptoRow : OpenClaim := { program := "ytnlplihbjbmepaa", sum := "edb97adcb0c91d4abc4e039a8cff5b0bbbe4b2893a22e69abbc0071a4350ddc4", func := "loop.example/g00224/laws.FnVersions", spec := "fnVersions", unfollowed := true, recurses := true, apart := false, narrowed := true }
def FnVersionsUptoSaid : Prop := fnVersionsUptoRow.holds Try.pinned (OpenSpec.upto fnVersionsSpec)

/-- 'laws.FnExactNewEngine', WHERE WHAT IT READS IS OF BULK AT MOST 1048576: true; the input reads as it did. -/
def fnExactNewEngineUptoRow : OpenClaim := { program := "ytnlplihbjbmepaa", sum := "edb97adcb0c91d4abc4e039a8cff5b0bbbe4b2893a22e69abbc0071a4350ddc4", func := "loop.example/g00224/laws.FnExactNewEngine", spec := "fnExactNewEngine", apart := false, narrowed := true }
def FnExactNewEngineUptoSaid : Prop := fnExactNewEngineUptoRow.holds Try.pinned (OpenSpec.upto fnExactNewEngineSpec)

end Rows
end Go.Proofs.Ytnlplihbjbmepaa
