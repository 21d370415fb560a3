/-
  No cell of these rows narrows 'for every input' (looked for: loops, veiled, ifaces, maps, wideKeys, modest, calm, conditions, laid).
  DERIVED. THE GIVEN ROWS OF THIS SEAT. 9 by the template 'for every input the law returns true; each argument reads behind the call as it read before'; 0 by the template 'total and deterministic' (their statements: YtflogiopajppiaaTotals.lean).
  GIVEN WITH THE SEED: the statements are not yours to turn. If you find one false, say at which input.
  Laid BY PROGRAM, IN A SANDBOX (cutbox-rows.mjs): the forced cells as the released guide's own fill.sh prints them over the translation 54581677860c776b… (all of the seat's roots in one cut). By AI agents, Wed Nov 11 2026. No macro, syntax, notation, axiom, sorry.
-/
import Derived.Test.YtflogiopajppiaaChecked
import GoSem.Claim
import GoSem.ClaimJoined
import GoSem.ClaimMapViews
import Derived.JoinedTies
import Derived.KernelRfl
namespace Go.Proofs.Ytflogiopajppiaa
/- THE CELL 'sum', in the pinned program and in every row, IS THE sha256 OF THE DUMP (.gsa) THAT YtflogiopajppiaaProg.lean LOADS. Nothing in Lean hashes anything: it is a label: what it is worth is what the hold of that sum in a sandbox is worth. -/
noncomputable def Try.pinned : Pinned := { name := "ytflogiopajppiaa", sum := "54581677860c776b1c60c2d86dec442cc6eb7f5e6e5c8238e88f33f156ab120b", checked := Try.checked }
namespace Rows
def none {H : Type} : Left H := { results := [], args := [] }

/-- 'laws.FnExactLookIn': WHATEVER THE INPUT: true; the input reads as it did. -/
def fnExactLookInSpec : ChangeSpec := { name := "fnExactLookIn", fn := fun _ => fun
  | [d1, d2, d3] => { results := [.lit (.bool true)], args := [d1, d2, d3] }
  | _ => none }
def fnExactLookInRow : OpenClaim := { program := "ytflogiopajppiaa", sum := "54581677860c776b1c60c2d86dec442cc6eb7f5e6e5c8238e88f33f156ab120b", func := "loop.example/g00224/laws.FnExactLookIn", spec := "fnExactLookIn", unfollowed := true, recurses := true, apart := false }
def FnExactLookInSaid : Prop := fnExactLookInRow.holds Try.pinned (OpenSpec.ofChange fnExactLookInSpec)

/-- ITS FALSE NEIGHBOUR: 'it returns false'. Refute it at one input. -/
def fnExactLookInWrong : ChangeSpec := { name := "fnExactLookIn", fn := fun _ => fun
  | [d1, d2, d3] => { results := [.lit (.bool false)], args := [d1, d2, d3] }
  | _ => none }
def FnExactLookInWrongFalsely : Prop := fnExactLookInRow.holds Try.pinned (OpenSpec.ofChange fnExactLookInWrong)

/-- 'laws.FnExactMergeStep': WHATEVER THE INPUT: true; the input reads as it did. -/
def fnExactMergeStepSpec : ChangeSpec := { name := "fnExactMergeStep", fn := fun _ => fun
  | [d1, d2] => { results := [.lit (.bool true)], args := [d1, d2] }
  | _ => none }
def fnExactMergeStepRow : OpenClaim := { program := "ytflogiopajppiaa", sum := "54581677860c776b1c60c2d86dec442cc6eb7f5e6e5c8238e88f33f156ab120b", func := "loop.example/g00224/laws.FnExactMergeStep", spec := "fnExactMergeStep", unfollowed := true, recurses := true, apart := false }
def FnExactMergeStepSaid : Prop := fnExactMergeStepRow.holds Try.pinned (OpenSpec.ofChange fnExactMergeStepSpec)

/-- ITS FALSE NEIGHBOUR: 'it returns false'. Refute it at one input. -/
def fnExactMergeStepWrong : ChangeSpec := { name := "fnExactMergeStep", fn := fun _ => fun
  | [d1, d2] => { results := [.lit (.bool false)], args := [d1, d2] }
  | _ => none }
def FnExactMergeStepWrongFalsely : Prop := fnExactMergeStepRow.holds Try.pinned (OpenSpec.ofChange fnExactMergeStepWrong)

/-- 'laws.FnExactVisibleAt': WHATEVER THE INPUT: true; the input reads as it did. -/
def fnExactVisibleAtSpec : ChangeSpec := { name := "fnExactVisibleAt", fn := fun _ => fun
  | [d1, d2] => { results := [.lit (.bool true)], args := [d1, d2] }
  | _ => none }
def fnExactVisibleAtRow : OpenClaim := { program := "ytflogiopajppiaa", sum := "54581677860c776b1c60c2d86dec442cc6eb7f5e6e5c8238e88f33f156ab120b", func := "loop.example/g00224/laws.FnExactVisibleAt", spec := "fnExactVisibleAt", apart := false }
def FnExactVisibleAtSaid : Prop := fnExactVisibleAtRow.holds Try.pinned (OpenSpec.ofChange fnExactVisibleAtSpec)

/-- ITS FALSE NEIGHBOUR: 'it returns false'. Refute it at one input. -/
def fnExactVisibleAtWrong : ChangeSpec := { name := "fnExactVisibleAt", fn := fun _ => fun
  | [d1, d2] => { results := [.lit (.bool false)], args := [d1, d2] }
  | _ => none }
def FnExactVisibleAtWrongFalsely : Prop := fnExactVisibleAtRow.holds Try.pinned (OpenSpec.ofChange fnExactVisibleAtWrong)

/-- 'laws.FnExactScanAt': WHATEVER THE INPUT: true; the input reads as it did. -/
def fnExactScanAtSpec : ChangeSpec := { name := "fnExactScanAt", fn := fun _ => fun
  | [d1, d2, d3, d4] => { results := [.lit (.bool true)], args := [d1, d2, d3, d4] }
  | _ => none }
def fnExactScanAtRow : OpenClaim := { program := "ytflogiopajppiaa", sum := "54581677860c776b1c60c2d86dec442cc6eb7f5e6e5c8238e88f33f156ab120b", func := "loop.example/g00224/laws.FnExactScanAt", spec := "fnExactScanAt", apart := false }
def FnExactScanAtSaid : Prop := fnExactScanAtRow.holds Try.pinned (OpenSpec.ofChange fnExactScanAtSpec)

/-- ITS FALSE NEIGHBOUR: 'it returns false'. Refute it at one input. -/
def fnExactScanAtWrong : ChangeSpec := { name := "fnExactScanAt", fn := fun _ => fun
  | [d1, d2, d3, d4] => { results := [.lit (.bool false)], args := [d1, d2, d3, d4] }
  | _ => none }
def FnExactScanAtWrongFalsely : Prop := fnExactScanAtRow.holds Try.pinned (OpenSpec.ofChange fnExactScanAtWrong)

/-- 'laws.FnSeen': WHATEVER THE INPUT: true; the input reads as it did. -/
def fnSeenSpec : ChangeSpec := { name := "fnSeen", fn := fun _ => fun
  | [d1, d2] => { results := [.lit (.bool true)], args := [d1, d2] }
  | _ => none }
def fnSeenRow : OpenClaim := { program := "ytflogiopajppiaa", sum := "54581677860c776b1c60c2d86dec442cc6eb7f5e6e5c8238e88f33f156ab120b", func := "loop.example/g00224/laws.FnSeen", spec := "fnSeen", unfollowed := true, recurses := true, apart := false }
def FnSeenSaid : Prop := fnSeenRow.holds Try.pinned (OpenSpec.ofChange fnSeenSpec)

/-- ITS FALSE NEIGHBOUR: 'it returns false'. Refute it at one input. -/
def fnSeenWrong : ChangeSpec := { name := "fnSeen", fn := fun _ => fun
  | [d1, d2] => { results := [.lit (.bool false)], args := [d1, d2] }
  | _ => none }
def FnSeenWrongFalsely : Prop := fnSeenRow.holds Try.pinned (OpenSpec.ofChange fnSeenWrong)

/-- 'laws.FnExactDropShadowed': WHATEVER THE INPUT: true; the input reads as it did. -/
def fnExactDropShadowedSpec : ChangeSpec := { name := "fnExactDropShadowed", fn := fun _ => fun
  | [d1, d2, d3] => { results := [.lit (.bool true)], args := [d1, d2, d3] }
  | _ => none }
def fnExactDropShadowedRow : OpenClaim := { program := "ytflogiopajppiaa", sum := "54581677860c776b1c60c2d86dec442cc6eb7f5e6e5c8238e88f33f156ab120b", func := "loop.example/g00224/laws.FnExactDropShadowed", spec := "fnExactDropShadowed", unfollowed := true, recurses := true, apart := false }
def FnExactDropShadowedSaid : Prop := fnExactDropShadowedRow.holds Try.pinned (OpenSpec.ofChange fnExactDropShadowedSpec)

/-- ITS FALSE NEIGHBOUR: 'it returns false'. Refute it at one input. -/
def fnExactDropShadowedWrong : ChangeSpec := { name := "fnExactDropShadowed", fn := fun _ => fun
  | [d1, d2, d3] => { results := [.lit (.bool false)], args := [d1, d2, d3] }
  | _ => none }
def FnExactDropShadowedWrongFalsely : Prop := fnExactDropShadowedRow.holds Try.pinned (OpenSpec.ofChange fnExactDropShadowedWrong)

/-- 'laws.FnShadowed': WHATEVER THE INPUT: true; the input reads as it did. -/
def fnShadowedSpec : ChangeSpec := { name := "fnShadowed", fn := fun _ => fun
  | [d1, d2] => { results := [.lit (.bool true)], args := [d1, d2] }
  | _ => none }
def fnShadowedRow : OpenClaim := { program := "ytflogiopajppiaa", sum := "54581677860c776b1c60c2d86dec442cc6eb7f5e6e5c8238e88f33f156ab120b", func := "loop.example/g00224/laws.FnShadowed", spec := "fnShadowed", unfollowed := true, recurses := true, apart := false }
def FnShadowedSaid : Prop := fnShadowedRow.holds Try.pinned (OpenSpec.ofChange fnShadowedSpec)

/-- ITS FALSE NEIGHBOUR: 'it returns false'. Refute it at one input. -/
def fnShadowedWrong : ChangeSpec := { name := "fnShadowed", fn := fun _ => fun
  | [d1, d2] => { results := [.lit (.bool false)], args := [d1, d2] }
  | _ => none }
def FnShadowedWrongFalsely : Prop := fnShadowedRow.holds Try.pinned (OpenSpec.ofChange fnShadowedWrong)

/-- 'laws.FnMerged': WHATEVER THE INPUT: true; the input reads as it did. -/
def fnMergedSpec : ChangeSpec := { name := "fnMerged", fn := fun _ => fun
  | [d1, d2] => { results := [.lit (.bool true)], args := [d1, d2] }
  | _ => none }
def fnMergedRow : OpenClaim := { program := "ytflogiopajppiaa", sum := "54581677860c776b1c60c2d86dec442cc6eb7f5e6e5c8238e88f33f156ab120b", func := "loop.example/g00224/laws.FnMerged", spec := "fnMerged", unfollowed := true, recurses := true, apart := false }
def FnMergedSaid : Prop := fnMergedRow.holds Try.pinned (OpenSpec.ofChange fnMergedSpec)

/-- ITS FALSE NEIGHBOUR: 'it returns false'. Refute it at one input. -/
def fnMergedWrong : ChangeSpec := { name := "fnMerged", fn := fun _ => fun
  | [d1, d2] => { results := [.lit (.bool false)], args := [d1, d2] }
  | _ => none }
def FnMergedWrongFalsely : Prop := fnMergedRow.holds Try.pinned (OpenSpec.ofChange fnMergedWrong)

/-- 'laws.FnExactMergeRuns': WHATEVER THE INPUT: true; the input reads as it did. -/
def fnExactMergeRunsSpec : ChangeSpec := { name := "fnExactMergeRuns", fn := fun _ => fun
  | [d] => { results := [.lit (.bool true)], args := [d] }
  | _ => none }
def fnExactMergeRunsRow : OpenClaim := { program := "ytflogiopajppiaa", sum := "54581677860c776b1c60c2d86dec442cc6eb7f5e6e5c8238e88f33f156ab120b", func := "loop.example/g00224/laws.FnExactMergeRuns", spec := "fnExactMergeRuns", unfollowed := true, recurses := true, apart := false }
def FnExactMergeRunsSaid : Prop := fnExactMergeRunsRow.holds Try.pinned (OpenSpec.ofChange fnExactMergeRunsSpec)

/-- ITS FALSE NEIGHBOUR: 'it returns false'. Refute it at one input. -/
def fnExactMergeRunsWrong : ChangeSpec := { name := "fnExactMergeRuns", fn := fun _ => fun
  | [d] => { results := [.lit (.bool false)], args := [d] }
  | _ => none }
def FnExactMergeRunsWrongFalsely : Prop := fnExactMergeRunsRow.holds Try.pinned (OpenSpec.ofChange fnExactMergeRunsWrong)

/- THE SECOND FORM. 'bulk': how many values and letters a reading holds, each counted each time it is reached (what is shared counts as often as it is met; a slice's spare places count too). A statement '..UptoSaid' is the law's where the arguments, and the package variables that the reading takes, are together of bulk at most 1048576: NARROWER than '..Said'. Prove '..Said' where nothing that the law and all that it calls make is longer than what came in: it says more and counts as full. Else prove '..UptoSaid'. A law counts once. -/
mutual
def uptoBulk {H : Type} : DataW H → Nat
  | .lit (.string bytes) => bytes.length + 1
  | .lit _ => 1
  | .nil => 1
  | .ptr d => uptoBulk d + 1
  | .slice elems spare => uptoBulkAll elems + uptoBulkAll spare + 1
  | .agg parts => uptoBulkAll parts + 1
  | .iface _ d => uptoBulk d + 1
  | .map entries => uptoBulkEntries entries + 1
  | .held _ => 1
def uptoBulkAll {H : Type} : List (DataW H) → Nat
  | [] => 0
  | d :: r => uptoBulk d + uptoBulkAll r
def uptoBulkEntries {H : Type} : List (Lit × DataW H) → Nat
  | [] => 0
  | x :: r => uptoBulkEntry x + uptoBulkEntries r
def uptoBulkEntry {H : Type} : Lit × DataW H → Nat
  | (.string bytes, d) => bytes.length + uptoBulk d + 1
  | (_, d) => uptoBulk d + 1
 end
def uptoSmall : (H : Type) → List (DataW H) → Bool := fun _ ds => decide (uptoBulkAll ds ≤ 1048576)
def OpenSpec.upto (s : _root_.Go.ChangeSpec) : _root_.Go.OpenSpec := { _root_.Go.OpenSpec.ofChange s with cond := some uptoSmall }

/-- 'laws.FnExactLookIn', WHERE WHAT IT READS IS OF BULK AT MOST 1048576: true; the input reads as it did. -/
def fnExactLookInUptoRow : OpenClaim := { program := "ytflogiopajppiaa", sum := "54581677860c776b1c60c2d86dec442cc6eb7f5e6e5c8238e88f33f156ab120b", func := "loop.example/g00224/laws.FnExactLookIn", spec := "fnExactLookIn", unfollowed := true, recurses := true, apart := false, narrowed := true }
def FnExactLookInUptoSaid : Prop := fnExactLookInUptoRow.holds Try.pinned (OpenSpec.upto fnExactLookInSpec)

/-- 'laws.FnExactMergeStep', WHERE WHAT IT READS IS OF BULK AT MOST 1048576: true; the input reads as it did. -/
def fnExactMergeStepUptoRow : OpenClaim := { program := "ytflogiopajppiaa", sum := "54581677860c776b1c60c2d86dec442cc6eb7f5e6e5c8238e88f33f156ab120b", func := "loop.example/g00224/laws.FnExactMergeStep", spec := "fnExactMergeStep", unfollowed := true, recurses := true, apart := false, narrowed := true }
def FnExactMergeStepUptoSaid : Prop := fnExactMergeStepUptoRow.holds Try.pinned (OpenSpec.upto fnExactMergeStepSpec)

/-- 'laws.FnExactVisibleAt', WHERE WHAT IT READS IS OF BULK AT MOST 1048576: true; the input reads as it did. -/
def fnExactVisibleAtUptoRow : OpenClaim := { program := "ytflogiopajppiaa", sum := "54581677860c776b1c60c2d86dec442cc6eb7f5e6e5c8238e88f33f156ab120b", func := "loop.example/g00224/laws.FnExactVisibleAt", spec := "fnExactVisibleAt", apart := false, narrowed := true }
def FnExactVisibleAtUptoSaid : Prop := fnExactVisibleAtUptoRow.holds Try.pinned (OpenSpec.upto fnExactVisibleAtSpec)

/-- 'laws.FnExactScanAt', WHERE WHAT IT READS IS OF BULK AT MOST 1048576: true; the input reads as it did. -/
def fnExactScanAtUptoRow : OpenClaim := { program := "ytflogiopajppiaa", sum := "54581677860c776b1c60c2d86dec442cc6eb7f5e6e5c8238e88f33f156ab120b", func := "loop.example/g00224/laws.FnExactScanAt", spec := "fnExactScanAt", apart := false, narrowed := true }
def FnExactScanAtUptoSaid : Prop := fnExactScanAtUptoRow.holds Try.pinned (OpenSpec.upto fnExactScanAtSpec)

/-- 'laws.FnSeen', WHERE WHAT IT READS IS OF BULK AT MOST 1048576: true; the input reads as it did. -/
def fnSeenUptoRow : OpenClaim := { program := "ytflogiopajppiaa", sum := "54581677860c776b1c60c2d86dec442cc6eb7f5e6e5c8238e88f33f156ab120b", func := "loop.example/g00224/laws.FnSeen", spec := "fnSeen", unfollowed := true, recurses := true, apart := false, narrowed := true }
def FnSeenUptoSaid : Prop := fnSeenUptoRow.holds Try.pinned (OpenSpec.upto fnSeenSpec)

/-- 'laws.FnExactDropShadowed', WHERE WHAT IT READS IS OF BULK AT MOST 1048576: true; the input reads as it did. -/
def fnExactDropShadowedUptoRow : OpenClaim := { program := "ytflogiopajppiaa", sum := "54581677860c776b1c60c2d86dec442cc6eb7f5e6e5c8238e88f33f156ab120b", func := "loop.example/g00224/laws.FnExactDropShadowed", spec := "fnExactDropShadowed", unfollowed := true, recurses := true, apart := false, narrowed := true }
def FnExactDropShadowedUptoSaid : Prop := fnExactDropShadowedUptoRow.holds Try.pinned (OpenSpec.upto fnExactDropShadowedSpec)

/-- 'laws.FnShadowed', WHERE WHAT IT READS IS OF BULK AT MOST 1048576: true; the input reads as it did. -/
def fnShadowedUptoRow : OpenClaim := { program := "ytflogiopajppiaa", sum := "54581677860c776b1c60c2d86dec442cc6eb7f5e6e5c8238e88f33f156ab120b", func := "loop.example/g00224/laws.FnShadowed", spec := "fnShadowed", unfollowed := true, recurses := true, apart := false, narrowed := true }
def FnShadowedUptoSaid : Prop := fnShadowedUptoRow.holds Try.pinned (OpenSpec.upto fnShadowedSpec)

/-- 'laws.FnMerged', WHERE WHAT IT READS IS OF BULK AT MOST 1048576: true; the input reads as it did. -/
def fnMergedUptoRow : OpenClaim := { program := "ytflogiopajppiaa", sum := "54581677860c776b1c60c2d86dec442cc6eb7f5e6e5c8238e88f33f156ab120b", func := "loop.example/g00224/laws.FnMerged", spec := "fnMerged", unfollowed := true, recurses := true, apart := false, narrowed := true }
def FnMergedUptoSaid : Prop := fnMergedUptoRow.holds Try.pinned (OpenSpec.upto fnMergedSpec)

/-- 'laws.FnExactMergeRuns', WHERE WHAT IT READS IS OF BULK AT MOST 1048576: true; the input reads as it did. -/
def fnExactMergeRunsUptoRow : OpenClaim := { program := "ytflogiopajppiaa", sum := "54581677860c776b1c60c2d86dec442cc6eb7f5e6e5c8238e88f33f156ab120b", func := "loop.example/g00224/laws.FnExactMergeRuns", spec := "fnExactMergeRuns", unfollowed := true, recurses := true, apart := false, narrowed := true }
def FnExactMergeRunsUptoSaid : Prop := fnExactMergeRunsUptoRow.holds Try.pinned (OpenSpec.upto fnExactMergeRunsSpec)

end Rows
end Go.Proofs.Ytflogiopajppiaa
