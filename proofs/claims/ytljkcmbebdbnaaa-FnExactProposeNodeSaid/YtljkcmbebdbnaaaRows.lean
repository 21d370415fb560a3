/-
  No cell of these rows narrows 'for every input' (looked for: loops, veiled, ifaces, maps, wideKeys, modest, calm, conditions, laid).
  DERIVED. THE GIVEN ROWS OF THIS SEAT. 10 by the template 'for every input the law returns true; each argument reads behind the call as it read before'; 0 by the template 'total and deterministic' (their statements: YtljkcmbebdbnaaaTotals.lean).
  GIVEN WITH THE SEED: the statements are not yours to turn. If you find one false, say at which input.
  Laid BY PROGRAM, IN A SANDBOX (cutbox-rows.mjs): the forced cells as the released guide's own fill.sh prints them over the translation 084450cc14e3302f… (all of the seat's roots in one cut). By AI agents, Wed Nov 11 2026. No macro, syntax, notation, axiom, sorry.
-/
import Derived.Test.YtljkcmbebdbnaaaChecked
import GoSem.Claim
import GoSem.ClaimJoined
import GoSem.ClaimMapViews
import Derived.JoinedTies
import Derived.KernelRfl
namespace Go.Proofs.Ytljkcmbebdbnaaa
/- THE CELL 'sum', in the pinned program and in every row, IS THE sha256 OF THE DUMP (.gsa) THAT YtljkcmbebdbnaaaProg.lean LOADS. Nothing in Lean hashes anything: it is a label: what it is worth is what the hold of that sum in a sandbox is worth. -/
noncomputable def Try.pinned : Pinned := { name := "ytljkcmbebdbnaaa", sum := "084450cc14e3302f12cd2fbad0b2716418694e2a93e4539422290d3058b21794", checked := Try.checked }
namespace Rows
def none {H : Type} : Left H := { results := [], args := [] }

/-- 'laws.FnExactGoodNode': WHATEVER THE INPUT: true; the input reads as it did. -/
def fnExactGoodNodeSpec : ChangeSpec := { name := "fnExactGoodNode", fn := fun _ => fun
  | [d] => { results := [.lit (.bool true)], args := [d] }
  | _ => none }
def fnExactGoodNodeRow : OpenClaim := { program := "ytljkcmbebdbnaaa", sum := "084450cc14e3302f12cd2fbad0b2716418694e2a93e4539422290d3058b21794", func := "loop.example/g00224/laws.FnExactGoodNode", spec := "fnExactGoodNode", unfollowed := true, recurses := true, apart := false }
def FnExactGoodNodeSaid : Prop := fnExactGoodNodeRow.holds Try.pinned (OpenSpec.ofChange fnExactGoodNodeSpec)

/-- ITS FALSE NEIGHBOUR: 'it returns false'. Refute it at one input. -/
def fnExactGoodNodeWrong : ChangeSpec := { name := "fnExactGoodNode", fn := fun _ => fun
  | [d] => { results := [.lit (.bool false)], args := [d] }
  | _ => none }
def FnExactGoodNodeWrongFalsely : Prop := fnExactGoodNodeRow.holds Try.pinned (OpenSpec.ofChange fnExactGoodNodeWrong)

/-- 'laws.FnExactUpToDate': WHATEVER THE INPUT: true; the input reads as it did. -/
def fnExactUpToDateSpec : ChangeSpec := { name := "fnExactUpToDate", fn := fun _ => fun
  | [d1, d2, d3] => { results := [.lit (.bool true)], args := [d1, d2, d3] }
  | _ => none }
def fnExactUpToDateRow : OpenClaim := { program := "ytljkcmbebdbnaaa", sum := "084450cc14e3302f12cd2fbad0b2716418694e2a93e4539422290d3058b21794", func := "loop.example/g00224/laws.FnExactUpToDate", spec := "fnExactUpToDate", unfollowed := true, recurses := true, apart := false }
def FnExactUpToDateSaid : Prop := fnExactUpToDateRow.holds Try.pinned (OpenSpec.ofChange fnExactUpToDateSpec)

/-- ITS FALSE NEIGHBOUR: 'it returns false'. Refute it at one input. -/
def fnExactUpToDateWrong : ChangeSpec := { name := "fnExactUpToDate", fn := fun _ => fun
  | [d1, d2, d3] => { results := [.lit (.bool false)], args := [d1, d2, d3] }
  | _ => none }
def FnExactUpToDateWrongFalsely : Prop := fnExactUpToDateRow.holds Try.pinned (OpenSpec.ofChange fnExactUpToDateWrong)

/-- 'laws.FnExactCommittedIn': WHATEVER THE INPUT: true; the input reads as it did. -/
def fnExactCommittedInSpec : ChangeSpec := { name := "fnExactCommittedIn", fn := fun _ => fun
  | [d] => { results := [.lit (.bool true)], args := [d] }
  | _ => none }
def fnExactCommittedInRow : OpenClaim := { program := "ytljkcmbebdbnaaa", sum := "084450cc14e3302f12cd2fbad0b2716418694e2a93e4539422290d3058b21794", func := "loop.example/g00224/laws.FnExactCommittedIn", spec := "fnExactCommittedIn", unfollowed := true, recurses := true, apart := false }
def FnExactCommittedInSaid : Prop := fnExactCommittedInRow.holds Try.pinned (OpenSpec.ofChange fnExactCommittedInSpec)

/-- ITS FALSE NEIGHBOUR: 'it returns false'. Refute it at one input. -/
def fnExactCommittedInWrong : ChangeSpec := { name := "fnExactCommittedIn", fn := fun _ => fun
  | [d] => { results := [.lit (.bool false)], args := [d] }
  | _ => none }
def FnExactCommittedInWrongFalsely : Prop := fnExactCommittedInRow.holds Try.pinned (OpenSpec.ofChange fnExactCommittedInWrong)

/-- 'laws.FnExactCrashNode': WHATEVER THE INPUT: true; the input reads as it did. -/
def fnExactCrashNodeSpec : ChangeSpec := { name := "fnExactCrashNode", fn := fun _ => fun
  | [d] => { results := [.lit (.bool true)], args := [d] }
  | _ => none }
def fnExactCrashNodeRow : OpenClaim := { program := "ytljkcmbebdbnaaa", sum := "084450cc14e3302f12cd2fbad0b2716418694e2a93e4539422290d3058b21794", func := "loop.example/g00224/laws.FnExactCrashNode", spec := "fnExactCrashNode", unfollowed := true, recurses := true, apart := false }
def FnExactCrashNodeSaid : Prop := fnExactCrashNodeRow.holds Try.pinned (OpenSpec.ofChange fnExactCrashNodeSpec)

/-- ITS FALSE NEIGHBOUR: 'it returns false'. Refute it at one input. -/
def fnExactCrashNodeWrong : ChangeSpec := { name := "fnExactCrashNode", fn := fun _ => fun
  | [d] => { results := [.lit (.bool false)], args := [d] }
  | _ => none }
def FnExactCrashNodeWrongFalsely : Prop := fnExactCrashNodeRow.holds Try.pinned (OpenSpec.ofChange fnExactCrashNodeWrong)

/-- 'laws.FnExactAppendFor': WHATEVER THE INPUT: true; the input reads as it did. -/
def fnExactAppendForSpec : ChangeSpec := { name := "fnExactAppendFor", fn := fun _ => fun
  | [d1, d2, d3] => { results := [.lit (.bool true)], args := [d1, d2, d3] }
  | _ => none }
def fnExactAppendForRow : OpenClaim := { program := "ytljkcmbebdbnaaa", sum := "084450cc14e3302f12cd2fbad0b2716418694e2a93e4539422290d3058b21794", func := "loop.example/g00224/laws.FnExactAppendFor", spec := "fnExactAppendFor", unfollowed := true, recurses := true, apart := false }
def FnExactAppendForSaid : Prop := fnExactAppendForRow.holds Try.pinned (OpenSpec.ofChange fnExactAppendForSpec)

/-- ITS FALSE NEIGHBOUR: 'it returns false'. Refute it at one input. -/
def fnExactAppendForWrong : ChangeSpec := { name := "fnExactAppendFor", fn := fun _ => fun
  | [d1, d2, d3] => { results := [.lit (.bool false)], args := [d1, d2, d3] }
  | _ => none }
def FnExactAppendForWrongFalsely : Prop := fnExactAppendForRow.holds Try.pinned (OpenSpec.ofChange fnExactAppendForWrong)

/-- 'laws.FnExactProposeNode': WHATEVER THE INPUT: true; the input reads as it did. -/
def fnExactProposeNodeSpec : ChangeSpec := { name := "fnExactProposeNode", fn := fun _ => fun
  | [d1, d2] => { results := [.lit (.bool true)], args := [d1, d2] }
  | _ => none }
def fnExactProposeNodeRow : OpenClaim := { program := "ytljkcmbebdbnaaa", sum := "084450cc14e3302f12cd2fbad0b2716418694e2a93e4539422290d3058b21794", func := "loop.example/g00224/laws.FnExactProposeNode", spec := "fnExactProposeNode", unfollowed := true, recurses := true, apart := false }
def FnExactProposeNodeSaid : Prop := fnExactProposeNodeRow.holds Try.pinned (OpenSpec.ofChange fnExactProposeNodeSpec)

/-- ITS FALSE NEIGHBOUR: 'it returns false'. Refute it at one input. -/
def fnExactProposeNodeWrong : ChangeSpec := { name := "fnExactProposeNode", fn := fun _ => fun
  | [d1, d2] => { results := [.lit (.bool false)], args := [d1, d2] }
  | _ => none }
def FnExactProposeNodeWrongFalsely : Prop := fnExactProposeNodeRow.holds Try.pinned (OpenSpec.ofChange fnExactProposeNodeWrong)

/-- 'laws.FnExactTimeoutNode': WHATEVER THE INPUT: true; the input reads as it did. -/
def fnExactTimeoutNodeSpec : ChangeSpec := { name := "fnExactTimeoutNode", fn := fun _ => fun
  | [d] => { results := [.lit (.bool true)], args := [d] }
  | _ => none }
def fnExactTimeoutNodeRow : OpenClaim := { program := "ytljkcmbebdbnaaa", sum := "084450cc14e3302f12cd2fbad0b2716418694e2a93e4539422290d3058b21794", func := "loop.example/g00224/laws.FnExactTimeoutNode", spec := "fnExactTimeoutNode", unfollowed := true, recurses := true, apart := false }
def FnExactTimeoutNodeSaid : Prop := fnExactTimeoutNodeRow.holds Try.pinned (OpenSpec.ofChange fnExactTimeoutNodeSpec)

/-- ITS FALSE NEIGHBOUR: 'it returns false'. Refute it at one input. -/
def fnExactTimeoutNodeWrong : ChangeSpec := { name := "fnExactTimeoutNode", fn := fun _ => fun
  | [d] => { results := [.lit (.bool false)], args := [d] }
  | _ => none }
def FnExactTimeoutNodeWrongFalsely : Prop := fnExactTimeoutNodeRow.holds Try.pinned (OpenSpec.ofChange fnExactTimeoutNodeWrong)

/-- 'laws.FnExactHandleMsg': WHATEVER THE INPUT: true; the input reads as it did. -/
def fnExactHandleMsgSpec : ChangeSpec := { name := "fnExactHandleMsg", fn := fun _ => fun
  | [d1, d2] => { results := [.lit (.bool true)], args := [d1, d2] }
  | _ => none }
def fnExactHandleMsgRow : OpenClaim := { program := "ytljkcmbebdbnaaa", sum := "084450cc14e3302f12cd2fbad0b2716418694e2a93e4539422290d3058b21794", func := "loop.example/g00224/laws.FnExactHandleMsg", spec := "fnExactHandleMsg", inPlace := ["slices.overlaps[int]"], unfollowed := true, recurses := true, apart := false }
def FnExactHandleMsgSaid : Prop := fnExactHandleMsgRow.holds Try.pinned (OpenSpec.ofChange fnExactHandleMsgSpec)

/-- ITS FALSE NEIGHBOUR: 'it returns false'. Refute it at one input. -/
def fnExactHandleMsgWrong : ChangeSpec := { name := "fnExactHandleMsg", fn := fun _ => fun
  | [d1, d2] => { results := [.lit (.bool false)], args := [d1, d2] }
  | _ => none }
def FnExactHandleMsgWrongFalsely : Prop := fnExactHandleMsgRow.holds Try.pinned (OpenSpec.ofChange fnExactHandleMsgWrong)

/-- 'laws.FnVoted': WHATEVER THE INPUT: true; the input reads as it did. -/
def fnVotedSpec : ChangeSpec := { name := "fnVoted", fn := fun _ => fun
  | [d1, d2] => { results := [.lit (.bool true)], args := [d1, d2] }
  | _ => none }
def fnVotedRow : OpenClaim := { program := "ytljkcmbebdbnaaa", sum := "084450cc14e3302f12cd2fbad0b2716418694e2a93e4539422290d3058b21794", func := "loop.example/g00224/laws.FnVoted", spec := "fnVoted", inPlace := ["slices.overlaps[int]"], unfollowed := true, recurses := true, apart := false }
def FnVotedSaid : Prop := fnVotedRow.holds Try.pinned (OpenSpec.ofChange fnVotedSpec)

/-- ITS FALSE NEIGHBOUR: 'it returns false'. Refute it at one input. -/
def fnVotedWrong : ChangeSpec := { name := "fnVoted", fn := fun _ => fun
  | [d1, d2] => { results := [.lit (.bool false)], args := [d1, d2] }
  | _ => none }
def FnVotedWrongFalsely : Prop := fnVotedRow.holds Try.pinned (OpenSpec.ofChange fnVotedWrong)

/-- 'laws.FnLeads': WHATEVER THE INPUT: true; the input reads as it did. -/
def fnLeadsSpec : ChangeSpec := { name := "fnLeads", fn := fun _ => fun
  | [d1, d2] => { results := [.lit (.bool true)], args := [d1, d2] }
  | _ => none }
def fnLeadsRow : OpenClaim := { program := "ytljkcmbebdbnaaa", sum := "084450cc14e3302f12cd2fbad0b2716418694e2a93e4539422290d3058b21794", func := "loop.example/g00224/laws.FnLeads", spec := "fnLeads", unfollowed := true, recurses := true, apart := false }
def FnLeadsSaid : Prop := fnLeadsRow.holds Try.pinned (OpenSpec.ofChange fnLeadsSpec)

/-- ITS FALSE NEIGHBOUR: 'it returns false'. Refute it at one input. -/
def fnLeadsWrong : ChangeSpec := { name := "fnLeads", fn := fun _ => fun
  | [d1, d2] => { results := [.lit (.bool false)], args := [d1, d2] }
  | _ => none }
def FnLeadsWrongFalsely : Prop := fnLeadsRow.holds Try.pinned (OpenSpec.ofChange fnLeadsWrong)

/- THE SECOND FORM. 'bulk': how many values and letters a reading holds, each counted each time it is reached (what is shared counts as often as it is met; a slice's spare places count too). A statement '..UptoSaid' is the law's where the arguments, and the package variables that the reading takes, are together of bulk at most 1048576: NARROWER than '..Said'. Prove '..Said' where nothing that the law and all that it calls make is longer than what came in: it says more and counts as full. Else prove '..UptoSaid'. A law counts once. -/
mutual
def uptoBulk {H : Type} : DataW H → Nat
  | .lit (.string bytes) => bytes.length + 1
  | .lit _ => 1
  | .nil => 1
  | .ptr d => uptoBulk d + 1
  | .slice elems spare => uptoBulkAll elems + uptoBulkAll spare + 1
  | .agg parts => uptoBulkAll parts + 1
  | .iface _ d => uptoBulk d + 1
  | .map entries => uptoBulkEntries entries + 1
  | .held _ => 1
def uptoBulkAll {H : Type} : List (DataW H) → Nat
  | [] => 0
  | d :: r => uptoBulk d + uptoBulkAll r
def uptoBulkEntries {H : Type} : List (Lit × DataW H) → Nat
  | [] => 0
  | x :: r => uptoBulkEntry x + uptoBulkEntries r
def uptoBulkEntry {H : Type} : Lit × DataW H → Nat
  | (.string bytes, d) => bytes.length + uptoBulk d + 1
  | (_, d) => uptoBulk d + 1
 end
def uptoSmall : (H : Type) → List (DataW H) → Bool := fun _ ds => decide (uptoBulkAll ds ≤ 1048576)
def OpenSpec.upto (s : _root_.Go.ChangeSpec) : _root_.Go.OpenSpec := { _root_.Go.OpenSpec.ofChange s with cond := some uptoSmall }

/-- 'laws.FnExactGoodNode', WHERE WHAT IT READS IS OF BULK AT MOST 1048576: true; the input reads as it did. -/
def fnExactGoodNodeUptoRow : OpenClaim := { program := "ytljkcmbebdbnaaa", sum := "084450cc14e3302f12cd2fbad0b2716418694e2a93e4539422290d3058b21794", func := "loop.example/g00224/laws.FnExactGoodNode", spec := "fnExactGoodNode", unfollowed := true, recurses := true, apart := false, narrowed := true }
def FnExactGoodNodeUptoSaid : Prop := fnExactGoodNodeUptoRow.holds Try.pinned (OpenSpec.upto fnExactGoodNodeSpec)

/-- 'laws.FnExactUpToDate', WHERE WHAT IT READS IS OF BULK AT MOST 1048576: true; the input reads as it did. -/
def fnExactUpToDateUptoRow : OpenClaim := { program := "ytljkcmbebdbnaaa", sum := "084450cc14e3302f12cd2fbad0b2716418694e2a93e4539422290d3058b21794", func := "loop.example/g00224/laws.FnExactUpToDate", spec := "fnExactUpToDate", unfollowed := true, recurses := true, apart := false, narrowed := true }
def FnExactUpToDateUptoSaid : Prop := fnExactUpToDateUptoRow.holds Try.pinned (OpenSpec.upto fnExactUpToDateSpec)

/-- 'laws.FnExactCommittedIn', WHERE WHAT IT READS IS OF BULK AT MOST 1048576: true; the input reads as it did. -/
def fnExactCommittedInUptoRow : OpenClaim := { program := "ytljkcmbebdbnaaa", sum := "084450cc14e3302f12cd2fbad0b2716418694e2a93e4539422290d3058b21794", func := "loop.example/g00224/laws.FnExactCommittedIn", spec := "fnExactCommittedIn", unfollowed := true, recurses := true, apart := false, narrowed := true }
def FnExactCommittedInUptoSaid : Prop := fnExactCommittedInUptoRow.holds Try.pinned (OpenSpec.upto fnExactCommittedInSpec)

/-- 'laws.FnExactCrashNode', WHERE WHAT IT READS IS OF BULK AT MOST 1048576: true; the input reads as it did. -/
def fnExactCrashNodeUptoRow : OpenClaim := { program := "ytljkcmbebdbnaaa", sum := "084450cc14e3302f12cd2fbad0b2716418694e2a93e4539422290d3058b21794", func := "loop.example/g00224/laws.FnExactCrashNode", spec := "fnExactCrashNode", unfollowed := true, recurses := true, apart := false, narrowed := true }
def FnExactCrashNodeUptoSaid : Prop := fnExactCrashNodeUptoRow.holds Try.pinned (OpenSpec.upto fnExactCrashNodeSpec)

/-- 'laws.FnExactAppendFor', WHERE WHAT IT READS IS OF BULK AT MOST 1048576: true; the input reads as it did. -/
def fnExactAppendForUptoRow : OpenClaim := { program := "ytljkcmbebdbnaaa", sum := "084450cc14e3302f12cd2fbad0b2716418694e2a93e4539422290d3058b21794", func := "loop.example/g00224/laws.FnExactAppendFor", spec := "fnExactAppendFor", unfollowed := true, recurses := true, apart := false, narrowed := true }
def FnExactAppendForUptoSaid : Prop := fnExactAppendForUptoRow.holds Try.pinned (OpenSpec.upto fnExactAppendForSpec)

/-- 'laws.FnExactProposeNode', WHERE WHAT IT READS IS OF BULK AT MOST 1048576: true; the input reads as it did. -/
def fnExactProposeNodeUptoRow : OpenClaim := { program := "ytljkcmbebdbnaaa", sum := "084450cc14e3302f12cd2fbad0b2716418694e2a93e4539422290d3058b21794", func := "loop.example/g00224/laws.FnExactProposeNode", spec := "fnExactProposeNode", unfollowed := true, recurses := true, apart := false, narrowed := true }
def FnExactProposeNodeUptoSaid : Prop := fnExactProposeNodeUptoRow.holds Try.pinned (OpenSpec.upto fnExactProposeNodeSpec)

/-- 'laws.FnExactTimeoutNode', WHERE WHAT IT READS IS OF BULK AT MOST 1048576: true; the input reads as it did. -/
def fnExactTimeoutNodeUptoRow : OpenClaim := { program := "ytljkcmbebdbnaaa", sum := "084450cc14e3302f12cd2fbad0b2716418694e2a93e4539422290d3058b21794", func := "loop.example/g00224/laws.FnExactTimeoutNode", spec := "fnExactTimeoutNode", unfollowed := true, recurses := true, apart := false, narrowed := true }
def FnExactTimeoutNodeUptoSaid : Prop := fnExactTimeoutNodeUptoRow.holds Try.pinned (OpenSpec.upto fnExactTimeoutNodeSpec)

/-- 'laws.FnExactHandleMsg', WHERE WHAT IT READS IS OF BULK AT MOST 1048576: true; the input reads as it did. -/
def fnExactHandleMsgUptoRow : OpenClaim := { program := "ytljkcmbebdbnaaa", sum := "084450cc14e3302f12cd2fbad0b2716418694e2a93e4539422290d3058b21794", func := "loop.example/g00224/laws.FnExactHandleMsg", spec := "fnExactHandleMsg", inPlace := ["slices.overlaps[int]"], unfollowed := true, recurses := true, apart := false, narrowed := true }
def FnExactHandleMsgUptoSaid : Prop := fnExactHandleMsgUptoRow.holds Try.pinned (OpenSpec.upto fnExactHandleMsgSpec)

/-- 'laws.FnVoted', WHERE WHAT IT READS IS OF BULK AT MOST 1048576: true; the input reads as it did. -/
def fnVotedUptoRow : OpenClaim := { program := "ytljkcmbebdbnaaa", sum := "084450cc14e3302f12cd2fbad0b2716418694e2a93e4539422290d3058b21794", func := "loop.example/g00224/laws.FnVoted", spec := "fnVoted", inPlace := ["slices.overlaps[int]"], unfollowed := true, recurses := true, apart := false, narrowed := true }
def FnVotedUptoSaid : Prop := fnVotedUptoRow.holds Try.pinned (OpenSpec.upto fnVotedSpec)

/-- 'laws.FnLeads', WHERE WHAT IT READS IS OF BULK AT MOST 1048576: true; the input reads as it did. -/
def fnLeadsUptoRow : OpenClaim := { program := "ytljkcmbebdbnaaa", sum := "084450cc14e3302f12cd2fbad0b2716418694e2a93e4539422290d3058b21794", func := "loop.example/g00224/laws.FnLeads", spec := "fnLeads", unfollowed := true, recurses := true, apart := false, narrowed := true }
def FnLeadsUptoSaid : Prop := fnLeadsUptoRow.holds Try.pinned (OpenSpec.upto fnLeadsSpec)

end Rows
end Go.Proofs.Ytljkcmbebdbnaaa
