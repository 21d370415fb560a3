/-
  No cell of these rows narrows 'for every input' (looked for: loops, veiled, ifaces, maps, wideKeys, modest, calm, conditions, laid).
  DERIVED. THE GIVEN ROWS OF THIS SEAT. 8 by the template 'for every input the law returns true; each argument reads behind the call as it read before'; 0 by the template 'total and deterministic' (their statements: YtafembhkindfmaaTotals.lean).
  GIVEN WITH THE SEED: the statements are not yours to turn. If you find one false, say at which input.
  Laid BY PROGRAM, IN A SANDBOX (cutbox-rows.mjs): the forced cells as the released guide's own fill.sh prints them over the translation 6ca87a7afa3d2f82… (all of the seat's roots in one cut). By AI agents, Wed Nov 11 2026. No macro, syntax, notation, axiom, sorry.
-/
import Derived.Test.YtafembhkindfmaaChecked
import GoSem.Claim
import GoSem.ClaimJoined
import GoSem.ClaimMapViews
import Derived.JoinedTies
import Derived.KernelRfl
namespace Go.Proofs.Ytafembhkindfmaa
/- THE CELL 'sum', in the pinned program and in every row, IS THE sha256 OF THE DUMP (.gsa) THAT YtafembhkindfmaaProg.lean LOADS. Nothing in Lean hashes anything: it is a label: what it is worth is what the hold of that sum in a sandbox is worth. -/
noncomputable def Try.pinned : Pinned := { name := "ytafembhkindfmaa", sum := "6ca87a7afa3d2f8267e3e1965bfdd4c726c1e1aa514cd65f36241036f90b6fed", checked := Try.checked }
namespace Rows
def none {H : Type} : Left H := { results := [], args := [] }

/-- 'laws.FnExactNewNode': WHATEVER THE INPUT: true; the input reads as it did. -/
def fnExactNewNodeSpec : ChangeSpec := { name := "fnExactNewNode", fn := fun _ => fun
  | [d1, d2] => { results := [.lit (.bool true)], args := [d1, d2] }
  | _ => none }
def fnExactNewNodeRow : OpenClaim := { program := "ytafembhkindfmaa", sum := "6ca87a7afa3d2f8267e3e1965bfdd4c726c1e1aa514cd65f36241036f90b6fed", func := "loop.example/g00224/laws.FnExactNewNode", spec := "fnExactNewNode", apart := false }
def FnExactNewNodeSaid : Prop := fnExactNewNodeRow.holds Try.pinned (OpenSpec.ofChange fnExactNewNodeSpec)

/-- ITS FALSE NEIGHBOUR: 'it returns false'. Refute it at one input. -/
def fnExactNewNodeWrong : ChangeSpec := { name := "fnExactNewNode", fn := fun _ => fun
  | [d1, d2] => { results := [.lit (.bool false)], args := [d1, d2] }
  | _ => none }
def FnExactNewNodeWrongFalsely : Prop := fnExactNewNodeRow.holds Try.pinned (OpenSpec.ofChange fnExactNewNodeWrong)

/-- 'laws.FnExactGoodRaftMsg': WHATEVER THE INPUT: true; the input reads as it did. -/
def fnExactGoodRaftMsgSpec : ChangeSpec := { name := "fnExactGoodRaftMsg", fn := fun _ => fun
  | [d1, d2] => { results := [.lit (.bool true)], args := [d1, d2] }
  | _ => none }
def fnExactGoodRaftMsgRow : OpenClaim := { program := "ytafembhkindfmaa", sum := "6ca87a7afa3d2f8267e3e1965bfdd4c726c1e1aa514cd65f36241036f90b6fed", func := "loop.example/g00224/laws.FnExactGoodRaftMsg", spec := "fnExactGoodRaftMsg", apart := false }
def FnExactGoodRaftMsgSaid : Prop := fnExactGoodRaftMsgRow.holds Try.pinned (OpenSpec.ofChange fnExactGoodRaftMsgSpec)

/-- ITS FALSE NEIGHBOUR: 'it returns false'. Refute it at one input. -/
def fnExactGoodRaftMsgWrong : ChangeSpec := { name := "fnExactGoodRaftMsg", fn := fun _ => fun
  | [d1, d2] => { results := [.lit (.bool false)], args := [d1, d2] }
  | _ => none }
def FnExactGoodRaftMsgWrongFalsely : Prop := fnExactGoodRaftMsgRow.holds Try.pinned (OpenSpec.ofChange fnExactGoodRaftMsgWrong)

/-- 'laws.FnExactGoodNode': WHATEVER THE INPUT: true; the input reads as it did. -/
def fnExactGoodNodeSpec : ChangeSpec := { name := "fnExactGoodNode", fn := fun _ => fun
  | [d] => { results := [.lit (.bool true)], args := [d] }
  | _ => none }
def fnExactGoodNodeRow : OpenClaim := { program := "ytafembhkindfmaa", sum := "6ca87a7afa3d2f8267e3e1965bfdd4c726c1e1aa514cd65f36241036f90b6fed", func := "loop.example/g00224/laws.FnExactGoodNode", spec := "fnExactGoodNode", unfollowed := true, recurses := true, apart := false }
def FnExactGoodNodeSaid : Prop := fnExactGoodNodeRow.holds Try.pinned (OpenSpec.ofChange fnExactGoodNodeSpec)

/-- ITS FALSE NEIGHBOUR: 'it returns false'. Refute it at one input. -/
def fnExactGoodNodeWrong : ChangeSpec := { name := "fnExactGoodNode", fn := fun _ => fun
  | [d] => { results := [.lit (.bool false)], args := [d] }
  | _ => none }
def FnExactGoodNodeWrongFalsely : Prop := fnExactGoodNodeRow.holds Try.pinned (OpenSpec.ofChange fnExactGoodNodeWrong)

/-- 'laws.FnExactUpToDate': WHATEVER THE INPUT: true; the input reads as it did. -/
def fnExactUpToDateSpec : ChangeSpec := { name := "fnExactUpToDate", fn := fun _ => fun
  | [d1, d2, d3] => { results := [.lit (.bool true)], args := [d1, d2, d3] }
  | _ => none }
def fnExactUpToDateRow : OpenClaim := { program := "ytafembhkindfmaa", sum := "6ca87a7afa3d2f8267e3e1965bfdd4c726c1e1aa514cd65f36241036f90b6fed", func := "loop.example/g00224/laws.FnExactUpToDate", spec := "fnExactUpToDate", unfollowed := true, recurses := true, apart := false }
def FnExactUpToDateSaid : Prop := fnExactUpToDateRow.holds Try.pinned (OpenSpec.ofChange fnExactUpToDateSpec)

/-- ITS FALSE NEIGHBOUR: 'it returns false'. Refute it at one input. -/
def fnExactUpToDateWrong : ChangeSpec := { name := "fnExactUpToDate", fn := fun _ => fun
  | [d1, d2, d3] => { results := [.lit (.bool false)], args := [d1, d2, d3] }
  | _ => none }
def FnExactUpToDateWrongFalsely : Prop := fnExactUpToDateRow.holds Try.pinned (OpenSpec.ofChange fnExactUpToDateWrong)

/-- 'laws.FnExactCommittedIn': WHATEVER THE INPUT: true; the input reads as it did. -/
def fnExactCommittedInSpec : ChangeSpec := { name := "fnExactCommittedIn", fn := fun _ => fun
  | [d] => { results := [.lit (.bool true)], args := [d] }
  | _ => none }
def fnExactCommittedInRow : OpenClaim := { program := "ytafembhkindfmaa", sum := "6ca87a7afa3d2f8267e3e1965bfdd4c726c1e1aa514cd65f36241036f90b6fed", func := "loop.example/g00224/laws.FnExactCommittedIn", spec := "fnExactCommittedIn", unfollowed := true, recurses := true, apart := false }
def FnExactCommittedInSaid : Prop := fnExactCommittedInRow.holds Try.pinned (OpenSpec.ofChange fnExactCommittedInSpec)

/-- ITS FALSE NEIGHBOUR: 'it returns false'. Refute it at one input. -/
def fnExactCommittedInWrong : ChangeSpec := { name := "fnExactCommittedIn", fn := fun _ => fun
  | [d] => { results := [.lit (.bool false)], args := [d] }
  | _ => none }
def FnExactCommittedInWrongFalsely : Prop := fnExactCommittedInRow.holds Try.pinned (OpenSpec.ofChange fnExactCommittedInWrong)

/-- 'laws.FnExactCrashNode': WHATEVER THE INPUT: true; the input reads as it did. -/
def fnExactCrashNodeSpec : ChangeSpec := { name := "fnExactCrashNode", fn := fun _ => fun
  | [d] => { results := [.lit (.bool true)], args := [d] }
  | _ => none }
def fnExactCrashNodeRow : OpenClaim := { program := "ytafembhkindfmaa", sum := "6ca87a7afa3d2f8267e3e1965bfdd4c726c1e1aa514cd65f36241036f90b6fed", func := "loop.example/g00224/laws.FnExactCrashNode", spec := "fnExactCrashNode", unfollowed := true, recurses := true, apart := false }
def FnExactCrashNodeSaid : Prop := fnExactCrashNodeRow.holds Try.pinned (OpenSpec.ofChange fnExactCrashNodeSpec)

/-- ITS FALSE NEIGHBOUR: 'it returns false'. Refute it at one input. -/
def fnExactCrashNodeWrong : ChangeSpec := { name := "fnExactCrashNode", fn := fun _ => fun
  | [d] => { results := [.lit (.bool false)], args := [d] }
  | _ => none }
def FnExactCrashNodeWrongFalsely : Prop := fnExactCrashNodeRow.holds Try.pinned (OpenSpec.ofChange fnExactCrashNodeWrong)

/-- 'laws.FnExactAppendFor': WHATEVER THE INPUT: true; the input reads as it did. -/
def fnExactAppendForSpec : ChangeSpec := { name := "fnExactAppendFor", fn := fun _ => fun
  | [d1, d2, d3] => { results := [.lit (.bool true)], args := [d1, d2, d3] }
  | _ => none }
def fnExactAppendForRow : OpenClaim := { program := "ytafembhkindfmaa", sum := "6ca87a7afa3d2f8267e3e1965bfdd4c726c1e1aa514cd65f36241036f90b6fed", func := "loop.example/g00224/laws.FnExactAppendFor", spec := "fnExactAppendFor", unfollowed := true, recurses := true, apart := false }
def FnExactAppendForSaid : Prop := fnExactAppendForRow.holds Try.pinned (OpenSpec.ofChange fnExactAppendForSpec)

/-- ITS FALSE NEIGHBOUR: 'it returns false'. Refute it at one input. -/
def fnExactAppendForWrong : ChangeSpec := { name := "fnExactAppendFor", fn := fun _ => fun
  | [d1, d2, d3] => { results := [.lit (.bool false)], args := [d1, d2, d3] }
  | _ => none }
def FnExactAppendForWrongFalsely : Prop := fnExactAppendForRow.holds Try.pinned (OpenSpec.ofChange fnExactAppendForWrong)

/-- 'laws.FnExactProposeNode': WHATEVER THE INPUT: true; the input reads as it did. -/
def fnExactProposeNodeSpec : ChangeSpec := { name := "fnExactProposeNode", fn := fun _ => fun
  | [d1, d2] => { results := [.lit (.bool true)], args := [d1, d2] }
  | _ => none }
def fnExactProposeNodeRow : OpenClaim := { program := "ytafembhkindfmaa", sum := "6ca87a7afa3d2f8267e3e1965bfdd4c726c1e1aa514cd65f36241036f90b6fed", func := "loop.example/g00224/laws.FnExactProposeNode", spec := "fnExactProposeNode", unfollowed := true, recurses := true, apart := false }
def FnExactProposeNodeSaid : Prop := fnExactProposeNodeRow.holds Try.pinned (OpenSpec.ofChange fnExactProposeNodeSpec)

/-- ITS FALSE NEIGHBOUR: 'it returns false'. Refute it at one input. -/
def fnExactProposeNodeWrong : ChangeSpec := { name := "fnExactProposeNode", fn := fun _ => fun
  | [d1, d2] => { results := [.lit (.bool false)], args := [d1, d2] }
  | _ => none }
def FnExactProposeNodeWrongFalsely : Prop := fnExactProposeNodeRow.holds Try.pinned (OpenSpec.ofChange fnExactProposeNodeWrong)

/- THE SECOND FORM. 'bulk': how many values and letters a reading holds, each counted each time it is reached (what is shared counts as often as it is met; a slice's spare places count too). A statement '..UptoSaid' is the law's where the arguments, and the package variables that the reading takes, are together of bulk at most 1048576: NARROWER than '..Said'. Prove '..Said' where nothing that the law and all that it calls make is longer than what came in: it says more and counts as full. Else prove '..UptoSaid'. A law counts once. -/
mutual
def uptoBulk {H : Type} : DataW H → Nat
  | .lit (.string bytes) => bytes.length + 1
  | .lit _ => 1
  | .nil => 1
  | .ptr d => uptoBulk d + 1
  | .slice elems spare => uptoBulkAll elems + uptoBulkAll spare + 1
  | .agg parts => uptoBulkAll parts + 1
  | .iface _ d => uptoBulk d + 1
  | .map entries => uptoBulkEntries entries + 1
  | .held _ => 1
def uptoBulkAll {H : Type} : List (DataW H) → Nat
  | [] => 0
  | d :: r => uptoBulk d + uptoBulkAll r
def uptoBulkEntries {H : Type} : List (Lit × DataW H) → Nat
  | [] => 0
  | x :: r => uptoBulkEntry x + uptoBulkEntries r
def uptoBulkEntry {H : Type} : Lit × DataW H → Nat
  | (.string bytes, d) => bytes.length + uptoBulk d + 1
  | (_, d) => uptoBulk d + 1
 end
def uptoSmall : (H : Type) → List (DataW H) → Bool := fun _ ds => decide (uptoBulkAll ds ≤ 1048576)
def OpenSpec.upto (s : _root_.Go.ChangeSpec) : _root_.Go.OpenSpec := { _root_.Go.OpenSpec.ofChange s with cond := some uptoSmall }

/-- 'laws.FnExactNewNode', WHERE WHAT IT READS IS OF BULK AT MOST 1048576: true; the input reads as it did. -/
def fnExactNewNodeUptoRow : OpenClaim := { program := "ytafembhkindfmaa", sum := "6ca87a7afa3d2f8267e3e1965bfdd4c726c1e1aa514cd65f36241036f90b6fed", func := "loop.example/g00224/laws.FnExactNewNode", spec := "fnExactNewNode", apart := false, narrowed := true }
def FnExactNewNodeUptoSaid : Prop := fnExactNewNodeUptoRow.holds Try.pinned (OpenSpec.upto fnExactNewNodeSpec)

/-- 'laws.FnExactGoodRaftMsg', WHERE WHAT IT READS IS OF BULK AT MOST 1048576: true; the input reads as it did. -/
def fnExactGoodRaftMsgUptoRow : OpenClaim := { program := "ytafembhkindfmaa", sum := "6ca87a7afa3d2f8267e3e1965bfdd4c726c1e1aa514cd65f36241036f90b6fed", func := "loop.example/g00224/laws.FnExactGoodRaftMsg", spec := "fnExactGoodRaftMsg", apart := false, narrowed := true }
def FnExactGoodRaftMsgUptoSaid : Prop := fnExactGoodRaftMsgUptoRow.holds Try.pinned (OpenSpec.upto fnExactGoodRaftMsgSpec)

/-- 'laws.FnExactGoodNode', WHERE WHAT IT READS IS OF BULK AT MOST 1048576: true; the input reads as it did. -/
def fnExactGoodNodeUptoRow : OpenClaim := { program := "ytafembhkindfmaa", sum := "6ca87a7afa3d2f8267e3e1965bfdd4c726c1e1aa514cd65f36241036f90b6fed", func := "loop.example/g00224/laws.FnExactGoodNode", spec := "fnExactGoodNode", unfollowed := true, recurses := true, apart := false, narrowed := true }
def FnExactGoodNodeUptoSaid : Prop := fnExactGoodNodeUptoRow.holds Try.pinned (OpenSpec.upto fnExactGoodNodeSpec)

/-- 'laws.FnExactUpToDate', WHERE WHAT IT READS IS OF BULK AT MOST 1048576: true; the input reads as it did. -/
def fnExactUpToDateUptoRow : OpenClaim := { program := "ytafembhkindfmaa", sum := "6ca87a7afa3d2f8267e3e1965bfdd4c726c1e1aa514cd65f36241036f90b6fed", func := "loop.example/g00224/laws.FnExactUpToDate", spec := "fnExactUpToDate", unfollowed := true, recurses := true, apart := false, narrowed := true }
def FnExactUpToDateUptoSaid : Prop := fnExactUpToDateUptoRow.holds Try.pinned (OpenSpec.upto fnExactUpToDateSpec)

/-- 'laws.FnExactCommittedIn', WHERE WHAT IT READS IS OF BULK AT MOST 1048576: true; the input reads as it did. -/
def fnExactCommittedInUptoRow : OpenClaim := { program := "ytafembhkindfmaa", sum := "6ca87a7afa3d2f8267e3e1965bfdd4c726c1e1aa514cd65f36241036f90b6fed", func := "loop.example/g00224/laws.FnExactCommittedIn", spec := "fnExactCommittedIn", unfollowed := true, recurses := true, apart := false, narrowed := true }
def FnExactCommittedInUptoSaid : Prop := fnExactCommittedInUptoRow.holds Try.pinned (OpenSpec.upto fnExactCommittedInSpec)

/-- 'laws.FnExactCrashNode', WHERE WHAT IT READS IS OF BULK AT MOST 1048576: true; the input reads as it did. -/
def fnExactCrashNodeUptoRow : OpenClaim := { program := "ytafembhkindfmaa", sum := "6ca87a7afa3d2f8267e3e1965bfdd4c726c1e1aa514cd65f36241036f90b6fed", func := "loop.example/g00224/laws.FnExactCrashNode", spec := "fnExactCrashNode", unfollowed := true, recurses := true, apart := false, narrowed := true }
def FnExactCrashNodeUptoSaid : Prop := fnExactCrashNodeUptoRow.holds Try.pinned (OpenSpec.upto fnExactCrashNodeSpec)

/-- 'laws.FnExactAppendFor', WHERE WHAT IT READS IS OF BULK AT MOST 1048576: true; the input reads as it did. -/
def fnExactAppendForUptoRow : OpenClaim := { program := "ytafembhkindfmaa", sum := "6ca87a7afa3d2f8267e3e1965bfdd4c726c1e1aa514cd65f36241036f90b6fed", func := "loop.example/g00224/laws.FnExactAppendFor", spec := "fnExactAppendFor", unfollowed := true, recurses := true, apart := false, narrowed := true }
def FnExactAppendForUptoSaid : Prop := fnExactAppendForUptoRow.holds Try.pinned (OpenSpec.upto fnExactAppendForSpec)

/-- 'laws.FnExactProposeNode', WHERE WHAT IT READS IS OF BULK AT MOST 1048576: true; the input reads as it did. -/
def fnExactProposeNodeUptoRow : OpenClaim := { program := "ytafembhkindfmaa", sum := "6ca87a7afa3d2f8267e3e1965bfdd4c726c1e1aa514cd65f36241036f90b6fed", func := "loop.example/g00224/laws.FnExactProposeNode", spec := "fnExactProposeNode", unfollowed := true, recurses := true, apart := false, narrowed := true }
def FnExactProposeNodeUptoSaid : Prop := fnExactProposeNodeUptoRow.holds Try.pinned (OpenSpec.upto fnExactProposeNodeSpec)

end Rows
end Go.Proofs.Ytafembhkindfmaa
