/-
  No cell of these rows narrows 'for every input' (looked for: loops, veiled, ifaces, maps, wideKeys, modest, calm, conditions, laid).
  DERIVED. THE GIVEN ROWS OF THIS SEAT. 7 by the template 'for every input the law returns true; each argument reads behind the call as it read before'; 0 by the template 'total and deterministic' (their statements: YthnjcolbdoaabaaTotals.lean).
  GIVEN WITH THE SEED: the statements are not yours to turn. If you find one false, say at which input.
  Laid BY PROGRAM, IN A SANDBOX (cutbox-rows.mjs): the forced cells as the released guide's own fill.sh prints them over the translation f7a4980f9753bb99… (all of the seat's roots in one cut). By AI agents, Wed Nov 11 2026. No macro, syntax, notation, axiom, sorry.
-/
import Derived.Test.YthnjcolbdoaabaaChecked
import GoSem.Claim
import GoSem.ClaimJoined
import GoSem.ClaimMapViews
import Derived.JoinedTies
import Derived.KernelRfl
namespace Go.Proofs.Ythnjcolbdoaabaa
/- THE CELL 'sum', in the pinned program and in every row, IS THE sha256 OF THE DUMP (.gsa) THAT YthnjcolbdoaabaaProg.lean LOADS. Nothing in Lean hashes anything: it is a label: what it is worth is what the hold of that sum in a sandbox is worth. -/
noncomputable def Try.pinned : Pinned := { name := "ythnjcolbdoaabaa", sum := "f7a4980f9753bb993adf71b9728f7d0804dbc816cb71a5334096349f77faeef9", checked := Try.checked }
namespace Rows
def none {H : Type} : Left H := { results := [], args := [] }

/-- 'laws.FnExactTimeoutNode': WHATEVER THE INPUT: true; the input reads as it did. -/
def fnExactTimeoutNodeSpec : ChangeSpec := { name := "fnExactTimeoutNode", fn := fun _ => fun
  | [d] => { results := [.lit (.bool true)], args := [d] }
  | _ => none }
def fnExactTimeoutNodeRow : OpenClaim := { program := "ythnjcolbdoaabaa", sum := "f7a4980f9753bb993adf71b9728f7d0804dbc816cb71a5334096349f77faeef9", func := "loop.example/g00224/laws.FnExactTimeoutNode", spec := "fnExactTimeoutNode", unfollowed := true, recurses := true, apart := false }
def FnExactTimeoutNodeSaid : Prop := fnExactTimeoutNodeRow.holds Try.pinned (OpenSpec.ofChange fnExactTimeoutNodeSpec)

/-- ITS FALSE NEIGHBOUR: 'it returns false'. Refute it at one input. -/
def fnExactTimeoutNodeWrong : ChangeSpec := { name := "fnExactTimeoutNode", fn := fun _ => fun
  | [d] => { results := [.lit (.bool false)], args := [d] }
  | _ => none }
def FnExactTimeoutNodeWrongFalsely : Prop := fnExactTimeoutNodeRow.holds Try.pinned (OpenSpec.ofChange fnExactTimeoutNodeWrong)

/-- 'laws.FnLeads': WHATEVER THE INPUT: true; the input reads as it did. -/
def fnLeadsSpec : ChangeSpec := { name := "fnLeads", fn := fun _ => fun
  | [d1, d2] => { results := [.lit (.bool true)], args := [d1, d2] }
  | _ => none }
def fnLeadsRow : OpenClaim := { program := "ythnjcolbdoaabaa", sum := "f7a4980f9753bb993adf71b9728f7d0804dbc816cb71a5334096349f77faeef9", func := "loop.example/g00224/laws.FnLeads", spec := "fnLeads", unfollowed := true, recurses := true, apart := false }
def FnLeadsSaid : Prop := fnLeadsRow.holds Try.pinned (OpenSpec.ofChange fnLeadsSpec)

/-- ITS FALSE NEIGHBOUR: 'it returns false'. Refute it at one input. -/
def fnLeadsWrong : ChangeSpec := { name := "fnLeads", fn := fun _ => fun
  | [d1, d2] => { results := [.lit (.bool false)], args := [d1, d2] }
  | _ => none }
def FnLeadsWrongFalsely : Prop := fnLeadsRow.holds Try.pinned (OpenSpec.ofChange fnLeadsWrong)

/-- 'laws.FnExactLeadersOf': WHATEVER THE INPUT: true; the input reads as it did. -/
def fnExactLeadersOfSpec : ChangeSpec := { name := "fnExactLeadersOf", fn := fun _ => fun
  | [d] => { results := [.lit (.bool true)], args := [d] }
  | _ => none }
def fnExactLeadersOfRow : OpenClaim := { program := "ythnjcolbdoaabaa", sum := "f7a4980f9753bb993adf71b9728f7d0804dbc816cb71a5334096349f77faeef9", func := "loop.example/g00224/laws.FnExactLeadersOf", spec := "fnExactLeadersOf", unfollowed := true, recurses := true, apart := false }
def FnExactLeadersOfSaid : Prop := fnExactLeadersOfRow.holds Try.pinned (OpenSpec.ofChange fnExactLeadersOfSpec)

/-- ITS FALSE NEIGHBOUR: 'it returns false'. Refute it at one input. -/
def fnExactLeadersOfWrong : ChangeSpec := { name := "fnExactLeadersOf", fn := fun _ => fun
  | [d] => { results := [.lit (.bool false)], args := [d] }
  | _ => none }
def FnExactLeadersOfWrongFalsely : Prop := fnExactLeadersOfRow.holds Try.pinned (OpenSpec.ofChange fnExactLeadersOfWrong)

/-- 'laws.FnExactNewCluster': WHATEVER THE INPUT: true; the input reads as it did. -/
def fnExactNewClusterSpec : ChangeSpec := { name := "fnExactNewCluster", fn := fun _ => fun
  | [d] => { results := [.lit (.bool true)], args := [d] }
  | _ => none }
def fnExactNewClusterRow : OpenClaim := { program := "ythnjcolbdoaabaa", sum := "f7a4980f9753bb993adf71b9728f7d0804dbc816cb71a5334096349f77faeef9", func := "loop.example/g00224/laws.FnExactNewCluster", spec := "fnExactNewCluster", apart := false }
def FnExactNewClusterSaid : Prop := fnExactNewClusterRow.holds Try.pinned (OpenSpec.ofChange fnExactNewClusterSpec)

/-- ITS FALSE NEIGHBOUR: 'it returns false'. Refute it at one input. -/
def fnExactNewClusterWrong : ChangeSpec := { name := "fnExactNewCluster", fn := fun _ => fun
  | [d] => { results := [.lit (.bool false)], args := [d] }
  | _ => none }
def FnExactNewClusterWrongFalsely : Prop := fnExactNewClusterRow.holds Try.pinned (OpenSpec.ofChange fnExactNewClusterWrong)

/-- 'laws.FnExactGoodCluster': WHATEVER THE INPUT: true; the input reads as it did. -/
def fnExactGoodClusterSpec : ChangeSpec := { name := "fnExactGoodCluster", fn := fun _ => fun
  | [d] => { results := [.lit (.bool true)], args := [d] }
  | _ => none }
def fnExactGoodClusterRow : OpenClaim := { program := "ythnjcolbdoaabaa", sum := "f7a4980f9753bb993adf71b9728f7d0804dbc816cb71a5334096349f77faeef9", func := "loop.example/g00224/laws.FnExactGoodCluster", spec := "fnExactGoodCluster", unfollowed := true, recurses := true, apart := false }
def FnExactGoodClusterSaid : Prop := fnExactGoodClusterRow.holds Try.pinned (OpenSpec.ofChange fnExactGoodClusterSpec)

/-- ITS FALSE NEIGHBOUR: 'it returns false'. Refute it at one input. -/
def fnExactGoodClusterWrong : ChangeSpec := { name := "fnExactGoodCluster", fn := fun _ => fun
  | [d] => { results := [.lit (.bool false)], args := [d] }
  | _ => none }
def FnExactGoodClusterWrongFalsely : Prop := fnExactGoodClusterRow.holds Try.pinned (OpenSpec.ofChange fnExactGoodClusterWrong)

/-- 'laws.FnExactHighestTerm': WHATEVER THE INPUT: true; the input reads as it did. -/
def fnExactHighestTermSpec : ChangeSpec := { name := "fnExactHighestTerm", fn := fun _ => fun
  | [d] => { results := [.lit (.bool true)], args := [d] }
  | _ => none }
def fnExactHighestTermRow : OpenClaim := { program := "ythnjcolbdoaabaa", sum := "f7a4980f9753bb993adf71b9728f7d0804dbc816cb71a5334096349f77faeef9", func := "loop.example/g00224/laws.FnExactHighestTerm", spec := "fnExactHighestTerm", unfollowed := true, recurses := true, apart := false }
def FnExactHighestTermSaid : Prop := fnExactHighestTermRow.holds Try.pinned (OpenSpec.ofChange fnExactHighestTermSpec)

/-- ITS FALSE NEIGHBOUR: 'it returns false'. Refute it at one input. -/
def fnExactHighestTermWrong : ChangeSpec := { name := "fnExactHighestTerm", fn := fun _ => fun
  | [d] => { results := [.lit (.bool false)], args := [d] }
  | _ => none }
def FnExactHighestTermWrongFalsely : Prop := fnExactHighestTermRow.holds Try.pinned (OpenSpec.ofChange fnExactHighestTermWrong)

/-- 'laws.FnExactCommonLog': WHATEVER THE INPUT: true; the input reads as it did. -/
def fnExactCommonLogSpec : ChangeSpec := { name := "fnExactCommonLog", fn := fun _ => fun
  | [d] => { results := [.lit (.bool true)], args := [d] }
  | _ => none }
def fnExactCommonLogRow : OpenClaim := { program := "ythnjcolbdoaabaa", sum := "f7a4980f9753bb993adf71b9728f7d0804dbc816cb71a5334096349f77faeef9", func := "loop.example/g00224/laws.FnExactCommonLog", spec := "fnExactCommonLog", unfollowed := true, recurses := true, apart := false }
def FnExactCommonLogSaid : Prop := fnExactCommonLogRow.holds Try.pinned (OpenSpec.ofChange fnExactCommonLogSpec)

/-- ITS FALSE NEIGHBOUR: 'it returns false'. Refute it at one input. -/
def fnExactCommonLogWrong : ChangeSpec := { name := "fnExactCommonLog", fn := fun _ => fun
  | [d] => { results := [.lit (.bool false)], args := [d] }
  | _ => none }
def FnExactCommonLogWrongFalsely : Prop := fnExactCommonLogRow.holds Try.pinned (OpenSpec.ofChange fnExactCommonLogWrong)

/- THE SECOND FORM. 'bulk': how many values and letters a reading holds, each counted each time it is reached (what is shared counts as often as it is met; a slice's spare places count too). A statement '..UptoSaid' is the law's where the arguments, and the package variables that the reading takes, are together of bulk at most 1048576: NARROWER than '..Said'. Prove '..Said' where nothing that the law and all that it calls make is longer than what came in: it says more and counts as full. Else prove '..UptoSaid'. A law counts once. -/
mutual
def uptoBulk {H : Type} : DataW H → Nat
  | .lit (.string bytes) => bytes.length + 1
  | .lit _ => 1
  | .nil => 1
  | .ptr d => uptoBulk d + 1
  | .slice elems spare => uptoBulkAll elems + uptoBulkAll spare + 1
  | .agg parts => uptoBulkAll parts + 1
  | .iface _ d => uptoBulk d + 1
  | .map entries => uptoBulkEntries entries + 1
  | .held _ => 1
def uptoBulkAll {H : Type} : List (DataW H) → Nat
  | [] => 0
  | d :: r => uptoBulk d + uptoBulkAll r
def uptoBulkEntries {H : Type} : List (Lit × DataW H) → Nat
  | [] => 0
  | x :: r => uptoBulkEntry x + uptoBulkEntries r
def uptoBulkEntry {H : Type} : Lit × DataW H → Nat
  | (.string bytes, d) => bytes.length + uptoBulk d + 1
  | (_, d) => uptoBulk d + 1
 end
def uptoSmall : (H : Type) → List (DataW H) → Bool := fun _ ds => decide (uptoBulkAll ds ≤ 1048576)
def OpenSpec.upto (s : _root_.Go.ChangeSpec) : _root_.Go.OpenSpec := { _root_.Go.OpenSpec.ofChange s with cond := some uptoSmall }

/-- 'laws.FnExactTimeoutNode', WHERE WHAT IT READS IS OF BULK AT MOST 1048576: true; the input reads as it did. -/
def fnExactTimeoutNodeUptoRow : OpenClaim := { program := "ythnjcolbdoaabaa", sum := "f7a4980f9753bb993adf71b9728f7d0804dbc816cb71a5334096349f77faeef9", func := "loop.example/g00224/laws.FnExactTimeoutNode", spec := "fnExactTimeoutNode", unfollowed := true, recurses := true, apart := false, narrowed := true }
def FnExactTimeoutNodeUptoSaid : Prop := fnExactTimeoutNodeUptoRow.holds Try.pinned (OpenSpec.upto fnExactTimeoutNodeSpec)

/-- 'laws.FnLeads', WHERE WHAT IT READS IS OF BULK AT MOST 1048576: true; the input reads as it did. -/
def fnLeadsUptoRow : OpenClaim := { program := "ythnjcolbdoaabaa", sum := "f7a4980f9753bb993adf71b9728f7d0804dbc816cb71a5334096349f77faeef9", func := "loop.example/g00224/laws.FnLeads", spec := "fnLeads", unfollowed := true, recurses := true, apart := false, narrowed := true }
def FnLeadsUptoSaid : Prop := fnLeadsUptoRow.holds Try.pinned (OpenSpec.upto fnLeadsSpec)

/-- 'laws.FnExactLeadersOf', WHERE WHAT IT READS IS OF BULK AT MOST 1048576: true; the input reads as it did. -/
def fnExactLeadersOfUptoRow : OpenClaim := { program := "ythnjcolbdoaabaa", sum := "f7a4980f9753bb993adf71b9728f7d0804dbc816cb71a5334096349f77faeef9", func := "loop.example/g00224/laws.FnExactLeadersOf", spec := "fnExactLeadersOf", unfollowed := true, recurses := true, apart := false, narrowed := true }
def FnExactLeadersOfUptoSaid : Prop := fnExactLeadersOfUptoRow.holds Try.pinned (OpenSpec.upto fnExactLeadersOfSpec)

/-- 'laws.FnExactNewCluster', WHERE WHAT IT READS IS OF BULK AT MOST 1048576: true; the input reads as it did. -/
def fnExactNewClusterUptoRow : OpenClaim := { program := "ythnjcolbdoaabaa", sum := "f7a4980f9753bb993adf71b9728f7d0804dbc816cb71a5334096349f77faeef9", func := "loop.example/g00224/laws.FnExactNewCluster", spec := "fnExactNewCluster", apart := false, narrowed := true }
def FnExactNewClusterUptoSaid : Prop := fnExactNewClusterUptoRow.holds Try.pinned (OpenSpec.upto fnExactNewClusterSpec)

/-- 'laws.FnExactGoodCluster', WHERE WHAT IT READS IS OF BULK AT MOST 1048576: true; the input reads as it did. -/
def fnExactGoodClusterUptoRow : OpenClaim := { program := "ythnjcolbdoaabaa", sum := "f7a4980f9753bb993adf71b9728f7d0804dbc816cb71a5334096349f77faeef9", func := "loop.example/g00224/laws.FnExactGoodCluster", spec := "fnExactGoodCluster", unfollowed := true, recurses := true, apart := false, narrowed := true }
def FnExactGoodClusterUptoSaid : Prop := fnExactGoodClusterUptoRow.holds Try.pinned (OpenSpec.upto fnExactGoodClusterSpec)

/-- 'laws.FnExactHighestTerm', WHERE WHAT IT READS IS OF BULK AT MOST 1048576: true; the input reads as it did. -/
def fnExactHighestTermUptoRow : OpenClaim := { program := "ythnjcolbdoaabaa", sum := "f7a4980f9753bb993adf71b9728f7d0804dbc816cb71a5334096349f77faeef9", func := "loop.example/g00224/laws.FnExactHighestTerm", spec := "fnExactHighestTerm", unfollowed := true, recurses := true, apart := false, narrowed := true }
def FnExactHighestTermUptoSaid : Prop := fnExactHighestTermUptoRow.holds Try.pinned (OpenSpec.upto fnExactHighestTermSpec)

/-- 'laws.FnExactCommonLog', WHERE WHAT IT READS IS OF BULK AT MOST 1048576: true; the input reads as it did. -/
def fnExactCommonLogUptoRow : OpenClaim := { program := "ythnjcolbdoaabaa", sum := "f7a4980f9753bb993adf71b9728f7d0804dbc816cb71a5334096349f77faeef9", func := "loop.example/g00224/laws.FnExactCommonLog", spec := "fnExactCommonLog", unfollowed := true, recurses := true, apart := false, narrowed := true }
def FnExactCommonLogUptoSaid : Prop := fnExactCommonLogUptoRow.holds Try.pinned (OpenSpec.upto fnExactCommonLogSpec)

end Rows
end Go.Proofs.Ythnjcolbdoaabaa
