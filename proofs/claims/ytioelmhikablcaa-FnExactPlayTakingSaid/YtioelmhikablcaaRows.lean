/-
  No cell of these rows narrows 'for every input' (looked for: loops, veiled, ifaces, maps, wideKeys, modest, calm, conditions, laid).
  DERIVED. THE GIVEN ROWS OF THIS SEAT. 10 by the template 'for every input the law returns true; each argument reads behind the call as it read before'; 0 by the template 'total and deterministic' (their statements: YtioelmhikablcaaTotals.lean).
  GIVEN WITH THE SEED: the statements are not yours to turn. If you find one false, say at which input.
  Laid BY PROGRAM, IN A SANDBOX (cutbox-rows.mjs): the forced cells as the released guide's own fill.sh prints them over the translation b178d4e9062833e2… (all of the seat's roots in one cut). By AI agents, Wed Nov 11 2026. No macro, syntax, notation, axiom, sorry.
-/
import Derived.Test.YtioelmhikablcaaChecked
import GoSem.Claim
import GoSem.ClaimJoined
import GoSem.ClaimMapViews
import Derived.JoinedTies
import Derived.KernelRfl
namespace Go.Proofs.Ytioelmhikablcaa
/- THE CELL 'sum', in the pinned program and in every row, IS THE sha256 OF THE DUMP (.gsa) THAT YtioelmhikablcaaProg.lean LOADS. Nothing in Lean hashes anything: it is a label: what it is worth is what the hold of that sum in a sandbox is worth. -/
noncomputable def Try.pinned : Pinned := { name := "ytioelmhikablcaa", sum := "b178d4e9062833e2d0c86dfe986bab28b1bc887da50c9d68f8ce67de6674997b", checked := Try.checked }
namespace Rows
def none {H : Type} : Left H := { results := [], args := [] }

/-- 'laws.FnExactFinishTaking': WHATEVER THE INPUT: true; the input reads as it did. -/
def fnExactFinishTakingSpec : ChangeSpec := { name := "fnExactFinishTaking", fn := fun _ => fun
  | [d] => { results := [.lit (.bool true)], args := [d] }
  | _ => none }
def fnExactFinishTakingRow : OpenClaim := { program := "ytioelmhikablcaa", sum := "b178d4e9062833e2d0c86dfe986bab28b1bc887da50c9d68f8ce67de6674997b", func := "loop.example/g00224/laws.FnExactFinishTaking", spec := "fnExactFinishTaking", unfollowed := true, recurses := true, apart := false }
def FnExactFinishTakingSaid : Prop := fnExactFinishTakingRow.holds Try.pinned (OpenSpec.ofChange fnExactFinishTakingSpec)

/-- ITS FALSE NEIGHBOUR: 'it returns false'. Refute it at one input. -/
def fnExactFinishTakingWrong : ChangeSpec := { name := "fnExactFinishTaking", fn := fun _ => fun
  | [d] => { results := [.lit (.bool false)], args := [d] }
  | _ => none }
def FnExactFinishTakingWrongFalsely : Prop := fnExactFinishTakingRow.holds Try.pinned (OpenSpec.ofChange fnExactFinishTakingWrong)

/-- 'laws.FnExactTakeChunk': WHATEVER THE INPUT: true; the input reads as it did. -/
def fnExactTakeChunkSpec : ChangeSpec := { name := "fnExactTakeChunk", fn := fun _ => fun
  | [d1, d2] => { results := [.lit (.bool true)], args := [d1, d2] }
  | _ => none }
def fnExactTakeChunkRow : OpenClaim := { program := "ytioelmhikablcaa", sum := "b178d4e9062833e2d0c86dfe986bab28b1bc887da50c9d68f8ce67de6674997b", func := "loop.example/g00224/laws.FnExactTakeChunk", spec := "fnExactTakeChunk", inPlace := ["slices.overlaps[loop.example/g00224/impl.Chunk]"], unfollowed := true, recurses := true, apart := false }
def FnExactTakeChunkSaid : Prop := fnExactTakeChunkRow.holds Try.pinned (OpenSpec.ofChange fnExactTakeChunkSpec)

/-- ITS FALSE NEIGHBOUR: 'it returns false'. Refute it at one input. -/
def fnExactTakeChunkWrong : ChangeSpec := { name := "fnExactTakeChunk", fn := fun _ => fun
  | [d1, d2] => { results := [.lit (.bool false)], args := [d1, d2] }
  | _ => none }
def FnExactTakeChunkWrongFalsely : Prop := fnExactTakeChunkRow.holds Try.pinned (OpenSpec.ofChange fnExactTakeChunkWrong)

/-- 'laws.FnExactPlayTaking': WHATEVER THE INPUT: true; the input reads as it did. -/
def fnExactPlayTakingSpec : ChangeSpec := { name := "fnExactPlayTaking", fn := fun _ => fun
  | [d1, d2, d3] => { results := [.lit (.bool true)], args := [d1, d2, d3] }
  | _ => none }
def fnExactPlayTakingRow : OpenClaim := { program := "ytioelmhikablcaa", sum := "b178d4e9062833e2d0c86dfe986bab28b1bc887da50c9d68f8ce67de6674997b", func := "loop.example/g00224/laws.FnExactPlayTaking", spec := "fnExactPlayTaking", inPlace := ["slices.overlaps[loop.example/g00224/impl.Chunk]"], unfollowed := true, recurses := true, apart := false }
def FnExactPlayTakingSaid : Prop := fnExactPlayTakingRow.holds Try.pinned (OpenSpec.ofChange fnExactPlayTakingSpec)

/-- ITS FALSE NEIGHBOUR: 'it returns false'. Refute it at one input. -/
def fnExactPlayTakingWrong : ChangeSpec := { name := "fnExactPlayTaking", fn := fun _ => fun
  | [d1, d2, d3] => { results := [.lit (.bool false)], args := [d1, d2, d3] }
  | _ => none }
def FnExactPlayTakingWrongFalsely : Prop := fnExactPlayTakingRow.holds Try.pinned (OpenSpec.ofChange fnExactPlayTakingWrong)

/-- 'laws.FnExactCommandBytes': WHATEVER THE INPUT: true; the input reads as it did. -/
def fnExactCommandBytesSpec : ChangeSpec := { name := "fnExactCommandBytes", fn := fun _ => fun
  | [d] => { results := [.lit (.bool true)], args := [d] }
  | _ => none }
def fnExactCommandBytesRow : OpenClaim := { program := "ytioelmhikablcaa", sum := "b178d4e9062833e2d0c86dfe986bab28b1bc887da50c9d68f8ce67de6674997b", func := "loop.example/g00224/laws.FnExactCommandBytes", spec := "fnExactCommandBytes", apart := false }
def FnExactCommandBytesSaid : Prop := fnExactCommandBytesRow.holds Try.pinned (OpenSpec.ofChange fnExactCommandBytesSpec)

/-- ITS FALSE NEIGHBOUR: 'it returns false'. Refute it at one input. -/
def fnExactCommandBytesWrong : ChangeSpec := { name := "fnExactCommandBytes", fn := fun _ => fun
  | [d] => { results := [.lit (.bool false)], args := [d] }
  | _ => none }
def FnExactCommandBytesWrongFalsely : Prop := fnExactCommandBytesRow.holds Try.pinned (OpenSpec.ofChange fnExactCommandBytesWrong)

/-- 'laws.FnWal': WHATEVER THE INPUT: true; the input reads as it did. -/
def fnWalSpec : ChangeSpec := { name := "fnWal", fn := fun _ => fun
  | [d1, d2] => { results := [.lit (.bool true)], args := [d1, d2] }
  | _ => none }
def fnWalRow : OpenClaim := { program := "ytioelmhikablcaa", sum := "b178d4e9062833e2d0c86dfe986bab28b1bc887da50c9d68f8ce67de6674997b", func := "loop.example/g00224/laws.FnWal", spec := "fnWal", apart := false }
def FnWalSaid : Prop := fnWalRow.holds Try.pinned (OpenSpec.ofChange fnWalSpec)

/-- ITS FALSE NEIGHBOUR: 'it returns false'. Refute it at one input. -/
def fnWalWrong : ChangeSpec := { name := "fnWal", fn := fun _ => fun
  | [d1, d2] => { results := [.lit (.bool false)], args := [d1, d2] }
  | _ => none }
def FnWalWrongFalsely : Prop := fnWalRow.holds Try.pinned (OpenSpec.ofChange fnWalWrong)

/-- 'laws.FnExactEditBytes': WHATEVER THE INPUT: true; the input reads as it did. -/
def fnExactEditBytesSpec : ChangeSpec := { name := "fnExactEditBytes", fn := fun _ => fun
  | [d] => { results := [.lit (.bool true)], args := [d] }
  | _ => none }
def fnExactEditBytesRow : OpenClaim := { program := "ytioelmhikablcaa", sum := "b178d4e9062833e2d0c86dfe986bab28b1bc887da50c9d68f8ce67de6674997b", func := "loop.example/g00224/laws.FnExactEditBytes", spec := "fnExactEditBytes", apart := false }
def FnExactEditBytesSaid : Prop := fnExactEditBytesRow.holds Try.pinned (OpenSpec.ofChange fnExactEditBytesSpec)

/-- ITS FALSE NEIGHBOUR: 'it returns false'. Refute it at one input. -/
def fnExactEditBytesWrong : ChangeSpec := { name := "fnExactEditBytes", fn := fun _ => fun
  | [d] => { results := [.lit (.bool false)], args := [d] }
  | _ => none }
def FnExactEditBytesWrongFalsely : Prop := fnExactEditBytesRow.holds Try.pinned (OpenSpec.ofChange fnExactEditBytesWrong)

/-- 'laws.FnExactEditBetween': WHATEVER THE INPUT: true; the input reads as it did. -/
def fnExactEditBetweenSpec : ChangeSpec := { name := "fnExactEditBetween", fn := fun _ => fun
  | [d1, d2] => { results := [.lit (.bool true)], args := [d1, d2] }
  | _ => none }
def fnExactEditBetweenRow : OpenClaim := { program := "ytioelmhikablcaa", sum := "b178d4e9062833e2d0c86dfe986bab28b1bc887da50c9d68f8ce67de6674997b", func := "loop.example/g00224/laws.FnExactEditBetween", spec := "fnExactEditBetween", unfollowed := true, recurses := true, apart := false }
def FnExactEditBetweenSaid : Prop := fnExactEditBetweenRow.holds Try.pinned (OpenSpec.ofChange fnExactEditBetweenSpec)

/-- ITS FALSE NEIGHBOUR: 'it returns false'. Refute it at one input. -/
def fnExactEditBetweenWrong : ChangeSpec := { name := "fnExactEditBetween", fn := fun _ => fun
  | [d1, d2] => { results := [.lit (.bool false)], args := [d1, d2] }
  | _ => none }
def FnExactEditBetweenWrongFalsely : Prop := fnExactEditBetweenRow.holds Try.pinned (OpenSpec.ofChange fnExactEditBetweenWrong)

/-- 'laws.FnExactApplyEdit': WHATEVER THE INPUT: true; the input reads as it did. -/
def fnExactApplyEditSpec : ChangeSpec := { name := "fnExactApplyEdit", fn := fun _ => fun
  | [d1, d2] => { results := [.lit (.bool true)], args := [d1, d2] }
  | _ => none }
def fnExactApplyEditRow : OpenClaim := { program := "ytioelmhikablcaa", sum := "b178d4e9062833e2d0c86dfe986bab28b1bc887da50c9d68f8ce67de6674997b", func := "loop.example/g00224/laws.FnExactApplyEdit", spec := "fnExactApplyEdit", unfollowed := true, recurses := true, apart := false }
def FnExactApplyEditSaid : Prop := fnExactApplyEditRow.holds Try.pinned (OpenSpec.ofChange fnExactApplyEditSpec)

/-- ITS FALSE NEIGHBOUR: 'it returns false'. Refute it at one input. -/
def fnExactApplyEditWrong : ChangeSpec := { name := "fnExactApplyEdit", fn := fun _ => fun
  | [d1, d2] => { results := [.lit (.bool false)], args := [d1, d2] }
  | _ => none }
def FnExactApplyEditWrongFalsely : Prop := fnExactApplyEditRow.holds Try.pinned (OpenSpec.ofChange fnExactApplyEditWrong)

/-- 'laws.FnVersions': WHATEVER THE INPUT: true; the input reads as it did. -/
def fnVersionsSpec : ChangeSpec := { name := "fnVersions", fn := fun _ => fun
  | [d1, d2] => { results := [.lit (.bool true)], args := [d1, d2] }
  | _ => none }
def fnVersionsRow : OpenClaim := { program := "ytioelmhikablcaa", sum := "b178d4e9062833e2d0c86dfe986bab28b1bc887da50c9d68f8ce67de6674997b", func := "loop.example/g00224/laws.FnVersions", spec := "fnVersions", unfollowed := true, recurses := true, apart := false }
def FnVersionsSaid : Prop := fnVersionsRow.holds Try.pinned (OpenSpec.ofChange fnVersionsSpec)

/-- ITS FALSE NEIGHBOUR: 'it returns false'. Refute it at one input. -/
def fnVersionsWrong : ChangeSpec := { name := "fnVersions", fn := fun _ => fun
  | [d1, d2] => { results := [.lit (.bool false)], args := [d1, d2] }
  | _ => none }
def FnVersionsWrongFalsely : Prop := fnVersionsRow.holds Try.pinned (OpenSpec.ofChange fnVersionsWrong)

/-- 'laws.FnExactNewEngine': WHATEVER THE INPUT: true; the input reads as it did. -/
def fnExactNewEngineSpec : ChangeSpec := { name := "fnExactNewEngine", fn := fun _ => fun
  | [] => { results := [.lit (.bool true)], args := [] }
  | _ => none }
def fnExactNewEngineRow : OpenClaim := { program := "ytioelmhikablcaa", sum := "b178d4e9062833e2d0c86dfe986bab28b1bc887da50c9d68f8ce67de6674997b", func := "loop.example/g00224/laws.FnExactNewEngine", spec := "fnExactNewEngine", apart := false }
def FnExactNewEngineSaid : Prop := fnExactNewEngineRow.holds Try.pinned (OpenSpec.ofChange fnExactNewEngineSpec)

/-- ITS FALSE NEIGHBOUR: 'it returns false'. Refute it at one input. -/
def fnExactNewEngineWrong : ChangeSpec := { name := "fnExactNewEngine", fn := fun _ => fun
  | [] => { results := [.lit (.bool false)], args := [] }
  | _ => none }
def FnExactNewEngineWrongFalsely : Prop := fnExactNewEngineRow.holds Try.pinned (OpenSpec.ofChange fnExactNewEngineWrong)

/- THE SECOND FORM. 'bulk': how many values and letters a reading holds, each counted each time it is reached (what is shared counts as often as it is met; a slice's spare places count too). A statement '..UptoSaid' is the law's where the arguments, and the package variables that the reading takes, are together of bulk at most 1048576: NARROWER than '..Said'. Prove '..Said' where nothing that the law and all that it calls make is longer than what came in: it says more and counts as full. Else prove '..UptoSaid'. A law counts once. -/
mutual
def uptoBulk {H : Type} : DataW H → Nat
  | .lit (.string bytes) => bytes.length + 1
  | .lit _ => 1
  | .nil => 1
  | .ptr d => uptoBulk d + 1
  | .slice elems spare => uptoBulkAll elems + uptoBulkAll spare + 1
  | .agg parts => uptoBulkAll parts + 1
  | .iface _ d => uptoBulk d + 1
  | .map entries => uptoBulkEntries entries + 1
  | .held _ => 1
def uptoBulkAll {H : Type} : List (DataW H) → Nat
  | [] => 0
  | d :: r => uptoBulk d + uptoBulkAll r
def uptoBulkEntries {H : Type} : List (Lit × DataW H) → Nat
  | [] => 0
  | x :: r => uptoBulkEntry x + uptoBulkEntries r
def uptoBulkEntry {H : Type} : Lit × DataW H → Nat
  | (.string bytes, d) => bytes.length + uptoBulk d + 1
  | (_, d) => uptoBulk d + 1
 end
def uptoSmall : (H : Type) → List (DataW H) → Bool := fun _ ds => decide (uptoBulkAll ds ≤ 1048576)
def OpenSpec.upto (s : _root_.Go.ChangeSpec) : _root_.Go.OpenSpec := { _root_.Go.OpenSpec.ofChange s with cond := some uptoSmall }

/-- 'laws.FnExactFinishTaking', WHERE WHAT IT READS IS OF BULK AT MOST 1048576: true; the input reads as it did. -/
def fnExactFinishTakingUptoRow : OpenClaim := { program := "ytioelmhikablcaa", sum := "b178d4e9062833e2d0c86dfe986bab28b1bc887da50c9d68f8ce67de6674997b", func := "loop.example/g00224/laws.FnExactFinishTaking", spec := "fnExactFinishTaking", unfollowed := true, recurses := true, apart := false, narrowed := true }
def FnExactFinishTakingUptoSaid : Prop := fnExactFinishTakingUptoRow.holds Try.pinned (OpenSpec.upto fnExactFinishTakingSpec)

/-- 'laws.FnExactTakeChunk', WHERE WHAT IT READS IS OF BULK AT MOST 1048576: true; the input reads as it did. -/
def fnExactTakeChunkUptoRow : OpenClaim := { program := "ytioelmhikablcaa", sum := "b178d4e9062833e2d0c86dfe986bab28b1bc887da50c9d68f8ce67de6674997b", func := "loop.example/g00224/laws.FnExactTakeChunk", spec := "fnExactTakeChunk", inPlace := ["slices.overlaps[loop.example/g00224/impl.Chunk]"], unfollowed := true, recurses := true, apart := false, narrowed := true }
def FnExactTakeChunkUptoSaid : Prop := fnExactTakeChunkUptoRow.holds Try.pinned (OpenSpec.upto fnExactTakeChunkSpec)

/-- 'laws.FnExactPlayTaking', WHERE WHAT IT READS IS OF BULK AT MOST 1048576: true; the input reads as it did. -/
def fnExactPlayTakingUptoRow : OpenClaim := { program := "ytioelmhikablcaa", sum := "b178d4e9062833e2d0c86dfe986bab28b1bc887da50c9d68f8ce67de6674997b", func := "loop.example/g00224/laws.FnExactPlayTaking", spec := "fnExactPlayTaking", inPlace := ["slices.overlaps[loop.example/g00224/impl.Chunk]"], unfollowed := true, recurses := true, apart := false, narrowed := true }
def FnExactPlayTakingUptoSaid : Prop := fnExactPlayTakingUptoRow.holds Try.pinned (OpenSpec.upto fnExactPlayTakingSpec)

/-- 'laws.FnExactCommandBytes', WHERE WHAT IT READS IS OF BULK AT MOST 1048576: true; the input reads as it did. -/
def fnExactCommandBytesUptoRow : OpenClaim := { program := "ytioelmhikablcaa", sum := "b178d4e9062833e2d0c86dfe986bab28b1bc887da50c9d68f8ce67de6674997b", func := "loop.example/g00224/laws.FnExactCommandBytes", spec := "fnExactCommandBytes", apart := false, narrowed := true }
def FnExactCommandBytesUptoSaid : Prop := fnExactCommandBytesUptoRow.holds Try.pinned (OpenSpec.upto fnExactCommandBytesSpec)

/-- 'laws.FnWal', WHERE WHAT IT READS IS OF BULK AT MOST 1048576: true; the input reads as it did. -/
def fnWalUptoRow : OpenClaim := { program := "ytioelmhikablcaa", sum := "b178d4e9062833e2d0c86dfe986bab28b1bc887da50c9d68f8ce67de6674997b", func := "loop.example/g00224/laws.FnWal", spec := "fnWal", apart := false, narrowed := true }
def FnWalUptoSaid : Prop := fnWalUptoRow.holds Try.pinned (OpenSpec.upto fnWalSpec)

/-- 'laws.FnExactEditBytes', WHERE WHAT IT READS IS OF BULK AT MOST 1048576: true; the input reads as it did. -/
def fnExactEditBytesUptoRow : OpenClaim := { program := "ytioelmhikablcaa", sum := "b178d4e9062833e2d0c86dfe986bab28b1bc887da50c9d68f8ce67de6674997b", func := "loop.example/g00224/laws.FnExactEditBytes", spec := "fnExactEditBytes", apart := false, narrowed := true }
def FnExactEditBytesUptoSaid : Prop := fnExactEditBytesUptoRow.holds Try.pinned (OpenSpec.upto fnExactEditBytesSpec)

/-- 'laws.FnExactEditBetween', WHERE WHAT IT READS IS OF BULK AT MOST 1048576: true; the input reads as it did. -/
def fnExactEditBetweenUptoRow : OpenClaim := { program := "ytioelmhikablcaa", sum := "b178d4e9062833e2d0c86dfe986bab28b1bc887da50c9d68f8ce67de6674997b", func := "loop.example/g00224/laws.FnExactEditBetween", spec := "fnExactEditBetween", unfollowed := true, recurses := true, apart := false, narrowed := true }
def FnExactEditBetweenUptoSaid : Prop := fnExactEditBetweenUptoRow.holds Try.pinned (OpenSpec.upto fnExactEditBetweenSpec)

/-- 'laws.FnExactApplyEdit', WHERE WHAT IT READS IS OF BULK AT MOST 1048576: true; the input reads as it did. -/
def fnExactApplyEditUptoRow : OpenClaim := { program := "ytioelmhikablcaa", sum := "b178d4e9062833e2d0c86dfe986bab28b1bc887da50c9d68f8ce67de6674997b", func := "loop.example/g00224/laws.FnExactApplyEdit", spec := "fnExactApplyEdit", unfollowed := true, recurses := true, apart := false, narrowed := true }
def FnExactApplyEditUptoSaid : Prop := fnExactApplyEditUptoRow.holds Try.pinned (OpenSpec.upto fnExactApplyEditSpec)

/-- 'laws.FnVersions', WHERE WHAT IT READS IS OF BULK AT MOST 1048576: true; the input reads as it did. -/
def fnVersionsUptoRow : OpenClaim := { program := "ytioelmhikablcaa", sum := "b178d4e9062833e2d0c86dfe986bab28b1bc887da50c9d68f8ce67de6674997b", func := "loop.example/g00224/laws.FnVersions", spec := "fnVersions", unfollowed := true, recurses := true, apart := false, narrowed := true }
def FnVersionsUptoSaid : Prop := fnVersionsUptoRow.holds Try.pinned (OpenSpec.upto fnVersionsSpec)

/-- 'laws.FnExactNewEngine', WHERE WHAT IT READS IS OF BULK AT MOST 1048576: true; the input reads as it did. -/
def fnExactNewEngineUptoRow : OpenClaim := { program := "ytioelmhikablcaa", sum := "b178d4e9062833e2d0c86dfe986bab28b1bc887da50c9d68f8ce67de6674997b", func := "loop.example/g00224/laws.FnExactNewEngine", spec := "fnExactNewEngine", apart := false, narrowed := true }
def FnExactNewEngineUptoSaid : Prop := fnExactNewEngineUptoRow.holds Try.pinned (OpenSpec.upto fnExactNewEngineSpec)

end Rows
end Go.Proofs.Ytioelmhikablcaa
