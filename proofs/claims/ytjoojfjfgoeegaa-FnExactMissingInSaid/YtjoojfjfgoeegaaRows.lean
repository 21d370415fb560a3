/-
  No cell of these rows narrows 'for every input' (looked for: loops, veiled, ifaces, maps, wideKeys, modest, calm, conditions, laid).
  DERIVED. THE GIVEN ROWS OF THIS SEAT. 9 by the template 'for every input the law returns true; each argument reads behind the call as it read before'; 0 by the template 'total and deterministic' (their statements: YtjoojfjfgoeegaaTotals.lean).
  GIVEN WITH THE SEED: the statements are not yours to turn. If you find one false, say at which input.
  Laid BY PROGRAM, IN A SANDBOX (cutbox-rows.mjs): the forced cells as the released guide's own fill.sh prints them over the translation f827e48f140d9cef… (all of the seat's roots in one cut). By AI agents, Wed Nov 11 2026. No macro, syntax, notation, axiom, sorry.
-/
import Derived.Test.YtjoojfjfgoeegaaChecked
import GoSem.Claim
import GoSem.ClaimJoined
import GoSem.ClaimMapViews
import Derived.JoinedTies
import Derived.KernelRfl
namespace Go.Proofs.Ytjoojfjfgoeegaa
/- THE CELL 'sum', in the pinned program and in every row, IS THE sha256 OF THE DUMP (.gsa) THAT YtjoojfjfgoeegaaProg.lean LOADS. Nothing in Lean hashes anything: it is a label: what it is worth is what the hold of that sum in a sandbox is worth. -/
noncomputable def Try.pinned : Pinned := { name := "ytjoojfjfgoeegaa", sum := "f827e48f140d9cef4b0c7f9b679917ca7dec360e415030057195718a895ad6c3", checked := Try.checked }
namespace Rows
def none {H : Type} : Left H := { results := [], args := [] }

/-- 'laws.FnExactChunkSum': WHATEVER THE INPUT: true; the input reads as it did. -/
def fnExactChunkSumSpec : ChangeSpec := { name := "fnExactChunkSum", fn := fun _ => fun
  | [d1, d2, d3] => { results := [.lit (.bool true)], args := [d1, d2, d3] }
  | _ => none }
def fnExactChunkSumRow : OpenClaim := { program := "ytjoojfjfgoeegaa", sum := "f827e48f140d9cef4b0c7f9b679917ca7dec360e415030057195718a895ad6c3", func := "loop.example/g00224/laws.FnExactChunkSum", spec := "fnExactChunkSum", apart := false }
def FnExactChunkSumSaid : Prop := fnExactChunkSumRow.holds Try.pinned (OpenSpec.ofChange fnExactChunkSumSpec)

/-- ITS FALSE NEIGHBOUR: 'it returns false'. Refute it at one input. -/
def fnExactChunkSumWrong : ChangeSpec := { name := "fnExactChunkSum", fn := fun _ => fun
  | [d1, d2, d3] => { results := [.lit (.bool false)], args := [d1, d2, d3] }
  | _ => none }
def FnExactChunkSumWrongFalsely : Prop := fnExactChunkSumRow.holds Try.pinned (OpenSpec.ofChange fnExactChunkSumWrong)

/-- 'laws.FnExactWantOf': WHATEVER THE INPUT: true; the input reads as it did. -/
def fnExactWantOfSpec : ChangeSpec := { name := "fnExactWantOf", fn := fun _ => fun
  | [d] => { results := [.lit (.bool true)], args := [d] }
  | _ => none }
def fnExactWantOfRow : OpenClaim := { program := "ytjoojfjfgoeegaa", sum := "f827e48f140d9cef4b0c7f9b679917ca7dec360e415030057195718a895ad6c3", func := "loop.example/g00224/laws.FnExactWantOf", spec := "fnExactWantOf", unfollowed := true, recurses := true, apart := false }
def FnExactWantOfSaid : Prop := fnExactWantOfRow.holds Try.pinned (OpenSpec.ofChange fnExactWantOfSpec)

/-- ITS FALSE NEIGHBOUR: 'it returns false'. Refute it at one input. -/
def fnExactWantOfWrong : ChangeSpec := { name := "fnExactWantOf", fn := fun _ => fun
  | [d] => { results := [.lit (.bool false)], args := [d] }
  | _ => none }
def FnExactWantOfWrongFalsely : Prop := fnExactWantOfRow.holds Try.pinned (OpenSpec.ofChange fnExactWantOfWrong)

/-- 'laws.FnExactNewTaking': WHATEVER THE INPUT: true; the input reads as it did. -/
def fnExactNewTakingSpec : ChangeSpec := { name := "fnExactNewTaking", fn := fun _ => fun
  | [d] => { results := [.lit (.bool true)], args := [d] }
  | _ => none }
def fnExactNewTakingRow : OpenClaim := { program := "ytjoojfjfgoeegaa", sum := "f827e48f140d9cef4b0c7f9b679917ca7dec360e415030057195718a895ad6c3", func := "loop.example/g00224/laws.FnExactNewTaking", spec := "fnExactNewTaking", unfollowed := true, recurses := true, apart := false }
def FnExactNewTakingSaid : Prop := fnExactNewTakingRow.holds Try.pinned (OpenSpec.ofChange fnExactNewTakingSpec)

/-- ITS FALSE NEIGHBOUR: 'it returns false'. Refute it at one input. -/
def fnExactNewTakingWrong : ChangeSpec := { name := "fnExactNewTaking", fn := fun _ => fun
  | [d] => { results := [.lit (.bool false)], args := [d] }
  | _ => none }
def FnExactNewTakingWrongFalsely : Prop := fnExactNewTakingRow.holds Try.pinned (OpenSpec.ofChange fnExactNewTakingWrong)

/-- 'laws.FnExactChunksOf': WHATEVER THE INPUT: true; the input reads as it did. -/
def fnExactChunksOfSpec : ChangeSpec := { name := "fnExactChunksOf", fn := fun _ => fun
  | [d] => { results := [.lit (.bool true)], args := [d] }
  | _ => none }
def fnExactChunksOfRow : OpenClaim := { program := "ytjoojfjfgoeegaa", sum := "f827e48f140d9cef4b0c7f9b679917ca7dec360e415030057195718a895ad6c3", func := "loop.example/g00224/laws.FnExactChunksOf", spec := "fnExactChunksOf", unfollowed := true, recurses := true, apart := false }
def FnExactChunksOfSaid : Prop := fnExactChunksOfRow.holds Try.pinned (OpenSpec.ofChange fnExactChunksOfSpec)

/-- ITS FALSE NEIGHBOUR: 'it returns false'. Refute it at one input. -/
def fnExactChunksOfWrong : ChangeSpec := { name := "fnExactChunksOf", fn := fun _ => fun
  | [d] => { results := [.lit (.bool false)], args := [d] }
  | _ => none }
def FnExactChunksOfWrongFalsely : Prop := fnExactChunksOfRow.holds Try.pinned (OpenSpec.ofChange fnExactChunksOfWrong)

/-- 'laws.FnExactGoodTaking': WHATEVER THE INPUT: true; the input reads as it did. -/
def fnExactGoodTakingSpec : ChangeSpec := { name := "fnExactGoodTaking", fn := fun _ => fun
  | [d] => { results := [.lit (.bool true)], args := [d] }
  | _ => none }
def fnExactGoodTakingRow : OpenClaim := { program := "ytjoojfjfgoeegaa", sum := "f827e48f140d9cef4b0c7f9b679917ca7dec360e415030057195718a895ad6c3", func := "loop.example/g00224/laws.FnExactGoodTaking", spec := "fnExactGoodTaking", unfollowed := true, recurses := true, apart := false }
def FnExactGoodTakingSaid : Prop := fnExactGoodTakingRow.holds Try.pinned (OpenSpec.ofChange fnExactGoodTakingSpec)

/-- ITS FALSE NEIGHBOUR: 'it returns false'. Refute it at one input. -/
def fnExactGoodTakingWrong : ChangeSpec := { name := "fnExactGoodTaking", fn := fun _ => fun
  | [d] => { results := [.lit (.bool false)], args := [d] }
  | _ => none }
def FnExactGoodTakingWrongFalsely : Prop := fnExactGoodTakingRow.holds Try.pinned (OpenSpec.ofChange fnExactGoodTakingWrong)

/-- 'laws.FnExactMissingIn': WHATEVER THE INPUT: true; the input reads as it did. -/
def fnExactMissingInSpec : ChangeSpec := { name := "fnExactMissingIn", fn := fun _ => fun
  | [d] => { results := [.lit (.bool true)], args := [d] }
  | _ => none }
def fnExactMissingInRow : OpenClaim := { program := "ytjoojfjfgoeegaa", sum := "f827e48f140d9cef4b0c7f9b679917ca7dec360e415030057195718a895ad6c3", func := "loop.example/g00224/laws.FnExactMissingIn", spec := "fnExactMissingIn", unfollowed := true, recurses := true, apart := false }
def FnExactMissingInSaid : Prop := fnExactMissingInRow.holds Try.pinned (OpenSpec.ofChange fnExactMissingInSpec)

/-- ITS FALSE NEIGHBOUR: 'it returns false'. Refute it at one input. -/
def fnExactMissingInWrong : ChangeSpec := { name := "fnExactMissingIn", fn := fun _ => fun
  | [d] => { results := [.lit (.bool false)], args := [d] }
  | _ => none }
def FnExactMissingInWrongFalsely : Prop := fnExactMissingInRow.holds Try.pinned (OpenSpec.ofChange fnExactMissingInWrong)

/-- 'laws.FnExactFinishTaking': WHATEVER THE INPUT: true; the input reads as it did. -/
def fnExactFinishTakingSpec : ChangeSpec := { name := "fnExactFinishTaking", fn := fun _ => fun
  | [d] => { results := [.lit (.bool true)], args := [d] }
  | _ => none }
def fnExactFinishTakingRow : OpenClaim := { program := "ytjoojfjfgoeegaa", sum := "f827e48f140d9cef4b0c7f9b679917ca7dec360e415030057195718a895ad6c3", func := "loop.example/g00224/laws.FnExactFinishTaking", spec := "fnExactFinishTaking", unfollowed := true, recurses := true, apart := false }
def FnExactFinishTakingSaid : Prop := fnExactFinishTakingRow.holds Try.pinned (OpenSpec.ofChange fnExactFinishTakingSpec)

/-- ITS FALSE NEIGHBOUR: 'it returns false'. Refute it at one input. -/
def fnExactFinishTakingWrong : ChangeSpec := { name := "fnExactFinishTaking", fn := fun _ => fun
  | [d] => { results := [.lit (.bool false)], args := [d] }
  | _ => none }
def FnExactFinishTakingWrongFalsely : Prop := fnExactFinishTakingRow.holds Try.pinned (OpenSpec.ofChange fnExactFinishTakingWrong)

/-- 'laws.FnExactTakeChunk': WHATEVER THE INPUT: true; the input reads as it did. -/
def fnExactTakeChunkSpec : ChangeSpec := { name := "fnExactTakeChunk", fn := fun _ => fun
  | [d1, d2] => { results := [.lit (.bool true)], args := [d1, d2] }
  | _ => none }
def fnExactTakeChunkRow : OpenClaim := { program := "ytjoojfjfgoeegaa", sum := "f827e48f140d9cef4b0c7f9b679917ca7dec360e415030057195718a895ad6c3", func := "loop.example/g00224/laws.FnExactTakeChunk", spec := "fnExactTakeChunk", inPlace := ["slices.overlaps[loop.example/g00224/impl.Chunk]"], unfollowed := true, recurses := true, apart := false }
def FnExactTakeChunkSaid : Prop := fnExactTakeChunkRow.holds Try.pinned (OpenSpec.ofChange fnExactTakeChunkSpec)

/-- ITS FALSE NEIGHBOUR: 'it returns false'. Refute it at one input. -/
def fnExactTakeChunkWrong : ChangeSpec := { name := "fnExactTakeChunk", fn := fun _ => fun
  | [d1, d2] => { results := [.lit (.bool false)], args := [d1, d2] }
  | _ => none }
def FnExactTakeChunkWrongFalsely : Prop := fnExactTakeChunkRow.holds Try.pinned (OpenSpec.ofChange fnExactTakeChunkWrong)

/-- 'laws.FnExactPlayTaking': WHATEVER THE INPUT: true; the input reads as it did. -/
def fnExactPlayTakingSpec : ChangeSpec := { name := "fnExactPlayTaking", fn := fun _ => fun
  | [d1, d2, d3] => { results := [.lit (.bool true)], args := [d1, d2, d3] }
  | _ => none }
def fnExactPlayTakingRow : OpenClaim := { program := "ytjoojfjfgoeegaa", sum := "f827e48f140d9cef4b0c7f9b679917ca7dec360e415030057195718a895ad6c3", func := "loop.example/g00224/laws.FnExactPlayTaking", spec := "fnExactPlayTaking", inPlace := ["slices.overlaps[loop.example/g00224/impl.Chunk]"], unfollowed := true, recurses := true, apart := false }
def FnExactPlayTakingSaid : Prop := fnExactPlayTakingRow.holds Try.pinned (OpenSpec.ofChange fnExactPlayTakingSpec)

/-- ITS FALSE NEIGHBOUR: 'it returns false'. Refute it at one input. -/
def fnExactPlayTakingWrong : ChangeSpec := { name := "fnExactPlayTaking", fn := fun _ => fun
  | [d1, d2, d3] => { results := [.lit (.bool false)], args := [d1, d2, d3] }
  | _ => none }
def FnExactPlayTakingWrongFalsely : Prop := fnExactPlayTakingRow.holds Try.pinned (OpenSpec.ofChange fnExactPlayTakingWrong)

/- THE SECOND FORM. 'bulk': how many values and letters a reading holds, each counted each time it is reached (what is shared counts as often as it is met; a slice's spare places count too). A statement '..UptoSaid' is the law's where the arguments, and the package variables that the reading takes, are together of bulk at most 1048576: NARROWER than '..Said'. Prove '..Said' where nothing that the law and all that it calls make is longer than what came in: it says more and counts as full. Else prove '..UptoSaid'. A law counts once. -/
mutual
def uptoBulk {H : Type} : DataW H → Nat
  | .lit (.string bytes) => bytes.length + 1
  | .lit _ => 1
  | .nil => 1
  | .ptr d => uptoBulk d + 1
  | .slice elems spare => uptoBulkAll elems + uptoBulkAll spare + 1
  | .agg parts => uptoBulkAll parts + 1
  | .iface _ d => uptoBulk d + 1
  | .map entries => uptoBulkEntries entries + 1
  | .held _ => 1
def uptoBulkAll {H : Type} : List (DataW H) → Nat
  | [] => 0
  | d :: r => uptoBulk d + uptoBulkAll r
def uptoBulkEntries {H : Type} : List (Lit × DataW H) → Nat
  | [] => 0
  | x :: r => uptoBulkEntry x + uptoBulkEntries r
def uptoBulkEntry {H : Type} : Lit × DataW H → Nat
  | (.string bytes, d) => bytes.length + uptoBulk d + 1
  | (_, d) => uptoBulk d + 1
 end
def uptoSmall : (H : Type) → List (DataW H) → Bool := fun _ ds => decide (uptoBulkAll ds ≤ 1048576)
def OpenSpec.upto (s : _root_.Go.ChangeSpec) : _root_.Go.OpenSpec := { _root_.Go.OpenSpec.ofChange s with cond := some uptoSmall }

/-- 'laws.FnExactChunkSum', WHERE WHAT IT READS IS OF BULK AT MOST 1048576: true; the input reads as it did. -/
def fnExactChunkSumUptoRow : OpenClaim := { program := "ytjoojfjfgoeegaa", sum := "f827e48f140d9cef4b0c7f9b679917ca7dec360e415030057195718a895ad6c3", func := "loop.example/g00224/laws.FnExactChunkSum", spec := "fnExactChunkSum", apart := false, narrowed := true }
def FnExactChunkSumUptoSaid : Prop := fnExactChunkSumUptoRow.holds Try.pinned (OpenSpec.upto fnExactChunkSumSpec)

/-- 'laws.FnExactWantOf', WHERE WHAT IT READS IS OF BULK AT MOST 1048576: true; the input reads as it did. -/
def fnExactWantOfUptoRow : OpenClaim := { program := "ytjoojfjfgoeegaa", sum := "f827e48f140d9cef4b0c7f9b679917ca7dec360e415030057195718a895ad6c3", func := "loop.example/g00224/laws.FnExactWantOf", spec := "fnExactWantOf", unfollowed := true, recurses := true, apart := false, narrowed := true }
def FnExactWantOfUptoSaid : Prop := fnExactWantOfUptoRow.holds Try.pinned (OpenSpec.upto fnExactWantOfSpec)

/-- 'laws.FnExactNewTaking', WHERE WHAT IT READS IS OF BULK AT MOST 1048576: true; the input reads as it did. -/
def fnExactNewTakingUptoRow : OpenClaim := { program := "ytjoojfjfgoeegaa", sum := "f827e48f140d9cef4b0c7f9b679917ca7dec360e415030057195718a895ad6c3", func := "loop.example/g00224/laws.FnExactNewTaking", spec := "fnExactNewTaking", unfollowed := true, recurses := true, apart := false, narrowed := true }
def FnExactNewTakingUptoSaid : Prop := fnExactNewTakingUptoRow.holds Try.pinned (OpenSpec.upto fnExactNewTakingSpec)

/-- 'laws.FnExactChunksOf', WHERE WHAT IT READS IS OF BULK AT MOST 1048576: true; the input reads as it did. -/
def fnExactChunksOfUptoRow : OpenClaim := { program := "ytjoojfjfgoeegaa", sum := "f827e48f140d9cef4b0c7f9b679917ca7dec360e415030057195718a895ad6c3", func := "loop.example/g00224/laws.FnExactChunksOf", spec := "fnExactChunksOf", unfollowed := true, recurses := true, apart := false, narrowed := true }
def FnExactChunksOfUptoSaid : Prop := fnExactChunksOfUptoRow.holds Try.pinned (OpenSpec.upto fnExactChunksOfSpec)

/-- 'laws.FnExactGoodTaking', WHERE WHAT IT READS IS OF BULK AT MOST 1048576: true; the input reads as it did. -/
def fnExactGoodTakingUptoRow : OpenClaim := { program := "ytjoojfjfgoeegaa", sum := "f827e48f140d9cef4b0c7f9b679917ca7dec360e415030057195718a895ad6c3", func := "loop.example/g00224/laws.FnExactGoodTaking", spec := "fnExactGoodTaking", unfollowed := true, recurses := true, apart := false, narrowed := true }
def FnExactGoodTakingUptoSaid : Prop := fnExactGoodTakingUptoRow.holds Try.pinned (OpenSpec.upto fnExactGoodTakingSpec)

/-- 'laws.FnExactMissingIn', WHERE WHAT IT READS IS OF BULK AT MOST 1048576: true; the input reads as it did. -/
def fnExactMissingInUptoRow : OpenClaim := { program := "ytjoojfjfgoeegaa", sum := "f827e48f140d9cef4b0c7f9b679917ca7dec360e415030057195718a895ad6c3", func := "loop.example/g00224/laws.FnExactMissingIn", spec := "fnExactMissingIn", unfollowed := true, recurses := true, apart := false, narrowed := true }
def FnExactMissingInUptoSaid : Prop := fnExactMissingInUptoRow.holds Try.pinned (OpenSpec.upto fnExactMissingInSpec)

/-- 'laws.FnExactFinishTaking', WHERE WHAT IT READS IS OF BULK AT MOST 1048576: true; the input reads as it did. -/
def fnExactFinishTakingUptoRow : OpenClaim := { program := "ytjoojfjfgoeegaa", sum := "f827e48f140d9cef4b0c7f9b679917ca7dec360e415030057195718a895ad6c3", func := "loop.example/g00224/laws.FnExactFinishTaking", spec := "fnExactFinishTaking", unfollowed := true, recurses := true, apart := false, narrowed := true }
def FnExactFinishTakingUptoSaid : Prop := fnExactFinishTakingUptoRow.holds Try.pinned (OpenSpec.upto fnExactFinishTakingSpec)

/-- 'laws.FnExactTakeChunk', WHERE WHAT IT READS IS OF BULK AT MOST 1048576: true; the input reads as it did. -/
def fnExactTakeChunkUptoRow : OpenClaim := { program := "ytjoojfjfgoeegaa", sum := "f827e48f140d9cef4b0c7f9b679917ca7dec360e415030057195718a895ad6c3", func := "loop.example/g00224/laws.FnExactTakeChunk", spec := "fnExactTakeChunk", inPlace := ["slices.overlaps[loop.example/g00224/impl.Chunk]"], unfollowed := true, recurses := true, apart := false, narrowed := true }
def FnExactTakeChunkUptoSaid : Prop := fnExactTakeChunkUptoRow.holds Try.pinned (OpenSpec.upto fnExactTakeChunkSpec)

/-- 'laws.FnExactPlayTaking', WHERE WHAT IT READS IS OF BULK AT MOST 1048576: true; the input reads as it did. -/
def fnExactPlayTakingUptoRow : OpenClaim := { program := "ytjoojfjfgoeegaa", sum := "f827e48f140d9cef4b0c7f9b679917ca7dec360e415030057195718a895ad6c3", func := "loop.example/g00224/laws.FnExactPlayTaking", spec := "fnExactPlayTaking", inPlace := ["slices.overlaps[loop.example/g00224/impl.Chunk]"], unfollowed := true, recurses := true, apart := false, narrowed := true }
def FnExactPlayTakingUptoSaid : Prop := fnExactPlayTakingUptoRow.holds Try.pinned (OpenSpec.upto fnExactPlayTakingSpec)

end Rows
end Go.Proofs.Ytjoojfjfgoeegaa
