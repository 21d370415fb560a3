/-
  No cell of these rows narrows 'for every input' (looked for: loops, veiled, ifaces, maps, wideKeys, modest, calm, conditions, laid).
  DERIVED. THE GIVEN ROWS OF THIS SEAT. 9 by the template 'for every input the law returns true; each argument reads behind the call as it read before'; 0 by the template 'total and deterministic' (their statements: YtfcodelfgjnkhaaTotals.lean).
  GIVEN WITH THE SEED: the statements are not yours to turn. If you find one false, say at which input.
  Laid BY PROGRAM, IN A SANDBOX (cutbox-rows.mjs): the forced cells as the released guide's own fill.sh prints them over the translation 72aed0b9064961ab… (all of the seat's roots in one cut). By AI agents, Wed Nov 11 2026. No macro, syntax, notation, axiom, sorry.
-/
import Derived.Test.YtfcodelfgjnkhaaChecked
import GoSem.Claim
import GoSem.ClaimJoined
import GoSem.ClaimMapViews
import Derived.JoinedTies
import Derived.KernelRfl
namespace Go.Proofs.Ytfcodelfgjnkhaa
/- THE CELL 'sum', in the pinned program and in every row, IS THE sha256 OF THE DUMP (.gsa) THAT YtfcodelfgjnkhaaProg.lean LOADS. Nothing in Lean hashes anything: it is a label: what it is worth is what the hold of that sum in a sandbox is worth. -/
noncomputable def Try.pinned : Pinned := { name := "ytfcodelfgjnkhaa", sum := "72aed0b9064961ab5adb19cf73764f61d519634869dbd7afe57dd58a4c8485d7", checked := Try.checked }
namespace Rows
def none {H : Type} : Left H := { results := [], args := [] }

/-- 'laws.FnExactCutWal': WHATEVER THE INPUT: true; the input reads as it did. -/
def fnExactCutWalSpec : ChangeSpec := { name := "fnExactCutWal", fn := fun _ => fun
  | [d1, d2] => { results := [.lit (.bool true)], args := [d1, d2] }
  | _ => none }
def fnExactCutWalRow : OpenClaim := { program := "ytfcodelfgjnkhaa", sum := "72aed0b9064961ab5adb19cf73764f61d519634869dbd7afe57dd58a4c8485d7", func := "loop.example/g00224/laws.FnExactCutWal", spec := "fnExactCutWal", apart := false }
def FnExactCutWalSaid : Prop := fnExactCutWalRow.holds Try.pinned (OpenSpec.ofChange fnExactCutWalSpec)

/-- ITS FALSE NEIGHBOUR: 'it returns false'. Refute it at one input. -/
def fnExactCutWalWrong : ChangeSpec := { name := "fnExactCutWal", fn := fun _ => fun
  | [d1, d2] => { results := [.lit (.bool false)], args := [d1, d2] }
  | _ => none }
def FnExactCutWalWrongFalsely : Prop := fnExactCutWalRow.holds Try.pinned (OpenSpec.ofChange fnExactCutWalWrong)

/-- 'laws.FnExactAppendWal': WHATEVER THE INPUT: true; the input reads as it did. -/
def fnExactAppendWalSpec : ChangeSpec := { name := "fnExactAppendWal", fn := fun _ => fun
  | [d1, d2] => { results := [.lit (.bool true)], args := [d1, d2] }
  | _ => none }
def fnExactAppendWalRow : OpenClaim := { program := "ytfcodelfgjnkhaa", sum := "72aed0b9064961ab5adb19cf73764f61d519634869dbd7afe57dd58a4c8485d7", func := "loop.example/g00224/laws.FnExactAppendWal", spec := "fnExactAppendWal", apart := false }
def FnExactAppendWalSaid : Prop := fnExactAppendWalRow.holds Try.pinned (OpenSpec.ofChange fnExactAppendWalSpec)

/-- ITS FALSE NEIGHBOUR: 'it returns false'. Refute it at one input. -/
def fnExactAppendWalWrong : ChangeSpec := { name := "fnExactAppendWal", fn := fun _ => fun
  | [d1, d2] => { results := [.lit (.bool false)], args := [d1, d2] }
  | _ => none }
def FnExactAppendWalWrongFalsely : Prop := fnExactAppendWalRow.holds Try.pinned (OpenSpec.ofChange fnExactAppendWalWrong)

/-- 'laws.FnExactDropWal': WHATEVER THE INPUT: true; the input reads as it did. -/
def fnExactDropWalSpec : ChangeSpec := { name := "fnExactDropWal", fn := fun _ => fun
  | [d1, d2] => { results := [.lit (.bool true)], args := [d1, d2] }
  | _ => none }
def fnExactDropWalRow : OpenClaim := { program := "ytfcodelfgjnkhaa", sum := "72aed0b9064961ab5adb19cf73764f61d519634869dbd7afe57dd58a4c8485d7", func := "loop.example/g00224/laws.FnExactDropWal", spec := "fnExactDropWal", apart := false }
def FnExactDropWalSaid : Prop := fnExactDropWalRow.holds Try.pinned (OpenSpec.ofChange fnExactDropWalSpec)

/-- ITS FALSE NEIGHBOUR: 'it returns false'. Refute it at one input. -/
def fnExactDropWalWrong : ChangeSpec := { name := "fnExactDropWal", fn := fun _ => fun
  | [d1, d2] => { results := [.lit (.bool false)], args := [d1, d2] }
  | _ => none }
def FnExactDropWalWrongFalsely : Prop := fnExactDropWalRow.holds Try.pinned (OpenSpec.ofChange fnExactDropWalWrong)

/-- 'laws.FnWal': WHATEVER THE INPUT: true; the input reads as it did. -/
def fnWalSpec : ChangeSpec := { name := "fnWal", fn := fun _ => fun
  | [d1, d2] => { results := [.lit (.bool true)], args := [d1, d2] }
  | _ => none }
def fnWalRow : OpenClaim := { program := "ytfcodelfgjnkhaa", sum := "72aed0b9064961ab5adb19cf73764f61d519634869dbd7afe57dd58a4c8485d7", func := "loop.example/g00224/laws.FnWal", spec := "fnWal", apart := false }
def FnWalSaid : Prop := fnWalRow.holds Try.pinned (OpenSpec.ofChange fnWalSpec)

/-- ITS FALSE NEIGHBOUR: 'it returns false'. Refute it at one input. -/
def fnWalWrong : ChangeSpec := { name := "fnWal", fn := fun _ => fun
  | [d1, d2] => { results := [.lit (.bool false)], args := [d1, d2] }
  | _ => none }
def FnWalWrongFalsely : Prop := fnWalRow.holds Try.pinned (OpenSpec.ofChange fnWalWrong)

/-- 'laws.FnExactGoodCommand': WHATEVER THE INPUT: true; the input reads as it did. -/
def fnExactGoodCommandSpec : ChangeSpec := { name := "fnExactGoodCommand", fn := fun _ => fun
  | [d] => { results := [.lit (.bool true)], args := [d] }
  | _ => none }
def fnExactGoodCommandRow : OpenClaim := { program := "ytfcodelfgjnkhaa", sum := "72aed0b9064961ab5adb19cf73764f61d519634869dbd7afe57dd58a4c8485d7", func := "loop.example/g00224/laws.FnExactGoodCommand", spec := "fnExactGoodCommand", apart := false }
def FnExactGoodCommandSaid : Prop := fnExactGoodCommandRow.holds Try.pinned (OpenSpec.ofChange fnExactGoodCommandSpec)

/-- ITS FALSE NEIGHBOUR: 'it returns false'. Refute it at one input. -/
def fnExactGoodCommandWrong : ChangeSpec := { name := "fnExactGoodCommand", fn := fun _ => fun
  | [d] => { results := [.lit (.bool false)], args := [d] }
  | _ => none }
def FnExactGoodCommandWrongFalsely : Prop := fnExactGoodCommandRow.holds Try.pinned (OpenSpec.ofChange fnExactGoodCommandWrong)

/-- 'laws.FnExactCommandBytes': WHATEVER THE INPUT: true; the input reads as it did. -/
def fnExactCommandBytesSpec : ChangeSpec := { name := "fnExactCommandBytes", fn := fun _ => fun
  | [d] => { results := [.lit (.bool true)], args := [d] }
  | _ => none }
def fnExactCommandBytesRow : OpenClaim := { program := "ytfcodelfgjnkhaa", sum := "72aed0b9064961ab5adb19cf73764f61d519634869dbd7afe57dd58a4c8485d7", func := "loop.example/g00224/laws.FnExactCommandBytes", spec := "fnExactCommandBytes", apart := false }
def FnExactCommandBytesSaid : Prop := fnExactCommandBytesRow.holds Try.pinned (OpenSpec.ofChange fnExactCommandBytesSpec)

/-- ITS FALSE NEIGHBOUR: 'it returns false'. Refute it at one input. -/
def fnExactCommandBytesWrong : ChangeSpec := { name := "fnExactCommandBytes", fn := fun _ => fun
  | [d] => { results := [.lit (.bool false)], args := [d] }
  | _ => none }
def FnExactCommandBytesWrongFalsely : Prop := fnExactCommandBytesRow.holds Try.pinned (OpenSpec.ofChange fnExactCommandBytesWrong)

/-- 'laws.FnExactGoodState': WHATEVER THE INPUT: true; the input reads as it did. -/
def fnExactGoodStateSpec : ChangeSpec := { name := "fnExactGoodState", fn := fun _ => fun
  | [d] => { results := [.lit (.bool true)], args := [d] }
  | _ => none }
def fnExactGoodStateRow : OpenClaim := { program := "ytfcodelfgjnkhaa", sum := "72aed0b9064961ab5adb19cf73764f61d519634869dbd7afe57dd58a4c8485d7", func := "loop.example/g00224/laws.FnExactGoodState", spec := "fnExactGoodState", apart := false }
def FnExactGoodStateSaid : Prop := fnExactGoodStateRow.holds Try.pinned (OpenSpec.ofChange fnExactGoodStateSpec)

/-- ITS FALSE NEIGHBOUR: 'it returns false'. Refute it at one input. -/
def fnExactGoodStateWrong : ChangeSpec := { name := "fnExactGoodState", fn := fun _ => fun
  | [d] => { results := [.lit (.bool false)], args := [d] }
  | _ => none }
def FnExactGoodStateWrongFalsely : Prop := fnExactGoodStateRow.holds Try.pinned (OpenSpec.ofChange fnExactGoodStateWrong)

/-- 'laws.FnExactCellOf': WHATEVER THE INPUT: true; the input reads as it did. -/
def fnExactCellOfSpec : ChangeSpec := { name := "fnExactCellOf", fn := fun _ => fun
  | [d1, d2] => { results := [.lit (.bool true)], args := [d1, d2] }
  | _ => none }
def fnExactCellOfRow : OpenClaim := { program := "ytfcodelfgjnkhaa", sum := "72aed0b9064961ab5adb19cf73764f61d519634869dbd7afe57dd58a4c8485d7", func := "loop.example/g00224/laws.FnExactCellOf", spec := "fnExactCellOf", unfollowed := true, recurses := true, apart := false }
def FnExactCellOfSaid : Prop := fnExactCellOfRow.holds Try.pinned (OpenSpec.ofChange fnExactCellOfSpec)

/-- ITS FALSE NEIGHBOUR: 'it returns false'. Refute it at one input. -/
def fnExactCellOfWrong : ChangeSpec := { name := "fnExactCellOf", fn := fun _ => fun
  | [d1, d2] => { results := [.lit (.bool false)], args := [d1, d2] }
  | _ => none }
def FnExactCellOfWrongFalsely : Prop := fnExactCellOfRow.holds Try.pinned (OpenSpec.ofChange fnExactCellOfWrong)

/-- 'laws.FnExactSessionOf': WHATEVER THE INPUT: true; the input reads as it did. -/
def fnExactSessionOfSpec : ChangeSpec := { name := "fnExactSessionOf", fn := fun _ => fun
  | [d1, d2] => { results := [.lit (.bool true)], args := [d1, d2] }
  | _ => none }
def fnExactSessionOfRow : OpenClaim := { program := "ytfcodelfgjnkhaa", sum := "72aed0b9064961ab5adb19cf73764f61d519634869dbd7afe57dd58a4c8485d7", func := "loop.example/g00224/laws.FnExactSessionOf", spec := "fnExactSessionOf", unfollowed := true, recurses := true, apart := false }
def FnExactSessionOfSaid : Prop := fnExactSessionOfRow.holds Try.pinned (OpenSpec.ofChange fnExactSessionOfSpec)

/-- ITS FALSE NEIGHBOUR: 'it returns false'. Refute it at one input. -/
def fnExactSessionOfWrong : ChangeSpec := { name := "fnExactSessionOf", fn := fun _ => fun
  | [d1, d2] => { results := [.lit (.bool false)], args := [d1, d2] }
  | _ => none }
def FnExactSessionOfWrongFalsely : Prop := fnExactSessionOfRow.holds Try.pinned (OpenSpec.ofChange fnExactSessionOfWrong)

/- THE SECOND FORM. 'bulk': how many values and letters a reading holds, each counted each time it is reached (what is shared counts as often as it is met; a slice's spare places count too). A statement '..UptoSaid' is the law's where the arguments, and the package variables that the reading takes, are together of bulk at most 1048576: NARROWER than '..Said'. Prove '..Said' where nothing that the law and all that it calls make is longer than what came in: it says more and counts as full. Else prove '..UptoSaid'. A law counts once. -/
mutual
def uptoBulk {H : Type} : DataW H → Nat
  | .lit (.string bytes) => bytes.length + 1
  | .lit _ => 1
  | .nil => 1
  | .ptr d => uptoBulk d + 1
  | .slice elems spare => uptoBulkAll elems + uptoBulkAll spare + 1
  | .agg parts => uptoBulkAll parts + 1
  | .iface _ d => uptoBulk d + 1
  | .map entries => uptoBulkEntries entries + 1
  | .held _ => 1
def uptoBulkAll {H : Type} : List (DataW H) → Nat
  | [] => 0
  | d :: r => uptoBulk d + uptoBulkAll r
def uptoBulkEntries {H : Type} : List (Lit × DataW H) → Nat
  | [] => 0
  | x :: r => uptoBulkEntry x + uptoBulkEntries r
def uptoBulkEntry {H : Type} : Lit × DataW H → Nat
  | (.string bytes, d) => bytes.length + uptoBulk d + 1
  | (_, d) => uptoBulk d + 1
 end
def uptoSmall : (H : Type) → List (DataW H) → Bool := fun _ ds => decide (uptoBulkAll ds ≤ 1048576)
def OpenSpec.upto (s : _root_.Go.ChangeSpec) : _root_.Go.OpenSpec := { _root_.Go.OpenSpec.ofChange s with cond := some uptoSmall }

/-- 'laws.FnExactCutWal', WHERE WHAT IT READS IS OF BULK AT MOST 1048576: true; the input reads as it did. -/
def fnExactCutWalUptoRow : OpenClaim := { program := "ytfcodelfgjnkhaa", sum := "72aed0b9064961ab5adb19cf73764f61d519634869dbd7afe57dd58a4c8485d7", func := "loop.example/g00224/laws.FnExactCutWal", spec := "fnExactCutWal", apart := false, narrowed := true }
def FnExactCutWalUptoSaid : Prop := fnExactCutWalUptoRow.holds Try.pinned (OpenSpec.upto fnExactCutWalSpec)

/-- 'laws.FnExactAppendWal', WHERE WHAT IT READS IS OF BULK AT MOST 1048576: true; the input reads as it did. -/
def fnExactAppendWalUptoRow : OpenClaim := { program := "ytfcodelfgjnkhaa", sum := "72aed0b9064961ab5adb19cf73764f61d519634869dbd7afe57dd58a4c8485d7", func := "loop.example/g00224/laws.FnExactAppendWal", spec := "fnExactAppendWal", apart := false, narrowed := true }
def FnExactAppendWalUptoSaid : Prop := fnExactAppendWalUptoRow.holds Try.pinned (OpenSpec.upto fnExactAppendWalSpec)

/-- 'laws.FnExactDropWal', WHERE WHAT IT READS IS OF BULK AT MOST 1048576: true; the input reads as it did. -/
def fnExactDropWalUptoRow : OpenClaim := { program := "ytfcodelfgjnkhaa", sum := "72aed0b9064961ab5adb19cf73764f61d519634869dbd7afe57dd58a4c8485d7", func := "loop.example/g00224/laws.FnExactDropWal", spec := "fnExactDropWal", apart := false, narrowed := true }
def FnExactDropWalUptoSaid : Prop := fnExactDropWalUptoRow.holds Try.pinned (OpenSpec.upto fnExactDropWalSpec)

/-- 'laws.FnWal', WHERE WHAT IT READS IS OF BULK AT MOST 1048576: true; the input reads as it did. -/
def fnWalUptoRow : OpenClaim := { program := "ytfcodelfgjnkhaa", sum := "72aed0b9064961ab5adb19cf73764f61d519634869dbd7afe57dd58a4c8485d7", func := "loop.example/g00224/laws.FnWal", spec := "fnWal", apart := false, narrowed := true }
def FnWalUptoSaid : Prop := fnWalUptoRow.holds Try.pinned (OpenSpec.upto fnWalSpec)

/-- 'laws.FnExactGoodCommand', WHERE WHAT IT READS IS OF BULK AT MOST 1048576: true; the input reads as it did. -/
def fnExactGoodCommandUptoRow : OpenClaim := { program := "ytfcodelfgjnkhaa", sum := "72aed0b9064961ab5adb19cf73764f61d519634869dbd7afe57dd58a4c8485d7", func := "loop.example/g00224/laws.FnExactGoodCommand", spec := "fnExactGoodCommand", apart := false, narrowed := true }
def FnExactGoodCommandUptoSaid : Prop := fnExactGoodCommandUptoRow.holds Try.pinned (OpenSpec.upto fnExactGoodCommandSpec)

/-- 'laws.FnExactCommandBytes', WHERE WHAT IT READS IS OF BULK AT MOST 1048576: true; the input reads as it did. -/
def fnExactCommandBytesUptoRow : OpenClaim := { program := "ytfcodelfgjnkhaa", sum := "72aed0b9064961ab5adb19cf73764f61d519634869dbd7afe57dd58a4c8485d7", func := "loop.example/g00224/laws.FnExactCommandBytes", spec := "fnExactCommandBytes", apart := false, narrowed := true }
def FnExactCommandBytesUptoSaid : Prop := fnExactCommandBytesUptoRow.holds Try.pinned (OpenSpec.upto fnExactCommandBytesSpec)

/-- 'laws.FnExactGoodState', WHERE WHAT IT READS IS OF BULK AT MOST 1048576: true; the input reads as it did. -/
def fnExactGoodStateUptoRow : OpenClaim := { program := "ytfcodelfgjnkhaa", sum := "72aed0b9064961ab5adb19cf73764f61d519634869dbd7afe57dd58a4c8485d7", func := "loop.example/g00224/laws.FnExactGoodState", spec := "fnExactGoodState", apart := false, narrowed := true }
def FnExactGoodStateUptoSaid : Prop := fnExactGoodStateUptoRow.holds Try.pinned (OpenSpec.upto fnExactGoodStateSpec)

/-- 'laws.FnExactCellOf', WHERE WHAT IT READS IS OF BULK AT MOST 1048576: true; the input reads as it did. -/
def fnExactCellOfUptoRow : OpenClaim := { program := "ytfcodelfgjnkhaa", sum := "72aed0b9064961ab5adb19cf73764f61d519634869dbd7afe57dd58a4c8485d7", func := "loop.example/g00224/laws.FnExactCellOf", spec := "fnExactCellOf", unfollowed := true, recurses := true, apart := false, narrowed := true }
def FnExactCellOfUptoSaid : Prop := fnExactCellOfUptoRow.holds Try.pinned (OpenSpec.upto fnExactCellOfSpec)

/-- 'laws.FnExactSessionOf', WHERE WHAT IT READS IS OF BULK AT MOST 1048576: true; the input reads as it did. -/
def fnExactSessionOfUptoRow : OpenClaim := { program := "ytfcodelfgjnkhaa", sum := "72aed0b9064961ab5adb19cf73764f61d519634869dbd7afe57dd58a4c8485d7", func := "loop.example/g00224/laws.FnExactSessionOf", spec := "fnExactSessionOf", unfollowed := true, recurses := true, apart := false, narrowed := true }
def FnExactSessionOfUptoSaid : Prop := fnExactSessionOfUptoRow.holds Try.pinned (OpenSpec.upto fnExactSessionOfSpec)

end Rows
end Go.Proofs.Ytfcodelfgjnkhaa
