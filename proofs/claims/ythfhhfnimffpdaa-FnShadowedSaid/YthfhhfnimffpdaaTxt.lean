/- The text that a mark is. -/
import Derived.Test.YthfhhfnimffpdaaProg
import Derived.Test.YthfhhfnimffpdaaKit
namespace Go.Proofs.Ythfhhfnimffpdaa
open Go Go.RowKit Go.Sort
set_option linter.unusedVariables false

def mdig (fuel : Nat) (n : Nat) (out : ByteArray) : ByteArray :=
  match fuel with
  | 0 => out
  | f + 1 => if n = 0 then out else mdig f (n / 10) (⟨#[48 + UInt8.ofNat (n % 10)]⟩ ++ out)
def mtxt (k : Int) : ByteArray := if k ≤ 0 then ⟨#[109, 48]⟩ else ⟨#[109]⟩ ++ mdig 20 k.toNat ⟨#[]⟩

end Go.Proofs.Ythfhhfnimffpdaa
