/- The laws' own functions of slices of numbers. -/
import Derived.Test.YthfhhfnimffpdaaTxt
namespace Go.Proofs.Ythfhhfnimffpdaa
open Go Go.RowKit Go.Sort
set_option linter.unusedVariables false
set_option linter.unusedSimpArgs false

abbrev kInt : Rp Int := Rp.int .i64
theorem kInt_flat : kInt.Flat := ⟨fun h => h.1, fun h => ⟨rfl, h⟩⟩
theorem infoInt : (Try.prog.info? 3).map (fun i => (i.zero, i.size, i.bytes)) = some (some (.int .i64 0), 1, 8) := by kernel_rfl
def mkInt (x : Int) (k : Int) : Int × Int := (k, k + 1)
theorem mkInt_le (x : Int) (k : Int) : k ≤ (mkInt x k).2 := by simp only [mkInt]; omega
theorem szL_int (xs : List Int) : szL (fun _ => 0) xs = xs.length := by
  have : ∀ ys : List Int, sumN (fun _ => 0) ys = 0 := fun ys => by induction ys with
    | nil => rfl
    | cons y ys ih => simp [sumN, ih]
  rw [szL, this]
  rfl
end Go.Proofs.Ythfhhfnimffpdaa
