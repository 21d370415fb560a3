/- EditBetween: the plain law, and the model's '==' at a Meta. -/
import Derived.Test.YtioelmhikablcaaVerB
import Derived.Test.YtioelmhikablcaaE2
import Derived.Laws.StructEq
namespace Go.Proofs.Ytioelmhikablcaa
open Go Go.RowKit Go.Sort
set_option linter.unusedVariables false
set_option linter.unusedSimpArgs false

def eqM (x y : DMeta) : Bool := x.fNumber == y.fNumber && (x.fLevel == y.fLevel && (x.fLeast.toList == y.fLeast.toList && (x.fMost.toList == y.fMost.toList)))
theorem eqM_comm (x y : DMeta) : eqM x y = eqM y x := by
  unfold eqM
  rw [Bool.beq_comm (a := x.fNumber), Bool.beq_comm (a := x.fLevel), Bool.beq_comm (a := x.fLeast.toList), Bool.beq_comm (a := x.fMost.toList)]
def hasM (l : List DMeta) (m : DMeta) : Bool := l.any (eqM m)
def dropE (x y : List DMeta) : List Int := (x.filter (fun m => !hasM y m)).map (·.fNumber)
def addE (x y : List DMeta) : List DMeta := y.filter (fun m => !hasM x m)
def ebOk (x y : DVersion) : Bool := goodVer x && (goodVer y && (decide (x.fNext ≤ y.fNext) && decide (x.fSeq ≤ y.fSeq)))
def ebE (x y : DVersion) : DEdit := ⟨y.fNext, y.fSeq, dropE x.fMetas y.fMetas, addE x.fMetas y.fMetas⟩
def ebV (x y : DVersion) : DEdit := if ebOk x y = true then ebE x y else ⟨0, 0, [], []⟩
theorem dropE_take {x y : List DMeta} {k : Nat} (h : k < x.length) : dropE (x.take (k + 1)) y = dropE (x.take k) y ++ (if hasM y x[k] = true then [] else [x[k].fNumber]) := by
  rw [dropE, List.take_add_one, List.getElem?_eq_getElem h, List.filter_append, List.map_append]
  congr 1
  cases hp : hasM y x[k] <;> simp [hp]
theorem addE_take {x y : List DMeta} {k : Nat} (h : k < y.length) : addE x (y.take (k + 1)) = addE x (y.take k) ++ (if hasM x y[k] = true then [] else [y[k]]) := by
  rw [addE, List.take_add_one, List.getElem?_eq_getElem h, List.filter_append]
  congr 1
  cases hp : hasM x y[k] <;> simp [hp]
theorem dropE_len (x y : List DMeta) : (dropE x y).length ≤ x.length := by
  rw [dropE, List.length_map]
  exact List.length_filter_le _ _
theorem addE_len (x y : List DMeta) : (addE x y).length ≤ y.length := List.length_filter_le _ _
/-- The model's '==' at two Metas. -/
theorem eqMeta_op (x y : DMeta) (w : World) : (binOp .eql 175 (.agg #[.int .i64 x.fNumber, .int .i64 x.fLevel, .string x.fLeast, .string x.fMost]) (.agg #[.int .i64 y.fNumber, .int .i64 y.fLevel, .string y.fLeast, .string y.fMost])).run Try.prog w = .ok (.bool (eqM x y)) w := by
  have u3 := Try.underlying3
  have u9 := Try.underlying9
  have a3 := Try.isAgg3
  have z3 := Try.sizeOf3
  have a9 := Try.isAgg9
  have z9 := Try.sizeOf9
  have hS : Try.prog.underlying 175 = some (.struct (Try.prog.fieldsOf 175)) := by kernel_rfl
  have hp : Try.prog.stoodInHeld 175 = false := by kernel_rfl
  rw [run_eql_struct, show (10000 : Nat) = 9999 + 1 from rfl, run_equalIn_agg w 9999 175 _ _ hS hp]
  simp only [Program.fieldsOf, Try.underlying175]
  go_simp
  unfold eqM
  by_cases h1 : x.fNumber = y.fNumber <;> by_cases h2 : x.fLevel = y.fLevel <;> by_cases h3 : x.fLeast.toList = y.fLeast.toList <;> by_cases h4 : x.fMost.toList = y.fMost.toList <;> simp [h1, h2, h3, h4]
theorem grMeta_op (op : BinOp) (a b : Operand) (x y : Array Value) (w : World) : (eqGuard op 175 a b (.agg x) (.agg y)).run Try.prog w = .ok () w := run_eqGuard_agg w op 175 a b x y (by kernel_rfl)
end Go.Proofs.Ytioelmhikablcaa
