/- What is told of the elements that come in. -/
import Derived.Test.YtioelmhikablcaaRowKEb
import Derived.Test.YtioelmhikablcaaPFnExactEditBytesx0
namespace Go.Proofs.Ytioelmhikablcaa
open Go Go.ChangeShapes Go.WideShapes Go.ChangeAt Go.RowKit
open Go.Proofs.YtioelmhikablcaaW.PrintWords Go.Proofs.Ytioelmhikablcaa.PFnExactEditBytes
set_option linter.unusedVariables false

def wfMeta (x : S217) : Prop := ((Lit.int .i64 x.f0).wf = true) ∧ ((Lit.int .i64 x.f1).wf = true) ∧ (x.f2.size ≤ 140737488351232) ∧ (x.f3.size ≤ 140737488351232)
set_option maxRecDepth 100000 in
theorem opensMeta : Opens Try.prog 217 k217 wfMeta :=
  Opens.iso (fun v => (⟨v.1, v.2.1, v.2.2.1, v.2.2.2⟩ : S217)) (Opens.struct Try.underlying217 (by kernel_rfl) (OpensF.cons (Opens.int (k := .i64) Try.underlying3 (by kernel_rfl)) rfl (OpensF.cons (Opens.int (k := .i64) Try.underlying3 (by kernel_rfl)) rfl (OpensF.cons (Opens.str Try.underlying9 (by kernel_rfl)) rfl (OpensF.last (Opens.str Try.underlying9 (by kernel_rfl)) rfl) (fun _ h0 h1 => And.intro h0 h1)) (fun _ h0 h1 => And.intro h0 h1)) (fun _ h0 h1 => And.intro h0 h1))) (fun _ => rfl) (fun _ h => h)

end Go.Proofs.Ytioelmhikablcaa
