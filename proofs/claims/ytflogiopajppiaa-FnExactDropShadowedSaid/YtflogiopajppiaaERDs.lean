/- What is told of the elements that come in. -/
import Derived.Test.YtflogiopajppiaaRowKDs
import Derived.Test.YtflogiopajppiaaPFnExactDropShadowedx0
namespace Go.Proofs.Ytflogiopajppiaa
open Go Go.ChangeShapes Go.WideShapes Go.ChangeAt Go.RowKit
open Go.Proofs.YtflogiopajppiaaW.PrintWords Go.Proofs.Ytflogiopajppiaa.PFnExactDropShadowed
set_option linter.unusedVariables false

def wfItem (x : S114) : Prop := (x.f0.size ≤ 140737488351232) ∧ ((Lit.int .i64 x.f1).wf = true) ∧ ((Lit.int .i64 x.f2).wf = true) ∧ (x.f3.size ≤ 140737488351232)
set_option maxRecDepth 100000 in
theorem opensItem : Opens Try.prog 114 k114 wfItem :=
  Opens.iso (fun v => (⟨v.1, v.2.1, v.2.2.1, v.2.2.2⟩ : S114)) (Opens.struct Try.underlying114 (by kernel_rfl) (OpensF.cons (Opens.str Try.underlying9 (by kernel_rfl)) rfl (OpensF.cons (Opens.int (k := .i64) Try.underlying3 (by kernel_rfl)) rfl (OpensF.cons (Opens.int (k := .i64) Try.underlying3 (by kernel_rfl)) rfl (OpensF.last (Opens.str Try.underlying9 (by kernel_rfl)) rfl) (fun _ h0 h1 => And.intro h0 h1)) (fun _ h0 h1 => And.intro h0 h1)) (fun _ h0 h1 => And.intro h0 h1))) (fun _ => rfl) (fun _ h => h)

end Go.Proofs.Ytflogiopajppiaa
