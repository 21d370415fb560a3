/- What LookIn answers, over numbers and lists alone. -/
import Derived.Test.YtflogiopajppiaaILook
import Derived.Test.YtflogiopajppiaaERLook
import Derived.Test.YtflogiopajppiaaPFnExactLookInx8
namespace Go.Proofs.Ytflogiopajppiaa
open Go Go.RowKit Go.Proofs.YtflogiopajppiaaW.PrintWords Go.Proofs.YtflogiopajppiaaW.PrintLast Go.Proofs.YtflogiopajppiaaW.PrintMore Go.Proofs.Ytflogiopajppiaa.PFnExactLookIn
set_option linter.unusedVariables false
set_option linter.unusedSimpArgs false

set_option maxHeartbeats 4000000 in
theorem pure_FnExactLookIn (l : List (S114)) (key : ByteArray) (a : Int) (w0 : ((∀ y ∈ l, wfItem y) ∧ l.length * Try.prog.bytesOf 114 ≤ 140737488351232)) (w1 : key.size ≤ 140737488351232) (w2 : (Lit.int .i64 a).wf = true) : ∃ k, laws_FnExactLookIn.f k l key a = some true := by
  by_cases hz0 : (key.size : Int) > 1048576
  · exact ⟨0, by unfold laws_FnExactLookIn.f; simp only [hz0, if_true, if_false]⟩
  obtain ⟨r0, hs0⟩ := szRun_some l 1048576 (by rw [show Try.prog.bytesOf 114 = 48 by kernel_rfl] at w0; omega)
  by_cases hr0 : r0 < 0
  · obtain ⟨K, h⟩ := (hs0).pick
    obtain g0 := h 0
    exact ⟨K + 0, by unfold laws_FnExactLookIn.f; simp only [hz0, g0, hr0, Option.bind_some, if_true, if_false]⟩
  have hb : Try.prog.bytesOf 114 = 48 := by kernel_rfl
  have hl : l.length ≤ 2932031007402 := by rw [hb] at w0; omega
  have hl3 : (l.map cvItem).length ≤ 2932031007402 := by rw [List.length_map]; exact hl
  obtain ⟨K, h⟩ := ((hs0).and ((toRun_alw l (by omega)).and ((ans_s (l.map cvItem) key a (by omega)).and ((ans_i (l.map cvItem) key a (by omega)).and (eqRun_alw (l.map cvItem) (by omega)))))).pick
  have q0 := fun j => (h j).1
  have q1 := fun j => (h j).2.1
  have q2 := fun j => (h j).2.2.1
  have q3 := fun j => (h j).2.2.2.1
  have q4 := fun j => (h j).2.2.2.2
  clear h
  refine ⟨K + 9, ?_⟩
  simp only [laws_FnExactLookIn.f, laws_FnExactLookIn.j0, hz0, q0, q1, q2, q3, q4, hr0, Option.bind_some, if_true, if_false, bne_self_eq_false, Bool.false_eq_true]
end Go.Proofs.Ytflogiopajppiaa
