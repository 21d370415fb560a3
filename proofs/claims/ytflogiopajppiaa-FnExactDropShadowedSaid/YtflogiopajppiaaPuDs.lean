/- What DropShadowed answers, over numbers and lists alone. -/
import Derived.Test.YtflogiopajppiaaIDs
import Derived.Test.YtflogiopajppiaaERDs
import Derived.Test.YtflogiopajppiaaPFnExactDropShadowedx12
namespace Go.Proofs.Ytflogiopajppiaa
open Go Go.RowKit Go.Proofs.YtflogiopajppiaaW.PrintWords Go.Proofs.YtflogiopajppiaaW.PrintLast Go.Proofs.YtflogiopajppiaaW.PrintMore Go.Proofs.Ytflogiopajppiaa.PFnExactDropShadowed
set_option linter.unusedVariables false
set_option linter.unusedSimpArgs false

set_option maxHeartbeats 4000000 in
theorem pure_FnExactDropShadowed (l : List (S114)) (a : Int) (b : Bool) (w0 : ((∀ y ∈ l, wfItem y) ∧ l.length * Try.prog.bytesOf 114 ≤ 140737488351232)) (w1 : (Lit.int .i64 a).wf = true) : ∃ k, laws_FnExactDropShadowed.f k l a b = some true := by
  obtain ⟨r0, hs0⟩ := szRun_some l 1048576 (by rw [show Try.prog.bytesOf 114 = 48 by kernel_rfl] at w0; omega)
  by_cases hr0 : r0 < 0
  · obtain ⟨K, h⟩ := (hs0).pick
    obtain g0 := h 0
    exact ⟨K + 0, by unfold laws_FnExactDropShadowed.f; simp only [g0, hr0, Option.bind_some, if_true, if_false]⟩
  have hb : Try.prog.bytesOf 114 = 48 := by kernel_rfl
  have hl : l.length ≤ 2932031007402 := by rw [hb] at w0; omega
  have hl3 : (l.map cvItem).length ≤ 2932031007402 := by rw [List.length_map]; exact hl
  have hlen : (ansD (l.map cvItem) a b).1.length ≤ 400 := ans_len (l.map cvItem) a b
  have hc1 : ¬ (1 + 4 * ((l.map cvItem).length : Int) < 0) := by omega
  have hc2 : ¬ (1 + 4 * ((ansD (l.map cvItem) a b).1.length : Int) < 0) := by omega
  obtain ⟨K, h⟩ := ((hs0).and ((toRun_alw l (by omega)).and ((ans_s (l.map cvItem) a b (by omega)).and ((ans_i (l.map cvItem) a b (by omega)).and ((eqRun_alw (ansD (l.map cvItem) a b).1 (by omega)).and ((eqRun_alw (l.map cvItem) (by omega)).and ((markRun_alw (l.map cvItem) 1 (by decide) (by omega)).and ((markRun_alw (ansD (l.map cvItem) a b).1 1 (by decide) (by omega)).and (heldRun_alw (ansD (l.map cvItem) a b).1.length 1 (by decide) (by omega)))))))))).pick
  have q0 := fun j => (h j).1
  have q1 := fun j => (h j).2.1
  have q2 := fun j => (h j).2.2.1
  have q3 := fun j => (h j).2.2.2.1
  have q4 := fun j => (h j).2.2.2.2.1
  have q5 := fun j => (h j).2.2.2.2.2.1
  have q6 := fun j => (h j).2.2.2.2.2.2.1
  have q7 := fun j => (h j).2.2.2.2.2.2.2.1
  have q8 := fun j => (h j).2.2.2.2.2.2.2.2
  clear h
  refine ⟨K + 9, ?_⟩
  simp only [laws_FnExactDropShadowed.f, laws_FnExactDropShadowed.j0, laws_FnExactDropShadowed.j1, laws_FnExactDropShadowed.j2, q0, q1, q2, q3, q4, q5, q6, q7, q8, hr0, hc1, hc2, Option.bind_some, if_true, if_false, bne_self_eq_false, Bool.false_eq_true]
end Go.Proofs.Ytflogiopajppiaa
