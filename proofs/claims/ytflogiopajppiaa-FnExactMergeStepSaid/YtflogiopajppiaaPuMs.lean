/- What MergeStep answers, over numbers and lists alone. -/
import Derived.Test.YtflogiopajppiaaIMs
import Derived.Test.YtflogiopajppiaaERMs
import Derived.Test.YtflogiopajppiaaPFnExactMergeStepx11
namespace Go.Proofs.Ytflogiopajppiaa
open Go Go.RowKit Go.Proofs.YtflogiopajppiaaW.PrintWords Go.Proofs.YtflogiopajppiaaW.PrintLast Go.Proofs.YtflogiopajppiaaW.PrintMore Go.Proofs.Ytflogiopajppiaa.PFnExactMergeStep
set_option linter.unusedVariables false
set_option linter.unusedSimpArgs false

theorem lens_map : ∀ (l : List (S24)), lens (l.map cvRun) = lensL l
  | [] => rfl
  | x :: l => by rw [List.map_cons, lens_cons, lensL_cons, lens_map l, cvRun, List.length_map]
set_option maxHeartbeats 4000000 in
theorem pure_FnExactMergeStep (l : List (S24)) (a : List Int) (w0 : ((∀ y ∈ l, wfRun y) ∧ l.length * Try.prog.bytesOf 24 ≤ 140737488351232)) (w1 : ((∀ y ∈ a, ((Lit.int .i64 y).wf = true)) ∧ a.length * Try.prog.bytesOf 3 ≤ 140737488351232)) : ∃ k, laws_FnExactMergeStep.f k l a = some true := by
  by_cases hz0 : (a.length : Int) > 1048576
  · exact ⟨0, by unfold laws_FnExactMergeStep.f; simp only [hz0, if_true, if_false]⟩
  obtain ⟨r0, hs1, hs0⟩ := szRunS_le l (by have := w0.2; rw [show Try.prog.bytesOf 24 = 24 by kernel_rfl] at this; omega) (fun y hy => by have := (w0.1 y hy).2; rw [show Try.prog.bytesOf 114 = 48 by kernel_rfl] at this; omega) (fun y hy => (w0.1 y hy).1)
  by_cases hr0 : r0 < 0
  · obtain ⟨K, h⟩ := (hs0).pick
    obtain g0 := h 0
    exact ⟨K + 0, by unfold laws_FnExactMergeStep.f; simp only [hz0, g0, hr0, Option.bind_some, if_true, if_false]⟩
  have hl : l.length ≤ 5864062014805 := (by have := w0.2; rw [show Try.prog.bytesOf 24 = 24 by kernel_rfl] at this; omega)
  have hb : ∀ y ∈ l, y.f0.length ≤ 2932031007402 := (fun y hy => by have := (w0.1 y hy).2; rw [show Try.prog.bytesOf 114 = 48 by kernel_rfl] at this; omega)
  have hl3 : (l.map cvRun).length ≤ 5864062014805 := by rw [List.length_map]; exact hl
  have hb3 : ∀ y ∈ l.map cvRun, y.f0.length ≤ 4611686018427387904 := fun y hy => by
    obtain ⟨x, hx, rfl⟩ := List.mem_map.1 hy
    have := hb x hx
    simp only [cvRun, List.length_map]
    omega
  obtain ⟨K, h⟩ := ((hs0).and ((toRunS_alw l (by omega) (fun y hy => by have := hb y hy; unfold okRun; omega)).and ((toIntS_alw a (by omega)).and ((ans_s (l.map cvRun) a (by omega) hb3).and ((ans_i (l.map cvRun) a (by omega) (by rw [lens_map]; exact hs1 (by omega))).and ((eqRunS_alw (l.map cvRun) (by omega) hb3).and (eqIntS_alw a (by omega)))))))).pick
  have q0 := fun j => (h j).1
  have q1 := fun j => (h j).2.1
  have q2 := fun j => (h j).2.2.1
  have q3 := fun j => (h j).2.2.2.1
  have q4 := fun j => (h j).2.2.2.2.1
  have q5 := fun j => (h j).2.2.2.2.2.1
  have q6 := fun j => (h j).2.2.2.2.2.2
  clear h
  refine ⟨K + 9, ?_⟩
  simp only [laws_FnExactMergeStep.f, laws_FnExactMergeStep.j0, hz0, q0, q1, q2, q3, q4, q5, q6, hr0, Option.bind_some, if_true, if_false, bne_self_eq_false, Bool.false_eq_true]
end Go.Proofs.Ytflogiopajppiaa
