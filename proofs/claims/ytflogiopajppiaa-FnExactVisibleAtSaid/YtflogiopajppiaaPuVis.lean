/- What VisibleAt answers, over numbers and lists alone. -/
import Derived.Test.YtflogiopajppiaaIVis
import Derived.Test.YtflogiopajppiaaERVis
import Derived.Test.YtflogiopajppiaaPFnExactVisibleAtx10
namespace Go.Proofs.Ytflogiopajppiaa
open Go Go.RowKit Go.Proofs.YtflogiopajppiaaW.PrintWords Go.Proofs.YtflogiopajppiaaW.PrintLast Go.Proofs.YtflogiopajppiaaW.PrintMore Go.Proofs.Ytflogiopajppiaa.PFnExactVisibleAt
set_option linter.unusedVariables false
set_option linter.unusedSimpArgs false

theorem isSeq_f (a : Int) : spec_l4Seq.f a = some (decide (0 ≤ a ∧ a ≤ 1000000000)) ∧ impl_isSeq.f a = some (decide (0 ≤ a ∧ a ≤ 1000000000)) := by
  unfold spec_l4Seq.f impl_isSeq.f
  rw [in_s, in_i]
  exact ⟨rfl, rfl⟩
def ansV (l : List (S73)) (a : Int) : List (S58) × Bool := if okR l = true ∧ 0 ≤ a ∧ a ≤ 1000000000 then (visL (seenL a l), true) else ([], false)
theorem okR_len {l : List (S73)} (h : okR l = true) : l.length ≤ 400 := by
  unfold okR at h
  simp at h
  omega
theorem ans_len (l : List (S73)) (a : Int) : (ansV l a).1.length ≤ 400 := by
  unfold ansV
  split
  · rename_i h
    have h1 := okR_len h.1
    have h2 := visL_len (seenL a l)
    have h3 := seenL_len a l
    simp only
    omega
  · simp
theorem ans_s (l : List (S73)) (a : Int) (hl : l.length ≤ 4611686018427387904) : Alw fun k => spec_VisibleAt.f k l a = some (ansV l a) := by
  have h1 := okR_s l hl
  cases hr : okR l
  · refine h1.imp fun k h => ?_
    unfold spec_VisibleAt.f ansV
    rw [h, hr]
    simp
  · by_cases hs : 0 ≤ a ∧ a ≤ 1000000000
    · have h2 := vis_s a l (by have := okR_len hr; omega)
      refine (h1.and h2).imp fun k ⟨h, g⟩ => ?_
      unfold spec_VisibleAt.f ansV
      rw [h, hr, Option.bind_some, if_pos rfl, (isSeq_f a).1, Option.bind_some, if_pos (by simpa using hs), g, Option.bind_some, if_pos ⟨rfl, hs⟩]
    · refine h1.imp fun k h => ?_
      unfold spec_VisibleAt.f ansV
      rw [h, hr, Option.bind_some, if_pos rfl, (isSeq_f a).1, Option.bind_some, if_neg (by simpa using hs), if_neg (fun h => hs h.2)]
theorem ans_i (l : List (S73)) (a : Int) (hl : l.length ≤ 4611686018427387904) : Alw fun k => impl_VisibleAt.f k l a = some (ansV l a) := by
  have h1 := okR_i l hl
  have hb : impl_boundsOk.f ⟨#[]⟩ ⟨#[]⟩ = some true := by
    unfold impl_boundsOk.f
    rw [if_pos (by decide)]
    rfl
  cases hr : okR l
  · refine h1.imp fun k h => ?_
    unfold impl_VisibleAt.f impl_ScanAt.f ansV
    rw [h, hr]
    simp
  · by_cases hs : 0 ≤ a ∧ a ≤ 1000000000
    · have h2 := scan_i a ⟨#[]⟩ ⟨#[]⟩ l (by have := okR_len hr; omega)
      rw [scanL_all] at h2
      refine (h1.and h2).imp fun k ⟨h, g⟩ => ?_
      unfold impl_VisibleAt.f impl_ScanAt.f ansV
      rw [h, hr, Option.bind_some, if_pos rfl, hb, Option.bind_some, if_pos rfl, (isSeq_f a).2, Option.bind_some, if_pos (by simpa using hs), g, Option.bind_some, if_pos ⟨rfl, hs⟩]
      rfl
    · refine h1.imp fun k h => ?_
      unfold impl_VisibleAt.f impl_ScanAt.f ansV
      rw [h, hr, Option.bind_some, if_pos rfl, hb, Option.bind_some, if_pos rfl, (isSeq_f a).2, Option.bind_some, if_neg (by simpa using hs), if_neg (fun h => hs h.2)]
      rfl
set_option maxHeartbeats 4000000 in
theorem pure_FnExactVisibleAt (l : List (S114)) (a : Int) (w0 : ((∀ y ∈ l, wfItem y) ∧ l.length * Try.prog.bytesOf 114 ≤ 140737488351232)) (w1 : (Lit.int .i64 a).wf = true) : ∃ k, laws_FnExactVisibleAt.f k l a = some true := by
  obtain ⟨r0, hs0⟩ := szRun_some l 1048576 (by rw [show Try.prog.bytesOf 114 = 48 by kernel_rfl] at w0; omega)
  by_cases hr0 : r0 < 0
  · obtain ⟨K, h⟩ := (hs0).pick
    obtain g0 := h 0
    exact ⟨K + 0, by unfold laws_FnExactVisibleAt.f; simp only [g0, hr0, Option.bind_some, if_true, if_false]⟩
  have hb : Try.prog.bytesOf 114 = 48 := by kernel_rfl
  have hl : l.length ≤ 2932031007402 := by rw [hb] at w0; omega
  have hl3 : (l.map cvItem).length ≤ 2932031007402 := by rw [List.length_map]; exact hl
  have hlen : (ansV (l.map cvItem) a).1.length ≤ 400 := ans_len (l.map cvItem) a
  have hc1 : ¬ (1 + 4 * ((l.map cvItem).length : Int) < 0) := by omega
  have hc2 : ¬ (1 + 2 * ((ansV (l.map cvItem) a).1.length : Int) < 0) := by omega
  obtain ⟨K, h⟩ := ((hs0).and ((toRun_alw l (by omega)).and ((ans_s (l.map cvItem) a (by omega)).and ((ans_i (l.map cvItem) a (by omega)).and ((eqPairS_alw (ansV (l.map cvItem) a).1 (by omega)).and ((eqRun_alw (l.map cvItem) (by omega)).and ((markRun_alw (l.map cvItem) 1 (by decide) (by omega)).and ((markPairS_alw (ansV (l.map cvItem) a).1 1 (by decide) (by omega)).and (heldPairS_alw (ansV (l.map cvItem) a).1.length 1 (by decide) (by omega)))))))))).pick
  have q0 := fun j => (h j).1
  have q1 := fun j => (h j).2.1
  have q2 := fun j => (h j).2.2.1
  have q3 := fun j => (h j).2.2.2.1
  have q4 := fun j => (h j).2.2.2.2.1
  have q5 := fun j => (h j).2.2.2.2.2.1
  have q6 := fun j => (h j).2.2.2.2.2.2.1
  have q7 := fun j => (h j).2.2.2.2.2.2.2.1
  have q8 := fun j => (h j).2.2.2.2.2.2.2.2
  clear h
  refine ⟨K + 9, ?_⟩
  simp only [laws_FnExactVisibleAt.f, laws_FnExactVisibleAt.j0, laws_FnExactVisibleAt.j1, laws_FnExactVisibleAt.j2, q0, q1, q2, q3, q4, q5, q6, q7, q8, hr0, hc1, hc2, Option.bind_some, if_true, if_false, bne_self_eq_false, Bool.false_eq_true]
end Go.Proofs.Ytflogiopajppiaa
