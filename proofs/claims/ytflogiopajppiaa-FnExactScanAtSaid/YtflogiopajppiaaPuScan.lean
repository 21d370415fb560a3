/- What ScanAt answers, over numbers and lists alone. -/
import Derived.Test.YtflogiopajppiaaIScan
import Derived.Test.YtflogiopajppiaaERScan
import Derived.Test.YtflogiopajppiaaPFnExactScanAtx10
namespace Go.Proofs.Ytflogiopajppiaa
open Go Go.RowKit Go.Proofs.YtflogiopajppiaaW.PrintWords Go.Proofs.YtflogiopajppiaaW.PrintLast Go.Proofs.YtflogiopajppiaaW.PrintMore Go.Proofs.Ytflogiopajppiaa.PFnExactScanAt
set_option linter.unusedVariables false
set_option linter.unusedSimpArgs false

theorem isSeq_f (a : Int) : spec_l4Seq.f a = some (decide (0 ≤ a ∧ a ≤ 1000000000)) ∧ impl_isSeq.f a = some (decide (0 ≤ a ∧ a ≤ 1000000000)) := by
  unfold spec_l4Seq.f impl_isSeq.f
  rw [in_s, in_i]
  exact ⟨rfl, rfl⟩
def inA (lo hi : ByteArray) (a : Int) : Prop := ((lo.size : Int) ≤ 16 ∧ (hi.size : Int) ≤ 16) ∧ 0 ≤ a ∧ a ≤ 1000000000
instance (lo hi : ByteArray) (a : Int) : Decidable (inA lo hi a) := by unfold inA; exact inferInstance
def ansV (l : List (S73)) (lo hi : ByteArray) (a : Int) : List (S58) × Bool := if okR l = true ∧ inA lo hi a then (scanL lo hi (visL (seenL a l)), true) else ([], false)
theorem okR_len {l : List (S73)} (h : okR l = true) : l.length ≤ 400 := by
  unfold okR at h
  simp at h
  omega
theorem ans_len (l : List (S73)) (lo hi : ByteArray) (a : Int) : (ansV l lo hi a).1.length ≤ 400 := by
  unfold ansV
  split
  · rename_i h
    have h1 := okR_len h.1
    have h2 := visL_len (seenL a l)
    have h3 := seenL_len a l
    have h4 := scanL_len lo hi (visL (seenL a l))
    simp only
    omega
  · simp
theorem ans_s (l : List (S73)) (lo hi : ByteArray) (a : Int) (hl : l.length ≤ 4611686018427387904) : Alw fun k => spec_ScanAt.f k l lo hi a = some (ansV l lo hi a) := by
  have h1 := (okR_s l hl).up
  cases hr : okR l
  · refine h1.succ fun k h => ?_
    unfold spec_ScanAt.f ansV
    rw [h, hr]
    simp [spec_ScanAt.j0]
  · by_cases hs : 0 ≤ a ∧ a ≤ 1000000000
    · have hlen := okR_len hr
      have h2 := (vis_s a l (by omega)).and (scan_s lo hi (visL (seenL a l)) (by have := visL_len (seenL a l); have := seenL_len a l; omega))
      refine (h1.and h2).succ fun k ⟨h, g, g2⟩ => ?_
      unfold spec_ScanAt.f ansV inA
      rw [h, hr, Option.bind_some, if_pos rfl, (isSeq_f a).1, Option.bind_some, if_pos (by simpa using hs)]
      by_cases q1 : (lo.size : Int) > 16
      · rw [if_pos q1, spec_ScanAt.j0, if_pos rfl, if_neg (fun h => by omega)]
      · rw [if_neg q1, spec_ScanAt.j0]
        by_cases q2 : (hi.size : Int) > 16
        · rw [if_pos (by simpa using q2), if_neg (fun h => by omega)]
        · rw [if_neg (by simpa using q2), g, Option.bind_some, g2, Option.bind_some, if_pos ⟨rfl, by omega⟩]
    · refine h1.succ fun k h => ?_
      unfold spec_ScanAt.f ansV inA
      rw [h, hr, Option.bind_some, if_pos rfl, (isSeq_f a).1, Option.bind_some, if_neg (by simpa using hs), if_neg (fun h => hs h.2.2)]
      simp [spec_ScanAt.j0]
theorem ans_i (l : List (S73)) (lo hi : ByteArray) (a : Int) (hl : l.length ≤ 4611686018427387904) : Alw fun k => impl_ScanAt.f k l lo hi a = some (ansV l lo hi a) := by
  have h1 := okR_i l hl
  have hb : impl_boundsOk.f lo hi = some (decide ((lo.size : Int) ≤ 16 ∧ (hi.size : Int) ≤ 16)) := by
    unfold impl_boundsOk.f
    by_cases q : (lo.size : Int) ≤ 16
    · rw [if_pos q]; simp [q]
    · rw [if_neg q]; simp [q]
  cases hr : okR l
  · refine h1.imp fun k h => ?_
    unfold impl_ScanAt.f ansV
    rw [h, hr]
    simp
  · by_cases hq : (lo.size : Int) ≤ 16 ∧ (hi.size : Int) ≤ 16
    · by_cases hs : 0 ≤ a ∧ a ≤ 1000000000
      · have h2 := scan_i a lo hi l (by have := okR_len hr; omega)
        refine (h1.and h2).imp fun k ⟨h, g⟩ => ?_
        unfold impl_ScanAt.f ansV inA
        rw [h, hr, Option.bind_some, if_pos rfl, hb, Option.bind_some, if_pos (by simpa using hq), (isSeq_f a).2, Option.bind_some, if_pos (by simpa using hs), g, Option.bind_some, if_pos ⟨rfl, hq, hs⟩]
      · refine h1.imp fun k h => ?_
        unfold impl_ScanAt.f ansV inA
        rw [h, hr, Option.bind_some, if_pos rfl, hb, Option.bind_some, if_pos (by simpa using hq), (isSeq_f a).2, Option.bind_some, if_neg (by simpa using hs), if_neg (fun h => hs h.2.2)]
    · refine h1.imp fun k h => ?_
      unfold impl_ScanAt.f ansV inA
      rw [h, hr, Option.bind_some, if_pos rfl, hb, Option.bind_some, if_neg (by simpa using hq), if_neg (fun h => hq h.2.1)]
set_option maxHeartbeats 4000000 in
theorem pure_FnExactScanAt (l : List (S114)) (lo hi : ByteArray) (a : Int) (w0 : ((∀ y ∈ l, wfItem y) ∧ l.length * Try.prog.bytesOf 114 ≤ 140737488351232)) (w1 : lo.size ≤ 140737488351232) (w2 : hi.size ≤ 140737488351232) (w3 : (Lit.int .i64 a).wf = true) : ∃ k, laws_FnExactScanAt.f k l lo hi a = some true := by
  by_cases hz0 : (lo.size : Int) > 1048576
  · exact ⟨0, by unfold laws_FnExactScanAt.f; simp only [hz0, if_true, if_false]⟩
  by_cases hz1 : (hi.size : Int) > 1048576
  · exact ⟨0, by unfold laws_FnExactScanAt.f; simp only [hz0, hz1, if_true, if_false]⟩
  obtain ⟨r0, hs0⟩ := szRun_some l 1048576 (by rw [show Try.prog.bytesOf 114 = 48 by kernel_rfl] at w0; omega)
  by_cases hr0 : r0 < 0
  · obtain ⟨K, h⟩ := (hs0).pick
    obtain g0 := h 0
    exact ⟨K + 0, by unfold laws_FnExactScanAt.f; simp only [hz0, hz1, g0, hr0, Option.bind_some, if_true, if_false]⟩
  have hb : Try.prog.bytesOf 114 = 48 := by kernel_rfl
  have hl : l.length ≤ 2932031007402 := by rw [hb] at w0; omega
  have hl3 : (l.map cvItem).length ≤ 2932031007402 := by rw [List.length_map]; exact hl
  have hlen : (ansV (l.map cvItem) lo hi a).1.length ≤ 400 := ans_len (l.map cvItem) lo hi a
  have hc1 : ¬ (1 + 4 * ((l.map cvItem).length : Int) < 0) := by omega
  have hc2 : ¬ (1 + 2 * ((ansV (l.map cvItem) lo hi a).1.length : Int) < 0) := by omega
  obtain ⟨K, h⟩ := ((hs0).and ((toRun_alw l (by omega)).and ((ans_s (l.map cvItem) lo hi a (by omega)).and ((ans_i (l.map cvItem) lo hi a (by omega)).and ((eqPairS_alw (ansV (l.map cvItem) lo hi a).1 (by omega)).and ((eqRun_alw (l.map cvItem) (by omega)).and ((markRun_alw (l.map cvItem) 1 (by decide) (by omega)).and ((markPairS_alw (ansV (l.map cvItem) lo hi a).1 1 (by decide) (by omega)).and (heldPairS_alw (ansV (l.map cvItem) lo hi a).1.length 1 (by decide) (by omega)))))))))).pick
  have q0 := fun j => (h j).1
  have q1 := fun j => (h j).2.1
  have q2 := fun j => (h j).2.2.1
  have q3 := fun j => (h j).2.2.2.1
  have q4 := fun j => (h j).2.2.2.2.1
  have q5 := fun j => (h j).2.2.2.2.2.1
  have q6 := fun j => (h j).2.2.2.2.2.2.1
  have q7 := fun j => (h j).2.2.2.2.2.2.2.1
  have q8 := fun j => (h j).2.2.2.2.2.2.2.2
  clear h
  refine ⟨K + 9, ?_⟩
  simp only [laws_FnExactScanAt.f, laws_FnExactScanAt.j0, laws_FnExactScanAt.j1, laws_FnExactScanAt.j2, hz0, hz1, q0, q1, q2, q3, q4, q5, q6, q7, q8, hr0, hc1, hc2, Option.bind_some, if_true, if_false, bne_self_eq_false, Bool.false_eq_true]
end Go.Proofs.Ytflogiopajppiaa
