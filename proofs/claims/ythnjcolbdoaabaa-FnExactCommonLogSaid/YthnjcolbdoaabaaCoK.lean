/- CommonLog: the uniform contracts. -/
import Derived.Test.YthnjcolbdoaabaaCoI
import Derived.Test.YthnjcolbdoaabaaCluK
namespace Go.Proofs.Ythnjcolbdoaabaa
open Go Go.RowKit Go.Sort
set_option linter.unusedVariables false
set_option linter.unusedSimpArgs false

theorem sCommonLog_k {x : DCluster} {c0 : List Value} {w : World} (k0 : kCluster.K w x c0) (h0 : wfCluster x) (s0 : smCluster 1048576 x) : Calls Try.prog 49 #[.agg c0.toArray] w
    fun e w' => ∃ v F, e = .returned (.tuple #[v, .bool (cluOk x)]) ∧ kEntryS.M w' F (clV x) [v] ∧ (∀ b ∈ F, w.heap.size ≤ b) ∧ F.Nodup ∧ Below w.heap.size w w' := by
  obtain ⟨v0, v1, v2, rfl, g0, g1, g2⟩ := kCluster_read k0
  refine (sCommonLog_calls x v0 v1 v2 w g0 g1 g2 s0).mono ?_
  rintro e w' ⟨v, rfl, F, h1, h2, h3, h4⟩
  exact ⟨v, F, rfl, kEntryS_make h1, h2, h3, h4⟩
theorem iCommonLog_k {x : DCluster} {c0 : List Value} {w : World} (k0 : kCluster.K w x c0) (h0 : wfCluster x) (s0 : smCluster 1048576 x) : Calls Try.prog 50 #[.agg c0.toArray] w
    fun e w' => ∃ v F, e = .returned (.tuple #[v, .bool (cluOk x)]) ∧ kEntryS.M w' F (clV x) [v] ∧ (∀ b ∈ F, w.heap.size ≤ b) ∧ F.Nodup ∧ Below w.heap.size w w' := by
  obtain ⟨v0, v1, v2, rfl, g0, g1, g2⟩ := kCluster_read k0
  refine (iCommonLog_calls x v0 v1 v2 w g0 g1 g2 s0).mono ?_
  rintro e w' ⟨v, rfl, F, h1, h2, h3, h4⟩
  exact ⟨v, F, rfl, kEntryS_make h1, h2, h3, h4⟩
theorem clV_sm {x : DCluster} {n k : Nat} (h : smCluster n x) (hn : n ≤ k) : smEntryS k (clV x) := by
  have h1 := h.1.1
  unfold clV
  split
  · rename_i hc
    have h0 : 0 < x.fNodes.length := (clu_len hc).1
    have h2 := clF_len h0 x.fNodes.length (Nat.le_refl _)
    have h3 := (clu_at hc 0 h0).2
    obtain ⟨_, _, _, h60, _⟩ := comm_nat h3
    have h4 := (h.1.2 _ (List.getElem_mem h0)).1
    exact Nat.le_trans h2 (by first | omega | (have := h4.1; omega))
  · exact Nat.zero_le _
end Go.Proofs.Ythnjcolbdoaabaa
