/- LeadersOf: the uniform contracts. -/
import Derived.Test.YthnjcolbdoaabaaLdI
import Derived.Test.YthnjcolbdoaabaaCluK
namespace Go.Proofs.Ythnjcolbdoaabaa
open Go Go.RowKit Go.Sort
set_option linter.unusedVariables false
set_option linter.unusedSimpArgs false

theorem sLeadersOf_k {x : DCluster} {c0 : List Value} {w : World} (k0 : kCluster.K w x c0) (h0 : wfCluster x) (s0 : smCluster 1048576 x) : Calls Try.prog 34 #[.agg c0.toArray] w
    fun e w' => ∃ v F, e = .returned (.tuple #[v, .bool (cluOk x)]) ∧ kLeadS.M w' F (ldV x) [v] ∧ (∀ b ∈ F, w.heap.size ≤ b) ∧ F.Nodup ∧ Below w.heap.size w w' := by
  obtain ⟨v0, v1, v2, rfl, g0, g1, g2⟩ := kCluster_read k0
  refine (sLeadersOf_calls x v0 v1 v2 w g0 g1 g2 s0).mono ?_
  rintro e w' ⟨v, rfl, F, h1, h2, h3, h4⟩
  exact ⟨v, F, rfl, kLeadS_make h1, h2, h3, h4⟩
theorem iLeadersOf_k {x : DCluster} {c0 : List Value} {w : World} (k0 : kCluster.K w x c0) (h0 : wfCluster x) (s0 : smCluster 1048576 x) : Calls Try.prog 36 #[.agg c0.toArray] w
    fun e w' => ∃ v F, e = .returned (.tuple #[v, .bool (cluOk x)]) ∧ kLeadS.M w' F (ldV x) [v] ∧ (∀ b ∈ F, w.heap.size ≤ b) ∧ F.Nodup ∧ Below w.heap.size w w' := by
  obtain ⟨v0, v1, v2, rfl, g0, g1, g2⟩ := kCluster_read k0
  refine (iLeadersOf_calls x v0 v1 v2 w g0 g1 g2 s0).mono ?_
  rintro e w' ⟨v, rfl, F, h1, h2, h3, h4⟩
  exact ⟨v, F, rfl, kLeadS_make h1, h2, h3, h4⟩
theorem ldV_sm {x : DCluster} {n k : Nat} (h : smCluster n x) (hn : n ≤ k) : smLeadS k (ldV x) := by
  have h1 := h.1.1
  unfold ldV
  split
  · exact Nat.le_trans (ldS_len _ _) (Nat.le_trans h1 hn)
  · exact Nat.zero_le _
end Go.Proofs.Ythnjcolbdoaabaa
