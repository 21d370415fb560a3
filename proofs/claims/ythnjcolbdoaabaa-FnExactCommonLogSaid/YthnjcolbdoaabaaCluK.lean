/- Clusters: the uniform contracts of GoodCluster. -/
import Derived.Test.YthnjcolbdoaabaaCluI
import Derived.Test.YthnjcolbdoaabaaCluS
namespace Go.Proofs.Ythnjcolbdoaabaa
open Go Go.RowKit Go.Sort
set_option linter.unusedVariables false
set_option linter.unusedSimpArgs false

theorem sGoodCluster_k {x : DCluster} {c0 : List Value} {w : World} (k0 : kCluster.K w x c0) (h0 : wfCluster x) (s0 : smCluster 1048576 x) : Calls Try.prog 45 #[.agg c0.toArray] w
    fun e w' => e = .returned (.bool (cluOk x)) ∧ Below w.heap.size w w' := by
  obtain ⟨v0, v1, v2, rfl, g0, g1, g2⟩ := kCluster_read k0
  exact sGoodCluster_calls x v0 v1 v2 w g0 g1 g2 s0
theorem iGoodCluster_k {x : DCluster} {c0 : List Value} {w : World} (k0 : kCluster.K w x c0) (h0 : wfCluster x) (s0 : smCluster 1048576 x) : Calls Try.prog 46 #[.agg c0.toArray] w
    fun e w' => e = .returned (.bool (cluOk x)) ∧ Below w.heap.size w w' := by
  obtain ⟨v0, v1, v2, rfl, g0, g1, g2⟩ := kCluster_read k0
  exact iGoodCluster_calls x v0 v1 v2 w g0 g1 g2 s0
end Go.Proofs.Ythnjcolbdoaabaa
