/- EditBetween: the two contracts in the form that the law's printer takes. -/
import Derived.Test.YtioelmhikablcaaEbD
namespace Go.Proofs.Ytioelmhikablcaa
open Go Go.RowKit Go.Sort
set_option linter.unusedVariables false
set_option linter.unusedSimpArgs false

theorem iEditBetween_k {x y : DVersion} {c0 c1 : List Value} {w : World} (k0 : kVersion.K w x c0) (h0 : wfVersion x) (s0 : smVersion 1048576 x) (k1 : kVersion.K w y c1) (h1 : wfVersion y) (s1 : smVersion 1048576 y) : Calls Try.prog 57 #[.agg c0.toArray, .agg c1.toArray] w
    fun e w' => ∃ cs F, e = .returned (.tuple #[.agg cs.toArray, .bool (ebOk x y)]) ∧ kEdit.M w' F (ebV x y) cs ∧ (∀ b ∈ F, w.heap.size ≤ b) ∧ F.Nodup ∧ Below w.heap.size w w' := by
  obtain ⟨v2, rfl, g2⟩ := kVersion_read k0
  obtain ⟨u2, rfl, d2⟩ := kVersion_read k1
  exact iEB_calls x y v2 u2 w g2 d2 (by unfold smVersion at s0; omega) (by unfold smVersion at s1; omega)
theorem sEditBetween_k {x y : DVersion} {c0 c1 : List Value} {w : World} (k0 : kVersion.K w x c0) (h0 : wfVersion x) (s0 : smVersion 1048576 x) (k1 : kVersion.K w y c1) (h1 : wfVersion y) (s1 : smVersion 1048576 y) : Calls Try.prog 55 #[.agg c0.toArray, .agg c1.toArray] w
    fun e w' => ∃ cs F, e = .returned (.tuple #[.agg cs.toArray, .bool (ebOk x y)]) ∧ kEdit.M w' F (ebV x y) cs ∧ (∀ b ∈ F, w.heap.size ≤ b) ∧ F.Nodup ∧ Below w.heap.size w w' := by
  obtain ⟨v2, rfl, g2⟩ := kVersion_read k0
  obtain ⟨u2, rfl, d2⟩ := kVersion_read k1
  exact sEB_calls x y v2 u2 w g2 d2 (by unfold smVersion at s0; omega) (by unfold smVersion at s1; omega)
theorem ebV_sm {x y : DVersion} {n k : Nat} (h0 : smVersion n x) (h1 : smVersion n y) (hn : n ≤ k) : smEdit k (ebV x y) := by
  unfold smVersion at h0 h1
  have hd := dropE_len x.fMetas y.fMetas
  have ha := addE_len x.fMetas y.fMetas
  unfold smEdit ebV ebE
  split
  · simp only; omega
  · simp
end Go.Proofs.Ytioelmhikablcaa
