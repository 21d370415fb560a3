/- ApplyEdit: the two contracts in the form that the law's printer takes. -/
import Derived.Test.YtiliaijgkedhnaaApG
import Derived.Test.YtiliaijgkedhnaaApI
namespace Go.Proofs.Ytiliaijgkedhnaa
open Go Go.RowKit Go.Sort
set_option linter.unusedVariables false
set_option linter.unusedSimpArgs false

theorem iApplyEdit_k {x : DVersion} {y : DEdit} {c0 c1 : List Value} {w : World} (k0 : kVersion.K w x c0) (h0 : wfVersion x) (s0 : smVersion 1048576 x) (k1 : kEdit.K w y c1) (h1 : wfEdit y) (s1 : smEdit 1048576 y) : Calls Try.prog 9 #[.agg c0.toArray, .agg c1.toArray] w
    fun e w' => ∃ cs F, e = .returned (.tuple #[.agg cs.toArray, .bool (apOk x y)]) ∧ kVersion.M w' F (apV x y) cs ∧ (∀ b ∈ F, w.heap.size ≤ b) ∧ F.Nodup ∧ Below w.heap.size w w' := by
  obtain ⟨v2, rfl, g2⟩ := kVersion_read k0
  obtain ⟨u2, u3, rfl, d2, d3⟩ := kEdit_read k1
  have g2' := g2; have d2' := d2; have d3' := d3
  obtain ⟨A, c, rfl, _, _⟩ := g2'
  obtain ⟨A2, c2, rfl, _, _⟩ := d2'
  obtain ⟨A3, c3, rfl, _, _⟩ := d3'
  exact iApply_calls x y A A2 A3 c c2 c3 w g2 d2 d3 (by unfold smVersion at s0; omega) (by unfold smEdit at s1; omega) (by unfold smEdit at s1; omega)
theorem sApplyEdit_k {x : DVersion} {y : DEdit} {c0 c1 : List Value} {w : World} (k0 : kVersion.K w x c0) (h0 : wfVersion x) (s0 : smVersion 1048576 x) (k1 : kEdit.K w y c1) (h1 : wfEdit y) (s1 : smEdit 1048576 y) : Calls Try.prog 6 #[.agg c0.toArray, .agg c1.toArray] w
    fun e w' => ∃ cs F, e = .returned (.tuple #[.agg cs.toArray, .bool (apOk x y)]) ∧ kVersion.M w' F (apV x y) cs ∧ (∀ b ∈ F, w.heap.size ≤ b) ∧ F.Nodup ∧ Below w.heap.size w w' := by
  obtain ⟨v2, rfl, g2⟩ := kVersion_read k0
  obtain ⟨u2, u3, rfl, d2, d3⟩ := kEdit_read k1
  have g2' := g2; have d2' := d2; have d3' := d3
  obtain ⟨A, c, rfl, _, _⟩ := g2'
  obtain ⟨A2, c2, rfl, _, _⟩ := d2'
  obtain ⟨A3, c3, rfl, _, _⟩ := d3'
  exact sAE_calls x y A A2 A3 c c2 c3 w g2 d2 d3 (by unfold smVersion at s0; omega) (by unfold smEdit at s1; omega) (by unfold smEdit at s1; omega)
theorem apV_sm {x : DVersion} {y : DEdit} {n m k : Nat} (h0 : smVersion n x) (h1 : smEdit m y) (hn : n + m ≤ k) : smVersion k (apV x y) := by
  unfold smVersion at h0 ⊢
  unfold smEdit at h1
  unfold apV apE
  split
  · have h := addM_len y.fAdd (keepM x.fMetas y.fDrop)
    have h2 := keepM_len x.fMetas y.fDrop
    simp only [apL]
    omega
  · simp
end Go.Proofs.Ytiliaijgkedhnaa
