/- Logs: what is dropped in front: contracts in one form. -/
import Derived.Test.YtjigbmgfjmghcaaWalJ
import Derived.Test.YtjigbmgfjmghcaaG3
namespace Go.Proofs.Ytjigbmgfjmghcaa
open Go Go.RowKit Go.Sort
set_option linter.unusedVariables false
set_option linter.unusedSimpArgs false

theorem dropW_len (x : DWal) (n : Int) : (dropW x n).fEntries.length ≤ x.fEntries.length := by
  unfold dropW restW zWal
  split
  · split <;> simp
  · simp
theorem sDropWal_k {x : DWal} {n : Int} {c0 : List Value} {w : World} (k0 : kWal.K w x c0) (h0 : wfWal x) (s0 : smWal 1048576 x) (h1 : (Lit.int .i64 n).wf = true) : Calls Try.prog 13 #[.agg c0.toArray, .int .i64 n] w
    fun e w' => ∃ cs F, e = .returned (.tuple #[.agg cs.toArray, .bool (dropB x n)]) ∧ kWal.M w' F (dropW x n) cs ∧ (∀ b ∈ F, w.heap.size ≤ b) ∧ F.Nodup ∧ Below w.heap.size w w' := by
  obtain ⟨v2, rfl, g2⟩ := kWal_read k0
  refine (sDropWal_calls x n v2 w g2 s0).mono ?_
  rintro e w' ⟨v, rfl, u, F, rfl, r, h1, h2, h3⟩
  exact ⟨_, F, rfl, kWal_make r, h1, h2, h3⟩
theorem iDropWal_k {x : DWal} {n : Int} {c0 : List Value} {w : World} (k0 : kWal.K w x c0) (h0 : wfWal x) (s0 : smWal 1048576 x) (h1 : (Lit.int .i64 n).wf = true) : Calls Try.prog 12 #[.agg c0.toArray, .int .i64 n] w
    fun e w' => ∃ cs F, e = .returned (.tuple #[.agg cs.toArray, .bool (dropB x n)]) ∧ kWal.M w' F (dropW x n) cs ∧ (∀ b ∈ F, w.heap.size ≤ b) ∧ F.Nodup ∧ Below w.heap.size w w' := by
  obtain ⟨v2, rfl, g2⟩ := kWal_read k0
  refine (iDropWal_calls x n v2 w g2 s0).mono ?_
  rintro e w' ⟨v, rfl, u, F, rfl, r, h1, h2, h3⟩
  exact ⟨_, F, rfl, kWal_make r, h1, h2, h3⟩
end Go.Proofs.Ytjigbmgfjmghcaa
