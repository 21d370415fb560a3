/- Logs: what is cut off behind: contracts in one form. -/
import Derived.Test.YtfcodelfgjnkhaaWalF
import Derived.Test.YtfcodelfgjnkhaaG3
namespace Go.Proofs.Ytfcodelfgjnkhaa
open Go Go.RowKit Go.Sort
set_option linter.unusedVariables false
set_option linter.unusedSimpArgs false

theorem cutW_len (x : DWal) (n : Int) : (cutW x n).fEntries.length ≤ x.fEntries.length := by
  unfold cutW takeW zWal
  split <;> simp <;> omega
theorem sCutWal_k {x : DWal} {n : Int} {c0 : List Value} {w : World} (k0 : kWal.K w x c0) (h0 : wfWal x) (s0 : smWal 1048576 x) (h1 : (Lit.int .i64 n).wf = true) : Calls Try.prog 13 #[.agg c0.toArray, .int .i64 n] w
    fun e w' => ∃ cs F, e = .returned (.tuple #[.agg cs.toArray, .bool (cutB x n)]) ∧ kWal.M w' F (cutW x n) cs ∧ (∀ b ∈ F, w.heap.size ≤ b) ∧ F.Nodup ∧ Below w.heap.size w w' := by
  obtain ⟨v2, rfl, g2⟩ := kWal_read k0
  refine (sCutWal_calls x n v2 w g2 s0).mono ?_
  rintro e w' ⟨v, rfl, u, F, rfl, r, h1, h2, h3⟩
  exact ⟨_, F, rfl, kWal_make r, h1, h2, h3⟩
theorem iCutWal_k {x : DWal} {n : Int} {c0 : List Value} {w : World} (k0 : kWal.K w x c0) (h0 : wfWal x) (s0 : smWal 1048576 x) (h1 : (Lit.int .i64 n).wf = true) : Calls Try.prog 15 #[.agg c0.toArray, .int .i64 n] w
    fun e w' => ∃ cs F, e = .returned (.tuple #[.agg cs.toArray, .bool (cutB x n)]) ∧ kWal.M w' F (cutW x n) cs ∧ (∀ b ∈ F, w.heap.size ≤ b) ∧ F.Nodup ∧ Below w.heap.size w w' := by
  obtain ⟨v2, rfl, g2⟩ := kWal_read k0
  refine (iCutWal_calls x n v2 w g2 s0).mono ?_
  rintro e w' ⟨v, rfl, u, F, rfl, r, h1, h2, h3⟩
  exact ⟨_, F, rfl, kWal_make r, h1, h2, h3⟩
end Go.Proofs.Ytfcodelfgjnkhaa
