/- Logs: contracts in one form. -/
import Derived.Test.YtjigbmgfjmghcaaWalD
import Derived.Test.YtjigbmgfjmghcaaG3
namespace Go.Proofs.Ytjigbmgfjmghcaa
open Go Go.RowKit Go.Sort
set_option linter.unusedVariables false
set_option linter.unusedSimpArgs false

theorem appendW_len (x : DWal) (y : DEntry) : (appendW x y).fEntries.length ≤ x.fEntries.length + 1 := by
  unfold appendW addW zWal
  split <;> simp
theorem sAppendWal_k {x : DWal} {y : DEntry} {c0 c1 : List Value} {w : World} (k0 : kWal.K w x c0) (h0 : wfWal x) (s0 : smWal 1048576 x) (k1 : kEntry.K w y c1) (h1 : wfEntry y) (s1 : smEntry 1048576 y) : Calls Try.prog 6 #[.agg c0.toArray, .agg c1.toArray] w
    fun e w' => ∃ cs F, e = .returned (.tuple #[.agg cs.toArray, .bool (appendB x y)]) ∧ kWal.M w' F (appendW x y) cs ∧ (∀ b ∈ F, w.heap.size ≤ b) ∧ F.Nodup ∧ Below w.heap.size w w' := by
  obtain ⟨v2, rfl, g2⟩ := kWal_read k0
  obtain rfl := kEntry_K k1
  have hl : x.fEntries.length ≤ 1048576 := s0
  refine (sAppendWal_calls x y v2 w g2 (by omega)).mono ?_
  rintro e w' ⟨v, rfl, u, F, rfl, r, h1, h2, h3⟩
  exact ⟨_, F, rfl, kWal_make r, h1, h2, h3⟩
theorem iAppendWal_k {x : DWal} {y : DEntry} {c0 c1 : List Value} {w : World} (k0 : kWal.K w x c0) (h0 : wfWal x) (s0 : smWal 1048576 x) (k1 : kEntry.K w y c1) (h1 : wfEntry y) (s1 : smEntry 1048576 y) : Calls Try.prog 5 #[.agg c0.toArray, .agg c1.toArray] w
    fun e w' => ∃ cs F, e = .returned (.tuple #[.agg cs.toArray, .bool (appendB x y)]) ∧ kWal.M w' F (appendW x y) cs ∧ (∀ b ∈ F, w.heap.size ≤ b) ∧ F.Nodup ∧ Below w.heap.size w w' := by
  obtain ⟨v2, rfl, g2⟩ := kWal_read k0
  obtain rfl := kEntry_K k1
  have hl : x.fEntries.length ≤ 1048576 := s0
  refine (iAppendWal_calls x y v2 w g2 (by omega)).mono ?_
  rintro e w' ⟨v, rfl, u, F, rfl, r, h1, h2, h3⟩
  exact ⟨_, F, rfl, kWal_make r, h1, h2, h3⟩
end Go.Proofs.Ytjigbmgfjmghcaa
