/- The first version. -/
import Derived.Test.YtnlplihbjbmepaaV2
namespace Go.Proofs.Ytnlplihbjbmepaa
open Go Go.RowKit Go.Sort
set_option linter.unusedVariables false
set_option linter.unusedSimpArgs false

def ver1 : DVersion := ⟨1, 0, []⟩
set_option maxHeartbeats 1000000 in
theorem sNewVersion_k {w : World} : Calls Try.prog 12 #[] w
    fun e w' => ∃ cs F, e = .returned (.agg cs.toArray) ∧ kVersion.M w' F ver1 cs ∧ (∀ b ∈ F, w.heap.size ≤ b) ∧ F.Nodup ∧ Below w.heap.size w w' := by
  go_enter Try.func12, Try.ntmps12
  go_wp2
  have B0 : Box (w.alloc (.cells #[.int .i64 1, .int .i64 0, .slice none 0 0] 24)) w.heap.size #[.int .i64 1, .int .i64 0, .slice none 0 0] 24 := Box.new rfl
  have d0 := B0.cell 0 (v := .int .i64 1) rfl
  have d1 := B0.cell 1 (v := .int .i64 0) rfl
  have d2 := B0.cell 2 (v := .slice none 0 0) rfl
  exact bodyPost_ret (v := .agg #[.int .i64 1, .int .i64 0, .slice none 0 0]) (by simp [results, Try.results12, go_sem]) rfl ⟨[.int .i64 1, .int .i64 0, .slice none 0 0], [], rfl, kVersion_make (x := ver1) (Rp.Row_nil _ _ _), by simp, by simp, (Below.refl _ _).alloc (Nat.le_refl _) _⟩
set_option maxHeartbeats 1000000 in
theorem iNewVersion_k {w : World} : Calls Try.prog 13 #[] w
    fun e w' => ∃ cs F, e = .returned (.agg cs.toArray) ∧ kVersion.M w' F ver1 cs ∧ (∀ b ∈ F, w.heap.size ≤ b) ∧ F.Nodup ∧ Below w.heap.size w w' := by
  go_enter Try.func13, Try.ntmps13
  go_wp2
  have B0 : Box (w.alloc (.cells #[.int .i64 1, .int .i64 0, .slice none 0 0] 24)) w.heap.size #[.int .i64 1, .int .i64 0, .slice none 0 0] 24 := Box.new rfl
  have d0 := B0.cell 0 (v := .int .i64 1) rfl
  have d1 := B0.cell 1 (v := .int .i64 0) rfl
  have d2 := B0.cell 2 (v := .slice none 0 0) rfl
  exact bodyPost_ret (v := .agg #[.int .i64 1, .int .i64 0, .slice none 0 0]) (by simp [results, Try.results13, go_sem]) rfl ⟨[.int .i64 1, .int .i64 0, .slice none 0 0], [], rfl, kVersion_make (x := ver1) (Rp.Row_nil _ _ _), by simp, by simp, (Below.refl _ _).alloc (Nat.le_refl _) _⟩
end Go.Proofs.Ytnlplihbjbmepaa
