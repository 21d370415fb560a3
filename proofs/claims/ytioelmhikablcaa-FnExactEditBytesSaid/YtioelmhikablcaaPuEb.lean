/- What EditBytes answers, over numbers and lists alone. -/
import Derived.Test.YtioelmhikablcaaIEb
import Derived.Test.YtioelmhikablcaaEREb
import Derived.Test.YtioelmhikablcaaPFnExactEditBytesx10
namespace Go.Proofs.Ytioelmhikablcaa
open Go Go.RowKit Go.Proofs.YtioelmhikablcaaW.PrintWords Go.Proofs.YtioelmhikablcaaW.PrintLast Go.Proofs.YtioelmhikablcaaW.PrintMore Go.Proofs.Ytioelmhikablcaa.PFnExactEditBytes
set_option linter.unusedVariables false
set_option linter.unusedSimpArgs false

set_option maxHeartbeats 4000000 in
theorem pure_FnExactEditBytes (a b : Int) (d : List Int) (m : List (S217)) (w0 : ((Lit.int .i64 a).wf = true) ∧ ((Lit.int .i64 b).wf = true) ∧ ((∀ y ∈ d, ((Lit.int .i64 y).wf = true)) ∧ d.length * Try.prog.bytesOf 3 ≤ 140737488351232) ∧ ((∀ y ∈ m, wfMeta y) ∧ m.length * Try.prog.bytesOf 217 ≤ 140737488351232)) : ∃ k, laws_FnExactEditBytes.f k a b d m = some true := by
  obtain ⟨r0, hs0⟩ := szEdit_some a b d m 1048576 (by obtain ⟨_, _, ⟨_, d0⟩, ⟨_, m0⟩⟩ := w0; rw [show Try.prog.bytesOf 3 = 8 by kernel_rfl] at d0; rw [show Try.prog.bytesOf 217 = 48 by kernel_rfl] at m0; omega) (by obtain ⟨_, _, ⟨_, d0⟩, ⟨_, m0⟩⟩ := w0; rw [show Try.prog.bytesOf 3 = 8 by kernel_rfl] at d0; rw [show Try.prog.bytesOf 217 = 48 by kernel_rfl] at m0; omega)
  by_cases hr0 : r0 < 0
  · obtain ⟨K, h⟩ := (hs0).pick
    obtain g0 := h 0
    exact ⟨K + 0, by unfold laws_FnExactEditBytes.f; simp only [g0, hr0, Option.bind_some, if_true, if_false]⟩
  have hd : d.length ≤ 17592186043904 := by obtain ⟨_, _, ⟨_, d0⟩, ⟨_, m0⟩⟩ := w0; rw [show Try.prog.bytesOf 3 = 8 by kernel_rfl] at d0; rw [show Try.prog.bytesOf 217 = 48 by kernel_rfl] at m0; omega
  have hm : m.length ≤ 2932031007402 := by obtain ⟨_, _, ⟨_, d0⟩, ⟨_, m0⟩⟩ := w0; rw [show Try.prog.bytesOf 3 = 8 by kernel_rfl] at d0; rw [show Try.prog.bytesOf 217 = 48 by kernel_rfl] at m0; omega
  have hm3 : (m.map cvMeta).length ≤ 2932031007402 := by rw [List.length_map]; exact hm
  obtain ⟨K, h⟩ := ((hs0).and ((toEdit_alw a b d m (by omega) (by omega)).and ((ans_s a b d (m.map cvMeta) (by omega) (by omega)).and ((ans_i a b d (m.map cvMeta) (by omega) (by omega)).and (eqEdit_alw a b d (m.map cvMeta) (by omega) (by omega)))))).pick
  have q0 := fun j => (h j).1
  have q1 := fun j => (h j).2.1
  have q2 := fun j => (h j).2.2.1
  have q3 := fun j => (h j).2.2.2.1
  have q4 := fun j => (h j).2.2.2.2
  clear h
  refine ⟨K + 9, ?_⟩
  simp only [laws_FnExactEditBytes.f, laws_FnExactEditBytes.j0, q0, q1, q2, q3, q4, hr0, Option.bind_some, if_true, if_false, bne_self_eq_false, Bool.false_eq_true]
end Go.Proofs.Ytioelmhikablcaa
