/- TimeoutNode in the laws' form. -/
import Derived.Test.YtcimnhpgackciaaToB
import Derived.Test.YtcimnhpgackciaaMkH
namespace Go.Proofs.Ytcimnhpgackciaa
open Go Go.RowKit Go.Sort
set_option linter.unusedVariables false
set_option linter.unusedSimpArgs false

theorem iTimeoutNode_k {x : DRaftNode} {c0 : List Value} {w : World} (k0 : kRaftNode.K w x c0) (h0 : wfRaftNode x) (s0 : smRaftNode 1048576 x) : Calls Try.prog 7 #[.agg c0.toArray] w
    fun e w' => ∃ cs F u G, e = .returned (.tuple #[.agg cs.toArray, u, .bool (tmOk x)]) ∧ kRaftNode.M w' F (tmV x) cs ∧ kRaftMsgS.M w' G (tmM x) [u] ∧ (∀ b ∈ F ++ G, w.heap.size ≤ b) ∧ (F ++ G).Nodup ∧ Below w.heap.size w w' := by
  obtain ⟨v4, v7, v8, rfl, g4, g7, g8⟩ := kRaftNode_read k0
  refine (iTm_calls x v4 v7 v8 w g4 g7 g8 s0).mono ?_
  rintro e w' ⟨v, u, rfl, cs, F, G, rfl, h1, h2, h3, h4, h5⟩
  exact ⟨cs, F, u, G, rfl, h1, kRaftMsgS_make h2, h3, h4, h5⟩
theorem sTimeoutNode_k {x : DRaftNode} {c0 : List Value} {w : World} (k0 : kRaftNode.K w x c0) (h0 : wfRaftNode x) (s0 : smRaftNode 1048576 x) : Calls Try.prog 5 #[.agg c0.toArray] w
    fun e w' => ∃ cs F u G, e = .returned (.tuple #[.agg cs.toArray, u, .bool (tmOk x)]) ∧ kRaftNode.M w' F (tmV x) cs ∧ kRaftMsgS.M w' G (tmM x) [u] ∧ (∀ b ∈ F ++ G, w.heap.size ≤ b) ∧ (F ++ G).Nodup ∧ Below w.heap.size w w' := by
  obtain ⟨v4, v7, v8, rfl, g4, g7, g8⟩ := kRaftNode_read k0
  refine (sTm_calls x v4 v7 v8 w g4 g7 g8 s0).mono ?_
  rintro e w' ⟨v, u, rfl, cs, F, G, rfl, h1, h2, h3, h4, h5⟩
  exact ⟨cs, F, u, G, rfl, h1, kRaftMsgS_make h2, h3, h4, h5⟩
theorem tmV_sm {x : DRaftNode} (h : smRaftNode 1048576 x) : smRaftNode 4194304 (tmV x) := by
  unfold smRaftNode at *
  unfold tmV tmN tmL tmA zRaftNode
  split
  · split <;> simp <;> omega
  · simp
theorem tmM_sm {x : DRaftNode} (h : smRaftNode 1048576 x) : smRaftMsgS 4194304 (tmM x) := by
  unfold tmM
  split
  · rename_i ho
    simp only [Bool.and_eq_true, tmOk] at ho
    obtain ⟨f1, f2, _⟩ := nodeOk_facts ho.1.1.1
    have hl := tmMk_len x x.fPeers.toNat
    refine ⟨by rw [List.length_map]; omega, fun y hy => ?_⟩
    obtain ⟨z, _, rfl⟩ := List.mem_map.1 hy
    exact Nat.zero_le _
  · exact ⟨by simp, by simp⟩
end Go.Proofs.Ytcimnhpgackciaa
