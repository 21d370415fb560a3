/- How far marks of a cluster go. -/
import Derived.Test.YthnjcolbdoaabaaMkD
namespace Go.Proofs.Ythnjcolbdoaabaa
open Go Go.RowKit Go.Sort
set_option linter.unusedVariables false
set_option linter.unusedSimpArgs false

theorem mkL_top_mem {α : Type} {mk : α → Int → α × Int} {c : Nat} : ∀ (xs : List α) (k : Int), (∀ x ∈ xs, ∀ k, (mk x k).2 ≤ k + c) → (mkL mk xs k).2 ≤ k + c * xs.length
  | [], k, _ => by simp [mkL]
  | x :: xs, k, h => by
    have h1 := h x (by simp) k
    have h2 := mkL_top_mem xs (mk x k).2 (fun y hy => h y (by simp [hy]))
    simp only [mkL, List.length_cons]
    have h3 : (c : Int) * ((xs.length + 1 : Nat) : Int) = c * xs.length + c := by
      rw [Int.natCast_add, Int.mul_add]
      simp
    omega
theorem meRaftNode_top {x : DRaftNode} (h : smRaftNode 1048576 x) (k : Int) : (meRaftNode x k).2 ≤ k + (4194310 : Nat) := by
  obtain ⟨l4, l7, l8⟩ := h
  have h4 := mkL_top (mk := mkEntry) (c := 2) (fun _ _ => Int.le_refl _) x.fLog (k + 1 + 1 + 1 + 1)
  have h7 := mkL_top (mk := mkInt) (c := 1) (fun _ _ => Int.le_refl _) x.fVotes ((mkL mkEntry x.fLog (k + 1 + 1 + 1 + 1)).2 + 1 + 1)
  have h8 := mkL_top (mk := mkInt) (c := 1) (fun _ _ => Int.le_refl _) x.fMatch (mkL mkInt x.fVotes ((mkL mkEntry x.fLog (k + 1 + 1 + 1 + 1)).2 + 1 + 1)).2
  simp only [meRaftNode]
  omega
theorem meRaftMsg_top {x : DRaftMsg} (h : smRaftMsg 1048576 x) (k : Int) : (meRaftMsg x k).2 ≤ k + (2097160 : Nat) := by
  have l6 : x.fEntries.length ≤ 1048576 := h
  have h6 := mkL_top (mk := mkEntry) (c := 2) (fun _ _ => Int.le_refl _) x.fEntries (k + 1 + 1 + 1 + 1 + 1 + 1)
  simp only [meRaftMsg]
  omega
theorem mkCluster_sm {x : DCluster} {k : Int} (h : smCluster 1048576 x) : (mkCluster x k).2 ≤ k + 7000000000000 := by
  obtain ⟨⟨l0, s0⟩, ⟨l1, s1⟩, l2⟩ := h
  have h0 := mkL_top_mem (mk := meRaftNode) (c := 4194310) x.fNodes k (fun y hy k => meRaftNode_top (s0 y hy) k)
  have h1 := mkL_top_mem (mk := meRaftMsg) (c := 2097160) x.fNet (mkL meRaftNode x.fNodes k).2 (fun y hy k => meRaftMsg_top (s1 y hy) k)
  have h2 := mkL_top (mk := mkLead) (c := 2) (fun _ _ => Int.le_refl _) x.fLeads (mkL meRaftMsg x.fNet (mkL meRaftNode x.fNodes k).2).2
  simp only [mkCluster]
  omega
end Go.Proofs.Ythnjcolbdoaabaa
