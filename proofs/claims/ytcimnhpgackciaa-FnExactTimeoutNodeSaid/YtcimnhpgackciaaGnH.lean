/- Nodes: those that follow, crash; what is committed. -/
import Derived.Test.YtcimnhpgackciaaGnG
namespace Go.Proofs.Ytcimnhpgackciaa
open Go Go.RowKit Go.Sort
set_option linter.unusedVariables false
set_option linter.unusedSimpArgs false

def followN (x : DRaftNode) : DRaftNode := { x with fRole := 0, fVotes := [], fMatch := [] }
def crashN (x : DRaftNode) : DRaftNode := { followN x with fCommit := 0 }
def crashV (x : DRaftNode) : DRaftNode := if nodeOk x then crashN x else zRaftNode
theorem Made.node {x : DRaftNode} {w w' : World} {v4 v7 v8 : Value} {F4 F7 F8 : List Nat} {N : Nat} (hN : w.heap.size ≤ N) (r4 : kEntry.Row 59 w' F4 x.fLog v4) (r7 : kInt.Row 3 w' F7 x.fVotes v7) (r8 : kInt.Row 3 w' F8 x.fMatch v8)
    (t4 : ∀ b ∈ F4, N ≤ b) (t7 : ∀ b ∈ F7, N ≤ b) (t8 : ∀ b ∈ F8, N ≤ b) (n : (F4 ++ (F7 ++ F8)).Nodup) (hb : Below w.heap.size w w') :
    Made kRaftNode x w w' (.agg #[.int .i64 x.fId, .int .i64 x.fPeers, .int .i64 x.fTerm, .int .i64 x.fVote, v4, .int .i64 x.fCommit, .int .i64 x.fRole, v7, v8]) :=
  ⟨_, _, rfl, kRaftNode_make r4 r7 r8, bound3 hN t4 t7 t8, n, hb⟩
theorem Made.node0 {w w' : World} (hb : Below w.heap.size w w') : Made kRaftNode zRaftNode w w' (.agg #[.int .i64 0, .int .i64 0, .int .i64 0, .int .i64 0, .slice none 0 0, .int .i64 0, .int .i64 0, .slice none 0 0, .slice none 0 0]) :=
  Made.node (x := zRaftNode) (Nat.le_refl _) (Rp.Row_nil _ _ _) (Rp.Row_nil _ _ _) (Rp.Row_nil _ _ _) (by simp) (by simp) (by simp) (by simp) hb
theorem crashV_sm {x : DRaftNode} {n m : Nat} (h : smRaftNode n x) (hn : n ≤ m) : smRaftNode m (crashV x) := by
  unfold smRaftNode at *
  unfold crashV crashN followN zRaftNode
  split <;> simp <;> omega
theorem comV_sm {x : DRaftNode} {n m : Nat} (h : smRaftNode n x) (hn : n ≤ m) : (comV x).length ≤ m := by
  unfold smRaftNode at *
  unfold comV
  split
  · rw [List.length_take]; omega
  · simp
end Go.Proofs.Ytcimnhpgackciaa
