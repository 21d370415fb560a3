/- Nodes: those that follow, crash; what is committed. -/
import Derived.Test.YtljkcmbebdbnaaaGnG
namespace Go.Proofs.Ytljkcmbebdbnaaa
open Go Go.RowKit Go.Sort
set_option linter.unusedVariables false
set_option linter.unusedSimpArgs false

def followN (x : DRaftNode) : DRaftNode := { x with fRole := 0, fVotes := [], fMatch := [] }
def crashN (x : DRaftNode) : DRaftNode := { followN x with fCommit := 0 }
def crashV (x : DRaftNode) : DRaftNode := if nodeOk x then crashN x else zRaftNode
theorem Made.node {x : DRaftNode} {w w' : World} {v4 v7 v8 : Value} {F4 F7 F8 : List Nat} {N : Nat} (hN : w.heap.size ≤ N) (r4 : kEntry.Row 73 w' F4 x.fLog v4) (r7 : kInt.Row 3 w' F7 x.fVotes v7) (r8 : kInt.Row 3 w' F8 x.fMatch v8)
    (t4 : ∀ b ∈ F4, N ≤ b) (t7 : ∀ b ∈ F7, N ≤ b) (t8 : ∀ b ∈ F8, N ≤ b) (n : (F4 ++ (F7 ++ F8)).Nodup) (hb : Below w.heap.size w w') :
    Made kRaftNode x w w' (.agg #[.int .i64 x.fId, .int .i64 x.fPeers, .int .i64 x.fTerm, .int .i64 x.fVote, v4, .int .i64 x.fCommit, .int .i64 x.fRole, v7, v8]) :=
  ⟨_, _, rfl, kRaftNode_make r4 r7 r8, bound3 hN t4 t7 t8, n, hb⟩
theorem Made.node0 {w w' : World} (hb : Below w.heap.size w w') : Made kRaftNode zRaftNode w w' (.agg #[.int .i64 0, .int .i64 0, .int .i64 0, .int .i64 0, .slice none 0 0, .int .i64 0, .int .i64 0, .slice none 0 0, .slice none 0 0]) :=
  Made.node (x := zRaftNode) (Nat.le_refl _) (Rp.Row_nil _ _ _) (Rp.Row_nil _ _ _) (Rp.Row_nil _ _ _) (by simp) (by simp) (by simp) (by simp) hb
set_option maxHeartbeats 2000000 in
set_option maxRecDepth 100000 in
theorem iFollow_calls (x : DRaftNode) (b : Nat) (A4 A7 A8 : Option Addr) (n4 d4 n7 d7 n8 d8 : Nat) (w : World) (B : Box w b #[.int .i64 x.fId, .int .i64 x.fPeers, .int .i64 x.fTerm, .int .i64 x.fVote, .slice A4 n4 d4, .int .i64 x.fCommit, .int .i64 x.fRole, .slice A7 n7 d7, .slice A8 n8 d8] 30) : Calls Try.prog 77 #[.pointer (some ⟨b, 0, none⟩)] w
    fun e w' => e = .returned (.tuple #[]) ∧ KeptF [b] w w' ∧ Box w' b #[.int .i64 x.fId, .int .i64 x.fPeers, .int .i64 x.fTerm, .int .i64 x.fVote, .slice A4 n4 d4, .int .i64 x.fCommit, .int .i64 0, .slice none 0 0, .slice none 0 0] 30 := by
  have cb_0 := B.cell 0 (v := .int .i64 x.fId) rfl; have cb_1 := B.cell 1 (v := .int .i64 x.fPeers) rfl; have cb_2 := B.cell 2 (v := .int .i64 x.fTerm) rfl; have cb_3 := B.cell 3 (v := .int .i64 x.fVote) rfl; have cb_4 := B.cell 4 (v := .slice A4 n4 d4) rfl; have cb_5 := B.cell 5 (v := .int .i64 x.fCommit) rfl; have cb_6 := B.cell 6 (v := .int .i64 x.fRole) rfl; have cb_7 := B.cell 7 (v := .slice A7 n7 d7) rfl; have cb_8 := B.cell 8 (v := .slice A8 n8 d8) rfl
  have fb := B.fro
  have X := Lib.hid B; clear B
  go_enter Try.func77, Try.ntmps77
  go_wp2
  go_end0
  exact ⟨rfl, (((KeptF.refl [b] w).set (p := ⟨b, 6, none⟩) (by simp) _).set (p := ⟨b, 7, none⟩) (by simp) _).set (p := ⟨b, 8, none⟩) (by simp) _, ((X.out.set 6 (.int .i64 0)).set 7 (.slice none 0 0)).set 8 (.slice none 0 0)⟩
set_option maxHeartbeats 2000000 in
set_option maxRecDepth 100000 in
theorem sFollow_calls (x : DRaftNode) (A4 A7 A8 : Option Addr) (n4 d4 n7 d7 n8 d8 : Nat) (w : World) : Calls Try.prog 74 #[.agg #[.int .i64 x.fId, .int .i64 x.fPeers, .int .i64 x.fTerm, .int .i64 x.fVote, .slice A4 n4 d4, .int .i64 x.fCommit, .int .i64 x.fRole, .slice A7 n7 d7, .slice A8 n8 d8]] w
    fun e w' => e = .returned (.agg #[.int .i64 x.fId, .int .i64 x.fPeers, .int .i64 x.fTerm, .int .i64 x.fVote, .slice A4 n4 d4, .int .i64 x.fCommit, .int .i64 0, .slice none 0 0, .slice none 0 0]) ∧ Below w.heap.size w w' := by
  go_enter Try.func74, Try.ntmps74
  go_upto_region 1 with fail
  have HC := Lib.hid (show Below w.heap.size w ((w.alloc (.cells #[.int .i64 x.fId, .int .i64 x.fPeers, .int .i64 x.fTerm, .int .i64 x.fVote, .slice A4 n4 d4, .int .i64 x.fCommit, .int .i64 x.fRole, .slice A7 n7 d7, .slice A8 n8 d8] 30)).alloc (.cells #[.int .i64 0, .int .i64 0, .int .i64 0, .int .i64 0, .slice none 0 0, .int .i64 0, .int .i64 0, .slice none 0 0, .slice none 0 0] 30)) from Below.alloc (Below.alloc (Below.refl w.heap.size w) (by first | exact Nat.le_refl _ | (simp; done) | (simp; omega)) (.cells #[.int .i64 x.fId, .int .i64 x.fPeers, .int .i64 x.fTerm, .int .i64 x.fVote, .slice A4 n4 d4, .int .i64 x.fCommit, .int .i64 x.fRole, .slice A7 n7 d7, .slice A8 n8 d8] 30)) (by first | exact Nat.le_refl _ | (simp; done) | (simp; omega)) (.cells #[.int .i64 0, .int .i64 0, .int .i64 0, .int .i64 0, .slice none 0 0, .int .i64 0, .int .i64 0, .slice none 0 0, .slice none 0 0] 30))
  have Xn := Lib.hid (show Box ((w.alloc (.cells #[.int .i64 x.fId, .int .i64 x.fPeers, .int .i64 x.fTerm, .int .i64 x.fVote, .slice A4 n4 d4, .int .i64 x.fCommit, .int .i64 x.fRole, .slice A7 n7 d7, .slice A8 n8 d8] 30)).alloc (.cells #[.int .i64 0, .int .i64 0, .int .i64 0, .int .i64 0, .slice none 0 0, .int .i64 0, .int .i64 0, .slice none 0 0, .slice none 0 0] 30)) (w.heap.size) #[.int .i64 x.fId, .int .i64 x.fPeers, .int .i64 x.fTerm, .int .i64 x.fVote, .slice A4 n4 d4, .int .i64 x.fCommit, .int .i64 x.fRole, .slice A7 n7 d7, .slice A8 n8 d8] 30 from Box.alloc (Box.new rfl))
  have Xr := Lib.hid (show Box ((w.alloc (.cells #[.int .i64 x.fId, .int .i64 x.fPeers, .int .i64 x.fTerm, .int .i64 x.fVote, .slice A4 n4 d4, .int .i64 x.fCommit, .int .i64 x.fRole, .slice A7 n7 d7, .slice A8 n8 d8] 30)).alloc (.cells #[.int .i64 0, .int .i64 0, .int .i64 0, .int .i64 0, .slice none 0 0, .int .i64 0, .int .i64 0, .slice none 0 0, .slice none 0 0] 30)) (w.heap.size + 1) #[.int .i64 0, .int .i64 0, .int .i64 0, .int .i64 0, .slice none 0 0, .int .i64 0, .int .i64 0, .slice none 0 0, .slice none 0 0] 30 from Box.new (by simp))
  have hsz : w.heap.size + 2 ≤ ((w.alloc (.cells #[.int .i64 x.fId, .int .i64 x.fPeers, .int .i64 x.fTerm, .int .i64 x.fVote, .slice A4 n4 d4, .int .i64 x.fCommit, .int .i64 x.fRole, .slice A7 n7 d7, .slice A8 n8 d8] 30)).alloc (.cells #[.int .i64 0, .int .i64 0, .int .i64 0, .int .i64 0, .slice none 0 0, .int .i64 0, .int .i64 0, .slice none 0 0, .slice none 0 0] 30)).heap.size := by simp
  generalize (w.alloc (.cells #[.int .i64 x.fId, .int .i64 x.fPeers, .int .i64 x.fTerm, .int .i64 x.fVote, .slice A4 n4 d4, .int .i64 x.fCommit, .int .i64 x.fRole, .slice A7 n7 d7, .slice A8 n8 d8] 30)).alloc (.cells #[.int .i64 0, .int .i64 0, .int .i64 0, .int .i64 0, .slice none 0 0, .int .i64 0, .int .i64 0, .slice none 0 0, .slice none 0 0] 30) = w1 at *
  have cn_0 := Xn.out.cell 0 (v := .int .i64 x.fId) rfl; have cn_1 := Xn.out.cell 1 (v := .int .i64 x.fPeers) rfl; have cn_2 := Xn.out.cell 2 (v := .int .i64 x.fTerm) rfl; have cn_3 := Xn.out.cell 3 (v := .int .i64 x.fVote) rfl; have cn_4 := Xn.out.cell 4 (v := .slice A4 n4 d4) rfl; have cn_5 := Xn.out.cell 5 (v := .int .i64 x.fCommit) rfl; have cn_6 := Xn.out.cell 6 (v := .int .i64 x.fRole) rfl; have cn_7 := Xn.out.cell 7 (v := .slice A7 n7 d7) rfl; have cn_8 := Xn.out.cell 8 (v := .slice A8 n8 d8) rfl; have cr_0 := Xr.out.cell 0 (v := .int .i64 0) rfl; have cr_1 := Xr.out.cell 1 (v := .int .i64 0) rfl; have cr_2 := Xr.out.cell 2 (v := .int .i64 0) rfl; have cr_3 := Xr.out.cell 3 (v := .int .i64 0) rfl; have cr_4 := Xr.out.cell 4 (v := .slice none 0 0) rfl; have cr_5 := Xr.out.cell 5 (v := .int .i64 0) rfl; have cr_6 := Xr.out.cell 6 (v := .int .i64 0) rfl; have cr_7 := Xr.out.cell 7 (v := .slice none 0 0) rfl; have cr_8 := Xr.out.cell 8 (v := .slice none 0 0) rfl
  have fn := Xn.out.fro
  go_upto_region 2 with fail
  clear fn
  have hk := kept_set w1 (w.heap.size) 6 (.int .i64 0)
  have Xr := Lib.hid (Xr.out.set_other (a := ⟨w.heap.size, 6, none⟩) (.int .i64 0) (by first | (simp; done) | (simp; omega)))
  have Xn := Lib.hid (show Box (w1.setCell ⟨w.heap.size, 6, none⟩ (.int .i64 0)) (w.heap.size) #[.int .i64 x.fId, .int .i64 x.fPeers, .int .i64 x.fTerm, .int .i64 x.fVote, .slice A4 n4 d4, .int .i64 x.fCommit, .int .i64 0, .slice A7 n7 d7, .slice A8 n8 d8] 30 from Xn.out.set 6 (.int .i64 0))
  have HC := Lib.hid (HC.out.setCell (p := ⟨w.heap.size, 6, none⟩) (by first | (simp; done) | (simp; omega)) (.int .i64 0))
  replace hsz := Nat.le_trans hsz hk.size
  clear hk cn_0 cn_1 cn_2 cn_3 cn_4 cn_5 cn_6 cn_7 cn_8 cr_0 cr_1 cr_2 cr_3 cr_4 cr_5 cr_6 cr_7 cr_8
  generalize w1.setCell ⟨w.heap.size, 6, none⟩ (.int .i64 0) = wa at *
  have cn_0 := Xn.out.cell 0 (v := .int .i64 x.fId) rfl; have cn_1 := Xn.out.cell 1 (v := .int .i64 x.fPeers) rfl; have cn_2 := Xn.out.cell 2 (v := .int .i64 x.fTerm) rfl; have cn_3 := Xn.out.cell 3 (v := .int .i64 x.fVote) rfl; have cn_4 := Xn.out.cell 4 (v := .slice A4 n4 d4) rfl; have cn_5 := Xn.out.cell 5 (v := .int .i64 x.fCommit) rfl; have cn_6 := Xn.out.cell 6 (v := .int .i64 0) rfl; have cn_7 := Xn.out.cell 7 (v := .slice A7 n7 d7) rfl; have cn_8 := Xn.out.cell 8 (v := .slice A8 n8 d8) rfl; have cr_0 := Xr.out.cell 0 (v := .int .i64 0) rfl; have cr_1 := Xr.out.cell 1 (v := .int .i64 0) rfl; have cr_2 := Xr.out.cell 2 (v := .int .i64 0) rfl; have cr_3 := Xr.out.cell 3 (v := .int .i64 0) rfl; have cr_4 := Xr.out.cell 4 (v := .slice none 0 0) rfl; have cr_5 := Xr.out.cell 5 (v := .int .i64 0) rfl; have cr_6 := Xr.out.cell 6 (v := .int .i64 0) rfl; have cr_7 := Xr.out.cell 7 (v := .slice none 0 0) rfl; have cr_8 := Xr.out.cell 8 (v := .slice none 0 0) rfl
  have fn := Xn.out.fro
  go_upto_region 3 with fail
  clear fn
  have hk := kept_set wa (w.heap.size) 7 (.slice none 0 0)
  have Xr := Lib.hid (Xr.out.set_other (a := ⟨w.heap.size, 7, none⟩) (.slice none 0 0) (by first | (simp; done) | (simp; omega)))
  have Xn := Lib.hid (show Box (wa.setCell ⟨w.heap.size, 7, none⟩ (.slice none 0 0)) (w.heap.size) #[.int .i64 x.fId, .int .i64 x.fPeers, .int .i64 x.fTerm, .int .i64 x.fVote, .slice A4 n4 d4, .int .i64 x.fCommit, .int .i64 0, .slice none 0 0, .slice A8 n8 d8] 30 from Xn.out.set 7 (.slice none 0 0))
  have HC := Lib.hid (HC.out.setCell (p := ⟨w.heap.size, 7, none⟩) (by first | (simp; done) | (simp; omega)) (.slice none 0 0))
  replace hsz := Nat.le_trans hsz hk.size
  clear hk cn_0 cn_1 cn_2 cn_3 cn_4 cn_5 cn_6 cn_7 cn_8 cr_0 cr_1 cr_2 cr_3 cr_4 cr_5 cr_6 cr_7 cr_8
  generalize wa.setCell ⟨w.heap.size, 7, none⟩ (.slice none 0 0) = wb at *
  have cn_0 := Xn.out.cell 0 (v := .int .i64 x.fId) rfl; have cn_1 := Xn.out.cell 1 (v := .int .i64 x.fPeers) rfl; have cn_2 := Xn.out.cell 2 (v := .int .i64 x.fTerm) rfl; have cn_3 := Xn.out.cell 3 (v := .int .i64 x.fVote) rfl; have cn_4 := Xn.out.cell 4 (v := .slice A4 n4 d4) rfl; have cn_5 := Xn.out.cell 5 (v := .int .i64 x.fCommit) rfl; have cn_6 := Xn.out.cell 6 (v := .int .i64 0) rfl; have cn_7 := Xn.out.cell 7 (v := .slice none 0 0) rfl; have cn_8 := Xn.out.cell 8 (v := .slice A8 n8 d8) rfl; have cr_0 := Xr.out.cell 0 (v := .int .i64 0) rfl; have cr_1 := Xr.out.cell 1 (v := .int .i64 0) rfl; have cr_2 := Xr.out.cell 2 (v := .int .i64 0) rfl; have cr_3 := Xr.out.cell 3 (v := .int .i64 0) rfl; have cr_4 := Xr.out.cell 4 (v := .slice none 0 0) rfl; have cr_5 := Xr.out.cell 5 (v := .int .i64 0) rfl; have cr_6 := Xr.out.cell 6 (v := .int .i64 0) rfl; have cr_7 := Xr.out.cell 7 (v := .slice none 0 0) rfl; have cr_8 := Xr.out.cell 8 (v := .slice none 0 0) rfl
  have fn := Xn.out.fro
  go_upto_region 4 with fail
  clear fn
  have hk := kept_set wb (w.heap.size) 8 (.slice none 0 0)
  have Xr := Lib.hid (Xr.out.set_other (a := ⟨w.heap.size, 8, none⟩) (.slice none 0 0) (by first | (simp; done) | (simp; omega)))
  have Xn := Lib.hid (show Box (wb.setCell ⟨w.heap.size, 8, none⟩ (.slice none 0 0)) (w.heap.size) #[.int .i64 x.fId, .int .i64 x.fPeers, .int .i64 x.fTerm, .int .i64 x.fVote, .slice A4 n4 d4, .int .i64 x.fCommit, .int .i64 0, .slice none 0 0, .slice none 0 0] 30 from Xn.out.set 8 (.slice none 0 0))
  have HC := Lib.hid (HC.out.setCell (p := ⟨w.heap.size, 8, none⟩) (by first | (simp; done) | (simp; omega)) (.slice none 0 0))
  replace hsz := Nat.le_trans hsz hk.size
  clear hk cn_0 cn_1 cn_2 cn_3 cn_4 cn_5 cn_6 cn_7 cn_8 cr_0 cr_1 cr_2 cr_3 cr_4 cr_5 cr_6 cr_7 cr_8
  generalize wb.setCell ⟨w.heap.size, 8, none⟩ (.slice none 0 0) = wc at *
  have cn_0 := Xn.out.cell 0 (v := .int .i64 x.fId) rfl; have cn_1 := Xn.out.cell 1 (v := .int .i64 x.fPeers) rfl; have cn_2 := Xn.out.cell 2 (v := .int .i64 x.fTerm) rfl; have cn_3 := Xn.out.cell 3 (v := .int .i64 x.fVote) rfl; have cn_4 := Xn.out.cell 4 (v := .slice A4 n4 d4) rfl; have cn_5 := Xn.out.cell 5 (v := .int .i64 x.fCommit) rfl; have cn_6 := Xn.out.cell 6 (v := .int .i64 0) rfl; have cn_7 := Xn.out.cell 7 (v := .slice none 0 0) rfl; have cn_8 := Xn.out.cell 8 (v := .slice none 0 0) rfl; have cr_0 := Xr.out.cell 0 (v := .int .i64 0) rfl; have cr_1 := Xr.out.cell 1 (v := .int .i64 0) rfl; have cr_2 := Xr.out.cell 2 (v := .int .i64 0) rfl; have cr_3 := Xr.out.cell 3 (v := .int .i64 0) rfl; have cr_4 := Xr.out.cell 4 (v := .slice none 0 0) rfl; have cr_5 := Xr.out.cell 5 (v := .int .i64 0) rfl; have cr_6 := Xr.out.cell 6 (v := .int .i64 0) rfl; have cr_7 := Xr.out.cell 7 (v := .slice none 0 0) rfl; have cr_8 := Xr.out.cell 8 (v := .slice none 0 0) rfl
  have fr_ := Xr.out.fro
  go_wp2
  obtain ⟨hk, bf⟩ := Xr.out.stored [.int .i64 x.fId, .int .i64 x.fPeers, .int .i64 x.fTerm, .int .i64 x.fVote, .slice A4 n4 d4, .int .i64 x.fCommit, .int .i64 0, .slice none 0 0, .slice none 0 0] 0
  rw [setA_all (by rfl)] at bf
  change bodyPost _ _ _ _ _ (Rp.setN wc (w.heap.size + 1) 0 [.int .i64 x.fId, .int .i64 x.fPeers, .int .i64 x.fTerm, .int .i64 x.fVote, .slice A4 n4 d4, .int .i64 x.fCommit, .int .i64 0, .slice none 0 0, .slice none 0 0])
  clear fr_ cn_0 cn_1 cn_2 cn_3 cn_4 cn_5 cn_6 cn_7 cn_8 cr_0 cr_1 cr_2 cr_3 cr_4 cr_5 cr_6 cr_7 cr_8
  have HK := Lib.hid hk; clear hk
  generalize Rp.setN wc (w.heap.size + 1) 0 [.int .i64 x.fId, .int .i64 x.fPeers, .int .i64 x.fTerm, .int .i64 x.fVote, .slice A4 n4 d4, .int .i64 x.fCommit, .int .i64 0, .slice none 0 0, .slice none 0 0] = wf at *
  have df0 := bf.cell 0 (v := .int .i64 x.fId) rfl; have df1 := bf.cell 1 (v := .int .i64 x.fPeers) rfl; have df2 := bf.cell 2 (v := .int .i64 x.fTerm) rfl; have df3 := bf.cell 3 (v := .int .i64 x.fVote) rfl; have df4 := bf.cell 4 (v := .slice A4 n4 d4) rfl; have df5 := bf.cell 5 (v := .int .i64 x.fCommit) rfl; have df6 := bf.cell 6 (v := .int .i64 0) rfl; have df7 := bf.cell 7 (v := .slice none 0 0) rfl; have df8 := bf.cell 8 (v := .slice none 0 0) rfl
  refine bodyPost_ret (v := .agg #[.int .i64 x.fId, .int .i64 x.fPeers, .int .i64 x.fTerm, .int .i64 x.fVote, .slice A4 n4 d4, .int .i64 x.fCommit, .int .i64 0, .slice none 0 0, .slice none 0 0]) (by simp [results, Try.results74, go_sem, df0, df1, df2, df3, df4, df5, df6, df7, df8]) rfl ⟨rfl, HC.out.trans (HK.out.toBelow HC.out.size (by simp))⟩
set_option maxHeartbeats 8000000 in
set_option maxRecDepth 100000 in
theorem iCrash_calls (x : DRaftNode) (v4 v7 v8 : Value) (w : World) (g4 : kEntry.S w x.fLog v4) (g7 : kInt.S w x.fVotes v7) (g8 : kInt.S w x.fMatch v8) (hl : smRaftNode 1048576 x) : Calls Try.prog 27 #[.agg #[.int .i64 x.fId, .int .i64 x.fPeers, .int .i64 x.fTerm, .int .i64 x.fVote, v4, .int .i64 x.fCommit, .int .i64 x.fRole, v7, v8]] w
    fun e w' => ∃ v, e = .returned (.tuple #[v, .bool (nodeOk x)]) ∧ Made kRaftNode (crashV x) w w' v := by
  have G4 := Lib.hid g4; have G7 := Lib.hid g7; have G8 := Lib.hid g8
  obtain ⟨A4, d4, rfl, _, _⟩ := g4
  obtain ⟨A7, d7, rfl, _, _⟩ := g7
  obtain ⟨A8, d8, rfl, _, _⟩ := g8
  go_enter Try.func27, Try.ntmps27
  go_upto_region 1 with fail
  have HC := Lib.hid (show Below w.heap.size w ((w.alloc (.cells #[.int .i64 x.fId, .int .i64 x.fPeers, .int .i64 x.fTerm, .int .i64 x.fVote, .slice A4 x.fLog.length d4, .int .i64 x.fCommit, .int .i64 x.fRole, .slice A7 x.fVotes.length d7, .slice A8 x.fMatch.length d8] 30)).alloc (.cells #[.int .i64 0, .int .i64 0, .int .i64 0, .int .i64 0, .slice none 0 0, .int .i64 0, .int .i64 0, .slice none 0 0, .slice none 0 0] 30)) from Below.alloc (Below.alloc (Below.refl w.heap.size w) (by first | exact Nat.le_refl _ | (simp; done) | (simp; omega)) (.cells #[.int .i64 x.fId, .int .i64 x.fPeers, .int .i64 x.fTerm, .int .i64 x.fVote, .slice A4 x.fLog.length d4, .int .i64 x.fCommit, .int .i64 x.fRole, .slice A7 x.fVotes.length d7, .slice A8 x.fMatch.length d8] 30)) (by first | exact Nat.le_refl _ | (simp; done) | (simp; omega)) (.cells #[.int .i64 0, .int .i64 0, .int .i64 0, .int .i64 0, .slice none 0 0, .int .i64 0, .int .i64 0, .slice none 0 0, .slice none 0 0] 30))
  have Xn := Lib.hid (show Box ((w.alloc (.cells #[.int .i64 x.fId, .int .i64 x.fPeers, .int .i64 x.fTerm, .int .i64 x.fVote, .slice A4 x.fLog.length d4, .int .i64 x.fCommit, .int .i64 x.fRole, .slice A7 x.fVotes.length d7, .slice A8 x.fMatch.length d8] 30)).alloc (.cells #[.int .i64 0, .int .i64 0, .int .i64 0, .int .i64 0, .slice none 0 0, .int .i64 0, .int .i64 0, .slice none 0 0, .slice none 0 0] 30)) (w.heap.size) #[.int .i64 x.fId, .int .i64 x.fPeers, .int .i64 x.fTerm, .int .i64 x.fVote, .slice A4 x.fLog.length d4, .int .i64 x.fCommit, .int .i64 x.fRole, .slice A7 x.fVotes.length d7, .slice A8 x.fMatch.length d8] 30 from Box.alloc (Box.new rfl))
  have Xr := Lib.hid (show Box ((w.alloc (.cells #[.int .i64 x.fId, .int .i64 x.fPeers, .int .i64 x.fTerm, .int .i64 x.fVote, .slice A4 x.fLog.length d4, .int .i64 x.fCommit, .int .i64 x.fRole, .slice A7 x.fVotes.length d7, .slice A8 x.fMatch.length d8] 30)).alloc (.cells #[.int .i64 0, .int .i64 0, .int .i64 0, .int .i64 0, .slice none 0 0, .int .i64 0, .int .i64 0, .slice none 0 0, .slice none 0 0] 30)) (w.heap.size + 1) #[.int .i64 0, .int .i64 0, .int .i64 0, .int .i64 0, .slice none 0 0, .int .i64 0, .int .i64 0, .slice none 0 0, .slice none 0 0] 30 from Box.new (by simp))
  have hsz : w.heap.size + 2 ≤ ((w.alloc (.cells #[.int .i64 x.fId, .int .i64 x.fPeers, .int .i64 x.fTerm, .int .i64 x.fVote, .slice A4 x.fLog.length d4, .int .i64 x.fCommit, .int .i64 x.fRole, .slice A7 x.fVotes.length d7, .slice A8 x.fMatch.length d8] 30)).alloc (.cells #[.int .i64 0, .int .i64 0, .int .i64 0, .int .i64 0, .slice none 0 0, .int .i64 0, .int .i64 0, .slice none 0 0, .slice none 0 0] 30)).heap.size := by simp
  generalize (w.alloc (.cells #[.int .i64 x.fId, .int .i64 x.fPeers, .int .i64 x.fTerm, .int .i64 x.fVote, .slice A4 x.fLog.length d4, .int .i64 x.fCommit, .int .i64 x.fRole, .slice A7 x.fVotes.length d7, .slice A8 x.fMatch.length d8] 30)).alloc (.cells #[.int .i64 0, .int .i64 0, .int .i64 0, .int .i64 0, .slice none 0 0, .int .i64 0, .int .i64 0, .slice none 0 0, .slice none 0 0] 30) = w1 at *
  have cn_0 := Xn.out.cell 0 (v := .int .i64 x.fId) rfl; have cn_1 := Xn.out.cell 1 (v := .int .i64 x.fPeers) rfl; have cn_2 := Xn.out.cell 2 (v := .int .i64 x.fTerm) rfl; have cn_3 := Xn.out.cell 3 (v := .int .i64 x.fVote) rfl; have cn_4 := Xn.out.cell 4 (v := .slice A4 x.fLog.length d4) rfl; have cn_5 := Xn.out.cell 5 (v := .int .i64 x.fCommit) rfl; have cn_6 := Xn.out.cell 6 (v := .int .i64 x.fRole) rfl; have cn_7 := Xn.out.cell 7 (v := .slice A7 x.fVotes.length d7) rfl; have cn_8 := Xn.out.cell 8 (v := .slice A8 x.fMatch.length d8) rfl; have cr_0 := Xr.out.cell 0 (v := .int .i64 0) rfl; have cr_1 := Xr.out.cell 1 (v := .int .i64 0) rfl; have cr_2 := Xr.out.cell 2 (v := .int .i64 0) rfl; have cr_3 := Xr.out.cell 3 (v := .int .i64 0) rfl; have cr_4 := Xr.out.cell 4 (v := .slice none 0 0) rfl; have cr_5 := Xr.out.cell 5 (v := .int .i64 0) rfl; have cr_6 := Xr.out.cell 6 (v := .int .i64 0) rfl; have cr_7 := Xr.out.cell 7 (v := .slice none 0 0) rfl; have cr_8 := Xr.out.cell 8 (v := .slice none 0 0) rfl
  go_wp2_with fail
  (with_reducible refine (iGoodNode_calls x _ _ _ _ (Rp.S_below G4.out HC.out) (Rp.S_below G7.out HC.out) (Rp.S_below G8.out HC.out) hl).mono ?_)
  rintro e w2 ⟨rfl, hb⟩
  have HC := Lib.hid (HC.out.trans (hb.mono (by first | exact HC.out.size | (have := HC.out.size; omega)))); have hsz := Nat.le_trans hsz hb.size; have Xn := Lib.hid (Xn.out.below hb); have Xr := Lib.hid (Xr.out.below hb); clear cn_0 cn_1 cn_2 cn_3 cn_4 cn_5 cn_6 cn_7 cn_8 cr_0 cr_1 cr_2 cr_3 cr_4 cr_5 cr_6 cr_7 cr_8; clear hb; have cn_0 := Xn.out.cell 0 (v := .int .i64 x.fId) rfl; have cn_1 := Xn.out.cell 1 (v := .int .i64 x.fPeers) rfl; have cn_2 := Xn.out.cell 2 (v := .int .i64 x.fTerm) rfl; have cn_3 := Xn.out.cell 3 (v := .int .i64 x.fVote) rfl; have cn_4 := Xn.out.cell 4 (v := .slice A4 x.fLog.length d4) rfl; have cn_5 := Xn.out.cell 5 (v := .int .i64 x.fCommit) rfl; have cn_6 := Xn.out.cell 6 (v := .int .i64 x.fRole) rfl; have cn_7 := Xn.out.cell 7 (v := .slice A7 x.fVotes.length d7) rfl; have cn_8 := Xn.out.cell 8 (v := .slice A8 x.fMatch.length d8) rfl; have cr_0 := Xr.out.cell 0 (v := .int .i64 0) rfl; have cr_1 := Xr.out.cell 1 (v := .int .i64 0) rfl; have cr_2 := Xr.out.cell 2 (v := .int .i64 0) rfl; have cr_3 := Xr.out.cell 3 (v := .int .i64 0) rfl; have cr_4 := Xr.out.cell 4 (v := .slice none 0 0) rfl; have cr_5 := Xr.out.cell 5 (v := .int .i64 0) rfl; have cr_6 := Xr.out.cell 6 (v := .int .i64 0) rfl; have cr_7 := Xr.out.cell 7 (v := .slice none 0 0) rfl; have cr_8 := Xr.out.cell 8 (v := .slice none 0 0) rfl
  cases hg : nodeOk x
  case false =>
    have fr_ := Xr.out.fro
    go_wp2
    obtain ⟨hk, bf⟩ := Xr.out.stored [.int .i64 0, .int .i64 0, .int .i64 0, .int .i64 0, .slice none 0 0, .int .i64 0, .int .i64 0, .slice none 0 0, .slice none 0 0] 0
    rw [setA_all (by rfl)] at bf
    change bodyPost _ _ _ _ _ (Rp.setN w2 (w.heap.size + 1) 0 [.int .i64 0, .int .i64 0, .int .i64 0, .int .i64 0, .slice none 0 0, .int .i64 0, .int .i64 0, .slice none 0 0, .slice none 0 0])
    clear fr_ cn_0 cn_1 cn_2 cn_3 cn_4 cn_5 cn_6 cn_7 cn_8 cr_0 cr_1 cr_2 cr_3 cr_4 cr_5 cr_6 cr_7 cr_8
    have HK := Lib.hid hk; clear hk
    generalize Rp.setN w2 (w.heap.size + 1) 0 [.int .i64 0, .int .i64 0, .int .i64 0, .int .i64 0, .slice none 0 0, .int .i64 0, .int .i64 0, .slice none 0 0, .slice none 0 0] = wf at *
    have df0 := bf.cell 0 (v := .int .i64 0) rfl; have df1 := bf.cell 1 (v := .int .i64 0) rfl; have df2 := bf.cell 2 (v := .int .i64 0) rfl; have df3 := bf.cell 3 (v := .int .i64 0) rfl; have df4 := bf.cell 4 (v := .slice none 0 0) rfl; have df5 := bf.cell 5 (v := .int .i64 0) rfl; have df6 := bf.cell 6 (v := .int .i64 0) rfl; have df7 := bf.cell 7 (v := .slice none 0 0) rfl; have df8 := bf.cell 8 (v := .slice none 0 0) rfl
    refine bodyPost_ret (v := .tuple #[.agg #[.int .i64 0, .int .i64 0, .int .i64 0, .int .i64 0, .slice none 0 0, .int .i64 0, .int .i64 0, .slice none 0 0, .slice none 0 0], .bool false]) (by simp [results, Try.results27, go_sem, df0, df1, df2, df3, df4, df5, df6, df7, df8]) rfl ⟨_, by rw [hg], by rw [crashV, hg]; exact Made.node0 (HC.out.trans (HK.out.toBelow HC.out.size (by simp)))⟩
  case true =>
    go_wp2_with fail
    (with_reducible refine (iClone_calls x _ _ _ _ (Rp.S_below G4.out HC.out) (Rp.S_below G7.out HC.out) (Rp.S_below G8.out HC.out) hl).mono ?_)
    rintro e w3 ⟨cs, F, rfl, hm, hF, hnd, hb⟩
    obtain ⟨v4, v7, v8, F4, F7, F8, rfl, rfl, r4, r7, r8⟩ := kRaftNode_open hm
    obtain ⟨P4, C4, rfl, _, _⟩ := Rp.Row_K r4
    obtain ⟨P7, C7, rfl, _, _⟩ := Rp.Row_K r7
    obtain ⟨P8, C8, rfl, _, _⟩ := Rp.Row_K r8
    have T4 := Lib.hid (fun b h => Nat.le_trans hsz (hF b (by simp [h])) : ∀ b ∈ F4, w.heap.size + 2 ≤ b)
    have T7 := Lib.hid (fun b h => Nat.le_trans hsz (hF b (by simp [h])) : ∀ b ∈ F7, w.heap.size + 2 ≤ b)
    have T8 := Lib.hid (fun b h => Nat.le_trans hsz (hF b (by simp [h])) : ∀ b ∈ F8, w.heap.size + 2 ≤ b)
    have U4 := Lib.hid (Rp.Row_lt r4); have U7 := Lib.hid (Rp.Row_lt r7); have U8 := Lib.hid (Rp.Row_lt r8)
    have R4 := Lib.hid r4; have R7 := Lib.hid r7; have R8 := Lib.hid r8; have ND := Lib.hid hnd
    clear r4 r7 r8 hF hnd hm
    have HC := Lib.hid (HC.out.trans (hb.mono (by first | exact HC.out.size | (have := HC.out.size; omega)))); have hsz := Nat.le_trans hsz hb.size; have Xn := Lib.hid (Xn.out.below hb); have Xr := Lib.hid (Xr.out.below hb); clear cn_0 cn_1 cn_2 cn_3 cn_4 cn_5 cn_6 cn_7 cn_8 cr_0 cr_1 cr_2 cr_3 cr_4 cr_5 cr_6 cr_7 cr_8; clear hb; have cn_0 := Xn.out.cell 0 (v := .int .i64 x.fId) rfl; have cn_1 := Xn.out.cell 1 (v := .int .i64 x.fPeers) rfl; have cn_2 := Xn.out.cell 2 (v := .int .i64 x.fTerm) rfl; have cn_3 := Xn.out.cell 3 (v := .int .i64 x.fVote) rfl; have cn_4 := Xn.out.cell 4 (v := .slice A4 x.fLog.length d4) rfl; have cn_5 := Xn.out.cell 5 (v := .int .i64 x.fCommit) rfl; have cn_6 := Xn.out.cell 6 (v := .int .i64 x.fRole) rfl; have cn_7 := Xn.out.cell 7 (v := .slice A7 x.fVotes.length d7) rfl; have cn_8 := Xn.out.cell 8 (v := .slice A8 x.fMatch.length d8) rfl; have cr_0 := Xr.out.cell 0 (v := .int .i64 0) rfl; have cr_1 := Xr.out.cell 1 (v := .int .i64 0) rfl; have cr_2 := Xr.out.cell 2 (v := .int .i64 0) rfl; have cr_3 := Xr.out.cell 3 (v := .int .i64 0) rfl; have cr_4 := Xr.out.cell 4 (v := .slice none 0 0) rfl; have cr_5 := Xr.out.cell 5 (v := .int .i64 0) rfl; have cr_6 := Xr.out.cell 6 (v := .int .i64 0) rfl; have cr_7 := Xr.out.cell 7 (v := .slice none 0 0) rfl; have cr_8 := Xr.out.cell 8 (v := .slice none 0 0) rfl
    have Bza : Box (w3.alloc (.cells #[.int .i64 0, .int .i64 0, .int .i64 0, .int .i64 0, .slice none 0 0, .int .i64 0, .int .i64 0, .slice none 0 0, .slice none 0 0] 30)) w3.heap.size #[.int .i64 0, .int .i64 0, .int .i64 0, .int .i64 0, .slice none 0 0, .int .i64 0, .int .i64 0, .slice none 0 0, .slice none 0 0] 30 := Box.new rfl
    have za0 := Bza.cell 0 (v := .int .i64 0) rfl; have za1 := Bza.cell 1 (v := .int .i64 0) rfl; have za2 := Bza.cell 2 (v := .int .i64 0) rfl; have za3 := Bza.cell 3 (v := .int .i64 0) rfl; have za4 := Bza.cell 4 (v := .slice none 0 0) rfl; have za5 := Bza.cell 5 (v := .int .i64 0) rfl; have za6 := Bza.cell 6 (v := .int .i64 0) rfl; have za7 := Bza.cell 7 (v := .slice none 0 0) rfl; have za8 := Bza.cell 8 (v := .slice none 0 0) rfl
    have zaf := Bza.fro
    clear Bza
    go_upto_region 4 with fail
    clear za0 za1 za2 za3 za4 za5 za6 za7 za8 zaf
    have hs3 := hsz
    have R4 := Lib.hid (Rp.Row_below R4.out ((Below.refl w3.heap.size w3).alloc (Nat.le_refl _) (.cells #[.int .i64 x.fId, .int .i64 x.fPeers, .int .i64 x.fTerm, .int .i64 x.fVote, .slice P4 x.fLog.length C4, .int .i64 x.fCommit, .int .i64 x.fRole, .slice P7 x.fVotes.length C7, .slice P8 x.fMatch.length C8] 30))); have R7 := Lib.hid (Rp.Row_below R7.out ((Below.refl w3.heap.size w3).alloc (Nat.le_refl _) (.cells #[.int .i64 x.fId, .int .i64 x.fPeers, .int .i64 x.fTerm, .int .i64 x.fVote, .slice P4 x.fLog.length C4, .int .i64 x.fCommit, .int .i64 x.fRole, .slice P7 x.fVotes.length C7, .slice P8 x.fMatch.length C8] 30))); have R8 := Lib.hid (Rp.Row_below R8.out ((Below.refl w3.heap.size w3).alloc (Nat.le_refl _) (.cells #[.int .i64 x.fId, .int .i64 x.fPeers, .int .i64 x.fTerm, .int .i64 x.fVote, .slice P4 x.fLog.length C4, .int .i64 x.fCommit, .int .i64 x.fRole, .slice P7 x.fVotes.length C7, .slice P8 x.fMatch.length C8] 30)))
    have hb := (Below.refl w3.heap.size w3).alloc (Nat.le_refl _) (.cells #[.int .i64 x.fId, .int .i64 x.fPeers, .int .i64 x.fTerm, .int .i64 x.fVote, .slice P4 x.fLog.length C4, .int .i64 x.fCommit, .int .i64 x.fRole, .slice P7 x.fVotes.length C7, .slice P8 x.fMatch.length C8] 30)
    have hsc : w3.heap.size + 1 ≤ (w3.alloc (.cells #[.int .i64 x.fId, .int .i64 x.fPeers, .int .i64 x.fTerm, .int .i64 x.fVote, .slice P4 x.fLog.length C4, .int .i64 x.fCommit, .int .i64 x.fRole, .slice P7 x.fVotes.length C7, .slice P8 x.fMatch.length C8] 30)).heap.size := by simp
    have Xc := Lib.hid (show Box (w3.alloc (.cells #[.int .i64 x.fId, .int .i64 x.fPeers, .int .i64 x.fTerm, .int .i64 x.fVote, .slice P4 x.fLog.length C4, .int .i64 x.fCommit, .int .i64 x.fRole, .slice P7 x.fVotes.length C7, .slice P8 x.fMatch.length C8] 30)) w3.heap.size #[.int .i64 x.fId, .int .i64 x.fPeers, .int .i64 x.fTerm, .int .i64 x.fVote, .slice P4 x.fLog.length C4, .int .i64 x.fCommit, .int .i64 x.fRole, .slice P7 x.fVotes.length C7, .slice P8 x.fMatch.length C8] 30 from Box.new rfl)
    generalize w3.alloc (.cells #[.int .i64 x.fId, .int .i64 x.fPeers, .int .i64 x.fTerm, .int .i64 x.fVote, .slice P4 x.fLog.length C4, .int .i64 x.fCommit, .int .i64 x.fRole, .slice P7 x.fVotes.length C7, .slice P8 x.fMatch.length C8] 30) = w4 at *
    have HC := Lib.hid (HC.out.trans (hb.mono (by first | exact HC.out.size | (have := HC.out.size; omega)))); have hsz := Nat.le_trans hsz hb.size; have Xn := Lib.hid (Xn.out.below hb); have Xr := Lib.hid (Xr.out.below hb); clear cn_0 cn_1 cn_2 cn_3 cn_4 cn_5 cn_6 cn_7 cn_8 cr_0 cr_1 cr_2 cr_3 cr_4 cr_5 cr_6 cr_7 cr_8; clear hb; have cn_0 := Xn.out.cell 0 (v := .int .i64 x.fId) rfl; have cn_1 := Xn.out.cell 1 (v := .int .i64 x.fPeers) rfl; have cn_2 := Xn.out.cell 2 (v := .int .i64 x.fTerm) rfl; have cn_3 := Xn.out.cell 3 (v := .int .i64 x.fVote) rfl; have cn_4 := Xn.out.cell 4 (v := .slice A4 x.fLog.length d4) rfl; have cn_5 := Xn.out.cell 5 (v := .int .i64 x.fCommit) rfl; have cn_6 := Xn.out.cell 6 (v := .int .i64 x.fRole) rfl; have cn_7 := Xn.out.cell 7 (v := .slice A7 x.fVotes.length d7) rfl; have cn_8 := Xn.out.cell 8 (v := .slice A8 x.fMatch.length d8) rfl; have cr_0 := Xr.out.cell 0 (v := .int .i64 0) rfl; have cr_1 := Xr.out.cell 1 (v := .int .i64 0) rfl; have cr_2 := Xr.out.cell 2 (v := .int .i64 0) rfl; have cr_3 := Xr.out.cell 3 (v := .int .i64 0) rfl; have cr_4 := Xr.out.cell 4 (v := .slice none 0 0) rfl; have cr_5 := Xr.out.cell 5 (v := .int .i64 0) rfl; have cr_6 := Xr.out.cell 6 (v := .int .i64 0) rfl; have cr_7 := Xr.out.cell 7 (v := .slice none 0 0) rfl; have cr_8 := Xr.out.cell 8 (v := .slice none 0 0) rfl
    have cc_0 := Xc.out.cell 0 (v := .int .i64 x.fId) rfl; have cc_1 := Xc.out.cell 1 (v := .int .i64 x.fPeers) rfl; have cc_2 := Xc.out.cell 2 (v := .int .i64 x.fTerm) rfl; have cc_3 := Xc.out.cell 3 (v := .int .i64 x.fVote) rfl; have cc_4 := Xc.out.cell 4 (v := .slice P4 x.fLog.length C4) rfl; have cc_5 := Xc.out.cell 5 (v := .int .i64 x.fCommit) rfl; have cc_6 := Xc.out.cell 6 (v := .int .i64 x.fRole) rfl; have cc_7 := Xc.out.cell 7 (v := .slice P7 x.fVotes.length C7) rfl; have cc_8 := Xc.out.cell 8 (v := .slice P8 x.fMatch.length C8) rfl
    have fc := Xc.out.fro
    go_upto_region 5 with fail
    clear fc
    have hk := kept_set w4 (w3.heap.size) 5 (.int .i64 0)
    have R4 := Lib.hid (Row_ne R4.out hk (fun h => by have h_0 := U4.out _ h; omega))
    have R7 := Lib.hid (Row_ne R7.out hk (fun h => by have h_0 := U7.out _ h; omega))
    have R8 := Lib.hid (Row_ne R8.out hk (fun h => by have h_0 := U8.out _ h; omega))
    have Xn := Lib.hid (Xn.out.set_other (a := ⟨w3.heap.size, 5, none⟩) (.int .i64 0) (by first | (simp; done) | (simp; omega)))
    have Xr := Lib.hid (Xr.out.set_other (a := ⟨w3.heap.size, 5, none⟩) (.int .i64 0) (by first | (simp; done) | (simp; omega)))
    have Xc := Lib.hid (show Box (w4.setCell ⟨w3.heap.size, 5, none⟩ (.int .i64 0)) (w3.heap.size) #[.int .i64 x.fId, .int .i64 x.fPeers, .int .i64 x.fTerm, .int .i64 x.fVote, .slice P4 x.fLog.length C4, .int .i64 0, .int .i64 x.fRole, .slice P7 x.fVotes.length C7, .slice P8 x.fMatch.length C8] 30 from Xc.out.set 5 (.int .i64 0))
    have HC := Lib.hid (HC.out.setCell (p := ⟨w3.heap.size, 5, none⟩) (by first | (simp; done) | (simp; omega)) (.int .i64 0))
    replace hsz := Nat.le_trans hsz hk.size
    clear hk cn_0 cn_1 cn_2 cn_3 cn_4 cn_5 cn_6 cn_7 cn_8 cr_0 cr_1 cr_2 cr_3 cr_4 cr_5 cr_6 cr_7 cr_8 cc_0 cc_1 cc_2 cc_3 cc_4 cc_5 cc_6 cc_7 cc_8
    generalize w4.setCell ⟨w3.heap.size, 5, none⟩ (.int .i64 0) = w5 at *
    have cn_0 := Xn.out.cell 0 (v := .int .i64 x.fId) rfl; have cn_1 := Xn.out.cell 1 (v := .int .i64 x.fPeers) rfl; have cn_2 := Xn.out.cell 2 (v := .int .i64 x.fTerm) rfl; have cn_3 := Xn.out.cell 3 (v := .int .i64 x.fVote) rfl; have cn_4 := Xn.out.cell 4 (v := .slice A4 x.fLog.length d4) rfl; have cn_5 := Xn.out.cell 5 (v := .int .i64 x.fCommit) rfl; have cn_6 := Xn.out.cell 6 (v := .int .i64 x.fRole) rfl; have cn_7 := Xn.out.cell 7 (v := .slice A7 x.fVotes.length d7) rfl; have cn_8 := Xn.out.cell 8 (v := .slice A8 x.fMatch.length d8) rfl; have cr_0 := Xr.out.cell 0 (v := .int .i64 0) rfl; have cr_1 := Xr.out.cell 1 (v := .int .i64 0) rfl; have cr_2 := Xr.out.cell 2 (v := .int .i64 0) rfl; have cr_3 := Xr.out.cell 3 (v := .int .i64 0) rfl; have cr_4 := Xr.out.cell 4 (v := .slice none 0 0) rfl; have cr_5 := Xr.out.cell 5 (v := .int .i64 0) rfl; have cr_6 := Xr.out.cell 6 (v := .int .i64 0) rfl; have cr_7 := Xr.out.cell 7 (v := .slice none 0 0) rfl; have cr_8 := Xr.out.cell 8 (v := .slice none 0 0) rfl; have cc_0 := Xc.out.cell 0 (v := .int .i64 x.fId) rfl; have cc_1 := Xc.out.cell 1 (v := .int .i64 x.fPeers) rfl; have cc_2 := Xc.out.cell 2 (v := .int .i64 x.fTerm) rfl; have cc_3 := Xc.out.cell 3 (v := .int .i64 x.fVote) rfl; have cc_4 := Xc.out.cell 4 (v := .slice P4 x.fLog.length C4) rfl; have cc_5 := Xc.out.cell 5 (v := .int .i64 0) rfl; have cc_6 := Xc.out.cell 6 (v := .int .i64 x.fRole) rfl; have cc_7 := Xc.out.cell 7 (v := .slice P7 x.fVotes.length C7) rfl; have cc_8 := Xc.out.cell 8 (v := .slice P8 x.fMatch.length C8) rfl
    go_wp2_with fail
    (with_reducible refine (iFollow_calls { x with fCommit := 0 } w3.heap.size P4 P7 P8 _ _ _ _ _ _ _ Xc.out).mono ?_)
    rintro e w6 ⟨rfl, hk, hbx⟩
    have R4 := Lib.hid (Row_ne R4.out hk (fun h => by have h_0 := U4.out _ h; omega))
    have R7 := Lib.hid (Row_ne R7.out hk (fun h => by have h_0 := U7.out _ h; omega))
    have R8 := Lib.hid (Row_ne R8.out hk (fun h => by have h_0 := U8.out _ h; omega))
    have Xn := Lib.hid (Box_ne Xn.out hk (by omega))
    have Xr := Lib.hid (Box_ne Xr.out hk (by omega))
    have Xc := Lib.hid hbx
    have HC := Lib.hid (HC.out.trans (hk.toBelow HC.out.size (fun b h => by have h2 : b = w3.heap.size := (by simpa using h); omega)))
    replace hsz := Nat.le_trans hsz hk.size
    clear hk hbx cn_0 cn_1 cn_2 cn_3 cn_4 cn_5 cn_6 cn_7 cn_8 cr_0 cr_1 cr_2 cr_3 cr_4 cr_5 cr_6 cr_7 cr_8 cc_0 cc_1 cc_2 cc_3 cc_4 cc_5 cc_6 cc_7 cc_8
    have cn_0 := Xn.out.cell 0 (v := .int .i64 x.fId) rfl; have cn_1 := Xn.out.cell 1 (v := .int .i64 x.fPeers) rfl; have cn_2 := Xn.out.cell 2 (v := .int .i64 x.fTerm) rfl; have cn_3 := Xn.out.cell 3 (v := .int .i64 x.fVote) rfl; have cn_4 := Xn.out.cell 4 (v := .slice A4 x.fLog.length d4) rfl; have cn_5 := Xn.out.cell 5 (v := .int .i64 x.fCommit) rfl; have cn_6 := Xn.out.cell 6 (v := .int .i64 x.fRole) rfl; have cn_7 := Xn.out.cell 7 (v := .slice A7 x.fVotes.length d7) rfl; have cn_8 := Xn.out.cell 8 (v := .slice A8 x.fMatch.length d8) rfl; have cr_0 := Xr.out.cell 0 (v := .int .i64 0) rfl; have cr_1 := Xr.out.cell 1 (v := .int .i64 0) rfl; have cr_2 := Xr.out.cell 2 (v := .int .i64 0) rfl; have cr_3 := Xr.out.cell 3 (v := .int .i64 0) rfl; have cr_4 := Xr.out.cell 4 (v := .slice none 0 0) rfl; have cr_5 := Xr.out.cell 5 (v := .int .i64 0) rfl; have cr_6 := Xr.out.cell 6 (v := .int .i64 0) rfl; have cr_7 := Xr.out.cell 7 (v := .slice none 0 0) rfl; have cr_8 := Xr.out.cell 8 (v := .slice none 0 0) rfl; have cc_0 := Xc.out.cell 0 (v := .int .i64 x.fId) rfl; have cc_1 := Xc.out.cell 1 (v := .int .i64 x.fPeers) rfl; have cc_2 := Xc.out.cell 2 (v := .int .i64 x.fTerm) rfl; have cc_3 := Xc.out.cell 3 (v := .int .i64 x.fVote) rfl; have cc_4 := Xc.out.cell 4 (v := .slice P4 x.fLog.length C4) rfl; have cc_5 := Xc.out.cell 5 (v := .int .i64 0) rfl; have cc_6 := Xc.out.cell 6 (v := .int .i64 0) rfl; have cc_7 := Xc.out.cell 7 (v := .slice none 0 0) rfl; have cc_8 := Xc.out.cell 8 (v := .slice none 0 0) rfl
    have fr_ := Xr.out.fro
    go_wp2
    obtain ⟨hk, bf⟩ := Xr.out.stored [.int .i64 x.fId, .int .i64 x.fPeers, .int .i64 x.fTerm, .int .i64 x.fVote, .slice P4 x.fLog.length C4, .int .i64 0, .int .i64 0, .slice none 0 0, .slice none 0 0] 0
    rw [setA_all (by rfl)] at bf
    have q4 := Row_ne R4.out hk (fun h => by have h_0 := T4.out _ h; omega)
    change bodyPost _ _ _ _ _ (Rp.setN w6 (w.heap.size + 1) 0 [.int .i64 x.fId, .int .i64 x.fPeers, .int .i64 x.fTerm, .int .i64 x.fVote, .slice P4 x.fLog.length C4, .int .i64 0, .int .i64 0, .slice none 0 0, .slice none 0 0])
    clear fr_ cn_0 cn_1 cn_2 cn_3 cn_4 cn_5 cn_6 cn_7 cn_8 cr_0 cr_1 cr_2 cr_3 cr_4 cr_5 cr_6 cr_7 cr_8 cc_0 cc_1 cc_2 cc_3 cc_4 cc_5 cc_6 cc_7 cc_8
    have HK := Lib.hid hk; clear hk
    generalize Rp.setN w6 (w.heap.size + 1) 0 [.int .i64 x.fId, .int .i64 x.fPeers, .int .i64 x.fTerm, .int .i64 x.fVote, .slice P4 x.fLog.length C4, .int .i64 0, .int .i64 0, .slice none 0 0, .slice none 0 0] = wf at *
    have df0 := bf.cell 0 (v := .int .i64 x.fId) rfl; have df1 := bf.cell 1 (v := .int .i64 x.fPeers) rfl; have df2 := bf.cell 2 (v := .int .i64 x.fTerm) rfl; have df3 := bf.cell 3 (v := .int .i64 x.fVote) rfl; have df4 := bf.cell 4 (v := .slice P4 x.fLog.length C4) rfl; have df5 := bf.cell 5 (v := .int .i64 0) rfl; have df6 := bf.cell 6 (v := .int .i64 0) rfl; have df7 := bf.cell 7 (v := .slice none 0 0) rfl; have df8 := bf.cell 8 (v := .slice none 0 0) rfl
    refine bodyPost_ret (v := .tuple #[.agg #[.int .i64 x.fId, .int .i64 x.fPeers, .int .i64 x.fTerm, .int .i64 x.fVote, .slice P4 x.fLog.length C4, .int .i64 0, .int .i64 0, .slice none 0 0, .slice none 0 0], .bool true]) (by simp [results, Try.results27, go_sem, df0, df1, df2, df3, df4, df5, df6, df7, df8]) rfl ⟨_, by rw [hg], by rw [crashV, hg]; exact Made.node (x := crashN x) (N := w.heap.size + 2) (F7 := []) (F8 := []) (by omega) q4 (Rp.Row_nil _ _ _) (Rp.Row_nil _ _ _) T4.out (by simp) (by simp) (by simpa using (List.nodup_append.1 ND.out).1) (HC.out.trans (HK.out.toBelow HC.out.size (by simp)))⟩

theorem iCrashNode_k {x : DRaftNode} {c0 : List Value} {w : World} (k0 : kRaftNode.K w x c0) (h0 : wfRaftNode x) (s0 : smRaftNode 1048576 x) : Calls Try.prog 27 #[.agg c0.toArray] w
    fun e w' => ∃ cs F, e = .returned (.tuple #[.agg cs.toArray, .bool (nodeOk x)]) ∧ kRaftNode.M w' F (crashV x) cs ∧ (∀ b ∈ F, w.heap.size ≤ b) ∧ F.Nodup ∧ Below w.heap.size w w' := by
  obtain ⟨v4, v7, v8, rfl, g4, g7, g8⟩ := kRaftNode_read k0
  refine (iCrash_calls x v4 v7 v8 w g4 g7 g8 s0).mono ?_
  rintro e w' ⟨v, rfl, cs, F, rfl, h1, h2, h3, h4⟩
  exact ⟨cs, F, rfl, h1, h2, h3, h4⟩
set_option maxHeartbeats 8000000 in
set_option maxRecDepth 100000 in
theorem sCrash_calls (x : DRaftNode) (v4 v7 v8 : Value) (w : World) (g4 : kEntry.S w x.fLog v4) (g7 : kInt.S w x.fVotes v7) (g8 : kInt.S w x.fMatch v8) (hl : smRaftNode 1048576 x) : Calls Try.prog 26 #[.agg #[.int .i64 x.fId, .int .i64 x.fPeers, .int .i64 x.fTerm, .int .i64 x.fVote, v4, .int .i64 x.fCommit, .int .i64 x.fRole, v7, v8]] w
    fun e w' => ∃ v, e = .returned (.tuple #[v, .bool (nodeOk x)]) ∧ Made kRaftNode (crashV x) w w' v := by
  have G4 := Lib.hid g4; have G7 := Lib.hid g7; have G8 := Lib.hid g8
  obtain ⟨A4, d4, rfl, _, _⟩ := g4
  obtain ⟨A7, d7, rfl, _, _⟩ := g7
  obtain ⟨A8, d8, rfl, _, _⟩ := g8
  go_enter Try.func26, Try.ntmps26
  go_upto_region 1 with fail
  have HC := Lib.hid (show Below w.heap.size w ((w.alloc (.cells #[.int .i64 x.fId, .int .i64 x.fPeers, .int .i64 x.fTerm, .int .i64 x.fVote, .slice A4 x.fLog.length d4, .int .i64 x.fCommit, .int .i64 x.fRole, .slice A7 x.fVotes.length d7, .slice A8 x.fMatch.length d8] 30)).alloc (.cells #[.int .i64 0, .int .i64 0, .int .i64 0, .int .i64 0, .slice none 0 0, .int .i64 0, .int .i64 0, .slice none 0 0, .slice none 0 0] 30)) from Below.alloc (Below.alloc (Below.refl w.heap.size w) (by first | exact Nat.le_refl _ | (simp; done) | (simp; omega)) (.cells #[.int .i64 x.fId, .int .i64 x.fPeers, .int .i64 x.fTerm, .int .i64 x.fVote, .slice A4 x.fLog.length d4, .int .i64 x.fCommit, .int .i64 x.fRole, .slice A7 x.fVotes.length d7, .slice A8 x.fMatch.length d8] 30)) (by first | exact Nat.le_refl _ | (simp; done) | (simp; omega)) (.cells #[.int .i64 0, .int .i64 0, .int .i64 0, .int .i64 0, .slice none 0 0, .int .i64 0, .int .i64 0, .slice none 0 0, .slice none 0 0] 30))
  have Xn := Lib.hid (show Box ((w.alloc (.cells #[.int .i64 x.fId, .int .i64 x.fPeers, .int .i64 x.fTerm, .int .i64 x.fVote, .slice A4 x.fLog.length d4, .int .i64 x.fCommit, .int .i64 x.fRole, .slice A7 x.fVotes.length d7, .slice A8 x.fMatch.length d8] 30)).alloc (.cells #[.int .i64 0, .int .i64 0, .int .i64 0, .int .i64 0, .slice none 0 0, .int .i64 0, .int .i64 0, .slice none 0 0, .slice none 0 0] 30)) (w.heap.size) #[.int .i64 x.fId, .int .i64 x.fPeers, .int .i64 x.fTerm, .int .i64 x.fVote, .slice A4 x.fLog.length d4, .int .i64 x.fCommit, .int .i64 x.fRole, .slice A7 x.fVotes.length d7, .slice A8 x.fMatch.length d8] 30 from Box.alloc (Box.new rfl))
  have Xr := Lib.hid (show Box ((w.alloc (.cells #[.int .i64 x.fId, .int .i64 x.fPeers, .int .i64 x.fTerm, .int .i64 x.fVote, .slice A4 x.fLog.length d4, .int .i64 x.fCommit, .int .i64 x.fRole, .slice A7 x.fVotes.length d7, .slice A8 x.fMatch.length d8] 30)).alloc (.cells #[.int .i64 0, .int .i64 0, .int .i64 0, .int .i64 0, .slice none 0 0, .int .i64 0, .int .i64 0, .slice none 0 0, .slice none 0 0] 30)) (w.heap.size + 1) #[.int .i64 0, .int .i64 0, .int .i64 0, .int .i64 0, .slice none 0 0, .int .i64 0, .int .i64 0, .slice none 0 0, .slice none 0 0] 30 from Box.new (by simp))
  have hsz : w.heap.size + 2 ≤ ((w.alloc (.cells #[.int .i64 x.fId, .int .i64 x.fPeers, .int .i64 x.fTerm, .int .i64 x.fVote, .slice A4 x.fLog.length d4, .int .i64 x.fCommit, .int .i64 x.fRole, .slice A7 x.fVotes.length d7, .slice A8 x.fMatch.length d8] 30)).alloc (.cells #[.int .i64 0, .int .i64 0, .int .i64 0, .int .i64 0, .slice none 0 0, .int .i64 0, .int .i64 0, .slice none 0 0, .slice none 0 0] 30)).heap.size := by simp
  generalize (w.alloc (.cells #[.int .i64 x.fId, .int .i64 x.fPeers, .int .i64 x.fTerm, .int .i64 x.fVote, .slice A4 x.fLog.length d4, .int .i64 x.fCommit, .int .i64 x.fRole, .slice A7 x.fVotes.length d7, .slice A8 x.fMatch.length d8] 30)).alloc (.cells #[.int .i64 0, .int .i64 0, .int .i64 0, .int .i64 0, .slice none 0 0, .int .i64 0, .int .i64 0, .slice none 0 0, .slice none 0 0] 30) = w1 at *
  have cn_0 := Xn.out.cell 0 (v := .int .i64 x.fId) rfl; have cn_1 := Xn.out.cell 1 (v := .int .i64 x.fPeers) rfl; have cn_2 := Xn.out.cell 2 (v := .int .i64 x.fTerm) rfl; have cn_3 := Xn.out.cell 3 (v := .int .i64 x.fVote) rfl; have cn_4 := Xn.out.cell 4 (v := .slice A4 x.fLog.length d4) rfl; have cn_5 := Xn.out.cell 5 (v := .int .i64 x.fCommit) rfl; have cn_6 := Xn.out.cell 6 (v := .int .i64 x.fRole) rfl; have cn_7 := Xn.out.cell 7 (v := .slice A7 x.fVotes.length d7) rfl; have cn_8 := Xn.out.cell 8 (v := .slice A8 x.fMatch.length d8) rfl; have cr_0 := Xr.out.cell 0 (v := .int .i64 0) rfl; have cr_1 := Xr.out.cell 1 (v := .int .i64 0) rfl; have cr_2 := Xr.out.cell 2 (v := .int .i64 0) rfl; have cr_3 := Xr.out.cell 3 (v := .int .i64 0) rfl; have cr_4 := Xr.out.cell 4 (v := .slice none 0 0) rfl; have cr_5 := Xr.out.cell 5 (v := .int .i64 0) rfl; have cr_6 := Xr.out.cell 6 (v := .int .i64 0) rfl; have cr_7 := Xr.out.cell 7 (v := .slice none 0 0) rfl; have cr_8 := Xr.out.cell 8 (v := .slice none 0 0) rfl
  go_wp2_with fail
  (with_reducible refine (sGoodNode_calls x _ _ _ _ (Rp.S_below G4.out HC.out) (Rp.S_below G7.out HC.out) (Rp.S_below G8.out HC.out) hl).mono ?_)
  rintro e w2 ⟨rfl, hb⟩
  have HC := Lib.hid (HC.out.trans (hb.mono (by first | exact HC.out.size | (have := HC.out.size; omega)))); have hsz := Nat.le_trans hsz hb.size; have Xn := Lib.hid (Xn.out.below hb); have Xr := Lib.hid (Xr.out.below hb); clear cn_0 cn_1 cn_2 cn_3 cn_4 cn_5 cn_6 cn_7 cn_8 cr_0 cr_1 cr_2 cr_3 cr_4 cr_5 cr_6 cr_7 cr_8; clear hb; have cn_0 := Xn.out.cell 0 (v := .int .i64 x.fId) rfl; have cn_1 := Xn.out.cell 1 (v := .int .i64 x.fPeers) rfl; have cn_2 := Xn.out.cell 2 (v := .int .i64 x.fTerm) rfl; have cn_3 := Xn.out.cell 3 (v := .int .i64 x.fVote) rfl; have cn_4 := Xn.out.cell 4 (v := .slice A4 x.fLog.length d4) rfl; have cn_5 := Xn.out.cell 5 (v := .int .i64 x.fCommit) rfl; have cn_6 := Xn.out.cell 6 (v := .int .i64 x.fRole) rfl; have cn_7 := Xn.out.cell 7 (v := .slice A7 x.fVotes.length d7) rfl; have cn_8 := Xn.out.cell 8 (v := .slice A8 x.fMatch.length d8) rfl; have cr_0 := Xr.out.cell 0 (v := .int .i64 0) rfl; have cr_1 := Xr.out.cell 1 (v := .int .i64 0) rfl; have cr_2 := Xr.out.cell 2 (v := .int .i64 0) rfl; have cr_3 := Xr.out.cell 3 (v := .int .i64 0) rfl; have cr_4 := Xr.out.cell 4 (v := .slice none 0 0) rfl; have cr_5 := Xr.out.cell 5 (v := .int .i64 0) rfl; have cr_6 := Xr.out.cell 6 (v := .int .i64 0) rfl; have cr_7 := Xr.out.cell 7 (v := .slice none 0 0) rfl; have cr_8 := Xr.out.cell 8 (v := .slice none 0 0) rfl
  cases hg : nodeOk x
  case false =>
    have fr_ := Xr.out.fro
    go_wp2
    obtain ⟨hk, bf⟩ := Xr.out.stored [.int .i64 0, .int .i64 0, .int .i64 0, .int .i64 0, .slice none 0 0, .int .i64 0, .int .i64 0, .slice none 0 0, .slice none 0 0] 0
    rw [setA_all (by rfl)] at bf
    change bodyPost _ _ _ _ _ (Rp.setN w2 (w.heap.size + 1) 0 [.int .i64 0, .int .i64 0, .int .i64 0, .int .i64 0, .slice none 0 0, .int .i64 0, .int .i64 0, .slice none 0 0, .slice none 0 0])
    clear fr_ cn_0 cn_1 cn_2 cn_3 cn_4 cn_5 cn_6 cn_7 cn_8 cr_0 cr_1 cr_2 cr_3 cr_4 cr_5 cr_6 cr_7 cr_8
    have HK := Lib.hid hk; clear hk
    generalize Rp.setN w2 (w.heap.size + 1) 0 [.int .i64 0, .int .i64 0, .int .i64 0, .int .i64 0, .slice none 0 0, .int .i64 0, .int .i64 0, .slice none 0 0, .slice none 0 0] = wf at *
    have df0 := bf.cell 0 (v := .int .i64 0) rfl; have df1 := bf.cell 1 (v := .int .i64 0) rfl; have df2 := bf.cell 2 (v := .int .i64 0) rfl; have df3 := bf.cell 3 (v := .int .i64 0) rfl; have df4 := bf.cell 4 (v := .slice none 0 0) rfl; have df5 := bf.cell 5 (v := .int .i64 0) rfl; have df6 := bf.cell 6 (v := .int .i64 0) rfl; have df7 := bf.cell 7 (v := .slice none 0 0) rfl; have df8 := bf.cell 8 (v := .slice none 0 0) rfl
    refine bodyPost_ret (v := .tuple #[.agg #[.int .i64 0, .int .i64 0, .int .i64 0, .int .i64 0, .slice none 0 0, .int .i64 0, .int .i64 0, .slice none 0 0, .slice none 0 0], .bool false]) (by simp [results, Try.results26, go_sem, df0, df1, df2, df3, df4, df5, df6, df7, df8]) rfl ⟨_, by rw [hg], by rw [crashV, hg]; exact Made.node0 (HC.out.trans (HK.out.toBelow HC.out.size (by simp)))⟩
  case true =>
    go_wp2_with fail
    (with_reducible refine (sOwn_calls x _ _ _ _ (Rp.S_below G4.out HC.out) (Rp.S_below G7.out HC.out) (Rp.S_below G8.out HC.out) hl).mono ?_)
    rintro e w3 ⟨v, rfl, cs, F, e1, hm, hF, hnd, hb⟩
    subst e1
    obtain ⟨v4, v7, v8, F4, F7, F8, rfl, rfl, r4, r7, r8⟩ := kRaftNode_open hm
    obtain ⟨P4, C4, rfl, _, _⟩ := Rp.Row_K r4
    obtain ⟨P7, C7, rfl, _, _⟩ := Rp.Row_K r7
    obtain ⟨P8, C8, rfl, _, _⟩ := Rp.Row_K r8
    have T4 := Lib.hid (fun b h => Nat.le_trans hsz (hF b (by simp [h])) : ∀ b ∈ F4, w.heap.size + 2 ≤ b)
    have T7 := Lib.hid (fun b h => Nat.le_trans hsz (hF b (by simp [h])) : ∀ b ∈ F7, w.heap.size + 2 ≤ b)
    have T8 := Lib.hid (fun b h => Nat.le_trans hsz (hF b (by simp [h])) : ∀ b ∈ F8, w.heap.size + 2 ≤ b)
    have U4 := Lib.hid (Rp.Row_lt r4); have U7 := Lib.hid (Rp.Row_lt r7); have U8 := Lib.hid (Rp.Row_lt r8)
    have R4 := Lib.hid r4; have R7 := Lib.hid r7; have R8 := Lib.hid r8; have ND := Lib.hid hnd
    clear r4 r7 r8 hF hnd hm
    have HC := Lib.hid (HC.out.trans (hb.mono (by first | exact HC.out.size | (have := HC.out.size; omega)))); have hsz := Nat.le_trans hsz hb.size; have Xn := Lib.hid (Xn.out.below hb); have Xr := Lib.hid (Xr.out.below hb); clear cn_0 cn_1 cn_2 cn_3 cn_4 cn_5 cn_6 cn_7 cn_8 cr_0 cr_1 cr_2 cr_3 cr_4 cr_5 cr_6 cr_7 cr_8; clear hb; have cn_0 := Xn.out.cell 0 (v := .int .i64 x.fId) rfl; have cn_1 := Xn.out.cell 1 (v := .int .i64 x.fPeers) rfl; have cn_2 := Xn.out.cell 2 (v := .int .i64 x.fTerm) rfl; have cn_3 := Xn.out.cell 3 (v := .int .i64 x.fVote) rfl; have cn_4 := Xn.out.cell 4 (v := .slice A4 x.fLog.length d4) rfl; have cn_5 := Xn.out.cell 5 (v := .int .i64 x.fCommit) rfl; have cn_6 := Xn.out.cell 6 (v := .int .i64 x.fRole) rfl; have cn_7 := Xn.out.cell 7 (v := .slice A7 x.fVotes.length d7) rfl; have cn_8 := Xn.out.cell 8 (v := .slice A8 x.fMatch.length d8) rfl; have cr_0 := Xr.out.cell 0 (v := .int .i64 0) rfl; have cr_1 := Xr.out.cell 1 (v := .int .i64 0) rfl; have cr_2 := Xr.out.cell 2 (v := .int .i64 0) rfl; have cr_3 := Xr.out.cell 3 (v := .int .i64 0) rfl; have cr_4 := Xr.out.cell 4 (v := .slice none 0 0) rfl; have cr_5 := Xr.out.cell 5 (v := .int .i64 0) rfl; have cr_6 := Xr.out.cell 6 (v := .int .i64 0) rfl; have cr_7 := Xr.out.cell 7 (v := .slice none 0 0) rfl; have cr_8 := Xr.out.cell 8 (v := .slice none 0 0) rfl
    go_wp2_with fail
    (with_reducible refine (sFollow_calls x P4 P7 P8 _ _ _ _ _ _ _).mono ?_)
    rintro e w4 ⟨rfl, hb⟩
    have R4 := Lib.hid (Rp.Row_below R4.out hb); have R7 := Lib.hid (Rp.Row_below R7.out hb); have R8 := Lib.hid (Rp.Row_below R8.out hb)
    have HC := Lib.hid (HC.out.trans (hb.mono (by first | exact HC.out.size | (have := HC.out.size; omega)))); have hsz := Nat.le_trans hsz hb.size; have Xn := Lib.hid (Xn.out.below hb); have Xr := Lib.hid (Xr.out.below hb); clear cn_0 cn_1 cn_2 cn_3 cn_4 cn_5 cn_6 cn_7 cn_8 cr_0 cr_1 cr_2 cr_3 cr_4 cr_5 cr_6 cr_7 cr_8; clear hb; have cn_0 := Xn.out.cell 0 (v := .int .i64 x.fId) rfl; have cn_1 := Xn.out.cell 1 (v := .int .i64 x.fPeers) rfl; have cn_2 := Xn.out.cell 2 (v := .int .i64 x.fTerm) rfl; have cn_3 := Xn.out.cell 3 (v := .int .i64 x.fVote) rfl; have cn_4 := Xn.out.cell 4 (v := .slice A4 x.fLog.length d4) rfl; have cn_5 := Xn.out.cell 5 (v := .int .i64 x.fCommit) rfl; have cn_6 := Xn.out.cell 6 (v := .int .i64 x.fRole) rfl; have cn_7 := Xn.out.cell 7 (v := .slice A7 x.fVotes.length d7) rfl; have cn_8 := Xn.out.cell 8 (v := .slice A8 x.fMatch.length d8) rfl; have cr_0 := Xr.out.cell 0 (v := .int .i64 0) rfl; have cr_1 := Xr.out.cell 1 (v := .int .i64 0) rfl; have cr_2 := Xr.out.cell 2 (v := .int .i64 0) rfl; have cr_3 := Xr.out.cell 3 (v := .int .i64 0) rfl; have cr_4 := Xr.out.cell 4 (v := .slice none 0 0) rfl; have cr_5 := Xr.out.cell 5 (v := .int .i64 0) rfl; have cr_6 := Xr.out.cell 6 (v := .int .i64 0) rfl; have cr_7 := Xr.out.cell 7 (v := .slice none 0 0) rfl; have cr_8 := Xr.out.cell 8 (v := .slice none 0 0) rfl
    have fn := Xn.out.fro
    go_upto_region 4 with fail
    clear fn
    change Code.wp _ _ _ _ (Rp.setN w4 (w.heap.size) 0 [.int .i64 x.fId, .int .i64 x.fPeers, .int .i64 x.fTerm, .int .i64 x.fVote, .slice P4 x.fLog.length C4, .int .i64 x.fCommit, .int .i64 0, .slice none 0 0, .slice none 0 0])
    obtain ⟨hk, hbx⟩ := Xn.out.stored [.int .i64 x.fId, .int .i64 x.fPeers, .int .i64 x.fTerm, .int .i64 x.fVote, .slice P4 x.fLog.length C4, .int .i64 x.fCommit, .int .i64 0, .slice none 0 0, .slice none 0 0] 0
    rw [setA_all (by rfl)] at hbx
    generalize Rp.setN w4 (w.heap.size) 0 [.int .i64 x.fId, .int .i64 x.fPeers, .int .i64 x.fTerm, .int .i64 x.fVote, .slice P4 x.fLog.length C4, .int .i64 x.fCommit, .int .i64 0, .slice none 0 0, .slice none 0 0] = w5 at *
    have R4 := Lib.hid (Row_ne R4.out hk (fun h => by have h_0 := T4.out _ h; omega))
    have R7 := Lib.hid (Row_ne R7.out hk (fun h => by have h_0 := T7.out _ h; omega))
    have R8 := Lib.hid (Row_ne R8.out hk (fun h => by have h_0 := T8.out _ h; omega))
    have Xr := Lib.hid (Box_ne Xr.out hk (by omega))
    have Xn := Lib.hid hbx
    have HC := Lib.hid (HC.out.trans (hk.toBelow HC.out.size (fun b h => by have h2 : b = w.heap.size := (by simpa using h); omega)))
    replace hsz := Nat.le_trans hsz hk.size
    clear hk hbx cn_0 cn_1 cn_2 cn_3 cn_4 cn_5 cn_6 cn_7 cn_8 cr_0 cr_1 cr_2 cr_3 cr_4 cr_5 cr_6 cr_7 cr_8
    have cn_0 := Xn.out.cell 0 (v := .int .i64 x.fId) rfl; have cn_1 := Xn.out.cell 1 (v := .int .i64 x.fPeers) rfl; have cn_2 := Xn.out.cell 2 (v := .int .i64 x.fTerm) rfl; have cn_3 := Xn.out.cell 3 (v := .int .i64 x.fVote) rfl; have cn_4 := Xn.out.cell 4 (v := .slice P4 x.fLog.length C4) rfl; have cn_5 := Xn.out.cell 5 (v := .int .i64 x.fCommit) rfl; have cn_6 := Xn.out.cell 6 (v := .int .i64 0) rfl; have cn_7 := Xn.out.cell 7 (v := .slice none 0 0) rfl; have cn_8 := Xn.out.cell 8 (v := .slice none 0 0) rfl; have cr_0 := Xr.out.cell 0 (v := .int .i64 0) rfl; have cr_1 := Xr.out.cell 1 (v := .int .i64 0) rfl; have cr_2 := Xr.out.cell 2 (v := .int .i64 0) rfl; have cr_3 := Xr.out.cell 3 (v := .int .i64 0) rfl; have cr_4 := Xr.out.cell 4 (v := .slice none 0 0) rfl; have cr_5 := Xr.out.cell 5 (v := .int .i64 0) rfl; have cr_6 := Xr.out.cell 6 (v := .int .i64 0) rfl; have cr_7 := Xr.out.cell 7 (v := .slice none 0 0) rfl; have cr_8 := Xr.out.cell 8 (v := .slice none 0 0) rfl
    have fn := Xn.out.fro
    go_upto_region 5 with fail
    clear fn
    have hk := kept_set w5 (w.heap.size) 5 (.int .i64 0)
    have R4 := Lib.hid (Row_ne R4.out hk (fun h => by have h_0 := T4.out _ h; omega))
    have R7 := Lib.hid (Row_ne R7.out hk (fun h => by have h_0 := T7.out _ h; omega))
    have R8 := Lib.hid (Row_ne R8.out hk (fun h => by have h_0 := T8.out _ h; omega))
    have Xr := Lib.hid (Xr.out.set_other (a := ⟨w.heap.size, 5, none⟩) (.int .i64 0) (by first | (simp; done) | (simp; omega)))
    have Xn := Lib.hid (show Box (w5.setCell ⟨w.heap.size, 5, none⟩ (.int .i64 0)) (w.heap.size) #[.int .i64 x.fId, .int .i64 x.fPeers, .int .i64 x.fTerm, .int .i64 x.fVote, .slice P4 x.fLog.length C4, .int .i64 0, .int .i64 0, .slice none 0 0, .slice none 0 0] 30 from Xn.out.set 5 (.int .i64 0))
    have HC := Lib.hid (HC.out.setCell (p := ⟨w.heap.size, 5, none⟩) (by first | (simp; done) | (simp; omega)) (.int .i64 0))
    replace hsz := Nat.le_trans hsz hk.size
    clear hk cn_0 cn_1 cn_2 cn_3 cn_4 cn_5 cn_6 cn_7 cn_8 cr_0 cr_1 cr_2 cr_3 cr_4 cr_5 cr_6 cr_7 cr_8
    generalize w5.setCell ⟨w.heap.size, 5, none⟩ (.int .i64 0) = w6 at *
    have cn_0 := Xn.out.cell 0 (v := .int .i64 x.fId) rfl; have cn_1 := Xn.out.cell 1 (v := .int .i64 x.fPeers) rfl; have cn_2 := Xn.out.cell 2 (v := .int .i64 x.fTerm) rfl; have cn_3 := Xn.out.cell 3 (v := .int .i64 x.fVote) rfl; have cn_4 := Xn.out.cell 4 (v := .slice P4 x.fLog.length C4) rfl; have cn_5 := Xn.out.cell 5 (v := .int .i64 0) rfl; have cn_6 := Xn.out.cell 6 (v := .int .i64 0) rfl; have cn_7 := Xn.out.cell 7 (v := .slice none 0 0) rfl; have cn_8 := Xn.out.cell 8 (v := .slice none 0 0) rfl; have cr_0 := Xr.out.cell 0 (v := .int .i64 0) rfl; have cr_1 := Xr.out.cell 1 (v := .int .i64 0) rfl; have cr_2 := Xr.out.cell 2 (v := .int .i64 0) rfl; have cr_3 := Xr.out.cell 3 (v := .int .i64 0) rfl; have cr_4 := Xr.out.cell 4 (v := .slice none 0 0) rfl; have cr_5 := Xr.out.cell 5 (v := .int .i64 0) rfl; have cr_6 := Xr.out.cell 6 (v := .int .i64 0) rfl; have cr_7 := Xr.out.cell 7 (v := .slice none 0 0) rfl; have cr_8 := Xr.out.cell 8 (v := .slice none 0 0) rfl
    have fr_ := Xr.out.fro
    go_wp2
    obtain ⟨hk, bf⟩ := Xr.out.stored [.int .i64 x.fId, .int .i64 x.fPeers, .int .i64 x.fTerm, .int .i64 x.fVote, .slice P4 x.fLog.length C4, .int .i64 0, .int .i64 0, .slice none 0 0, .slice none 0 0] 0
    rw [setA_all (by rfl)] at bf
    have q4 := Row_ne R4.out hk (fun h => by have h_0 := T4.out _ h; omega)
    change bodyPost _ _ _ _ _ (Rp.setN w6 (w.heap.size + 1) 0 [.int .i64 x.fId, .int .i64 x.fPeers, .int .i64 x.fTerm, .int .i64 x.fVote, .slice P4 x.fLog.length C4, .int .i64 0, .int .i64 0, .slice none 0 0, .slice none 0 0])
    clear fr_ cn_0 cn_1 cn_2 cn_3 cn_4 cn_5 cn_6 cn_7 cn_8 cr_0 cr_1 cr_2 cr_3 cr_4 cr_5 cr_6 cr_7 cr_8
    have HK := Lib.hid hk; clear hk
    generalize Rp.setN w6 (w.heap.size + 1) 0 [.int .i64 x.fId, .int .i64 x.fPeers, .int .i64 x.fTerm, .int .i64 x.fVote, .slice P4 x.fLog.length C4, .int .i64 0, .int .i64 0, .slice none 0 0, .slice none 0 0] = wf at *
    have df0 := bf.cell 0 (v := .int .i64 x.fId) rfl; have df1 := bf.cell 1 (v := .int .i64 x.fPeers) rfl; have df2 := bf.cell 2 (v := .int .i64 x.fTerm) rfl; have df3 := bf.cell 3 (v := .int .i64 x.fVote) rfl; have df4 := bf.cell 4 (v := .slice P4 x.fLog.length C4) rfl; have df5 := bf.cell 5 (v := .int .i64 0) rfl; have df6 := bf.cell 6 (v := .int .i64 0) rfl; have df7 := bf.cell 7 (v := .slice none 0 0) rfl; have df8 := bf.cell 8 (v := .slice none 0 0) rfl
    refine bodyPost_ret (v := .tuple #[.agg #[.int .i64 x.fId, .int .i64 x.fPeers, .int .i64 x.fTerm, .int .i64 x.fVote, .slice P4 x.fLog.length C4, .int .i64 0, .int .i64 0, .slice none 0 0, .slice none 0 0], .bool true]) (by simp [results, Try.results26, go_sem, df0, df1, df2, df3, df4, df5, df6, df7, df8]) rfl ⟨_, by rw [hg], by rw [crashV, hg]; exact Made.node (x := crashN x) (N := w.heap.size + 2) (F7 := []) (F8 := []) (by omega) q4 (Rp.Row_nil _ _ _) (Rp.Row_nil _ _ _) T4.out (by simp) (by simp) (by simpa using (List.nodup_append.1 ND.out).1) (HC.out.trans (HK.out.toBelow HC.out.size (by simp)))⟩

theorem sCrashNode_k {x : DRaftNode} {c0 : List Value} {w : World} (k0 : kRaftNode.K w x c0) (h0 : wfRaftNode x) (s0 : smRaftNode 1048576 x) : Calls Try.prog 26 #[.agg c0.toArray] w
    fun e w' => ∃ cs F, e = .returned (.tuple #[.agg cs.toArray, .bool (nodeOk x)]) ∧ kRaftNode.M w' F (crashV x) cs ∧ (∀ b ∈ F, w.heap.size ≤ b) ∧ F.Nodup ∧ Below w.heap.size w w' := by
  obtain ⟨v4, v7, v8, rfl, g4, g7, g8⟩ := kRaftNode_read k0
  refine (sCrash_calls x v4 v7 v8 w g4 g7 g8 s0).mono ?_
  rintro e w' ⟨v, rfl, cs, F, rfl, h1, h2, h3, h4⟩
  exact ⟨cs, F, rfl, h1, h2, h3, h4⟩
theorem crashV_sm {x : DRaftNode} {n m : Nat} (h : smRaftNode n x) (hn : n ≤ m) : smRaftNode m (crashV x) := by
  unfold smRaftNode at *
  unfold crashV crashN followN zRaftNode
  split <;> simp <;> omega
theorem comV_sm {x : DRaftNode} {n m : Nat} (h : smRaftNode n x) (hn : n ≤ m) : (comV x).length ≤ m := by
  unfold smRaftNode at *
  unfold comV
  split
  · rw [List.length_take]; omega
  · simp
set_option maxHeartbeats 8000000 in
set_option maxRecDepth 100000 in
theorem iCom_calls (x : DRaftNode) (v4 v7 v8 : Value) (w : World) (g4 : kEntry.S w x.fLog v4) (g7 : kInt.S w x.fVotes v7) (g8 : kInt.S w x.fMatch v8) (hl : smRaftNode 1048576 x) : Calls Try.prog 21 #[.agg #[.int .i64 x.fId, .int .i64 x.fPeers, .int .i64 x.fTerm, .int .i64 x.fVote, v4, .int .i64 x.fCommit, .int .i64 x.fRole, v7, v8]] w
    fun e w' => ∃ v, e = .returned (.tuple #[v, .bool (nodeOk x)]) ∧ MadeR kEntry 73 (comV x) w w' v := by
  have G4 := Lib.hid g4; have G7 := Lib.hid g7; have G8 := Lib.hid g8
  obtain ⟨A4, d4, rfl, _, _⟩ := g4
  obtain ⟨A7, d7, rfl, _, _⟩ := g7
  obtain ⟨A8, d8, rfl, _, _⟩ := g8
  go_enter Try.func21, Try.ntmps21
  go_upto_region 1 with fail
  have HC := Lib.hid (show Below w.heap.size w (w.alloc (.cells #[.int .i64 x.fId, .int .i64 x.fPeers, .int .i64 x.fTerm, .int .i64 x.fVote, .slice A4 x.fLog.length d4, .int .i64 x.fCommit, .int .i64 x.fRole, .slice A7 x.fVotes.length d7, .slice A8 x.fMatch.length d8] 30)) from Below.alloc (Below.refl w.heap.size w) (by first | exact Nat.le_refl _ | (simp; done) | (simp; omega)) (.cells #[.int .i64 x.fId, .int .i64 x.fPeers, .int .i64 x.fTerm, .int .i64 x.fVote, .slice A4 x.fLog.length d4, .int .i64 x.fCommit, .int .i64 x.fRole, .slice A7 x.fVotes.length d7, .slice A8 x.fMatch.length d8] 30))
  have Xn := Lib.hid (show Box (w.alloc (.cells #[.int .i64 x.fId, .int .i64 x.fPeers, .int .i64 x.fTerm, .int .i64 x.fVote, .slice A4 x.fLog.length d4, .int .i64 x.fCommit, .int .i64 x.fRole, .slice A7 x.fVotes.length d7, .slice A8 x.fMatch.length d8] 30)) (w.heap.size) #[.int .i64 x.fId, .int .i64 x.fPeers, .int .i64 x.fTerm, .int .i64 x.fVote, .slice A4 x.fLog.length d4, .int .i64 x.fCommit, .int .i64 x.fRole, .slice A7 x.fVotes.length d7, .slice A8 x.fMatch.length d8] 30 from Box.new rfl)
  have hsz : w.heap.size + 1 ≤ (w.alloc (.cells #[.int .i64 x.fId, .int .i64 x.fPeers, .int .i64 x.fTerm, .int .i64 x.fVote, .slice A4 x.fLog.length d4, .int .i64 x.fCommit, .int .i64 x.fRole, .slice A7 x.fVotes.length d7, .slice A8 x.fMatch.length d8] 30)).heap.size := by simp
  generalize w.alloc (.cells #[.int .i64 x.fId, .int .i64 x.fPeers, .int .i64 x.fTerm, .int .i64 x.fVote, .slice A4 x.fLog.length d4, .int .i64 x.fCommit, .int .i64 x.fRole, .slice A7 x.fVotes.length d7, .slice A8 x.fMatch.length d8] 30) = w1 at *
  have cn_0 := Xn.out.cell 0 (v := .int .i64 x.fId) rfl; have cn_1 := Xn.out.cell 1 (v := .int .i64 x.fPeers) rfl; have cn_2 := Xn.out.cell 2 (v := .int .i64 x.fTerm) rfl; have cn_3 := Xn.out.cell 3 (v := .int .i64 x.fVote) rfl; have cn_4 := Xn.out.cell 4 (v := .slice A4 x.fLog.length d4) rfl; have cn_5 := Xn.out.cell 5 (v := .int .i64 x.fCommit) rfl; have cn_6 := Xn.out.cell 6 (v := .int .i64 x.fRole) rfl; have cn_7 := Xn.out.cell 7 (v := .slice A7 x.fVotes.length d7) rfl; have cn_8 := Xn.out.cell 8 (v := .slice A8 x.fMatch.length d8) rfl
  go_wp2_with fail
  (with_reducible refine (iGoodNode_calls x _ _ _ _ (Rp.S_below G4.out HC.out) (Rp.S_below G7.out HC.out) (Rp.S_below G8.out HC.out) hl).mono ?_)
  rintro e w2 ⟨rfl, hb⟩
  have HC := Lib.hid (HC.out.trans (hb.mono (by first | exact HC.out.size | (have := HC.out.size; omega)))); have hsz := Nat.le_trans hsz hb.size; have Xn := Lib.hid (Xn.out.below hb); clear cn_0 cn_1 cn_2 cn_3 cn_4 cn_5 cn_6 cn_7 cn_8; clear hb; have cn_0 := Xn.out.cell 0 (v := .int .i64 x.fId) rfl; have cn_1 := Xn.out.cell 1 (v := .int .i64 x.fPeers) rfl; have cn_2 := Xn.out.cell 2 (v := .int .i64 x.fTerm) rfl; have cn_3 := Xn.out.cell 3 (v := .int .i64 x.fVote) rfl; have cn_4 := Xn.out.cell 4 (v := .slice A4 x.fLog.length d4) rfl; have cn_5 := Xn.out.cell 5 (v := .int .i64 x.fCommit) rfl; have cn_6 := Xn.out.cell 6 (v := .int .i64 x.fRole) rfl; have cn_7 := Xn.out.cell 7 (v := .slice A7 x.fVotes.length d7) rfl; have cn_8 := Xn.out.cell 8 (v := .slice A8 x.fMatch.length d8) rfl
  cases hg : nodeOk x
  case false =>
    go_wp2
    go_ret2
    exact ⟨_, by rw [hg]; rfl, by rw [comV, hg]; exact MadeR.nil _ _ HC.out⟩
  case true =>
    obtain ⟨_, _, _, _, _, _, e1, e2, _, _, _⟩ := nodeOk_facts hg
    obtain ⟨k, hk⟩ : ∃ k : Nat, x.fCommit = k := ⟨x.fCommit.toNat, by omega⟩
    have hkl : k ≤ x.fLog.length := by omega
    have hcv : comV x = x.fLog.take k := by rw [comV, hg, hk]; rfl
    clear cn_5
    have cn_5 := Xn.out.cell 5 (v := .int .i64 k) (by rw [← hk]; rfl)
    have k0 : (0 : Int) ≤ (k : Int) := by omega
    have k1 : (k : Int) ≤ (x.fLog.length : Int) := by omega
    have k2 : (k : Int) ≤ (d4 : Int) := by have := (S_open G4.out).2.1.1; omega
    have hlk : (x.fLog.take k).length = k := by rw [List.length_take]; omega
    have GT := Lib.hid (Rp.S_take G4.out k hkl)
    have l4 := hl.1
    clear hk
    go_wp2_with ((with_reducible refine (cloneEntry_calls (x.fLog.take k) _ _ (Rp.S_below GT.out HC.out) (by omega)).mono ?_); rintro e w3 ⟨v, F, rfl, r1, r2, r3, hb⟩; have R1 := Lib.hid (And.intro r1 (And.intro r2 r3)); clear r1 r2 r3; have HB := Lib.hid hb; clear hb)
    go_ret2
    exact ⟨_, by rw [hg]; rfl, by rw [hcv]; exact ⟨F, R1.out.1, fun b h => Nat.le_trans HC.out.size (R1.out.2.1 b h), R1.out.2.2, HC.out.trans (HB.out.mono HC.out.size)⟩⟩

theorem iCommittedIn_k {x : DRaftNode} {c0 : List Value} {w : World} (k0 : kRaftNode.K w x c0) (h0 : wfRaftNode x) (s0 : smRaftNode 1048576 x) : Calls Try.prog 21 #[.agg c0.toArray] w
    fun e w' => ∃ v F, e = .returned (.tuple #[v, .bool (nodeOk x)]) ∧ (Rp.slice 73 kEntry).M w' F (comV x) [v] ∧ (∀ b ∈ F, w.heap.size ≤ b) ∧ F.Nodup ∧ Below w.heap.size w w' := by
  obtain ⟨v4, v7, v8, rfl, g4, g7, g8⟩ := kRaftNode_read k0
  refine (iCom_calls x v4 v7 v8 w g4 g7 g8 s0).mono ?_
  rintro e w' ⟨v, rfl, F, h1, h2, h3, h4⟩
  exact ⟨v, F, rfl, ⟨v, rfl, h1⟩, h2, h3, h4⟩
set_option maxHeartbeats 8000000 in
set_option maxRecDepth 100000 in
theorem sCom_calls (x : DRaftNode) (v4 v7 v8 : Value) (w : World) (g4 : kEntry.S w x.fLog v4) (g7 : kInt.S w x.fVotes v7) (g8 : kInt.S w x.fMatch v8) (hl : smRaftNode 1048576 x) : Calls Try.prog 20 #[.agg #[.int .i64 x.fId, .int .i64 x.fPeers, .int .i64 x.fTerm, .int .i64 x.fVote, v4, .int .i64 x.fCommit, .int .i64 x.fRole, v7, v8]] w
    fun e w' => ∃ v, e = .returned (.tuple #[v, .bool (nodeOk x)]) ∧ MadeR kEntry 73 (comV x) w w' v := by
  have G4 := Lib.hid g4; have G7 := Lib.hid g7; have G8 := Lib.hid g8
  obtain ⟨A4, d4, rfl, _, _⟩ := g4
  obtain ⟨A7, d7, rfl, _, _⟩ := g7
  obtain ⟨A8, d8, rfl, _, _⟩ := g8
  go_enter Try.func20, Try.ntmps20
  go_upto_region 1 with fail
  have HC := Lib.hid (show Below w.heap.size w (w.alloc (.cells #[.int .i64 x.fId, .int .i64 x.fPeers, .int .i64 x.fTerm, .int .i64 x.fVote, .slice A4 x.fLog.length d4, .int .i64 x.fCommit, .int .i64 x.fRole, .slice A7 x.fVotes.length d7, .slice A8 x.fMatch.length d8] 30)) from Below.alloc (Below.refl w.heap.size w) (by first | exact Nat.le_refl _ | (simp; done) | (simp; omega)) (.cells #[.int .i64 x.fId, .int .i64 x.fPeers, .int .i64 x.fTerm, .int .i64 x.fVote, .slice A4 x.fLog.length d4, .int .i64 x.fCommit, .int .i64 x.fRole, .slice A7 x.fVotes.length d7, .slice A8 x.fMatch.length d8] 30))
  have Xn := Lib.hid (show Box (w.alloc (.cells #[.int .i64 x.fId, .int .i64 x.fPeers, .int .i64 x.fTerm, .int .i64 x.fVote, .slice A4 x.fLog.length d4, .int .i64 x.fCommit, .int .i64 x.fRole, .slice A7 x.fVotes.length d7, .slice A8 x.fMatch.length d8] 30)) (w.heap.size) #[.int .i64 x.fId, .int .i64 x.fPeers, .int .i64 x.fTerm, .int .i64 x.fVote, .slice A4 x.fLog.length d4, .int .i64 x.fCommit, .int .i64 x.fRole, .slice A7 x.fVotes.length d7, .slice A8 x.fMatch.length d8] 30 from Box.new rfl)
  have hsz : w.heap.size + 1 ≤ (w.alloc (.cells #[.int .i64 x.fId, .int .i64 x.fPeers, .int .i64 x.fTerm, .int .i64 x.fVote, .slice A4 x.fLog.length d4, .int .i64 x.fCommit, .int .i64 x.fRole, .slice A7 x.fVotes.length d7, .slice A8 x.fMatch.length d8] 30)).heap.size := by simp
  generalize w.alloc (.cells #[.int .i64 x.fId, .int .i64 x.fPeers, .int .i64 x.fTerm, .int .i64 x.fVote, .slice A4 x.fLog.length d4, .int .i64 x.fCommit, .int .i64 x.fRole, .slice A7 x.fVotes.length d7, .slice A8 x.fMatch.length d8] 30) = w1 at *
  have cn_0 := Xn.out.cell 0 (v := .int .i64 x.fId) rfl; have cn_1 := Xn.out.cell 1 (v := .int .i64 x.fPeers) rfl; have cn_2 := Xn.out.cell 2 (v := .int .i64 x.fTerm) rfl; have cn_3 := Xn.out.cell 3 (v := .int .i64 x.fVote) rfl; have cn_4 := Xn.out.cell 4 (v := .slice A4 x.fLog.length d4) rfl; have cn_5 := Xn.out.cell 5 (v := .int .i64 x.fCommit) rfl; have cn_6 := Xn.out.cell 6 (v := .int .i64 x.fRole) rfl; have cn_7 := Xn.out.cell 7 (v := .slice A7 x.fVotes.length d7) rfl; have cn_8 := Xn.out.cell 8 (v := .slice A8 x.fMatch.length d8) rfl
  go_wp2_with fail
  (with_reducible refine (sGoodNode_calls x _ _ _ _ (Rp.S_below G4.out HC.out) (Rp.S_below G7.out HC.out) (Rp.S_below G8.out HC.out) hl).mono ?_)
  rintro e w2 ⟨rfl, hb⟩
  have HC := Lib.hid (HC.out.trans (hb.mono (by first | exact HC.out.size | (have := HC.out.size; omega)))); have hsz := Nat.le_trans hsz hb.size; have Xn := Lib.hid (Xn.out.below hb); clear cn_0 cn_1 cn_2 cn_3 cn_4 cn_5 cn_6 cn_7 cn_8; clear hb; have cn_0 := Xn.out.cell 0 (v := .int .i64 x.fId) rfl; have cn_1 := Xn.out.cell 1 (v := .int .i64 x.fPeers) rfl; have cn_2 := Xn.out.cell 2 (v := .int .i64 x.fTerm) rfl; have cn_3 := Xn.out.cell 3 (v := .int .i64 x.fVote) rfl; have cn_4 := Xn.out.cell 4 (v := .slice A4 x.fLog.length d4) rfl; have cn_5 := Xn.out.cell 5 (v := .int .i64 x.fCommit) rfl; have cn_6 := Xn.out.cell 6 (v := .int .i64 x.fRole) rfl; have cn_7 := Xn.out.cell 7 (v := .slice A7 x.fVotes.length d7) rfl; have cn_8 := Xn.out.cell 8 (v := .slice A8 x.fMatch.length d8) rfl
  cases hg : nodeOk x
  case false =>
    go_wp2
    go_ret2
    exact ⟨_, by rw [hg]; rfl, by rw [comV, hg]; exact MadeR.nil _ _ HC.out⟩
  case true =>
    obtain ⟨_, _, _, _, _, _, e1, e2, _, _, _⟩ := nodeOk_facts hg
    obtain ⟨k, hk⟩ : ∃ k : Nat, x.fCommit = k := ⟨x.fCommit.toNat, by omega⟩
    have hkl : k ≤ x.fLog.length := by omega
    have hcv : comV x = x.fLog.take k := by rw [comV, hg, hk]; rfl
    clear cn_5
    have cn_5 := Xn.out.cell 5 (v := .int .i64 k) (by rw [← hk]; rfl)
    have k0 : (0 : Int) ≤ (k : Int) := by omega
    have k1 : (k : Int) ≤ (x.fLog.length : Int) := by omega
    have k2 : (k : Int) ≤ (d4 : Int) := by have := (S_open G4.out).2.1.1; omega
    have hlk : (x.fLog.take k).length = k := by rw [List.length_take]; omega
    have GT := Lib.hid (Rp.S_take G4.out k hkl)
    have l4 := hl.1
    clear hk
    have s0 : w.heap.size < w2.heap.size := by omega
    obtain ⟨ka, kb⟩ := acell w2
    go_wp2_with (at_builtin; go_loud (refine wp_append (d := kEntry) rfl _ _ 28 73 rfl Try.underlying28 infoEntry rfl (by decide) rfl (by decide) kEntry_flat (xs := []) (ys := x.fLog.take k) rfl rfl (Rp.Row_made0 _ _ _ (by simp)) (Rp.S_below GT.out (HC.out.alloc HC.out.size _)) (by simp; omega) ?_; intro va wa r1 r2 r3 _; rw [List.nil_append] at r1; have R1 := Lib.hid r1; have R2 := Lib.hid r2; have R3 := Lib.hid r3; clear r1 r2 r3))
    go_ret2
    exact ⟨_, by rw [hg]; rfl, by rw [hcv]; exact ⟨_, R1.out, fun b hb => by rcases R3.out b hb with h | h <;> simp at h <;> omega, ofOwn_nodup _, HC.out.trans ((R2.out.newBelow (Nat.le_refl _)).mono HC.out.size)⟩⟩

theorem sCommittedIn_k {x : DRaftNode} {c0 : List Value} {w : World} (k0 : kRaftNode.K w x c0) (h0 : wfRaftNode x) (s0 : smRaftNode 1048576 x) : Calls Try.prog 20 #[.agg c0.toArray] w
    fun e w' => ∃ v F, e = .returned (.tuple #[v, .bool (nodeOk x)]) ∧ (Rp.slice 73 kEntry).M w' F (comV x) [v] ∧ (∀ b ∈ F, w.heap.size ≤ b) ∧ F.Nodup ∧ Below w.heap.size w w' := by
  obtain ⟨v4, v7, v8, rfl, g4, g7, g8⟩ := kRaftNode_read k0
  refine (sCom_calls x v4 v7 v8 w g4 g7 g8 s0).mono ?_
  rintro e w' ⟨v, rfl, F, h1, h2, h3, h4⟩
  exact ⟨v, F, rfl, ⟨v, rfl, h1⟩, h2, h3, h4⟩
end Go.Proofs.Ytljkcmbebdbnaaa
