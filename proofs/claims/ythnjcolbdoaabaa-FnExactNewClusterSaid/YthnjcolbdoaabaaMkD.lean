/- Marks of a cluster. -/
import Derived.Test.YthnjcolbdoaabaaC3
import Derived.Test.YthnjcolbdoaabaaMkB
import Derived.Test.YthnjcolbdoaabaaMkC
namespace Go.Proofs.Ythnjcolbdoaabaa
open Go Go.RowKit Go.Sort
set_option linter.unusedVariables false
set_option linter.unusedSimpArgs false

def mkCluster (x : DCluster) (k : Int) : DCluster × Int :=
  let a0 := mkL meRaftNode x.fNodes k
  let a1 := mkL meRaftMsg x.fNet a0.2
  let a2 := mkL mkLead x.fLeads a1.2
  (⟨a0.1, a1.1, a2.1⟩, a2.2)
theorem mkCluster_le (x : DCluster) (k : Int) : k ≤ (mkCluster x k).2 := by
  have h0 := mkL_le meRaftNode_le x.fNodes (k)
  have h1 := mkL_le meRaftMsg_le x.fNet ((mkL meRaftNode x.fNodes (k)).2)
  have h2 := mkL_le mkLead_le x.fLeads ((mkL meRaftMsg x.fNet ((mkL meRaftNode x.fNodes (k)).2)).2)
  simp only [mkCluster]
  omega
set_option maxHeartbeats 1000000 in
set_option maxRecDepth 100000 in
theorem markCluster_calls (x : DCluster) (v0 v1 v2 : Value) (F0 F1 F2 : List Nat) (k : Int) (w : World) (r0 : kRaftNode.Row 29 w F0 x.fNodes v0) (r1 : kRaftMsg.Row 50 w F1 x.fNet v1) (r2 : kLead.Row 109 w F2 x.fLeads v2) (hn : (F0 ++ (F1 ++ (F2))).Nodup) (h0 : 0 ≤ k) (h1 : (mkCluster x k).2 ≤ 4611686018427387904) (hl : smRaftNodeS 140737488355328 x.fNodes ∧ smRaftMsgS 140737488355328 x.fNet ∧ x.fLeads.length ≤ 140737488355328) :
    Calls Try.prog 39 #[.agg #[v0, v1, v2], .int .i64 k] w fun e w' => e = .returned (.int .i64 (mkCluster x k).2) ∧ kRaftNode.Row 29 w' F0 (mkCluster x k).1.fNodes v0 ∧ kRaftMsg.Row 50 w' F1 (mkCluster x k).1.fNet v1 ∧ kLead.Row 109 w' F2 (mkCluster x k).1.fLeads v2 ∧ KeptF (F0 ++ (F1 ++ (F2))) w w' := by
  obtain ⟨l0, l1, l2⟩ := hl
  have m0 := mkL_le meRaftNode_le x.fNodes k
  have m1 := mkL_le meRaftMsg_le x.fNet ((mkL meRaftNode x.fNodes k).2)
  have m2 := mkL_le mkLead_le x.fLeads ((mkL meRaftMsg x.fNet (mkL meRaftNode x.fNodes k).2).2)
  have h2 : (mkL mkLead x.fLeads (mkL meRaftMsg x.fNet (mkL meRaftNode x.fNodes k).2).2).2 ≤ 4611686018427387904 := h1
  have M0 := Lib.hid m0
  have z0 : (mkL meRaftNode x.fNodes k).2 ≤ 4611686018427387904 := by omega
  have Z0 := Lib.hid z0
  have n0 : 0 ≤ k := by omega
  have N0 := Lib.hid n0
  have M1 := Lib.hid m1
  have z1 : (mkL meRaftMsg x.fNet (mkL meRaftNode x.fNodes k).2).2 ≤ 4611686018427387904 := by omega
  have Z1 := Lib.hid z1
  have n1 : 0 ≤ (mkL meRaftNode x.fNodes k).2 := by omega
  have N1 := Lib.hid n1
  have M2 := Lib.hid m2
  have z2 : (mkL mkLead x.fLeads (mkL meRaftMsg x.fNet (mkL meRaftNode x.fNodes k).2).2).2 ≤ 4611686018427387904 := by omega
  have Z2 := Lib.hid z2
  have n2 : 0 ≤ (mkL meRaftMsg x.fNet (mkL meRaftNode x.fNodes k).2).2 := by omega
  have N2 := Lib.hid n2
  clear h1 h2 m0 z0 n0 m1 z1 n1 m2 z2 n2
  have R0 := Lib.hid r0
  have L0 := Lib.hid (fun b hb => Nat.ne_of_lt (Rp.Row_lt r0 b hb) : ∀ b ∈ F0, b ≠ w.heap.size)
  clear r0
  have R1 := Lib.hid r1
  have L1 := Lib.hid (fun b hb => Nat.ne_of_lt (Rp.Row_lt r1 b hb) : ∀ b ∈ F1, b ≠ w.heap.size)
  clear r1
  have R2 := Lib.hid r2
  have L2 := Lib.hid (fun b hb => Nat.ne_of_lt (Rp.Row_lt r2 b hb) : ∀ b ∈ F2, b ≠ w.heap.size)
  clear r2
  have HN := Lib.hid hn
  clear hn
  go_enter Try.func39, Try.ntmps39
  go_wp2_with fail
  (with_reducible refine (markRaftNodeS_calls x.fNodes _ F0 v0 _ (Rp.Row_below R0.out ((Below.refl _ _).alloc (Nat.le_refl _) _)) (List.nodup_append.1 HN.out).1 N0.out Z0.out l0).mono ?_)
  rintro e w0 ⟨rfl, hr, hk⟩
  have B0 : Box _ w.heap.size #[v0, v1, v2] 68 := Box.kept (Box.new rfl) hk (fun hm => L0.out _ hm rfl)
  have hK : KeptF (F0 ++ (F1 ++ (F2))) w w0 := ((KeptF.refl _ _).alloc _).trans (hk.mono (by intro b hb; simp [hb]))
  have S1 := Lib.hid (Rp.Row_kept (Rp.Row_below R1.out ((Below.refl _ _).alloc (Nat.le_refl _) _)) hk (fun b hb hc => (List.nodup_append.1 HN.out).2.2 b (by simp [hc]) b (by simp [hb]) rfl))
  have S2 := Lib.hid (Rp.Row_kept (Rp.Row_below R2.out ((Below.refl _ _).alloc (Nat.le_refl _) _)) hk (fun b hb hc => (List.nodup_append.1 HN.out).2.2 b (by simp [hc]) b (by simp [hb]) rfl))
  have R1 := S1; clear S1
  have R2 := S2; clear S2
  have Q0 := Lib.hid hr
  have HK0 := Lib.hid hK
  clear hr hk hK
  have c0_1 := B0.cell 1 (v := v1) rfl
  have c0_2 := B0.cell 2 (v := v2) rfl
  have BX := Lib.hid B0; clear B0
  go_wp2_with fail
  (with_reducible refine (markRaftMsgS_calls x.fNet _ F1 v1 _ R1.out (List.nodup_append.1 (List.nodup_append.1 HN.out).2.1).1 N1.out Z1.out l1).mono ?_)
  rintro e w1 ⟨rfl, hr, hk⟩
  have B0 := BX.out.kept hk (fun hm => L1.out _ hm rfl)
  clear BX
  have hK : KeptF (F0 ++ (F1 ++ (F2))) w w1 := HK0.out.trans (hk.mono (by intro b hb; simp [hb]))
  have S2 := Lib.hid (Rp.Row_kept R2.out hk (fun b hb hc => (List.nodup_append.1 (List.nodup_append.1 HN.out).2.1).2.2 b (by simp [hc]) b (by simp [hb]) rfl))
  have T0 := Lib.hid (Rp.Row_kept Q0.out hk (fun b hb hc => (List.nodup_append.1 HN.out).2.2 b (by simp [hb]) b (by simp [hc]) rfl))
  have Q0 := T0; clear T0
  have R2 := S2; clear S2
  have Q1 := Lib.hid hr
  have HK1 := Lib.hid hK
  clear hr hk hK
  have c1_2 := B0.cell 2 (v := v2) rfl
  have BX := Lib.hid B0; clear B0
  clear c0_1 c0_2
  go_wp2_with fail
  (with_reducible refine (markLeadS_calls x.fLeads _ F2 v2 _ R2.out (List.nodup_append.1 (List.nodup_append.1 HN.out).2.1).2.1 N2.out Z2.out l2).mono ?_)
  rintro e w2 ⟨rfl, hr, hk⟩
  have B0 := BX.out.kept hk (fun hm => L2.out _ hm rfl)
  clear BX
  have hK : KeptF (F0 ++ (F1 ++ (F2))) w w2 := HK1.out.trans (hk.mono (by intro b hb; simp [hb]))
  have T0 := Lib.hid (Rp.Row_kept Q0.out hk (fun b hb hc => (List.nodup_append.1 HN.out).2.2 b (by simp [hb]) b (by simp [hc]) rfl))
  have T1 := Lib.hid (Rp.Row_kept Q1.out hk (fun b hb hc => (List.nodup_append.1 (List.nodup_append.1 HN.out).2.1).2.2 b (by simp [hb]) b (by simp [hc]) rfl))
  have Q0 := T0; clear T0
  have Q1 := T1; clear T1
  have Q2 := Lib.hid hr
  have HK2 := Lib.hid hK
  clear hr hk hK
  have BX := Lib.hid B0; clear B0
  clear c1_2
  go_wp2
  go_ret
  exact ⟨rfl, Q0.out, Q1.out, Q2.out, HK2.out⟩

theorem markCluster_k {x : DCluster} {cs : List Value} {F : List Nat} {k : Int} {w : World} (hm : kCluster.M w F x cs) (hn : F.Nodup) (h0 : 0 ≤ k) (h1 : (mkCluster x k).2 ≤ 4611686018427387904) (hs : smCluster 140737488355328 x) : Calls Try.prog 39 #[.agg cs.toArray, .int .i64 k] w
    fun e w' => e = .returned (.int .i64 (mkCluster x k).2) ∧ kCluster.M w' F (mkCluster x k).1 cs ∧ KeptF F w w' := by
  obtain ⟨v0, v1, v2, F0, F1, F2, rfl, rfl, r0, r1, r2⟩ := kCluster_open hm
  refine (markCluster_calls x v0 v1 v2 _ _ _ k w r0 r1 r2 hn h0 h1 hs).mono ?_
  rintro e w' ⟨rfl, q0, q1, q2, hk⟩
  exact ⟨rfl, kCluster_make q0 q1 q2, hk⟩
end Go.Proofs.Ythnjcolbdoaabaa
