/- The laws' own functions of some types, one by one. -/
import Derived.Test.YthnjcolbdoaabaaC1
import Derived.Test.YthnjcolbdoaabaaKitB
import Derived.Test.YthnjcolbdoaabaaN4
namespace Go.Proofs.Ythnjcolbdoaabaa
open Go Go.RowKit Go.Sort
set_option linter.unusedVariables false
set_option linter.unusedSimpArgs false

structure DCluster where
  fNodes : List (DRaftNode)
  fNet : List (DRaftMsg)
  fLeads : List (DLead)
def kCluster : Rp DCluster := Rp.iso (Rp.pair (Rp.slice 29 kRaftNode) (Rp.pair (Rp.slice 50 kRaftMsg) (Rp.slice 109 kLead))) (fun x => (x.fNodes, x.fNet, x.fLeads))
def szNCluster (x : DCluster) : Nat := szL szNRaftNode x.fNodes + szL szNRaftMsg x.fNet + szL szNLead x.fLeads
def wfCluster (x : DCluster) : Prop := ((∀ y ∈ x.fNodes, wfRaftNode y) ∧ x.fNodes.length ≤ 140737488355328) ∧ ((∀ y ∈ x.fNet, wfRaftMsg y) ∧ x.fNet.length ≤ 140737488355328) ∧ ((∀ y ∈ x.fLeads, wfLead y) ∧ x.fLeads.length ≤ 140737488355328)

set_option maxHeartbeats 1000000 in
set_option maxRecDepth 100000 in
theorem szCluster_calls (x : DCluster) (v0 v1 v2 : Value) (left : Int) (w : World) (g0 : kRaftNode.S w x.fNodes v0) (g1 : kRaftMsg.S w x.fNet v1) (g2 : kLead.S w x.fLeads v2) (h0 : 0 ≤ left) (h1 : left ≤ 140737488355328) (hw : wfCluster x) : Calls Try.prog 33 #[.agg #[v0, v1, v2], .int .i64 left] w
    fun e w' => e = .returned (.int .i64 (szR (szNCluster x) left)) ∧ Below w.heap.size w w' := by
  have HF := Lib.hid (show (szNCluster x : Int) = (szL szNRaftNode x.fNodes : Int) + (szL szNRaftMsg x.fNet : Int) + (szL szNLead x.fLeads : Int) by unfold szNCluster; omega)
  obtain ⟨⟨u0, l0⟩, ⟨u1, l1⟩, ⟨u2, l2⟩⟩ := hw
  have G0 := Lib.hid g0; clear g0
  have U0 := Lib.hid u0; clear u0
  have G1 := Lib.hid g1; clear g1
  have U1 := Lib.hid u1; clear u1
  have G2 := Lib.hid g2; clear g2
  have U2 := Lib.hid u2; clear u2
  go_enter Try.func33, Try.ntmps33
  go_wp2_with fail
  (with_reducible refine (szRaftNodeS_calls x.fNodes _ v0 _ (by first | exact Rp.S_below G0.out (Below.alloc (Below.refl _ _) (Nat.le_refl _) _) | exact Rp.S_below G0.out HB.out) (by omega) (by omega) U0.out l0).mono ?_)
  rintro e w0 ⟨rfl, hb⟩
  have B0 : Box _ w.heap.size #[v0, v1, v2] 61 := Box.below (Box.new rfl) hb
  have HB0 := Lib.hid (Below.trans (Below.alloc (Below.refl w.heap.size w) (Nat.le_refl _) _) (hb.mono (by simp)))
  clear hb
  have e0 := Int.natCast_nonneg (szL szNRaftNode x.fNodes)
  by_cases q0 : (szL szNRaftNode x.fNodes : Int) ≤ left
  · rw [szR_yes q0]
    have c0_1 := B0.cell 1 (v := v1) rfl
    have c0_2 := B0.cell 2 (v := v2) rfl
    go_wp2_with fail
    (with_reducible refine (szRaftMsgS_calls x.fNet _ v1 _ (by first | exact Rp.S_below G1.out (Below.alloc (Below.refl _ _) (Nat.le_refl _) _) | exact Rp.S_below G1.out HB0.out) (by omega) (by omega) U1.out l1).mono ?_)
    rintro e w1 ⟨rfl, hb⟩
    have B0 := Box.below B0 hb
    have HB1 := Lib.hid (HB0.out.trans (hb.mono HB0.out.size))
    clear hb
    have e1 := Int.natCast_nonneg (szL szNRaftMsg x.fNet)
    by_cases q1 : (szL szNRaftMsg x.fNet : Int) ≤ left - szL szNRaftNode x.fNodes
    · rw [szR_yes q1]
      have c1_2 := B0.cell 2 (v := v2) rfl
      go_wp2_with fail
      (with_reducible refine (szLeadS_calls x.fLeads _ v2 _ (by first | exact Rp.S_below G2.out (Below.alloc (Below.refl _ _) (Nat.le_refl _) _) | exact Rp.S_below G2.out HB1.out) (by omega) (by omega) U2.out l2).mono ?_)
      rintro e w2 ⟨rfl, hb⟩
      have B0 := Box.below B0 hb
      have HB2 := Lib.hid (HB1.out.trans (hb.mono HB1.out.size))
      clear hb
      have e2 := Int.natCast_nonneg (szL szNLead x.fLeads)
      by_cases q2 : (szL szNLead x.fLeads : Int) ≤ left - szL szNRaftNode x.fNodes - szL szNRaftMsg x.fNet
      · rw [szR_yes q2]
        clear B0
        go_wp2
        all_goals (go_ret; exact ⟨ret_int (by rw [szR_of HF.out]; first | (rw [if_pos (by omega)]; try omega) | (rw [if_neg (by omega)])), HB2.out⟩)
      · rw [szR_no q2]
        go_wp2
        all_goals (go_ret; exact ⟨ret_int (by rw [szR_of HF.out]; first | (rw [if_pos (by omega)]; try omega) | (rw [if_neg (by omega)])), HB2.out⟩)
    · rw [szR_no q1]
      go_wp2
      all_goals (go_ret; exact ⟨ret_int (by rw [szR_of HF.out]; first | (rw [if_pos (by omega)]; try omega) | (rw [if_neg (by omega)])), HB1.out⟩)
  · rw [szR_no q0]
    go_wp2
    all_goals (go_ret; exact ⟨ret_int (by rw [szR_of HF.out]; first | (rw [if_pos (by omega)]; try omega) | (rw [if_neg (by omega)])), HB0.out⟩)

set_option maxHeartbeats 1000000 in
set_option maxRecDepth 100000 in
theorem eqCluster_calls (x : DCluster) (v0 v1 v2 u0 u1 u2 : Value) (w : World) (g0 : kRaftNode.S w x.fNodes v0) (g1 : kRaftMsg.S w x.fNet v1) (g2 : kLead.S w x.fLeads v2) (d0 : kRaftNode.S w x.fNodes u0) (d1 : kRaftMsg.S w x.fNet u1) (d2 : kLead.S w x.fLeads u2) (hl : smRaftNodeS 140737488355328 x.fNodes ∧ smRaftMsgS 140737488355328 x.fNet ∧ x.fLeads.length ≤ 140737488355328) : Calls Try.prog 38 #[.agg #[v0, v1, v2], .agg #[u0, u1, u2]] w
    fun e w' => e = .returned (.bool true) ∧ Below w.heap.size w w' := by
  obtain ⟨l0, l1, l2⟩ := hl
  have G0 := Lib.hid g0; clear g0
  have D0 := Lib.hid d0; clear d0
  have G1 := Lib.hid g1; clear g1
  have D1 := Lib.hid d1; clear d1
  have G2 := Lib.hid g2; clear g2
  have D2 := Lib.hid d2; clear d2
  go_enter Try.func38, Try.ntmps38
  go_wp2_with fail
  (with_reducible refine (eqRaftNodeS_calls x.fNodes v0 u0 _ (by first | exact Rp.S_below G0.out (((Below.refl _ _).alloc (Nat.le_refl _) _).alloc (by simp) _) | exact Rp.S_below G0.out HB.out) (by first | exact Rp.S_below D0.out (((Below.refl _ _).alloc (Nat.le_refl _) _).alloc (by simp) _) | exact Rp.S_below D0.out HB.out) l0).mono ?_)
  rintro e w0 ⟨rfl, hb⟩
  have B0 : Box _ w.heap.size #[v0, v1, v2] 68 := Box.below (Box.alloc (Box.new rfl)) hb
  have B1 : Box _ (w.heap.size + 1) #[u0, u1, u2] 68 := Box.below (Box.new (by simp)) hb
  have HB0 := Lib.hid (Below.trans (((Below.refl w.heap.size w).alloc (Nat.le_refl _) _).alloc (by simp) _) (hb.mono (by simp; omega)))
  clear hb
  have c0_0_1 := B0.cell 1 (v := v1) rfl
  have c0_1_1 := B1.cell 1 (v := u1) rfl
  have c0_0_2 := B0.cell 2 (v := v2) rfl
  have c0_1_2 := B1.cell 2 (v := u2) rfl
  go_wp2_with fail
  (with_reducible refine (eqRaftMsgS_calls x.fNet v1 u1 _ (by first | exact Rp.S_below G1.out (((Below.refl _ _).alloc (Nat.le_refl _) _).alloc (by simp) _) | exact Rp.S_below G1.out HB0.out) (by first | exact Rp.S_below D1.out (((Below.refl _ _).alloc (Nat.le_refl _) _).alloc (by simp) _) | exact Rp.S_below D1.out HB0.out) l1).mono ?_)
  rintro e w1 ⟨rfl, hb⟩
  have B0 := Box.below B0 hb
  have B1 := Box.below B1 hb
  have HB1 := Lib.hid (HB0.out.trans (hb.mono HB0.out.size))
  clear hb
  have c1_0_2 := B0.cell 2 (v := v2) rfl
  have c1_1_2 := B1.cell 2 (v := u2) rfl
  go_wp2_with fail
  (with_reducible refine (eqLeadS_calls x.fLeads v2 u2 _ (by first | exact Rp.S_below G2.out (((Below.refl _ _).alloc (Nat.le_refl _) _).alloc (by simp) _) | exact Rp.S_below G2.out HB1.out) (by first | exact Rp.S_below D2.out (((Below.refl _ _).alloc (Nat.le_refl _) _).alloc (by simp) _) | exact Rp.S_below D2.out HB1.out) l2).mono ?_)
  rintro e w2 ⟨rfl, hb⟩
  have B0 := Box.below B0 hb
  have B1 := Box.below B1 hb
  have HB2 := Lib.hid (HB1.out.trans (hb.mono HB1.out.size))
  clear hb
  clear B0 B1
  go_wp2
  go_ret
  exact ⟨rfl, HB2.out⟩

theorem kCluster_open {w : World} {F : List Nat} {x : DCluster} {cs : List Value} (h : kCluster.M w F x cs) : ∃ v0 v1 v2 F0 F1 F2, cs = [v0, v1, v2] ∧ F = F0 ++ (F1 ++ (F2)) ∧ kRaftNode.Row 29 w F0 x.fNodes v0 ∧ kRaftMsg.Row 50 w F1 x.fNet v1 ∧ kLead.Row 109 w F2 x.fLeads v2 := by
  obtain ⟨_, _, _, _, rfl, rfl, ⟨v0, rfl, r0⟩, ⟨_, _, _, _, rfl, rfl, ⟨v1, rfl, r1⟩, ⟨v2, rfl, r2⟩⟩⟩ := h
  exact ⟨v0, v1, v2, _, _, _, rfl, by simp, r0, r1, r2⟩
theorem kCluster_read {w : World} {x : DCluster} {cs : List Value} (h : kCluster.K w x cs) : ∃ v0 v1 v2, cs = [v0, v1, v2] ∧ kRaftNode.S w x.fNodes v0 ∧ kRaftMsg.S w x.fNet v1 ∧ kLead.S w x.fLeads v2 := by
  obtain ⟨_, _, rfl, ⟨A0, c0, rfl, e0, r0⟩, ⟨_, _, rfl, ⟨A1, c1, rfl, e1, r1⟩, ⟨A2, c2, rfl, e2, r2⟩⟩⟩ := h
  exact ⟨_, _, _, rfl, ⟨A0, c0, rfl, e0, r0⟩, ⟨A1, c1, rfl, e1, r1⟩, ⟨A2, c2, rfl, e2, r2⟩⟩
theorem kCluster_make {w : World} {x : DCluster} {v0 v1 v2 : Value} {F0 F1 F2 : List Nat} (r0 : kRaftNode.Row 29 w F0 x.fNodes v0) (r1 : kRaftMsg.Row 50 w F1 x.fNet v1) (r2 : kLead.Row 109 w F2 x.fLeads v2) : kCluster.M w (F0 ++ (F1 ++ (F2))) x [v0, v1, v2] :=
  ⟨[v0], [v1, v2], F0, F1 ++ F2, rfl, by simp, ⟨v0, rfl, r0⟩, ⟨[v1], [v2], F1, F2, rfl, by simp, ⟨v1, rfl, r1⟩, ⟨v2, rfl, r2⟩⟩⟩

set_option maxHeartbeats 1000000 in
set_option maxRecDepth 100000 in
theorem toCluster_calls (x : DCluster) (v0 v1 v2 : Value) (w : World) (g0 : kRaftNode.S w x.fNodes v0) (g1 : kRaftMsg.S w x.fNet v1) (g2 : kLead.S w x.fLeads v2) (hl : smRaftNodeS 1048576 x.fNodes ∧ smRaftMsgS 1048576 x.fNet ∧ x.fLeads.length ≤ 1048576) : Calls Try.prog 35 #[.agg #[v0, v1, v2]] w
    fun e w' => ∃ cs F, e = .returned (.agg cs.toArray) ∧ kCluster.M w' F x cs ∧ (∀ b ∈ F, w.heap.size ≤ b) ∧ F.Nodup ∧ Below w.heap.size w w' := by
  obtain ⟨l0, l1, l2⟩ := hl
  have G0 := Lib.hid g0; clear g0
  have G1 := Lib.hid g1; clear g1
  have G2 := Lib.hid g2; clear g2
  go_enter Try.func35, Try.ntmps35
  go_wp2_with fail
  (with_reducible refine (toRaftNodeS_calls x.fNodes v0 _ (Rp.S_below G0.out ((((Below.refl _ _).alloc (Nat.le_refl _) _).alloc (by simp) _).alloc (by simp; omega) _)) l0).mono ?_)
  rintro e w0 ⟨p0, F0, rfl, hr, hfr, hnd, hb⟩
  have B0 : Box _ w.heap.size #[v0, v1, v2] 61 := Box.below (Box.alloc (Box.alloc (Box.new rfl))) hb
  have B1 : Box _ (w.heap.size + 1) #[.slice none 0 0, .slice none 0 0, .slice none 0 0] 68 := Box.below (Box.alloc (Box.new (by simp))) hb
  have B2 : Box _ (w.heap.size + 1 + 1) #[.slice none 0 0, .slice none 0 0, .slice none 0 0] 68 := Box.below (Box.new (by simp)) hb
  have SZB := Lib.hid (show w.heap.size + 1 + 1 + 1 ≤ w0.heap.size by simpa using hb.size)
  have hB0 := Below.trans ((((Below.refl w.heap.size w).alloc (Nat.le_refl _) _).alloc (by simp) _).alloc (by simp; omega) _) (hb.mono (by simp; omega))
  have hf0 : ∀ b ∈ F0, w.heap.size + 1 + 1 + 1 ≤ b := by simpa using hfr
  have HB0 := Lib.hid hB0; clear hB0
  have Lt0 : ∀ b ∈ F0, b < w0.heap.size := Rp.Row_lt hr
  have LT0 := Lib.hid Lt0; clear Lt0
  obtain ⟨pa0, pc0, rfl, _, _⟩ := Rp.Row_K hr
  have hr0 := hr; clear hr
  have hn0 := Lib.hid hnd; clear hnd hfr hb
  have HF0 := Lib.hid hf0
  have c0_1_0 := B1.cell 0 (v := .slice none 0 0) rfl
  have c0_2_0 := B2.cell 0 (v := .slice none 0 0) rfl
  have c0_0_1 := B0.cell 1 (v := v1) rfl
  have c0_1_1 := B1.cell 1 (v := .slice none 0 0) rfl
  have c0_2_1 := B2.cell 1 (v := .slice none 0 0) rfl
  have c0_0_2 := B0.cell 2 (v := v2) rfl
  have c0_1_2 := B1.cell 2 (v := .slice none 0 0) rfl
  have c0_2_2 := B2.cell 2 (v := .slice none 0 0) rfl
  have f0_1 := B1.fro
  have f0_2 := B2.fro
  have HX0 := Lib.hid B0; have HX1 := Lib.hid B1; have HX2 := Lib.hid B2; clear B0 B1 B2
  have HR0 := Lib.hid hr0; clear hr0 hf0
  go_wp2_with fail
  have B0 := HX0.out; have B1 := HX1.out; have B2 := HX2.out; clear HX0 HX1 HX2
  have hr0 := HR0.out; clear HR0; have hf0 := HF0.out
  clear c0_0_1 c0_0_2 c0_1_0 c0_1_1 c0_1_2 c0_2_0 c0_2_1 c0_2_2 f0_1 f0_2
  go_wp2_with fail
  (with_reducible refine (toRaftMsgS_calls x.fNet v1 _ (by refine Rp.S_below G1.out ?_; exact (by repeat (first | exact HB0.out | (refine Below.setCell ?_ (by simp; omega) _)))) l1).mono ?_)
  rintro e w1 ⟨p1, F1, rfl, hr, hfr, hnd, hb⟩
  have hk : KeptF [w.heap.size + 1 + 1] w0 w1 := KeptF.below (by repeat (first | exact KeptF.refl _ _ | (refine KeptF.set ?_ (by simp) _))) hb
  have B2 : Box w1 (w.heap.size + 1 + 1) #[.slice pa0 x.fNodes.length pc0, .slice none 0 0, .slice none 0 0] 68 := Box.below (B2.set 0 (.slice pa0 x.fNodes.length pc0)) hb
  have B0 := B0.kept hk (by simp; omega)
  have B1 := B1.kept hk (by simp)
  have hr0 := Rp.Row_kept hr0 hk (fun b hb => by have := hf0 b hb; have := SZB.out; simp; omega)
  have hf1 : ∀ b ∈ F1, w0.heap.size ≤ b := by simpa [World.setCell] using hfr
  have hB1 : Below w.heap.size w w1 := HB0.out.trans (hk.toBelow HB0.out.size (by simp; omega))
  have HB1 := Lib.hid hB1; clear hB1
  have SZ1 := Lib.hid hk.size
  have Lt1 : ∀ b ∈ F1, b < w1.heap.size := Rp.Row_lt hr
  have LT1 := Lib.hid Lt1; clear Lt1
  obtain ⟨pa1, pc1, rfl, _, _⟩ := Rp.Row_K hr
  have hr1 := hr; clear hr
  have hn1 := Lib.hid hnd; clear hnd hfr hb hk
  have HF1 := Lib.hid hf1
  have c1_1_0 := B1.cell 0 (v := .slice none 0 0) rfl
  have c1_2_0 := B2.cell 0 (v := .slice pa0 x.fNodes.length pc0) rfl
  have c1_1_1 := B1.cell 1 (v := .slice none 0 0) rfl
  have c1_2_1 := B2.cell 1 (v := .slice none 0 0) rfl
  have c1_0_2 := B0.cell 2 (v := v2) rfl
  have c1_1_2 := B1.cell 2 (v := .slice none 0 0) rfl
  have c1_2_2 := B2.cell 2 (v := .slice none 0 0) rfl
  have f1_1 := B1.fro
  have f1_2 := B2.fro
  have HX0 := Lib.hid B0; have HX1 := Lib.hid B1; have HX2 := Lib.hid B2; clear B0 B1 B2
  have HR0 := Lib.hid hr0; clear hr0 hf0
  have HR1 := Lib.hid hr1; clear hr1 hf1
  go_wp2_with fail
  have B0 := HX0.out; have B1 := HX1.out; have B2 := HX2.out; clear HX0 HX1 HX2
  have hr0 := HR0.out; clear HR0; have hf0 := HF0.out
  have hr1 := HR1.out; clear HR1; have hf1 := HF1.out
  clear c1_0_2 c1_1_0 c1_1_1 c1_1_2 c1_2_0 c1_2_1 c1_2_2 f1_1 f1_2
  go_wp2_with fail
  (with_reducible refine (toLeadS_calls x.fLeads v2 _ (by refine Rp.S_below G2.out ?_; exact (by repeat (first | exact HB1.out | (refine Below.setCell ?_ (by simp; omega) _)))) l2).mono ?_)
  rintro e w2 ⟨p2, F2, rfl, hr, hfr, hnd, hb⟩
  have hk : KeptF [w.heap.size + 1 + 1] w1 w2 := KeptF.below (by repeat (first | exact KeptF.refl _ _ | (refine KeptF.set ?_ (by simp) _))) hb
  have B2 : Box w2 (w.heap.size + 1 + 1) #[.slice pa0 x.fNodes.length pc0, .slice pa1 x.fNet.length pc1, .slice none 0 0] 68 := Box.below (B2.set 1 (.slice pa1 x.fNet.length pc1)) hb
  have B0 := B0.kept hk (by simp; omega)
  have B1 := B1.kept hk (by simp)
  have hr0 := Rp.Row_kept hr0 hk (fun b hb => by have := hf0 b hb; have := SZB.out; have := SZ1.out; simp; omega)
  have hr1 := Rp.Row_kept hr1 hk (fun b hb => by have := hf1 b hb; have := SZB.out; have := SZ1.out; simp; omega)
  have hf2 : ∀ b ∈ F2, w1.heap.size ≤ b := by simpa [World.setCell] using hfr
  have hB2 : Below w.heap.size w w2 := HB1.out.trans (hk.toBelow HB1.out.size (by simp; omega))
  have HB2 := Lib.hid hB2; clear hB2
  have SZ2 := Lib.hid hk.size
  have Lt2 : ∀ b ∈ F2, b < w2.heap.size := Rp.Row_lt hr
  have LT2 := Lib.hid Lt2; clear Lt2
  obtain ⟨pa2, pc2, rfl, _, _⟩ := Rp.Row_K hr
  have hr2 := hr; clear hr
  have hn2 := Lib.hid hnd; clear hnd hfr hb hk
  have HF2 := Lib.hid hf2
  have c2_1_0 := B1.cell 0 (v := .slice none 0 0) rfl
  have c2_2_0 := B2.cell 0 (v := .slice pa0 x.fNodes.length pc0) rfl
  have c2_1_1 := B1.cell 1 (v := .slice none 0 0) rfl
  have c2_2_1 := B2.cell 1 (v := .slice pa1 x.fNet.length pc1) rfl
  have c2_1_2 := B1.cell 2 (v := .slice none 0 0) rfl
  have c2_2_2 := B2.cell 2 (v := .slice none 0 0) rfl
  have f2_1 := B1.fro
  have f2_2 := B2.fro
  have HX0 := Lib.hid B0; have HX1 := Lib.hid B1; have HX2 := Lib.hid B2; clear B0 B1 B2
  have HR0 := Lib.hid hr0; clear hr0 hf0
  have HR1 := Lib.hid hr1; clear hr1 hf1
  have HR2 := Lib.hid hr2; clear hr2 hf2
  go_upto_region 5 with fail
  have hkm : KeptF [(w.heap.size + 1 + 1)] w2 (Rp.setN w2 (w.heap.size + 1 + 1) 2 [.slice pa2 x.fLeads.length pc2]) := Rp.setN_kept (by simp) _ _ _ (KeptF.refl _ _)
  have B2m : Box (Rp.setN w2 (w.heap.size + 1 + 1) 2 [.slice pa2 x.fLeads.length pc2]) (w.heap.size + 1 + 1) #[.slice pa0 x.fNodes.length pc0, .slice pa1 x.fNet.length pc1, .slice pa2 x.fLeads.length pc2] 68 := Box.setN _ HX2.out 2
  have B1m : Box (Rp.setN w2 (w.heap.size + 1 + 1) 2 [.slice pa2 x.fLeads.length pc2]) (w.heap.size + 1) #[.slice none 0 0, .slice none 0 0, .slice none 0 0] 68 := Box.setN_other HX1.out _ _ _ (by omega)
  have q0 := Rp.Row_kept HR0.out hkm (fun b hb => by have := HF0.out b hb; have := HB0.out.size; have := SZB.out; have := SZ1.out; have := SZ2.out; simp; omega)
  have q1 := Rp.Row_kept HR1.out hkm (fun b hb => by have := HF1.out b hb; have := HB0.out.size; have := SZB.out; have := SZ1.out; have := SZ2.out; simp; omega)
  have q2 := Rp.Row_kept HR2.out hkm (fun b hb => by have := HF2.out b hb; have := HB0.out.size; have := SZB.out; have := SZ1.out; have := SZ2.out; simp; omega)
  have HBm := Lib.hid (HB2.out.trans (hkm.toBelow HB2.out.size (by simp; omega)))
  change Code.wp _ _ _ _ (Rp.setN w2 (w.heap.size + 1 + 1) 2 [.slice pa2 x.fLeads.length pc2])
  clear c2_1_0 c2_1_1 c2_1_2 c2_2_0 c2_2_1 c2_2_2 f2_1 f2_2 hkm
  generalize (Rp.setN w2 (w.heap.size + 1 + 1) 2 [.slice pa2 x.fLeads.length pc2]) = wm at *
  have m0 := B2m.cell 0 (v := .slice pa0 x.fNodes.length pc0) rfl
  have m1 := B2m.cell 1 (v := .slice pa1 x.fNet.length pc1) rfl
  have m2 := B2m.cell 2 (v := .slice pa2 x.fLeads.length pc2) rfl
  have n0 := B1m.cell 0 (v := .slice none 0 0) rfl
  have n1 := B1m.cell 1 (v := .slice none 0 0) rfl
  have n2 := B1m.cell 2 (v := .slice none 0 0) rfl
  have fm := B1m.fro
  have HXm := Lib.hid B1m
  clear B1m B2m
  have Q0 := Lib.hid q0; clear q0
  have Q1 := Lib.hid q1; clear q1
  have Q2 := Lib.hid q2; clear q2
  go_wp2
  have hk : KeptF [(w.heap.size + 1)] wm (Rp.setN wm (w.heap.size + 1) 0 [.slice pa0 x.fNodes.length pc0, .slice pa1 x.fNet.length pc1, .slice pa2 x.fLeads.length pc2]) := Rp.setN_kept (by simp) _ _ _ (KeptF.refl _ _)
  have bf : Box (Rp.setN wm (w.heap.size + 1) 0 [.slice pa0 x.fNodes.length pc0, .slice pa1 x.fNet.length pc1, .slice pa2 x.fLeads.length pc2]) (w.heap.size + 1) #[.slice pa0 x.fNodes.length pc0, .slice pa1 x.fNet.length pc1, .slice pa2 x.fLeads.length pc2] 68 := by
    have h := Box.setN [.slice pa0 x.fNodes.length pc0, .slice pa1 x.fNet.length pc1, .slice pa2 x.fLeads.length pc2] HXm.out 0
    rw [setA_all (by rfl)] at h
    exact h
  have q0 := Rp.Row_kept Q0.out hk (fun b hb => by have := HF0.out b hb; have := HB0.out.size; have := SZB.out; have := SZ1.out; have := SZ2.out; simp; omega)
  have q1 := Rp.Row_kept Q1.out hk (fun b hb => by have := HF1.out b hb; have := HB0.out.size; have := SZB.out; have := SZ1.out; have := SZ2.out; simp; omega)
  have q2 := Rp.Row_kept Q2.out hk (fun b hb => by have := HF2.out b hb; have := HB0.out.size; have := SZB.out; have := SZ1.out; have := SZ2.out; simp; omega)
  change bodyPost _ _ _ _ _ (Rp.setN wm (w.heap.size + 1) 0 [.slice pa0 x.fNodes.length pc0, .slice pa1 x.fNet.length pc1, .slice pa2 x.fLeads.length pc2])
  clear m0 n0 m1 n1 m2 n2 fm
  generalize Rp.setN wm (w.heap.size + 1) 0 [.slice pa0 x.fNodes.length pc0, .slice pa1 x.fNet.length pc1, .slice pa2 x.fLeads.length pc2] = wf at *
  have d0 := bf.cell 0 (v := .slice pa0 x.fNodes.length pc0) rfl
  have d1 := bf.cell 1 (v := .slice pa1 x.fNet.length pc1) rfl
  have d2 := bf.cell 2 (v := .slice pa2 x.fLeads.length pc2) rfl
  exact bodyPost_ret (v := .agg #[.slice pa0 x.fNodes.length pc0, .slice pa1 x.fNet.length pc1, .slice pa2 x.fLeads.length pc2]) (by simp [results, Try.results35, go_sem, d0, d1, d2]) rfl ⟨_, _, rfl, kCluster_make q0 q1 q2, (fun b hb => by simp only [List.mem_append] at hb; rcases hb with hb | hb | hb <;> (first | (have := HF0.out b hb; have := HB0.out.size; have := HB1.out.size; have := HB2.out.size; omega) | (have := HF1.out b hb; have := HB0.out.size; have := HB1.out.size; have := HB2.out.size; omega) | (have := HF2.out b hb; have := HB0.out.size; have := HB1.out.size; have := HB2.out.size; omega))), (List.nodup_append.2 ⟨hn0.out, (List.nodup_append.2 ⟨hn1.out, hn2.out, fun a ha b hb hab => by have h1 := LT1.out a ha; have := SZ1.out; have := SZ2.out; (try simp only [List.mem_append] at hb); (first | (have h2 := HF2.out b hb; omega))⟩), fun a ha b hb hab => by have h1 := LT0.out a ha; have := SZ1.out; have := SZ2.out; (try simp only [List.mem_append] at hb); rcases hb with hb | hb <;> (first | (have h2 := HF1.out b hb; omega) | (have h2 := HF2.out b hb; omega))⟩), HBm.out.trans (hk.toBelow HBm.out.size (by simp))⟩

end Go.Proofs.Ythnjcolbdoaabaa
