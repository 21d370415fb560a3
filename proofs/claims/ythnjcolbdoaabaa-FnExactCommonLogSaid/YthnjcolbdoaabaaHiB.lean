/- HighestTerm, walked. -/
import Derived.Test.YthnjcolbdoaabaaHiA
import Derived.Test.YthnjcolbdoaabaaGnE
namespace Go.Proofs.Ythnjcolbdoaabaa
open Go Go.RowKit Go.Sort
set_option linter.unusedVariables false
set_option linter.unusedSimpArgs false

def hiT (x : DCluster) : Int := if cluOk x then topT x.fNodes else 0
theorem hi_facts {x : DCluster} (h : cluOk x = true) : 1 ≤ x.fNodes.length ∧ ∀ y ∈ x.fNodes, 0 ≤ y.fTerm := by
  simp only [cluOk, cntC, Bool.and_eq_true] at h
  obtain ⟨⟨⟨⟨⟨hn, _⟩, _⟩, ha⟩, _⟩, _⟩ := h
  have hn2 : (1 : Int) ≤ x.fNodes.length := by
    simp only [inR, Bool.and_eq_true, decide_eq_true_eq] at hn
    exact hn.1
  refine ⟨by omega, fun y hy => ?_⟩
  obtain ⟨k, hk, rfl⟩ := List.mem_iff_getElem.1 hy
  have := List.all_eq_true.1 ha k (List.mem_range.2 hk)
  rw [nodeAt_at hk, Bool.and_eq_true] at this
  obtain ⟨_, _, _, _, h0, _⟩ := nodeOk_facts this.2
  exact h0
set_option maxHeartbeats 4000000 in
set_option maxRecDepth 100000 in
theorem iHighestTerm_calls (x : DCluster) (v0 v1 v2 : Value) (w : World) (g0 : kRaftNode.S w x.fNodes v0) (g1 : kRaftMsg.S w x.fNet v1) (g2 : kLead.S w x.fLeads v2) (hl : smCluster 1048576 x) : Calls Try.prog 48 #[.agg #[v0, v1, v2]] w
    fun e w' => e = .returned (.tuple #[.int .i64 (hiT x), .bool (cluOk x)]) ∧ Below w.heap.size w w' := by
  have G0 := Lib.hid g0; have G1 := Lib.hid g1; have G2 := Lib.hid g2
  obtain ⟨A0, c0, rfl, _, h0⟩ := g0
  obtain ⟨A1, c1, rfl, _, _⟩ := g1
  obtain ⟨A2, c2, rfl, _, _⟩ := g2
  have H := Lib.hid h0; clear h0
  have SM := Lib.hid hl
  obtain ⟨⟨l0, _⟩, ⟨_, _⟩, _⟩ := hl
  have BB0 : Box (w.alloc (.cells #[.slice A0 x.fNodes.length c0, .slice A1 x.fNet.length c1, .slice A2 x.fLeads.length c2] 68)) w.heap.size #[.slice A0 x.fNodes.length c0, .slice A1 x.fNet.length c1, .slice A2 x.fLeads.length c2] 68 := Box.new rfl
  have HBB := (Below.refl w.heap.size w).alloc (Nat.le_refl _) (.cells #[.slice A0 x.fNodes.length c0, .slice A1 x.fNet.length c1, .slice A2 x.fLeads.length c2] 68)
  go_enter Try.func48, Try.ntmps48
  go_upto_region 1 with fail
  generalize w.alloc (.cells #[.slice A0 x.fNodes.length c0, .slice A1 x.fNet.length c1, .slice A2 x.fLeads.length c2] 68) = w1 at *
  have B0 := Lib.hid BB0; have HB := Lib.hid HBB
  have e0 := BB0.cell 0 (v := .slice A0 x.fNodes.length c0) rfl
  have e1 := BB0.cell 1 (v := .slice A1 x.fNet.length c1) rfl
  have e2 := BB0.cell 2 (v := .slice A2 x.fLeads.length c2) rfl
  clear BB0 HBB
  cases p1 : cluOk x
  · go_wp2_with (with_reducible refine (iGoodCluster_calls x _ _ _ _ (Rp.S_below G0.out HB.out) (Rp.S_below G1.out HB.out) (Rp.S_below G2.out HB.out) SM.out).mono ?_; rintro e wq ⟨rfl, hb⟩; rw [p1]; have HB1 := Lib.hid (HB.out.trans (hb.mono HB.out.size)); clear hb)
    exact bodyPost_ret (v := .tuple #[.int .i64 0, .bool false]) (by simp [results, Try.results48, go_sem]) rfl ⟨by simp [hiT, p1], HB1.out⟩
  have hf := hi_facts p1
  have HF := Lib.hid hf.2; have hn := hf.1; clear hf
  go_wp2_with (with_reducible refine (iGoodCluster_calls x _ _ _ _ (Rp.S_below G0.out HB.out) (Rp.S_below G1.out HB.out) (Rp.S_below G2.out HB.out) SM.out).mono ?_; rintro e wq ⟨rfl, hb⟩; rw [p1]; have HB1 := Lib.hid (HB.out.trans (hb.mono HB.out.size)); have B1 := Lib.hid (B0.out.below hb); have f0 := B1.out.cell 0 (v := .slice A0 x.fNodes.length c0) rfl; clear hb )
  have HN := Lib.hid (HF.out _ (List.getElem_mem (show 0 < x.fNodes.length by omega)))
  (with_reducible refine (maxN_calls x.fNodes _ _ (Rp.S_below G0.out HB1.out) (by omega) hn (by have h := HN.out; omega)).mono ?_)
  rintro e wr ⟨z, B4, B7, B8, e4, e7, e8, rfl, hz, hb⟩
  have HZ := Lib.hid hz; have HB2 := Lib.hid (HB1.out.trans (hb.mono HB1.out.size))
  clear hb hz
  have hfield : ∀ W : World, Sem.run Try.prog (Instr.field 29 (.agg #[.int .i64 z.fId, .int .i64 z.fPeers, .int .i64 z.fTerm, .int .i64 z.fVote, .slice B4 z.fLog.length e4, .int .i64 z.fCommit, .int .i64 z.fRole, .slice B7 z.fVotes.length e7, .slice B8 z.fMatch.length e8]) 2) W = .ok (.int .i64 z.fTerm) W := fun W => by rfl
  go_wp2
  exact bodyPost_ret (v := .tuple #[.int .i64 z.fTerm, .bool true]) (by simp [results, Try.results48, go_sem]) rfl ⟨by rw [hiT, if_pos p1, HZ.out, p1], HB2.out⟩
set_option maxHeartbeats 4000000 in
set_option maxRecDepth 100000 in
theorem sHighestTerm_calls (x : DCluster) (v0 v1 v2 : Value) (w : World) (g0 : kRaftNode.S w x.fNodes v0) (g1 : kRaftMsg.S w x.fNet v1) (g2 : kLead.S w x.fLeads v2) (hl : smCluster 1048576 x) : Calls Try.prog 47 #[.agg #[v0, v1, v2]] w
    fun e w' => e = .returned (.tuple #[.int .i64 (hiT x), .bool (cluOk x)]) ∧ Below w.heap.size w w' := by
  have G0 := Lib.hid g0; have G1 := Lib.hid g1; have G2 := Lib.hid g2
  obtain ⟨A0, c0, rfl, _, h0⟩ := g0
  obtain ⟨A1, c1, rfl, _, _⟩ := g1
  obtain ⟨A2, c2, rfl, _, _⟩ := g2
  have H := Lib.hid h0; clear h0
  have SM := Lib.hid hl
  obtain ⟨⟨l0, _⟩, ⟨_, _⟩, _⟩ := hl
  have BB0 : Box (w.alloc (.cells #[.slice A0 x.fNodes.length c0, .slice A1 x.fNet.length c1, .slice A2 x.fLeads.length c2] 68)) w.heap.size #[.slice A0 x.fNodes.length c0, .slice A1 x.fNet.length c1, .slice A2 x.fLeads.length c2] 68 := Box.new rfl
  have HBB := (Below.refl w.heap.size w).alloc (Nat.le_refl _) (.cells #[.slice A0 x.fNodes.length c0, .slice A1 x.fNet.length c1, .slice A2 x.fLeads.length c2] 68)
  go_enter Try.func47, Try.ntmps47
  go_upto_region 1 with fail
  generalize w.alloc (.cells #[.slice A0 x.fNodes.length c0, .slice A1 x.fNet.length c1, .slice A2 x.fLeads.length c2] 68) = w1 at *
  have B0 := Lib.hid BB0; have HB := Lib.hid HBB
  have e0 := BB0.cell 0 (v := .slice A0 x.fNodes.length c0) rfl
  have e1 := BB0.cell 1 (v := .slice A1 x.fNet.length c1) rfl
  have e2 := BB0.cell 2 (v := .slice A2 x.fLeads.length c2) rfl
  clear BB0 HBB
  cases p1 : cluOk x
  · go_wp2_with (with_reducible refine (sGoodCluster_calls x _ _ _ _ (Rp.S_below G0.out HB.out) (Rp.S_below G1.out HB.out) (Rp.S_below G2.out HB.out) SM.out).mono ?_; rintro e wq ⟨rfl, hb⟩; rw [p1]; have HB1 := Lib.hid (HB.out.trans (hb.mono HB.out.size)); clear hb)
    exact bodyPost_ret (v := .tuple #[.int .i64 0, .bool false]) (by simp [results, Try.results47, go_sem]) rfl ⟨by simp [hiT, p1], HB1.out⟩
  have hf := hi_facts p1
  have HF := Lib.hid hf.2; have hn := hf.1; clear hf
  go_wp2_with (with_reducible refine (sGoodCluster_calls x _ _ _ _ (Rp.S_below G0.out HB.out) (Rp.S_below G1.out HB.out) (Rp.S_below G2.out HB.out) SM.out).mono ?_; rintro e wq ⟨rfl, hb⟩; rw [p1]; have HB1 := Lib.hid (HB.out.trans (hb.mono HB.out.size)); have B1 := Lib.hid (B0.out.below hb); have f0 := B1.out.cell 0 (v := .slice A0 x.fNodes.length c0) rfl; clear hb )
  go_loopw [4, 13] (fun t i wr => ∃ k : Nat, k ≤ x.fNodes.length ∧ i = .int .i64 k ∧ t = .int .i64 (topT (x.fNodes.take k)) ∧ Hid (Below w.heap.size w wr)) (fun _ i _ => x.fNodes.length - (intOf i).toNat)
  case atStart => exact ⟨0, Nat.zero_le _, rfl, rfl, HB1.out⟩
  case round =>
    clear HB1 B1 f0 HB B0 e0 e1 e2
    obtain ⟨k, hk, rfl, rfl, HB⟩ := hrel
    by_cases hlt : k < x.fNodes.length
    · obtain ⟨b, o, cs, rfl, k1, q1⟩ := Rp.C_get H.out k hlt
      obtain ⟨v4, v7, v8, rfl, g4, g7, g8⟩ := kRaftNode_read k1
      obtain ⟨A4, c4, rfl, _, _⟩ := g4; obtain ⟨A7, c7, rfl, _, _⟩ := g7; obtain ⟨A8, c8, rfl, _, _⟩ := g8
      have hta := topT_take hlt
      generalize he : x.fNodes[k] = y at *
      generalize ht : topT (x.fNodes.take k) = t at *
      clear he k1 ht
      have HTA := Lib.hid hta; clear hta
      have Q := Lib.hid q1; clear q1
      have a0 := (World.cell?_of_block (HB.out.block b (World.block_lt_of_cell? w _ (Q.out 0 _ rfl)))).trans (Q.out 0 _ rfl)
      simp only [kRaftNode_sz, Nat.add_zero, Nat.zero_mul] at a0
      have a1 := (World.cell?_of_block (HB.out.block b (World.block_lt_of_cell? w _ (Q.out 0 _ rfl)))).trans (Q.out 1 _ rfl)
      simp only [kRaftNode_sz, Nat.add_zero, Nat.zero_mul] at a1
      have a2 := (World.cell?_of_block (HB.out.block b (World.block_lt_of_cell? w _ (Q.out 0 _ rfl)))).trans (Q.out 2 _ rfl)
      simp only [kRaftNode_sz, Nat.add_zero, Nat.zero_mul] at a2
      have a3 := (World.cell?_of_block (HB.out.block b (World.block_lt_of_cell? w _ (Q.out 0 _ rfl)))).trans (Q.out 3 _ rfl)
      simp only [kRaftNode_sz, Nat.add_zero, Nat.zero_mul] at a3
      have a4 := (World.cell?_of_block (HB.out.block b (World.block_lt_of_cell? w _ (Q.out 0 _ rfl)))).trans (Q.out 4 _ rfl)
      simp only [kRaftNode_sz, Nat.add_zero, Nat.zero_mul] at a4
      have a5 := (World.cell?_of_block (HB.out.block b (World.block_lt_of_cell? w _ (Q.out 0 _ rfl)))).trans (Q.out 5 _ rfl)
      simp only [kRaftNode_sz, Nat.add_zero, Nat.zero_mul] at a5
      have a6 := (World.cell?_of_block (HB.out.block b (World.block_lt_of_cell? w _ (Q.out 0 _ rfl)))).trans (Q.out 6 _ rfl)
      simp only [kRaftNode_sz, Nat.add_zero, Nat.zero_mul] at a6
      have a7 := (World.cell?_of_block (HB.out.block b (World.block_lt_of_cell? w _ (Q.out 0 _ rfl)))).trans (Q.out 7 _ rfl)
      simp only [kRaftNode_sz, Nat.add_zero, Nat.zero_mul] at a7
      have a8 := (World.cell?_of_block (HB.out.block b (World.block_lt_of_cell? w _ (Q.out 0 _ rfl)))).trans (Q.out 8 _ rfl)
      simp only [kRaftNode_sz, Nat.add_zero, Nat.zero_mul] at a8
      have i1 : (0 : Int) ≤ (k : Int) := by omega
      have i2 : (k : Int) < (x.fNodes.length : Int) := by omega
      have HBX := Lib.hid (HB.out.alloc HB.out.size (.cells #[.int .i64 y.fId, .int .i64 y.fPeers, .int .i64 y.fTerm, .int .i64 y.fVote, .slice A4 y.fLog.length c4, .int .i64 y.fCommit, .int .i64 y.fRole, .slice A7 y.fVotes.length c7, .slice A8 y.fMatch.length c8] 29))
      by_cases hgt : t < y.fTerm
      · have HG := Lib.hid hgt
        go_wp2
        exact ⟨⟨k + 1, by omega, by go_num, by rw [HTA.out, if_pos HG.out], HBX.out⟩, by simp [intOf]; omega⟩
      · have HG := Lib.hid (Int.not_lt.1 hgt)
        go_wp2
        exact ⟨⟨k + 1, by omega, by go_num, by rw [HTA.out, if_neg (Int.not_lt.2 HG.out)], HBX.out⟩, by simp [intOf]; omega⟩
    · obtain rfl : k = x.fNodes.length := by omega
      go_wp2
      exact bodyPost_ret (v := .tuple #[.int .i64 (topT (x.fNodes.take x.fNodes.length)), .bool true]) (by simp [results, Try.results47, go_sem]) rfl ⟨by rw [hiT, if_pos p1, List.take_length, p1], HB.out⟩
theorem iHighestTerm_k {x : DCluster} {c0 : List Value} {w : World} (k0 : kCluster.K w x c0) (h0 : wfCluster x) (s0 : smCluster 1048576 x) : Calls Try.prog 48 #[.agg c0.toArray] w
    fun e w' => e = .returned (.tuple #[.int .i64 (hiT x), .bool (cluOk x)]) ∧ Below w.heap.size w w' := by
  obtain ⟨v0, v1, v2, rfl, g0, g1, g2⟩ := kCluster_read k0
  exact iHighestTerm_calls x v0 v1 v2 w g0 g1 g2 s0
theorem sHighestTerm_k {x : DCluster} {c0 : List Value} {w : World} (k0 : kCluster.K w x c0) (h0 : wfCluster x) (s0 : smCluster 1048576 x) : Calls Try.prog 47 #[.agg c0.toArray] w
    fun e w' => e = .returned (.tuple #[.int .i64 (hiT x), .bool (cluOk x)]) ∧ Below w.heap.size w w' := by
  obtain ⟨v0, v1, v2, rfl, g0, g1, g2⟩ := kCluster_read k0
  exact sHighestTerm_calls x v0 v1 v2 w g0 g1 g2 s0
end Go.Proofs.Ythnjcolbdoaabaa
