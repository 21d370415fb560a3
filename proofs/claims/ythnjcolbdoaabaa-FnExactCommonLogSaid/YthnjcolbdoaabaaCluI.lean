/- impl.GoodCluster, walked. -/
import Derived.Test.YthnjcolbdoaabaaCluP
namespace Go.Proofs.Ythnjcolbdoaabaa
open Go Go.RowKit Go.Sort
set_option linter.unusedVariables false
set_option linter.unusedSimpArgs false

set_option maxHeartbeats 4000000 in
set_option maxRecDepth 100000 in
theorem iGoodCluster_calls (x : DCluster) (v0 v1 v2 : Value) (w : World) (g0 : kRaftNode.S w x.fNodes v0) (g1 : kRaftMsg.S w x.fNet v1) (g2 : kLead.S w x.fLeads v2) (hl : smCluster 1048576 x) : Calls Try.prog 46 #[.agg #[v0, v1, v2]] w
    fun e w' => e = .returned (.bool (cluOk x)) ∧ Below w.heap.size w w' := by
  have G0 := Lib.hid g0; have G1 := Lib.hid g1; have G2 := Lib.hid g2
  obtain ⟨A0, c0, rfl, _, h0⟩ := g0
  obtain ⟨A1, c1, rfl, _, h1⟩ := g1
  obtain ⟨A2, c2, rfl, _, h2⟩ := g2
  clear h1 h2
  have H := Lib.hid h0; clear h0
  obtain ⟨⟨l0, s0⟩, ⟨l1, s1⟩, l2⟩ := hl
  have S0 := Lib.hid s0; have S1 := Lib.hid s1
  clear s0 s1
  have BB0 : Box ((w.alloc (.cells #[.slice A0 x.fNodes.length c0, .slice A1 x.fNet.length c1, .slice A2 x.fLeads.length c2] 68)).alloc (.cells #[.int .i64 x.fNodes.length] 3)) w.heap.size #[.slice A0 x.fNodes.length c0, .slice A1 x.fNet.length c1, .slice A2 x.fLeads.length c2] 68 := Box.alloc (Box.new rfl)
  have BB1 : Box ((w.alloc (.cells #[.slice A0 x.fNodes.length c0, .slice A1 x.fNet.length c1, .slice A2 x.fLeads.length c2] 68)).alloc (.cells #[.int .i64 x.fNodes.length] 3)) (w.heap.size + 1) #[.int .i64 x.fNodes.length] 3 := Box.new (by simp)
  have HBB := ((Below.refl w.heap.size w).alloc (Nat.le_refl _) (.cells #[.slice A0 x.fNodes.length c0, .slice A1 x.fNet.length c1, .slice A2 x.fLeads.length c2] 68)).alloc (by simp) (.cells #[.int .i64 x.fNodes.length] 3)
  go_enter Try.func46, Try.ntmps46
  go_upto_region 2 with fail
  generalize (w.alloc (.cells #[.slice A0 x.fNodes.length c0, .slice A1 x.fNet.length c1, .slice A2 x.fLeads.length c2] 68)).alloc (.cells #[.int .i64 x.fNodes.length] 3) = w1 at *
  have B0 := Lib.hid BB0; have B1 := Lib.hid BB1; have HB := Lib.hid HBB
  have e0 := BB0.cell 0 (v := .slice A0 x.fNodes.length c0) rfl
  have e1 := BB0.cell 1 (v := .slice A1 x.fNet.length c1) rfl
  have e2 := BB0.cell 2 (v := .slice A2 x.fLeads.length c2) rfl
  have d0 := BB1.cell 0 (v := .int .i64 x.fNodes.length) rfl
  clear BB0 BB1 HBB
  cases p1 : inR x.fNodes.length 1 7
  · go_wp2_with (with_reducible refine (iPeers_calls x.fNodes.length _).mono ?_; rintro e wq ⟨rfl, rfl⟩; rw [p1])
    go_ret
    exact ⟨by simp [cluOk, cntC, p1], HB.out⟩
  by_cases p2 : (60 : Int) < x.fNet.length
  · go_wp2_with (with_reducible refine (iPeers_calls x.fNodes.length _).mono ?_; rintro e wq ⟨rfl, rfl⟩; rw [p1])
    go_ret
    exact ⟨by simp [cluOk, cntC, Int.not_le.2 p2], HB.out⟩
  by_cases p3 : (1000 : Int) < x.fLeads.length
  · go_wp2_with (with_reducible refine (iPeers_calls x.fNodes.length _).mono ?_; rintro e wq ⟨rfl, rfl⟩; rw [p1])
    go_ret
    exact ⟨by simp [cluOk, cntC, Int.not_le.2 p3], HB.out⟩
  have CNT := Lib.hid (show cntC x = true by simp [cntC, p1, Int.not_lt.1 p2, Int.not_lt.1 p3])
  go_wp2_with (with_reducible refine (iPeers_calls x.fNodes.length _).mono ?_; rintro e wq ⟨rfl, rfl⟩; rw [p1])
  have HW1 := Lib.hid (show IntKind.i64.wrap ((x.fNodes.length : Int) - 1) = (x.fNodes.length : Int) - 1 by rw [IntKind.wrap_i64]; omega)
  have HW2 := Lib.hid (show (Lit.int .i64 (x.fNodes.length : Int)).wf = true by simp [Lit.wf, IntKind.min, IntKind.max, IntKind.signed, IntKind.bits]; omega)
  clear p1 p2 p3
  go_loopw [28] (fun i wr => ∃ k : Nat, k ≤ x.fNodes.length ∧ i = .int .i64 k ∧ Hid ((List.range k).all (nodeAt x.fNodes.length x.fNodes) = true) ∧ Hid (Below w.heap.size w wr) ∧ Hid (Box wr w.heap.size #[.slice A0 x.fNodes.length c0, .slice A1 x.fNet.length c1, .slice A2 x.fLeads.length c2] 68) ∧ Hid (Box wr (w.heap.size + 1) #[.int .i64 x.fNodes.length] 3)) (fun i _ => x.fNodes.length - (intOf i).toNat)
  case atStart => exact ⟨0, Nat.zero_le _, rfl, rfl, HB.out, B0.out, B1.out⟩
  case round =>
    clear HB B0 B1 e0 e1 e2 d0
    obtain ⟨k, hk, rfl, HE, HB, B0, B1⟩ := hrel
    have e0 := B0.out.cell 0 (v := .slice A0 x.fNodes.length c0) rfl
    have e1 := B0.out.cell 1 (v := .slice A1 x.fNet.length c1) rfl
    have e2 := B0.out.cell 2 (v := .slice A2 x.fLeads.length c2) rfl
    have d0 := B1.out.cell 0 (v := .int .i64 x.fNodes.length) rfl
    have u0 := B0.out.lt; have u1 := B1.out.lt
    by_cases hlt : k < x.fNodes.length
    · obtain ⟨b, o, cs, rfl, k1, q1⟩ := Rp.C_get H.out k hlt
      obtain ⟨v4, v7, v8, rfl, g4, g7, g8⟩ := kRaftNode_read k1
      have G4 := Lib.hid g4; have G7 := Lib.hid g7; have G8 := Lib.hid g8
      obtain ⟨A4, c4, rfl, _, _⟩ := g4; obtain ⟨A7, c7, rfl, _, _⟩ := g7; obtain ⟨A8, c8, rfl, _, _⟩ := g8
      have SY := Lib.hid (S0.out _ (List.getElem_mem hlt))
      have hat := nodeAt_at (pe := x.fNodes.length) hlt
      have hsu := range_succ_all (f := nodeAt x.fNodes.length x.fNodes) (k := k)
      have hno := range_all_no (f := nodeAt x.fNodes.length x.fNodes) hlt
      rw [HE.out, Bool.true_and] at hsu
      generalize he : x.fNodes[k] = y at *
      have HG := Lib.hid he; have HAT := Lib.hid hat; have HSU := Lib.hid hsu; have HNO := Lib.hid hno
      clear he hat hsu hno HE k1
      have a0 := (World.cell?_of_block (HB.out.block b (World.block_lt_of_cell? w _ (q1 0 _ rfl)))).trans (q1 0 _ rfl)
      simp only [kRaftNode_sz, Nat.add_zero] at a0
      have a1 := (World.cell?_of_block (HB.out.block b (World.block_lt_of_cell? w _ (q1 0 _ rfl)))).trans (q1 1 _ rfl)
      simp only [kRaftNode_sz, Nat.add_zero] at a1
      have a2 := (World.cell?_of_block (HB.out.block b (World.block_lt_of_cell? w _ (q1 0 _ rfl)))).trans (q1 2 _ rfl)
      simp only [kRaftNode_sz, Nat.add_zero] at a2
      have a3 := (World.cell?_of_block (HB.out.block b (World.block_lt_of_cell? w _ (q1 0 _ rfl)))).trans (q1 3 _ rfl)
      simp only [kRaftNode_sz, Nat.add_zero] at a3
      have a4 := (World.cell?_of_block (HB.out.block b (World.block_lt_of_cell? w _ (q1 0 _ rfl)))).trans (q1 4 _ rfl)
      simp only [kRaftNode_sz, Nat.add_zero] at a4
      have a5 := (World.cell?_of_block (HB.out.block b (World.block_lt_of_cell? w _ (q1 0 _ rfl)))).trans (q1 5 _ rfl)
      simp only [kRaftNode_sz, Nat.add_zero] at a5
      have a6 := (World.cell?_of_block (HB.out.block b (World.block_lt_of_cell? w _ (q1 0 _ rfl)))).trans (q1 6 _ rfl)
      simp only [kRaftNode_sz, Nat.add_zero] at a6
      have a7 := (World.cell?_of_block (HB.out.block b (World.block_lt_of_cell? w _ (q1 0 _ rfl)))).trans (q1 7 _ rfl)
      simp only [kRaftNode_sz, Nat.add_zero] at a7
      have a8 := (World.cell?_of_block (HB.out.block b (World.block_lt_of_cell? w _ (q1 0 _ rfl)))).trans (q1 8 _ rfl)
      simp only [kRaftNode_sz, Nat.add_zero] at a8
      clear q1
      have i1 : (0 : Int) ≤ (k : Int) := by omega
      have i2 : (k : Int) < (x.fNodes.length : Int) := by omega
      have HBX := Lib.hid (HB.out.alloc HB.out.size (.cells #[.int .i64 y.fId, .int .i64 y.fPeers, .int .i64 y.fTerm, .int .i64 y.fVote, .slice A4 y.fLog.length c4, .int .i64 y.fCommit, .int .i64 y.fRole, .slice A7 y.fVotes.length c7, .slice A8 y.fMatch.length c8] 29))
      have B0X := Lib.hid (Box.alloc (o := .cells #[.int .i64 y.fId, .int .i64 y.fPeers, .int .i64 y.fTerm, .int .i64 y.fVote, .slice A4 y.fLog.length c4, .int .i64 y.fCommit, .int .i64 y.fRole, .slice A7 y.fVotes.length c7, .slice A8 y.fMatch.length c8] 29) B0.out)
      have B1X := Lib.hid (Box.alloc (o := .cells #[.int .i64 y.fId, .int .i64 y.fPeers, .int .i64 y.fTerm, .int .i64 y.fVote, .slice A4 y.fLog.length c4, .int .i64 y.fCommit, .int .i64 y.fRole, .slice A7 y.fVotes.length c7, .slice A8 y.fMatch.length c8] 29) B1.out)
      by_cases p1 : y.fId = (k : Int)
      case neg =>
        go_wp2
        go_ret
        exact ⟨by simp [cluOk, HNO.out (by rw [HAT.out]; simp [p1])], HBX.out⟩
      have q1 : (y.fId != (k : Int)) = false := by simp [p1]
      have P1 := Lib.hid p1; clear p1
      by_cases p2 : y.fPeers = (x.fNodes.length : Int)
      case neg =>
        go_wp2
        go_ret
        exact ⟨by simp [cluOk, HNO.out (by rw [HAT.out]; simp [p2])], HBX.out⟩
      have q2 : (y.fPeers != (x.fNodes.length : Int)) = false := by simp [p2]
      have P2 := Lib.hid p2; clear p2
      cases p3 : nodeOk y
      all_goals
        go_wp2_with (with_reducible refine (iGoodNode_calls y _ _ _ _ (Rp.S_below G4.out HBX.out) (Rp.S_below G7.out HBX.out) (Rp.S_below G8.out HBX.out) SY.out).mono ?_; rintro e wq ⟨rfl, hb⟩; rw [p3]; have HB1 := Lib.hid (HBX.out.trans (hb.mono HBX.out.size)); have B01 := Lib.hid (B0X.out.below hb); have B11 := Lib.hid (B1X.out.below hb); clear hb)
      · go_ret
        exact ⟨by simp [cluOk, HNO.out (by rw [HAT.out]; simp [p3])], HB1.out⟩
      · exact ⟨⟨k + 1, by omega, by go_num, by rw [Hid, HSU.out, HAT.out]; simp [P1.out, P2.out, p3], HB1.out, B01.out, B11.out⟩, by simp [intOf]; omega⟩
    · obtain rfl : k = x.fNodes.length := by omega
      cases p1 : x.fLeads.any (leadB x.fNodes.length)
      all_goals
        go_wp2_with fail
        (with_reducible refine (conLead_calls _ x.fLeads _ (w.heap.size + 1) _ (Rp.S_below G2.out HB.out) (by omega) d0 HW1.out).mono ?_)
        rintro e wq ⟨rfl, hb⟩
        rw [p1]
        have HB1 := Lib.hid (HB.out.trans (hb.mono HB.out.size))
        have B01 := Lib.hid (B0.out.below hb); have B11 := Lib.hid (B1.out.below hb)
        clear hb e0 e1 e2 d0 u0 u1
        have e1 := B01.out.cell 1 (v := .slice A1 x.fNet.length c1) rfl
        have d0 := B11.out.cell 0 (v := .int .i64 x.fNodes.length) rfl
        have u1 := B11.out.lt
      · cases p2 : x.fNet.any (badM x.fNodes.length)
        all_goals
          go_wp2_with fail
          (with_reducible refine (conMsg_calls _ x.fNet _ (w.heap.size + 1) _ (Rp.S_below G1.out HB1.out) (by omega) d0 HW2.out S1.out).mono ?_)
          rintro e wq ⟨rfl, hb⟩
          rw [p2]
          have HB2 := Lib.hid (HB1.out.trans (hb.mono HB1.out.size))
          clear hb
          go_wp2
          go_ret
          exact ⟨by simp [cluOk, CNT.out, HE.out, p1, p2], HB2.out⟩
      · go_wp2
        go_ret
        exact ⟨by simp [cluOk, p1], HB1.out⟩
end Go.Proofs.Ythnjcolbdoaabaa
