/- spec.GoodCluster, walked. -/
import Derived.Test.YthnjcolbdoaabaaCluP
namespace Go.Proofs.Ythnjcolbdoaabaa
open Go Go.RowKit Go.Sort
set_option linter.unusedVariables false
set_option linter.unusedSimpArgs false

set_option maxHeartbeats 4000000 in
set_option maxRecDepth 100000 in
theorem sGoodCluster_calls (x : DCluster) (v0 v1 v2 : Value) (w : World) (g0 : kRaftNode.S w x.fNodes v0) (g1 : kRaftMsg.S w x.fNet v1) (g2 : kLead.S w x.fLeads v2) (hl : smCluster 1048576 x) : Calls Try.prog 45 #[.agg #[v0, v1, v2]] w
    fun e w' => e = .returned (.bool (cluOk x)) ∧ Below w.heap.size w w' := by
  obtain ⟨A0, c0, rfl, _, h0⟩ := g0
  obtain ⟨A1, c1, rfl, _, h1⟩ := g1
  obtain ⟨A2, c2, rfl, _, h2⟩ := g2
  have H := Lib.hid h0; have H1 := Lib.hid h1; have H2 := Lib.hid h2
  clear h0 h1 h2
  obtain ⟨⟨l0, s0⟩, ⟨l1, s1⟩, l2⟩ := hl
  have S0 := Lib.hid s0; have S1 := Lib.hid s1
  clear s0 s1
  have BB0 : Box (w.alloc (.cells #[.slice A0 x.fNodes.length c0, .slice A1 x.fNet.length c1, .slice A2 x.fLeads.length c2] 68)) w.heap.size #[.slice A0 x.fNodes.length c0, .slice A1 x.fNet.length c1, .slice A2 x.fLeads.length c2] 68 := Box.new rfl
  have HBB := (Below.refl w.heap.size w).alloc (Nat.le_refl _) (.cells #[.slice A0 x.fNodes.length c0, .slice A1 x.fNet.length c1, .slice A2 x.fLeads.length c2] 68)
  go_enter Try.func45, Try.ntmps45
  go_upto_region 1 with fail
  generalize w.alloc (.cells #[.slice A0 x.fNodes.length c0, .slice A1 x.fNet.length c1, .slice A2 x.fLeads.length c2] 68) = w1 at *
  have B0 := Lib.hid BB0; have HB := Lib.hid HBB
  have e0 := BB0.cell 0 (v := .slice A0 x.fNodes.length c0) rfl
  have e1 := BB0.cell 1 (v := .slice A1 x.fNet.length c1) rfl
  have e2 := BB0.cell 2 (v := .slice A2 x.fLeads.length c2) rfl
  clear BB0 HBB
  cases p1 : inR x.fNodes.length 1 7
  · go_wp2_with (with_reducible refine (sPeers_calls x.fNodes.length _).mono ?_; rintro e wq ⟨rfl, rfl⟩; rw [p1])
    go_ret
    exact ⟨by simp [cluOk, cntC, p1], HB.out⟩
  by_cases p2 : (60 : Int) < x.fNet.length
  · go_wp2_with (with_reducible refine (sPeers_calls x.fNodes.length _).mono ?_; rintro e wq ⟨rfl, rfl⟩; rw [p1])
    go_ret
    exact ⟨by simp [cluOk, cntC, Int.not_le.2 p2], HB.out⟩
  by_cases p3 : (1000 : Int) < x.fLeads.length
  · go_wp2_with (with_reducible refine (sPeers_calls x.fNodes.length _).mono ?_; rintro e wq ⟨rfl, rfl⟩; rw [p1])
    go_ret
    exact ⟨by simp [cluOk, cntC, Int.not_le.2 p3], HB.out⟩
  have CNT := Lib.hid (show cntC x = true by simp [cntC, p1, Int.not_lt.1 p2, Int.not_lt.1 p3])
  go_wp2_with (with_reducible refine (sPeers_calls x.fNodes.length _).mono ?_; rintro e wq ⟨rfl, rfl⟩; rw [p1])
  have HW1 : IntKind.i64.wrap ((x.fNodes.length : Int) - 1) = (x.fNodes.length : Int) - 1 := by rw [IntKind.wrap_i64]; omega
  clear p1 p2 p3
  go_loopw [29] (fun i wr => ∃ k : Nat, k ≤ x.fNodes.length ∧ i = .int .i64 k ∧ Hid ((List.range k).all (nodeAt x.fNodes.length x.fNodes) = true) ∧ Hid (Below w.heap.size w wr) ∧ Hid (Box wr w.heap.size #[.slice A0 x.fNodes.length c0, .slice A1 x.fNet.length c1, .slice A2 x.fLeads.length c2] 68)) (fun i _ => x.fNodes.length - (intOf i).toNat)
  case atStart => exact ⟨0, Nat.zero_le _, rfl, rfl, HB.out, B0.out⟩
  case round =>
    clear HB B0 e0 e1 e2
    obtain ⟨k, hk, rfl, HE, HB, B0⟩ := hrel
    have e0 := B0.out.cell 0 (v := .slice A0 x.fNodes.length c0) rfl
    have e1 := B0.out.cell 1 (v := .slice A1 x.fNet.length c1) rfl
    have e2 := B0.out.cell 2 (v := .slice A2 x.fLeads.length c2) rfl
    have u0 := B0.out.lt
    by_cases hlt : k < x.fNodes.length
    · clear e1 e2
      obtain ⟨b, o, cs, rfl, k1, q1⟩ := Rp.C_get H.out k hlt
      obtain ⟨v4, v7, v8, rfl, g4, g7, g8⟩ := kRaftNode_read k1
      have G4 := Lib.hid g4; have G7 := Lib.hid g7; have G8 := Lib.hid g8
      obtain ⟨A4, c4, rfl, _, _⟩ := g4; obtain ⟨A7, c7, rfl, _, _⟩ := g7; obtain ⟨A8, c8, rfl, _, _⟩ := g8
      have SY := Lib.hid (S0.out _ (List.getElem_mem hlt))
      have hat := nodeAt_at (pe := x.fNodes.length) hlt
      have hsu := range_succ_all (f := nodeAt x.fNodes.length x.fNodes) (k := k)
      have hno := range_all_no (f := nodeAt x.fNodes.length x.fNodes) hlt
      rw [HE.out, Bool.true_and] at hsu
      generalize he : x.fNodes[k] = y at *
      have HG := Lib.hid he; have HAT := Lib.hid hat; have HSU := Lib.hid hsu; have HNO := Lib.hid hno
      clear he hat hsu hno HE k1
      have a0 := (World.cell?_of_block (HB.out.block b (World.block_lt_of_cell? w _ (q1 0 _ rfl)))).trans (q1 0 _ rfl)
      simp only [kRaftNode_sz, Nat.add_zero] at a0
      have a1 := (World.cell?_of_block (HB.out.block b (World.block_lt_of_cell? w _ (q1 0 _ rfl)))).trans (q1 1 _ rfl)
      simp only [kRaftNode_sz, Nat.add_zero] at a1
      have a2 := (World.cell?_of_block (HB.out.block b (World.block_lt_of_cell? w _ (q1 0 _ rfl)))).trans (q1 2 _ rfl)
      simp only [kRaftNode_sz, Nat.add_zero] at a2
      have a3 := (World.cell?_of_block (HB.out.block b (World.block_lt_of_cell? w _ (q1 0 _ rfl)))).trans (q1 3 _ rfl)
      simp only [kRaftNode_sz, Nat.add_zero] at a3
      have a4 := (World.cell?_of_block (HB.out.block b (World.block_lt_of_cell? w _ (q1 0 _ rfl)))).trans (q1 4 _ rfl)
      simp only [kRaftNode_sz, Nat.add_zero] at a4
      have a5 := (World.cell?_of_block (HB.out.block b (World.block_lt_of_cell? w _ (q1 0 _ rfl)))).trans (q1 5 _ rfl)
      simp only [kRaftNode_sz, Nat.add_zero] at a5
      have a6 := (World.cell?_of_block (HB.out.block b (World.block_lt_of_cell? w _ (q1 0 _ rfl)))).trans (q1 6 _ rfl)
      simp only [kRaftNode_sz, Nat.add_zero] at a6
      have a7 := (World.cell?_of_block (HB.out.block b (World.block_lt_of_cell? w _ (q1 0 _ rfl)))).trans (q1 7 _ rfl)
      simp only [kRaftNode_sz, Nat.add_zero] at a7
      have a8 := (World.cell?_of_block (HB.out.block b (World.block_lt_of_cell? w _ (q1 0 _ rfl)))).trans (q1 8 _ rfl)
      simp only [kRaftNode_sz, Nat.add_zero] at a8
      clear q1
      have i1 : (0 : Int) ≤ (k : Int) := by omega
      have i2 : (k : Int) < (x.fNodes.length : Int) := by omega
      have HBX := Lib.hid (HB.out.alloc HB.out.size (.cells #[.int .i64 y.fId, .int .i64 y.fPeers, .int .i64 y.fTerm, .int .i64 y.fVote, .slice A4 y.fLog.length c4, .int .i64 y.fCommit, .int .i64 y.fRole, .slice A7 y.fVotes.length c7, .slice A8 y.fMatch.length c8] 29))
      have B0X := Lib.hid (Box.alloc (o := .cells #[.int .i64 y.fId, .int .i64 y.fPeers, .int .i64 y.fTerm, .int .i64 y.fVote, .slice A4 y.fLog.length c4, .int .i64 y.fCommit, .int .i64 y.fRole, .slice A7 y.fVotes.length c7, .slice A8 y.fMatch.length c8] 29) B0.out)
      have BY := Lib.hid (show Box (wr.alloc (.cells #[.int .i64 y.fId, .int .i64 y.fPeers, .int .i64 y.fTerm, .int .i64 y.fVote, .slice A4 y.fLog.length c4, .int .i64 y.fCommit, .int .i64 y.fRole, .slice A7 y.fVotes.length c7, .slice A8 y.fMatch.length c8] 29)) wr.heap.size #[.int .i64 y.fId, .int .i64 y.fPeers, .int .i64 y.fTerm, .int .i64 y.fVote, .slice A4 y.fLog.length c4, .int .i64 y.fCommit, .int .i64 y.fRole, .slice A7 y.fVotes.length c7, .slice A8 y.fMatch.length c8] 29 from Box.new rfl)
      have hpath : nodeOk y = false ∨ nodeOk y = true ∧ (y.fId != (k : Int)) = true ∨ nodeOk y = true ∧ (y.fId != (k : Int)) = false ∧ (y.fPeers != (x.fNodes.length : Int)) = true ∨ nodeOk y = true ∧ (y.fId != (k : Int)) = false ∧ (y.fPeers != (x.fNodes.length : Int)) = false := by
        cases nodeOk y <;> cases (y.fId != (k : Int)) <;> cases (y.fPeers != (x.fNodes.length : Int)) <;> simp
      rcases hpath with p3 | ⟨p3, p1⟩ | ⟨p3, p1, p2⟩ | ⟨p3, p1, p2⟩
      all_goals
        go_wp2_with (with_reducible refine (sGoodNode_calls y _ _ _ _ (Rp.S_below G4.out HBX.out) (Rp.S_below G7.out HBX.out) (Rp.S_below G8.out HBX.out) SY.out).mono ?_; rintro e wq ⟨rfl, hb⟩; rw [p3]; have HB1 := Lib.hid (HBX.out.trans (hb.mono HBX.out.size)); have B01 := Lib.hid (B0X.out.below hb); have f0 := B01.out.cell 0 (v := .slice (some ⟨b, o, none⟩) x.fNodes.length c0) rfl; have BY1 := BY.out.below hb; have y0 := BY1.cell 0 (v := .int .i64 y.fId) rfl; have y1 := BY1.cell 1 (v := .int .i64 y.fPeers) rfl; clear hb BY1)
      · go_ret
        exact ⟨by simp [cluOk, HNO.out (by rw [HAT.out]; simp [p3])], HB1.out⟩
      · go_ret
        exact ⟨by simp [cluOk, HNO.out (by rw [HAT.out]; simp at p1; simp [p1])], HB1.out⟩
      · go_ret
        exact ⟨by simp [cluOk, HNO.out (by rw [HAT.out]; simp at p2; simp [p2])], HB1.out⟩
      · exact ⟨⟨k + 1, by omega, by go_num, by rw [Hid, HSU.out, HAT.out]; simp at p1 p2; simp [p1, p2, p3], HB1.out, B01.out⟩, by simp [intOf]; omega⟩
    · obtain rfl : k = x.fNodes.length := by omega
      have HN := HE; clear HE hlt hk
      go_wp2
      rename World => wo
      go_loopw [55] (fun i wr => ∃ k : Nat, k ≤ x.fNet.length ∧ i = .int .i64 k ∧ Hid ((x.fNet.take k).any (badM x.fNodes.length) = false) ∧ Hid (Below w.heap.size w wr) ∧ Hid (Box wr w.heap.size #[.slice A0 x.fNodes.length c0, .slice A1 x.fNet.length c1, .slice A2 x.fLeads.length c2] 68)) (fun i _ => x.fNet.length - (intOf i).toNat)
      case atStart => exact ⟨0, Nat.zero_le _, rfl, rfl, HB.out, B0.out⟩
      case round =>
        clear HB B0 e0 e1 e2 u0
        obtain ⟨k, hk, rfl, HE, HB, B0⟩ := hrel
        have e0 := B0.out.cell 0 (v := .slice A0 x.fNodes.length c0) rfl
        have e1 := B0.out.cell 1 (v := .slice A1 x.fNet.length c1) rfl
        have e2 := B0.out.cell 2 (v := .slice A2 x.fLeads.length c2) rfl
        have u0 := B0.out.lt
        by_cases hlt : k < x.fNet.length
        · clear e1 e2
          obtain ⟨b, o, cs, rfl, k1, q1⟩ := Rp.C_get H1.out k hlt
          obtain ⟨v6, rfl, g6⟩ := kRaftMsg_read k1
          have G6 := Lib.hid g6
          obtain ⟨A6, c6, rfl, _, _⟩ := g6
          have SY := Lib.hid (show x.fNet[k].fEntries.length ≤ 1048576 from S1.out _ (List.getElem_mem hlt))
          have hany := any_take (p := badM x.fNodes.length) hlt
          have hsome := any_at (p := badM x.fNodes.length) hlt
          rw [HE.out, Bool.false_or] at hany
          generalize he : x.fNet[k] = y at *
          have HG := Lib.hid he; have HA := Lib.hid hany; have HS := Lib.hid hsome
          clear he hany hsome HE k1
          have a0 := (World.cell?_of_block (HB.out.block b (World.block_lt_of_cell? w _ (q1 0 _ rfl)))).trans (q1 0 _ rfl)
          simp only [kRaftMsg_sz, Nat.add_zero] at a0
          have a1 := (World.cell?_of_block (HB.out.block b (World.block_lt_of_cell? w _ (q1 0 _ rfl)))).trans (q1 1 _ rfl)
          simp only [kRaftMsg_sz, Nat.add_zero] at a1
          have a2 := (World.cell?_of_block (HB.out.block b (World.block_lt_of_cell? w _ (q1 0 _ rfl)))).trans (q1 2 _ rfl)
          simp only [kRaftMsg_sz, Nat.add_zero] at a2
          have a3 := (World.cell?_of_block (HB.out.block b (World.block_lt_of_cell? w _ (q1 0 _ rfl)))).trans (q1 3 _ rfl)
          simp only [kRaftMsg_sz, Nat.add_zero] at a3
          have a4 := (World.cell?_of_block (HB.out.block b (World.block_lt_of_cell? w _ (q1 0 _ rfl)))).trans (q1 4 _ rfl)
          simp only [kRaftMsg_sz, Nat.add_zero] at a4
          have a5 := (World.cell?_of_block (HB.out.block b (World.block_lt_of_cell? w _ (q1 0 _ rfl)))).trans (q1 5 _ rfl)
          simp only [kRaftMsg_sz, Nat.add_zero] at a5
          have a6 := (World.cell?_of_block (HB.out.block b (World.block_lt_of_cell? w _ (q1 0 _ rfl)))).trans (q1 6 _ rfl)
          simp only [kRaftMsg_sz, Nat.add_zero] at a6
          have a7 := (World.cell?_of_block (HB.out.block b (World.block_lt_of_cell? w _ (q1 0 _ rfl)))).trans (q1 7 _ rfl)
          simp only [kRaftMsg_sz, Nat.add_zero] at a7
          have a8 := (World.cell?_of_block (HB.out.block b (World.block_lt_of_cell? w _ (q1 0 _ rfl)))).trans (q1 8 _ rfl)
          simp only [kRaftMsg_sz, Nat.add_zero] at a8
          clear q1
          have i1 : (0 : Int) ≤ (k : Int) := by omega
          have i2 : (k : Int) < (x.fNet.length : Int) := by omega
          have HBX := Lib.hid (HB.out.alloc HB.out.size (.cells #[.int .i64 y.fKind, .int .i64 y.fFrom, .int .i64 y.fTo, .int .i64 y.fTerm, .int .i64 y.fIndex, .int .i64 y.fBefore, .slice A6 y.fEntries.length c6, .int .i64 y.fCommit, .bool y.fYes] 50))
          have B0X := Lib.hid (Box.alloc (o := .cells #[.int .i64 y.fKind, .int .i64 y.fFrom, .int .i64 y.fTo, .int .i64 y.fTerm, .int .i64 y.fIndex, .int .i64 y.fBefore, .slice A6 y.fEntries.length c6, .int .i64 y.fCommit, .bool y.fYes] 50) B0.out)
          cases p1 : msgOk y x.fNodes.length
          all_goals
            go_wp2_with (with_reducible refine (sGoodRaftMsg_calls y _ _ _ (Rp.S_below G6.out HBX.out) SY.out).mono ?_; rintro e wq ⟨rfl, hb⟩; rw [p1]; have HB1 := Lib.hid (HBX.out.trans (hb.mono HBX.out.size)); have B01 := Lib.hid (B0X.out.below hb); clear hb)
          · go_ret
            exact ⟨by simp [cluOk, HS.out (by simp [badM, p1])], HB1.out⟩
          · exact ⟨⟨k + 1, by omega, by go_num, by rw [Hid, HA.out]; simp [badM, p1], HB1.out, B01.out⟩, by simp [intOf]; omega⟩
        · obtain rfl : k = x.fNet.length := by omega
          have hne := HE.out
          rw [List.take_length] at hne
          have HM := Lib.hid hne
          clear hne HE hlt hk
          go_wp2
          rename World => wp_
          go_loopw [69] (fun i wr => ∃ k : Nat, k ≤ x.fLeads.length ∧ i = .int .i64 k ∧ Hid ((x.fLeads.take k).any (leadB x.fNodes.length) = false) ∧ Hid (Below w.heap.size w wr) ∧ Hid (Box wr w.heap.size #[.slice A0 x.fNodes.length c0, .slice A1 x.fNet.length c1, .slice A2 x.fLeads.length c2] 68)) (fun i _ => x.fLeads.length - (intOf i).toNat)
          case atStart => exact ⟨0, Nat.zero_le _, rfl, rfl, HB.out, B0.out⟩
          case round =>
            clear HB B0 e0 e1 e2 u0
            obtain ⟨k, hk, rfl, HE, HB, B0⟩ := hrel
            have e0 := B0.out.cell 0 (v := .slice A0 x.fNodes.length c0) rfl
            have e1 := B0.out.cell 1 (v := .slice A1 x.fNet.length c1) rfl
            have e2 := B0.out.cell 2 (v := .slice A2 x.fLeads.length c2) rfl
            have u0 := B0.out.lt
            by_cases hlt : k < x.fLeads.length
            · clear e1 e2
              obtain ⟨b, o, cs, rfl, k1, q1⟩ := Rp.C_get H2.out k hlt
              obtain rfl := kLead_K k1
              have hany := any_take (p := leadB x.fNodes.length) hlt
              have hsome := any_at (p := leadB x.fNodes.length) hlt
              rw [HE.out, Bool.false_or] at hany
              generalize he : x.fLeads[k] = y at *
              have HG := Lib.hid he; have HA := Lib.hid hany; have HS := Lib.hid hsome
              clear he hany hsome HE k1
              have a0 := (World.cell?_of_block (HB.out.block b (World.block_lt_of_cell? w _ (q1 0 _ rfl)))).trans (q1 0 _ rfl)
              simp only [kLead_sz, Nat.add_zero] at a0
              have a1 := (World.cell?_of_block (HB.out.block b (World.block_lt_of_cell? w _ (q1 0 _ rfl)))).trans (q1 1 _ rfl)
              simp only [kLead_sz, Nat.add_zero] at a1
              clear q1
              have i1 : (0 : Int) ≤ (k : Int) := by omega
              have i2 : (k : Int) < (x.fLeads.length : Int) := by omega
              have HBX := Lib.hid (HB.out.alloc HB.out.size (.cells #[.int .i64 y.fTerm, .int .i64 y.fNode] 109))
              have B0X := Lib.hid (Box.alloc (o := .cells #[.int .i64 y.fTerm, .int .i64 y.fNode] 109) B0.out)
              cases p1 : inR y.fTerm 1 1000
              · go_wp2_with (first | (with_reducible refine (sInR_calls y.fTerm _ _ _).mono ?_; rintro e wq ⟨rfl, rfl⟩; rw [p1]))
                go_ret
                exact ⟨by simp [cluOk, HS.out (by simp [leadB, p1])], HBX.out⟩
              cases p2 : inR y.fNode 0 ((x.fNodes.length : Int) - 1)
              all_goals
                go_wp2_with (first | (with_reducible refine (sInR_calls y.fTerm _ _ _).mono ?_; rintro e wq ⟨rfl, rfl⟩; rw [p1]) | (with_reducible refine (sInR_calls y.fNode _ _ _).mono ?_; rintro e wq ⟨rfl, rfl⟩; rw [p2]))
              · go_ret
                exact ⟨by simp [cluOk, HS.out (by simp [leadB, p1, p2])], HBX.out⟩
              · exact ⟨⟨k + 1, by omega, by go_num, by rw [Hid, HA.out]; simp [leadB, p1, p2], HBX.out, B0X.out⟩, by simp [intOf]; omega⟩
            · obtain rfl : k = x.fLeads.length := by omega
              have hne := HE.out
              rw [List.take_length] at hne
              go_wp2
              go_ret
              exact ⟨by simp [cluOk, CNT.out, HN.out, HM.out, hne], HB.out⟩
end Go.Proofs.Ythnjcolbdoaabaa
