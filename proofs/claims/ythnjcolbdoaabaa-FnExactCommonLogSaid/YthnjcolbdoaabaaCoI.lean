/- impl.CommonLog, walked. -/
import Derived.Test.YthnjcolbdoaabaaCoS
import Derived.StillTailTactics
namespace Go.Proofs.Ythnjcolbdoaabaa
open Go Go.RowKit Go.Sort
set_option linter.unusedVariables false
set_option linter.unusedSimpArgs false

theorem C_tail {xs : List DRaftNode} {w : World} {A A' : Option Addr} {n c : Nat} (h : kRaftNode.S w xs (.slice A n c)) (h1 : 1 ≤ xs.length) (hA : A' = A.map (fun x => x.add (1 * 9)) ∨ c = 1 ∧ A' = A) : kRaftNode.C w A' (xs.drop 1) := by
  obtain ⟨A0, c0, e, _, h2⟩ := Rp.S_cut h 9 rfl 1 (xs.length - 1) (by omega) rfl hA rfl
  obtain ⟨rfl, _, _⟩ := Value.slice.inj e
  rwa [List.take_of_length_le (by simp)] at h2
set_option maxHeartbeats 1500000 in
set_option maxRecDepth 100000 in
theorem iCommonLog_calls (x : DCluster) (v0 v1 v2 : Value) (w : World) (g0 : kRaftNode.S w x.fNodes v0) (g1 : kRaftMsg.S w x.fNet v1) (g2 : kLead.S w x.fLeads v2) (hl : smCluster 1048576 x) : Calls Try.prog 50 #[.agg #[v0, v1, v2]] w
    fun e w' => ∃ v, e = .returned (.tuple #[v, .bool (cluOk x)]) ∧ MadeR kEntry 46 (clV x) w w' v := by
  have G0 := Lib.hid g0; have G1 := Lib.hid g1; have G2 := Lib.hid g2
  obtain ⟨A0, c0, rfl, _, h0⟩ := g0
  obtain ⟨A1, c1, rfl, _, _⟩ := g1
  obtain ⟨A2, c2, rfl, _, _⟩ := g2
  have H := Lib.hid h0; clear h0
  have SM := Lib.hid hl
  obtain ⟨⟨l0, _⟩, ⟨_, _⟩, _⟩ := hl
  have BB0 : Box (w.alloc (.cells #[.slice A0 x.fNodes.length c0, .slice A1 x.fNet.length c1, .slice A2 x.fLeads.length c2] 68)) w.heap.size #[.slice A0 x.fNodes.length c0, .slice A1 x.fNet.length c1, .slice A2 x.fLeads.length c2] 68 := Box.new rfl
  have HBB := (Below.refl w.heap.size w).alloc (Nat.le_refl _) (.cells #[.slice A0 x.fNodes.length c0, .slice A1 x.fNet.length c1, .slice A2 x.fLeads.length c2] 68)
  go_enter Try.func50, Try.ntmps50
  go_upto_region 1 with fail
  generalize w.alloc (.cells #[.slice A0 x.fNodes.length c0, .slice A1 x.fNet.length c1, .slice A2 x.fLeads.length c2] 68) = w1 at *
  have B0 := Lib.hid BB0; have HB := Lib.hid HBB
  have e0 := BB0.cell 0 (v := .slice A0 x.fNodes.length c0) rfl
  have e1 := BB0.cell 1 (v := .slice A1 x.fNet.length c1) rfl
  have e2 := BB0.cell 2 (v := .slice A2 x.fLeads.length c2) rfl
  clear BB0 HBB
  cases p1 : cluOk x
  · go_wp2_with (with_reducible refine (iGoodCluster_calls x _ _ _ _ (Rp.S_below G0.out HB.out) (Rp.S_below G1.out HB.out) (Rp.S_below G2.out HB.out) SM.out).mono ?_; rintro e wq ⟨rfl, hb⟩; rw [p1]; have HB1 := Lib.hid (HB.out.trans (hb.mono HB.out.size)); clear hb)
    go_ret2
    exact ⟨_, by rw [p1]; rfl, by rw [clV, p1]; exact MadeR.nil _ _ HB1.out⟩
  have P1 := Lib.hid p1
  have LN := Lib.hid (clu_len p1)
  go_wp2_with (with_reducible refine (iGoodCluster_calls x _ _ _ _ (Rp.S_below G0.out HB.out) (Rp.S_below G1.out HB.out) (Rp.S_below G2.out HB.out) SM.out).mono ?_; rintro e wq ⟨rfl, hb⟩; rw [p1]; have HB1 := Lib.hid (HB.out.trans (hb.mono HB.out.size)); have B1 := Lib.hid (B0.out.below hb); have f0 := B1.out.cell 0 (v := .slice A0 x.fNodes.length c0) rfl; clear hb)
  clear p1
  have h0 : 0 < x.fNodes.length := LN.out.1
  have CZ := Lib.hid (clF_one h0)
  have CL := Lib.hid (fun k (hk : k ≤ x.fNodes.length) => clF_len h0 k hk)
  obtain ⟨b, o, cs, rfl, k1, q1⟩ := Rp.C_get H.out 0 h0
  obtain ⟨v4, v7, v8, rfl, g4, g7, g8⟩ := kRaftNode_read k1
  have G4 := Lib.hid g4
  obtain ⟨A4, c4, rfl, z4, _⟩ := g4
  obtain ⟨m, hm, hml, h60, hlc⟩ := comm_nat (clu_at P1.out 0 h0).2
  have hmc : m ≤ c4 := Nat.le_trans hml z4.1
  generalize he : x.fNodes[0] = y at *
  clear he k1 g7 g8 z4
  have Q := Lib.hid q1; clear q1
  have a4 := (World.cell?_of_block (HB1.out.block b (World.block_lt_of_cell? w _ (Q.out 4 _ rfl)))).trans (Q.out 4 _ rfl)
  simp only [kRaftNode_sz, Nat.add_zero, Nat.zero_mul] at a4
  have a5 := (World.cell?_of_block (HB1.out.block b (World.block_lt_of_cell? w _ (Q.out 5 _ rfl)))).trans (Q.out 5 _ rfl)
  simp only [kRaftNode_sz, Nat.add_zero, Nat.zero_mul] at a5
  rw [hm] at a5
  have CZ := Lib.hid (CZ.out.trans hlc); clear hlc
  have HM := Lib.hid (show (y.fLog.take m).length ≤ 16777216 by rw [List.length_take]; omega)
  go_still_tail 11, (by kernel_rfl)
  change wpList _ _ _ _ _ wq.drew
  have HB := Lib.hid (show Below w.heap.size w wq.drew from HB1.out.drew)
  have B0 := Lib.hid (show Box wq.drew w.heap.size _ _ from B1.out.drew)
  clear a4 a5 f0 HB1 B1
  generalize wq.drew = w3 at *
  by_cases hz : c0 = 1
  all_goals go_wp2_with ((with_reducible refine (cloneEntry_calls (y.fLog.take m) _ _ (Rp.S_below (S_take G4.out hml) HB.out) HM.out).mono ?_); rintro e wc ⟨va, Fa, rfl, hr, -, -, hb⟩; have HBC := Lib.hid (HB.out.trans (hb.mono HB.out.size)); have BC := Lib.hid (B0.out.below hb); have f0 := BC.out.cell 0 (v := .slice (some ⟨b, o, none⟩) x.fNodes.length c0) rfl; have SR := Lib.hid (Rp.Row_K hr); clear hr hb)
  · have hA := C_tail G0.out LN.out.1 (.inr ⟨hz, rfl⟩)
    obtain ⟨A0_, hA0⟩ : ∃ A0_, A0_ = some (⟨b, o, none⟩ : Addr) := ⟨_, rfl⟩
    rw [← hA0] at hA ⊢
    have HC0 := Lib.hid hA; clear hA hA0
    go_loopw [4, 27] (fun v i wr => ∃ k : Nat, k + 1 ≤ x.fNodes.length ∧ i = .int .i64 k ∧ Hid (kEntry.S wr (clF x.fNodes (k + 1)) v) ∧ Hid (Below w.heap.size w wr) ∧ Hid (Box wr w.heap.size #[.slice (some ⟨b, o, none⟩) x.fNodes.length c0, .slice A1 x.fNet.length c1, .slice A2 x.fLeads.length c2] 68)) (fun _ i _ => x.fNodes.length - (intOf i).toNat)
    case atStart => exact ⟨0, LN.out.1, rfl, by rw [CZ.out]; exact SR.out, HBC.out, BC.out⟩
    case round =>
      clear HB B0 f0 CZ G4 Q hm hml hmc HBC BC SR hz HM
      obtain ⟨k, hk, rfl, HR, HB, B0⟩ := hrel
      rename_i v_ _
      generalize wr = wo at *
      have hll := CL.out (k + 1) hk
      by_cases hlk : k + 1 < x.fNodes.length
      · obtain ⟨b_, o_, cs, rfl, k1, q1⟩ := Rp.C_get HC0.out k (by simp; omega)
        simp only [List.getElem_drop, Nat.add_comm 1 k] at k1
        obtain ⟨v4, v7, v8, rfl, g4, g7, g8⟩ := kRaftNode_read k1
        obtain ⟨A4, c4, rfl, z4, k4⟩ := g4; obtain ⟨A7, c7, rfl, _, _⟩ := g7; obtain ⟨A8, c8, rfl, _, _⟩ := g8
        obtain ⟨m, hm, hml, h60b, hlc⟩ := comm_nat (clu_at P1.out (k + 1) hlk).2
        have hmc : m ≤ c4 := Nat.le_trans hml z4.1
        have hsu := clF_succ hlk
        generalize he : x.fNodes[k + 1] = y at *
        clear he k1 z4
        have K4 := Lib.hid k4; clear k4
        rw [hlc] at hsu
        have HST := Lib.hid hsu; clear hsu hlc
        have SR := HR
        generalize clF x.fNodes (k + 1) = L at *
        clear HR
        obtain ⟨Av, cv, rfl, zv, kv⟩ := id SR.out
        have hzv := zv.1
        have KV := Lib.hid kv; clear kv zv
        have Q := Lib.hid q1; clear q1
        have a0 := (World.cell?_of_block (HB.out.block b_ (World.block_lt_of_cell? w _ (Q.out 0 _ rfl)))).trans (Q.out 0 _ rfl)
        simp only [kRaftNode_sz, Nat.add_zero, Nat.zero_mul] at a0
        have a1 := (World.cell?_of_block (HB.out.block b_ (World.block_lt_of_cell? w _ (Q.out 0 _ rfl)))).trans (Q.out 1 _ rfl)
        simp only [kRaftNode_sz, Nat.add_zero, Nat.zero_mul] at a1
        have a2 := (World.cell?_of_block (HB.out.block b_ (World.block_lt_of_cell? w _ (Q.out 0 _ rfl)))).trans (Q.out 2 _ rfl)
        simp only [kRaftNode_sz, Nat.add_zero, Nat.zero_mul] at a2
        have a3 := (World.cell?_of_block (HB.out.block b_ (World.block_lt_of_cell? w _ (Q.out 0 _ rfl)))).trans (Q.out 3 _ rfl)
        simp only [kRaftNode_sz, Nat.add_zero, Nat.zero_mul] at a3
        have a4 := (World.cell?_of_block (HB.out.block b_ (World.block_lt_of_cell? w _ (Q.out 0 _ rfl)))).trans (Q.out 4 _ rfl)
        simp only [kRaftNode_sz, Nat.add_zero, Nat.zero_mul] at a4
        have a5 := (World.cell?_of_block (HB.out.block b_ (World.block_lt_of_cell? w _ (Q.out 0 _ rfl)))).trans (Q.out 5 _ rfl)
        simp only [kRaftNode_sz, Nat.add_zero, Nat.zero_mul] at a5
        have a6 := (World.cell?_of_block (HB.out.block b_ (World.block_lt_of_cell? w _ (Q.out 0 _ rfl)))).trans (Q.out 6 _ rfl)
        simp only [kRaftNode_sz, Nat.add_zero, Nat.zero_mul] at a6
        have a7 := (World.cell?_of_block (HB.out.block b_ (World.block_lt_of_cell? w _ (Q.out 0 _ rfl)))).trans (Q.out 7 _ rfl)
        simp only [kRaftNode_sz, Nat.add_zero, Nat.zero_mul] at a7
        have a8 := (World.cell?_of_block (HB.out.block b_ (World.block_lt_of_cell? w _ (Q.out 0 _ rfl)))).trans (Q.out 8 _ rfl)
        simp only [kRaftNode_sz, Nat.add_zero, Nat.zero_mul] at a8
        rw [hm] at a5
        have i2 : (0 : Int) ≤ (k : Int) := by omega
        have i3 : (k : Int) < ((x.fNodes.length - 1 : Nat) : Int) := by omega
        have HBA := Lib.hid ((Below.refl wo.heap.size wo).alloc (Nat.le_refl _) (.cells #[.int .i64 y.fId, .int .i64 y.fPeers, .int .i64 y.fTerm, .int .i64 y.fVote, .slice A4 y.fLog.length c4, .int .i64 (m : Int), .int .i64 y.fRole, .slice A7 y.fVotes.length c7, .slice A8 y.fMatch.length c8] 29))
        go_wp2
        go_loopw [7] (fun t wt => ∃ j : Nat, t = .int .i64 j ∧ Hid (j ≤ lcpN L (y.fLog.take m)) ∧ Hid (Below wo.heap.size wo wt) ∧ Hid (Box wt wo.heap.size #[.int .i64 y.fId, .int .i64 y.fPeers, .int .i64 y.fTerm, .int .i64 y.fVote, .slice A4 y.fLog.length c4, .int .i64 (m : Int), .int .i64 y.fRole, .slice A7 y.fVotes.length c7, .slice A8 y.fMatch.length c8] 29)) (fun j _ => L.length - (intOf j).toNat)
        case atStart => exact ⟨0, rfl, Nat.zero_le _, HBA.out, Box.new rfl⟩
        case round =>
          clear HBA a0 a1 a2 a3 a4 a5 a6 a7 a8 Q i2 i3
          obtain ⟨j, rfl, HK, HW, B6⟩ := hrel
          have hkl := Nat.le_trans HK.out (lcpN_left L (y.fLog.take m))
          have hkm : j ≤ m := by have := Nat.le_trans HK.out (lcpN_right L (y.fLog.take m)); rw [List.length_take] at this; omega
          have hjc : j ≤ cv := Nat.le_trans hkl hzv
          have HWW := Lib.hid (HB.out.trans (HW.out.mono HB.out.size))
          have i2 : (0 : Int) ≤ (j : Int) := by omega
          have b4 := B6.out.cell 4 (v := .slice A4 y.fLog.length c4) rfl
          have b5 := B6.out.cell 5 (v := .int .i64 (m : Int)) rfl
          by_cases hlt : j < L.length ∧ j < m
          · obtain ⟨hlt, hltm⟩ := hlt
            by_cases hmin : m < L.length
            · have i9 : (m : Int) < (L.length : Int) := by omega
              obtain ⟨b0, o0, rfl, a00, a01⟩ := entC (Rp.C_below HW.out.block KV.out) j hlt
              obtain ⟨b1, o1, rfl, a10, a11⟩ := entC (Rp.C_below HWW.out.block K4.out) j (by omega)
              have hje : j < (y.fLog.take m).length := by rw [List.length_take]; omega
              have HY := Lib.hid (lcpN_yes HK.out hlt hje)
              have HN := Lib.hid (lcpN_no HK.out hlt hje)
              rw [List.getElem_take] at HY HN
              generalize hp : L[j] = p at *
              generalize hq : y.fLog[j] = q at *
              clear hp hq hje
              obtain ⟨t0, d0⟩ := p
              obtain ⟨t1, d1⟩ := q
              have i5 : (j : Int) < (L.length : Int) := by omega
              have i6 : (j : Int) < (y.fLog.length : Int) := by omega
              have i7 : (j : Int) < (m : Int) := by omega
              dsimp only at a00 a01 a10 a11
              by_cases e1 : d0 = d1
              · subst e1
                by_cases e0 : t0 = t1
                · subst e0
                  go_upto_region 8 with fail
                  refine wp_region_still_lit (by kernel_rfl) (by kernel_rfl) ?_
                  repeat still_step
                  refine wpStill_nil ?_
                  change Exit.then _ _ _ _ wr.drew
                  have HW := Lib.hid (show Below wo.heap.size wo wr.drew from HW.out.drew)
                  have B6 := Lib.hid (show Box wr.drew wo.heap.size _ _ from B6.out.drew)
                  clear a00 a01 a10 a11 b5 b4
                  generalize wr.drew = wd at *
                  go_wp2
                  exact ⟨⟨j + 1, by go_num, HY.out rfl, HW.out, B6.out⟩, by simp [intOf]; omega⟩
                · have HX := Lib.hid (HN.out (by simp [e0]))
                  go_upto_region 8 with fail
                  refine wp_region_still_lit (by kernel_rfl) (by kernel_rfl) ?_
                  repeat still_step
                  refine wpStill_nil ?_
                  change Exit.then _ _ _ _ wr.drew
                  have HW := Lib.hid (show Below wo.heap.size wo wr.drew from HW.out.drew)
                  have B6 := Lib.hid (show Box wr.drew wo.heap.size _ _ from B6.out.drew)
                  clear a00 a01 a10 a11 b5 b4
                  generalize wr.drew = wd at *
                  go_wp2
                  exact ⟨⟨k + 1, by omega, by go_num, by rw [HST.out, lcp, HX.out]; exact S_take (Rp.S_below SR.out HW.out) hkl, HB.out.trans (HW.out.mono HB.out.size), B0.out.below HW.out⟩, by simp [intOf]; omega⟩
              · have e1' : ¬ d0.toList = d1.toList := fun h => e1 (toL_inj h)
                have HX := Lib.hid (HN.out (by simp [e1]))
                by_cases e0 : t0 = t1
                · subst e0
                  go_upto_region 8 with fail
                  refine wp_region_still_lit (by kernel_rfl) (by kernel_rfl) ?_
                  repeat still_step
                  refine wpStill_nil ?_
                  change Exit.then _ _ _ _ wr.drew
                  have HW := Lib.hid (show Below wo.heap.size wo wr.drew from HW.out.drew)
                  have B6 := Lib.hid (show Box wr.drew wo.heap.size _ _ from B6.out.drew)
                  clear a00 a01 a10 a11 b5 b4
                  generalize wr.drew = wd at *
                  go_wp2
                  exact ⟨⟨k + 1, by omega, by go_num, by rw [HST.out, lcp, HX.out]; exact S_take (Rp.S_below SR.out HW.out) hkl, HB.out.trans (HW.out.mono HB.out.size), B0.out.below HW.out⟩, by simp [intOf]; omega⟩
                · skip
                  go_upto_region 8 with fail
                  refine wp_region_still_lit (by kernel_rfl) (by kernel_rfl) ?_
                  repeat still_step
                  refine wpStill_nil ?_
                  change Exit.then _ _ _ _ wr.drew
                  have HW := Lib.hid (show Below wo.heap.size wo wr.drew from HW.out.drew)
                  have B6 := Lib.hid (show Box wr.drew wo.heap.size _ _ from B6.out.drew)
                  clear a00 a01 a10 a11 b5 b4
                  generalize wr.drew = wd at *
                  go_wp2
                  exact ⟨⟨k + 1, by omega, by go_num, by rw [HST.out, lcp, HX.out]; exact S_take (Rp.S_below SR.out HW.out) hkl, HB.out.trans (HW.out.mono HB.out.size), B0.out.below HW.out⟩, by simp [intOf]; omega⟩
            · have i9 : ¬ (m : Int) < (L.length : Int) := by omega
              obtain ⟨b0, o0, rfl, a00, a01⟩ := entC (Rp.C_below HW.out.block KV.out) j hlt
              obtain ⟨b1, o1, rfl, a10, a11⟩ := entC (Rp.C_below HWW.out.block K4.out) j (by omega)
              have hje : j < (y.fLog.take m).length := by rw [List.length_take]; omega
              have HY := Lib.hid (lcpN_yes HK.out hlt hje)
              have HN := Lib.hid (lcpN_no HK.out hlt hje)
              rw [List.getElem_take] at HY HN
              generalize hp : L[j] = p at *
              generalize hq : y.fLog[j] = q at *
              clear hp hq hje
              obtain ⟨t0, d0⟩ := p
              obtain ⟨t1, d1⟩ := q
              have i5 : (j : Int) < (L.length : Int) := by omega
              have i6 : (j : Int) < (y.fLog.length : Int) := by omega
              have i7 : (j : Int) < (m : Int) := by omega
              dsimp only at a00 a01 a10 a11
              by_cases e1 : d0 = d1
              · subst e1
                by_cases e0 : t0 = t1
                · subst e0
                  go_upto_region 8 with fail
                  refine wp_region_still_lit (by kernel_rfl) (by kernel_rfl) ?_
                  repeat still_step
                  refine wpStill_nil ?_
                  change Exit.then _ _ _ _ wr.drew
                  have HW := Lib.hid (show Below wo.heap.size wo wr.drew from HW.out.drew)
                  have B6 := Lib.hid (show Box wr.drew wo.heap.size _ _ from B6.out.drew)
                  clear a00 a01 a10 a11 b5 b4
                  generalize wr.drew = wd at *
                  go_wp2
                  exact ⟨⟨j + 1, by go_num, HY.out rfl, HW.out, B6.out⟩, by simp [intOf]; omega⟩
                · have HX := Lib.hid (HN.out (by simp [e0]))
                  go_upto_region 8 with fail
                  refine wp_region_still_lit (by kernel_rfl) (by kernel_rfl) ?_
                  repeat still_step
                  refine wpStill_nil ?_
                  change Exit.then _ _ _ _ wr.drew
                  have HW := Lib.hid (show Below wo.heap.size wo wr.drew from HW.out.drew)
                  have B6 := Lib.hid (show Box wr.drew wo.heap.size _ _ from B6.out.drew)
                  clear a00 a01 a10 a11 b5 b4
                  generalize wr.drew = wd at *
                  go_wp2
                  exact ⟨⟨k + 1, by omega, by go_num, by rw [HST.out, lcp, HX.out]; exact S_take (Rp.S_below SR.out HW.out) hkl, HB.out.trans (HW.out.mono HB.out.size), B0.out.below HW.out⟩, by simp [intOf]; omega⟩
              · have e1' : ¬ d0.toList = d1.toList := fun h => e1 (toL_inj h)
                have HX := Lib.hid (HN.out (by simp [e1]))
                by_cases e0 : t0 = t1
                · subst e0
                  go_upto_region 8 with fail
                  refine wp_region_still_lit (by kernel_rfl) (by kernel_rfl) ?_
                  repeat still_step
                  refine wpStill_nil ?_
                  change Exit.then _ _ _ _ wr.drew
                  have HW := Lib.hid (show Below wo.heap.size wo wr.drew from HW.out.drew)
                  have B6 := Lib.hid (show Box wr.drew wo.heap.size _ _ from B6.out.drew)
                  clear a00 a01 a10 a11 b5 b4
                  generalize wr.drew = wd at *
                  go_wp2
                  exact ⟨⟨k + 1, by omega, by go_num, by rw [HST.out, lcp, HX.out]; exact S_take (Rp.S_below SR.out HW.out) hkl, HB.out.trans (HW.out.mono HB.out.size), B0.out.below HW.out⟩, by simp [intOf]; omega⟩
                · skip
                  go_upto_region 8 with fail
                  refine wp_region_still_lit (by kernel_rfl) (by kernel_rfl) ?_
                  repeat still_step
                  refine wpStill_nil ?_
                  change Exit.then _ _ _ _ wr.drew
                  have HW := Lib.hid (show Below wo.heap.size wo wr.drew from HW.out.drew)
                  have B6 := Lib.hid (show Box wr.drew wo.heap.size _ _ from B6.out.drew)
                  clear a00 a01 a10 a11 b5 b4
                  generalize wr.drew = wd at *
                  go_wp2
                  exact ⟨⟨k + 1, by omega, by go_num, by rw [HST.out, lcp, HX.out]; exact S_take (Rp.S_below SR.out HW.out) hkl, HB.out.trans (HW.out.mono HB.out.size), B0.out.below HW.out⟩, by simp [intOf]; omega⟩
          · have HX := Lib.hid (show lcpN L (y.fLog.take m) = j by have := HK.out; have h1 := lcpN_left L (y.fLog.take m); have h2 := lcpN_right L (y.fLog.take m); rw [List.length_take] at h2; omega)
            by_cases hmin : m < L.length
            · have i9 : (m : Int) < (L.length : Int) := by omega
              have i8 : ¬ (j : Int) < (m : Int) := by omega
              have r4 := regr (Below.refl _ _) B6.out.lt (B6.out.cell 4 (v := .slice A4 y.fLog.length c4) rfl)
              have r5 := regr (Below.refl _ _) B6.out.lt (B6.out.cell 5 (v := .int .i64 (m : Int)) rfl)
              go_upto_region 8 with fail
              refine wp_region_quiet_below (by kernel_rfl) (by kernel_rfl) ?_
              repeat (go_big_quiet_step (fail))
              refine wpQuiet_nil ?_
              rintro w3_ ⟨p, rfl⟩
              have hb := below_regrown wr p.d p.os
              have HW := Lib.hid (HW.out.trans (hb.mono HW.out.size))
              clear b5 b4 r4 r5 hb
              generalize grow (redrawn wr p.d) p.os = wd at *
              go_wp2
              exact ⟨⟨k + 1, by omega, by go_num, by rw [HST.out, lcp, HX.out]; exact S_take (Rp.S_below SR.out HW.out) hkl, HB.out.trans (HW.out.mono HB.out.size), B0.out.below HW.out⟩, by simp [intOf]; omega⟩
            · have i9 : ¬ (m : Int) < (L.length : Int) := by omega
              have i8 : ¬ (j : Int) < (L.length : Int) := by omega
              have r4 := regr (Below.refl _ _) B6.out.lt (B6.out.cell 4 (v := .slice A4 y.fLog.length c4) rfl)
              have r5 := regr (Below.refl _ _) B6.out.lt (B6.out.cell 5 (v := .int .i64 (m : Int)) rfl)
              go_upto_region 8 with fail
              refine wp_region_quiet_below (by kernel_rfl) (by kernel_rfl) ?_
              repeat (go_big_quiet_step (fail))
              refine wpQuiet_nil ?_
              rintro w3_ ⟨p, rfl⟩
              have hb := below_regrown wr p.d p.os
              have HW := Lib.hid (HW.out.trans (hb.mono HW.out.size))
              clear b5 b4 r4 r5 hb
              generalize grow (redrawn wr p.d) p.os = wd at *
              go_wp2
              exact ⟨⟨k + 1, by omega, by go_num, by rw [HST.out, lcp, HX.out]; exact S_take (Rp.S_below SR.out HW.out) hkl, HB.out.trans (HW.out.mono HB.out.size), B0.out.below HW.out⟩, by simp [intOf]; omega⟩
      · have hke : k + 1 = x.fNodes.length := by omega
        have i3 : ¬ (k : Int) < ((x.fNodes.length - 1 : Nat) : Int) := by omega
        have HL := Lib.hid (show (clF x.fNodes (k + 1)).length ≤ 16777216 by omega)
        have HKE := Lib.hid hke; clear hke hll
        go_wp2_with ((with_reducible refine (cloneEntry_calls (clF x.fNodes (k + 1)) _ _ HR.out HL.out).mono ?_); rintro e wc ⟨va, Fa, rfl, hr, hf, hn, hb⟩; have R1 := Lib.hid hr; have R2 := Lib.hid hf; have R3 := Lib.hid hn; have R4 := Lib.hid hb; clear hr hf hn hb)
        go_ret2
        exact ⟨_, by rw [P1.out]; rfl, by rw [clV, if_pos P1.out, ← HKE.out]; exact ⟨_, R1.out, fun b hb => Nat.le_trans HB.out.size (R2.out b hb), R3.out, HB.out.trans (R4.out.mono HB.out.size)⟩⟩
  · have hA := C_tail G0.out LN.out.1 (.inl rfl)
    obtain ⟨A0_, hA0⟩ : ∃ A0_, A0_ = some (⟨b, o + 9, none⟩ : Addr) := ⟨_, rfl⟩
    change kRaftNode.C w (some ⟨b, o + 9, none⟩) _ at hA
    rw [← hA0] at hA ⊢
    have HC0 := Lib.hid hA; clear hA hA0
    go_loopw [4, 27] (fun v i wr => ∃ k : Nat, k + 1 ≤ x.fNodes.length ∧ i = .int .i64 k ∧ Hid (kEntry.S wr (clF x.fNodes (k + 1)) v) ∧ Hid (Below w.heap.size w wr) ∧ Hid (Box wr w.heap.size #[.slice (some ⟨b, o, none⟩) x.fNodes.length c0, .slice A1 x.fNet.length c1, .slice A2 x.fLeads.length c2] 68)) (fun _ i _ => x.fNodes.length - (intOf i).toNat)
    case atStart => exact ⟨0, LN.out.1, rfl, by rw [CZ.out]; exact SR.out, HBC.out, BC.out⟩
    case round =>
      clear HB B0 f0 CZ G4 Q hm hml hmc HBC BC SR hz HM
      obtain ⟨k, hk, rfl, HR, HB, B0⟩ := hrel
      rename_i v_ _
      generalize wr = wo at *
      have hll := CL.out (k + 1) hk
      by_cases hlk : k + 1 < x.fNodes.length
      · obtain ⟨b_, o_, cs, rfl, k1, q1⟩ := Rp.C_get HC0.out k (by simp; omega)
        simp only [List.getElem_drop, Nat.add_comm 1 k] at k1
        obtain ⟨v4, v7, v8, rfl, g4, g7, g8⟩ := kRaftNode_read k1
        obtain ⟨A4, c4, rfl, z4, k4⟩ := g4; obtain ⟨A7, c7, rfl, _, _⟩ := g7; obtain ⟨A8, c8, rfl, _, _⟩ := g8
        obtain ⟨m, hm, hml, h60b, hlc⟩ := comm_nat (clu_at P1.out (k + 1) hlk).2
        have hmc : m ≤ c4 := Nat.le_trans hml z4.1
        have hsu := clF_succ hlk
        generalize he : x.fNodes[k + 1] = y at *
        clear he k1 z4
        have K4 := Lib.hid k4; clear k4
        rw [hlc] at hsu
        have HST := Lib.hid hsu; clear hsu hlc
        have SR := HR
        generalize clF x.fNodes (k + 1) = L at *
        clear HR
        obtain ⟨Av, cv, rfl, zv, kv⟩ := id SR.out
        have hzv := zv.1
        have KV := Lib.hid kv; clear kv zv
        have Q := Lib.hid q1; clear q1
        have a0 := (World.cell?_of_block (HB.out.block b_ (World.block_lt_of_cell? w _ (Q.out 0 _ rfl)))).trans (Q.out 0 _ rfl)
        simp only [kRaftNode_sz, Nat.add_zero, Nat.zero_mul] at a0
        have a1 := (World.cell?_of_block (HB.out.block b_ (World.block_lt_of_cell? w _ (Q.out 0 _ rfl)))).trans (Q.out 1 _ rfl)
        simp only [kRaftNode_sz, Nat.add_zero, Nat.zero_mul] at a1
        have a2 := (World.cell?_of_block (HB.out.block b_ (World.block_lt_of_cell? w _ (Q.out 0 _ rfl)))).trans (Q.out 2 _ rfl)
        simp only [kRaftNode_sz, Nat.add_zero, Nat.zero_mul] at a2
        have a3 := (World.cell?_of_block (HB.out.block b_ (World.block_lt_of_cell? w _ (Q.out 0 _ rfl)))).trans (Q.out 3 _ rfl)
        simp only [kRaftNode_sz, Nat.add_zero, Nat.zero_mul] at a3
        have a4 := (World.cell?_of_block (HB.out.block b_ (World.block_lt_of_cell? w _ (Q.out 0 _ rfl)))).trans (Q.out 4 _ rfl)
        simp only [kRaftNode_sz, Nat.add_zero, Nat.zero_mul] at a4
        have a5 := (World.cell?_of_block (HB.out.block b_ (World.block_lt_of_cell? w _ (Q.out 0 _ rfl)))).trans (Q.out 5 _ rfl)
        simp only [kRaftNode_sz, Nat.add_zero, Nat.zero_mul] at a5
        have a6 := (World.cell?_of_block (HB.out.block b_ (World.block_lt_of_cell? w _ (Q.out 0 _ rfl)))).trans (Q.out 6 _ rfl)
        simp only [kRaftNode_sz, Nat.add_zero, Nat.zero_mul] at a6
        have a7 := (World.cell?_of_block (HB.out.block b_ (World.block_lt_of_cell? w _ (Q.out 0 _ rfl)))).trans (Q.out 7 _ rfl)
        simp only [kRaftNode_sz, Nat.add_zero, Nat.zero_mul] at a7
        have a8 := (World.cell?_of_block (HB.out.block b_ (World.block_lt_of_cell? w _ (Q.out 0 _ rfl)))).trans (Q.out 8 _ rfl)
        simp only [kRaftNode_sz, Nat.add_zero, Nat.zero_mul] at a8
        rw [hm] at a5
        have i2 : (0 : Int) ≤ (k : Int) := by omega
        have i3 : (k : Int) < ((x.fNodes.length - 1 : Nat) : Int) := by omega
        have HBA := Lib.hid ((Below.refl wo.heap.size wo).alloc (Nat.le_refl _) (.cells #[.int .i64 y.fId, .int .i64 y.fPeers, .int .i64 y.fTerm, .int .i64 y.fVote, .slice A4 y.fLog.length c4, .int .i64 (m : Int), .int .i64 y.fRole, .slice A7 y.fVotes.length c7, .slice A8 y.fMatch.length c8] 29))
        go_wp2
        go_loopw [7] (fun t wt => ∃ j : Nat, t = .int .i64 j ∧ Hid (j ≤ lcpN L (y.fLog.take m)) ∧ Hid (Below wo.heap.size wo wt) ∧ Hid (Box wt wo.heap.size #[.int .i64 y.fId, .int .i64 y.fPeers, .int .i64 y.fTerm, .int .i64 y.fVote, .slice A4 y.fLog.length c4, .int .i64 (m : Int), .int .i64 y.fRole, .slice A7 y.fVotes.length c7, .slice A8 y.fMatch.length c8] 29)) (fun j _ => L.length - (intOf j).toNat)
        case atStart => exact ⟨0, rfl, Nat.zero_le _, HBA.out, Box.new rfl⟩
        case round =>
          clear HBA a0 a1 a2 a3 a4 a5 a6 a7 a8 Q i2 i3
          obtain ⟨j, rfl, HK, HW, B6⟩ := hrel
          have hkl := Nat.le_trans HK.out (lcpN_left L (y.fLog.take m))
          have hkm : j ≤ m := by have := Nat.le_trans HK.out (lcpN_right L (y.fLog.take m)); rw [List.length_take] at this; omega
          have hjc : j ≤ cv := Nat.le_trans hkl hzv
          have HWW := Lib.hid (HB.out.trans (HW.out.mono HB.out.size))
          have i2 : (0 : Int) ≤ (j : Int) := by omega
          have b4 := B6.out.cell 4 (v := .slice A4 y.fLog.length c4) rfl
          have b5 := B6.out.cell 5 (v := .int .i64 (m : Int)) rfl
          by_cases hlt : j < L.length ∧ j < m
          · obtain ⟨hlt, hltm⟩ := hlt
            by_cases hmin : m < L.length
            · have i9 : (m : Int) < (L.length : Int) := by omega
              obtain ⟨b0, o0, rfl, a00, a01⟩ := entC (Rp.C_below HW.out.block KV.out) j hlt
              obtain ⟨b1, o1, rfl, a10, a11⟩ := entC (Rp.C_below HWW.out.block K4.out) j (by omega)
              have hje : j < (y.fLog.take m).length := by rw [List.length_take]; omega
              have HY := Lib.hid (lcpN_yes HK.out hlt hje)
              have HN := Lib.hid (lcpN_no HK.out hlt hje)
              rw [List.getElem_take] at HY HN
              generalize hp : L[j] = p at *
              generalize hq : y.fLog[j] = q at *
              clear hp hq hje
              obtain ⟨t0, d0⟩ := p
              obtain ⟨t1, d1⟩ := q
              have i5 : (j : Int) < (L.length : Int) := by omega
              have i6 : (j : Int) < (y.fLog.length : Int) := by omega
              have i7 : (j : Int) < (m : Int) := by omega
              dsimp only at a00 a01 a10 a11
              by_cases e1 : d0 = d1
              · subst e1
                by_cases e0 : t0 = t1
                · subst e0
                  go_upto_region 8 with fail
                  refine wp_region_still_lit (by kernel_rfl) (by kernel_rfl) ?_
                  repeat still_step
                  refine wpStill_nil ?_
                  change Exit.then _ _ _ _ wr.drew
                  have HW := Lib.hid (show Below wo.heap.size wo wr.drew from HW.out.drew)
                  have B6 := Lib.hid (show Box wr.drew wo.heap.size _ _ from B6.out.drew)
                  clear a00 a01 a10 a11 b5 b4
                  generalize wr.drew = wd at *
                  go_wp2
                  exact ⟨⟨j + 1, by go_num, HY.out rfl, HW.out, B6.out⟩, by simp [intOf]; omega⟩
                · have HX := Lib.hid (HN.out (by simp [e0]))
                  go_upto_region 8 with fail
                  refine wp_region_still_lit (by kernel_rfl) (by kernel_rfl) ?_
                  repeat still_step
                  refine wpStill_nil ?_
                  change Exit.then _ _ _ _ wr.drew
                  have HW := Lib.hid (show Below wo.heap.size wo wr.drew from HW.out.drew)
                  have B6 := Lib.hid (show Box wr.drew wo.heap.size _ _ from B6.out.drew)
                  clear a00 a01 a10 a11 b5 b4
                  generalize wr.drew = wd at *
                  go_wp2
                  exact ⟨⟨k + 1, by omega, by go_num, by rw [HST.out, lcp, HX.out]; exact S_take (Rp.S_below SR.out HW.out) hkl, HB.out.trans (HW.out.mono HB.out.size), B0.out.below HW.out⟩, by simp [intOf]; omega⟩
              · have e1' : ¬ d0.toList = d1.toList := fun h => e1 (toL_inj h)
                have HX := Lib.hid (HN.out (by simp [e1]))
                by_cases e0 : t0 = t1
                · subst e0
                  go_upto_region 8 with fail
                  refine wp_region_still_lit (by kernel_rfl) (by kernel_rfl) ?_
                  repeat still_step
                  refine wpStill_nil ?_
                  change Exit.then _ _ _ _ wr.drew
                  have HW := Lib.hid (show Below wo.heap.size wo wr.drew from HW.out.drew)
                  have B6 := Lib.hid (show Box wr.drew wo.heap.size _ _ from B6.out.drew)
                  clear a00 a01 a10 a11 b5 b4
                  generalize wr.drew = wd at *
                  go_wp2
                  exact ⟨⟨k + 1, by omega, by go_num, by rw [HST.out, lcp, HX.out]; exact S_take (Rp.S_below SR.out HW.out) hkl, HB.out.trans (HW.out.mono HB.out.size), B0.out.below HW.out⟩, by simp [intOf]; omega⟩
                · skip
                  go_upto_region 8 with fail
                  refine wp_region_still_lit (by kernel_rfl) (by kernel_rfl) ?_
                  repeat still_step
                  refine wpStill_nil ?_
                  change Exit.then _ _ _ _ wr.drew
                  have HW := Lib.hid (show Below wo.heap.size wo wr.drew from HW.out.drew)
                  have B6 := Lib.hid (show Box wr.drew wo.heap.size _ _ from B6.out.drew)
                  clear a00 a01 a10 a11 b5 b4
                  generalize wr.drew = wd at *
                  go_wp2
                  exact ⟨⟨k + 1, by omega, by go_num, by rw [HST.out, lcp, HX.out]; exact S_take (Rp.S_below SR.out HW.out) hkl, HB.out.trans (HW.out.mono HB.out.size), B0.out.below HW.out⟩, by simp [intOf]; omega⟩
            · have i9 : ¬ (m : Int) < (L.length : Int) := by omega
              obtain ⟨b0, o0, rfl, a00, a01⟩ := entC (Rp.C_below HW.out.block KV.out) j hlt
              obtain ⟨b1, o1, rfl, a10, a11⟩ := entC (Rp.C_below HWW.out.block K4.out) j (by omega)
              have hje : j < (y.fLog.take m).length := by rw [List.length_take]; omega
              have HY := Lib.hid (lcpN_yes HK.out hlt hje)
              have HN := Lib.hid (lcpN_no HK.out hlt hje)
              rw [List.getElem_take] at HY HN
              generalize hp : L[j] = p at *
              generalize hq : y.fLog[j] = q at *
              clear hp hq hje
              obtain ⟨t0, d0⟩ := p
              obtain ⟨t1, d1⟩ := q
              have i5 : (j : Int) < (L.length : Int) := by omega
              have i6 : (j : Int) < (y.fLog.length : Int) := by omega
              have i7 : (j : Int) < (m : Int) := by omega
              dsimp only at a00 a01 a10 a11
              by_cases e1 : d0 = d1
              · subst e1
                by_cases e0 : t0 = t1
                · subst e0
                  go_upto_region 8 with fail
                  refine wp_region_still_lit (by kernel_rfl) (by kernel_rfl) ?_
                  repeat still_step
                  refine wpStill_nil ?_
                  change Exit.then _ _ _ _ wr.drew
                  have HW := Lib.hid (show Below wo.heap.size wo wr.drew from HW.out.drew)
                  have B6 := Lib.hid (show Box wr.drew wo.heap.size _ _ from B6.out.drew)
                  clear a00 a01 a10 a11 b5 b4
                  generalize wr.drew = wd at *
                  go_wp2
                  exact ⟨⟨j + 1, by go_num, HY.out rfl, HW.out, B6.out⟩, by simp [intOf]; omega⟩
                · have HX := Lib.hid (HN.out (by simp [e0]))
                  go_upto_region 8 with fail
                  refine wp_region_still_lit (by kernel_rfl) (by kernel_rfl) ?_
                  repeat still_step
                  refine wpStill_nil ?_
                  change Exit.then _ _ _ _ wr.drew
                  have HW := Lib.hid (show Below wo.heap.size wo wr.drew from HW.out.drew)
                  have B6 := Lib.hid (show Box wr.drew wo.heap.size _ _ from B6.out.drew)
                  clear a00 a01 a10 a11 b5 b4
                  generalize wr.drew = wd at *
                  go_wp2
                  exact ⟨⟨k + 1, by omega, by go_num, by rw [HST.out, lcp, HX.out]; exact S_take (Rp.S_below SR.out HW.out) hkl, HB.out.trans (HW.out.mono HB.out.size), B0.out.below HW.out⟩, by simp [intOf]; omega⟩
              · have e1' : ¬ d0.toList = d1.toList := fun h => e1 (toL_inj h)
                have HX := Lib.hid (HN.out (by simp [e1]))
                by_cases e0 : t0 = t1
                · subst e0
                  go_upto_region 8 with fail
                  refine wp_region_still_lit (by kernel_rfl) (by kernel_rfl) ?_
                  repeat still_step
                  refine wpStill_nil ?_
                  change Exit.then _ _ _ _ wr.drew
                  have HW := Lib.hid (show Below wo.heap.size wo wr.drew from HW.out.drew)
                  have B6 := Lib.hid (show Box wr.drew wo.heap.size _ _ from B6.out.drew)
                  clear a00 a01 a10 a11 b5 b4
                  generalize wr.drew = wd at *
                  go_wp2
                  exact ⟨⟨k + 1, by omega, by go_num, by rw [HST.out, lcp, HX.out]; exact S_take (Rp.S_below SR.out HW.out) hkl, HB.out.trans (HW.out.mono HB.out.size), B0.out.below HW.out⟩, by simp [intOf]; omega⟩
                · skip
                  go_upto_region 8 with fail
                  refine wp_region_still_lit (by kernel_rfl) (by kernel_rfl) ?_
                  repeat still_step
                  refine wpStill_nil ?_
                  change Exit.then _ _ _ _ wr.drew
                  have HW := Lib.hid (show Below wo.heap.size wo wr.drew from HW.out.drew)
                  have B6 := Lib.hid (show Box wr.drew wo.heap.size _ _ from B6.out.drew)
                  clear a00 a01 a10 a11 b5 b4
                  generalize wr.drew = wd at *
                  go_wp2
                  exact ⟨⟨k + 1, by omega, by go_num, by rw [HST.out, lcp, HX.out]; exact S_take (Rp.S_below SR.out HW.out) hkl, HB.out.trans (HW.out.mono HB.out.size), B0.out.below HW.out⟩, by simp [intOf]; omega⟩
          · have HX := Lib.hid (show lcpN L (y.fLog.take m) = j by have := HK.out; have h1 := lcpN_left L (y.fLog.take m); have h2 := lcpN_right L (y.fLog.take m); rw [List.length_take] at h2; omega)
            by_cases hmin : m < L.length
            · have i9 : (m : Int) < (L.length : Int) := by omega
              have i8 : ¬ (j : Int) < (m : Int) := by omega
              have r4 := regr (Below.refl _ _) B6.out.lt (B6.out.cell 4 (v := .slice A4 y.fLog.length c4) rfl)
              have r5 := regr (Below.refl _ _) B6.out.lt (B6.out.cell 5 (v := .int .i64 (m : Int)) rfl)
              go_upto_region 8 with fail
              refine wp_region_quiet_below (by kernel_rfl) (by kernel_rfl) ?_
              repeat (go_big_quiet_step (fail))
              refine wpQuiet_nil ?_
              rintro w3_ ⟨p, rfl⟩
              have hb := below_regrown wr p.d p.os
              have HW := Lib.hid (HW.out.trans (hb.mono HW.out.size))
              clear b5 b4 r4 r5 hb
              generalize grow (redrawn wr p.d) p.os = wd at *
              go_wp2
              exact ⟨⟨k + 1, by omega, by go_num, by rw [HST.out, lcp, HX.out]; exact S_take (Rp.S_below SR.out HW.out) hkl, HB.out.trans (HW.out.mono HB.out.size), B0.out.below HW.out⟩, by simp [intOf]; omega⟩
            · have i9 : ¬ (m : Int) < (L.length : Int) := by omega
              have i8 : ¬ (j : Int) < (L.length : Int) := by omega
              have r4 := regr (Below.refl _ _) B6.out.lt (B6.out.cell 4 (v := .slice A4 y.fLog.length c4) rfl)
              have r5 := regr (Below.refl _ _) B6.out.lt (B6.out.cell 5 (v := .int .i64 (m : Int)) rfl)
              go_upto_region 8 with fail
              refine wp_region_quiet_below (by kernel_rfl) (by kernel_rfl) ?_
              repeat (go_big_quiet_step (fail))
              refine wpQuiet_nil ?_
              rintro w3_ ⟨p, rfl⟩
              have hb := below_regrown wr p.d p.os
              have HW := Lib.hid (HW.out.trans (hb.mono HW.out.size))
              clear b5 b4 r4 r5 hb
              generalize grow (redrawn wr p.d) p.os = wd at *
              go_wp2
              exact ⟨⟨k + 1, by omega, by go_num, by rw [HST.out, lcp, HX.out]; exact S_take (Rp.S_below SR.out HW.out) hkl, HB.out.trans (HW.out.mono HB.out.size), B0.out.below HW.out⟩, by simp [intOf]; omega⟩
      · have hke : k + 1 = x.fNodes.length := by omega
        have i3 : ¬ (k : Int) < ((x.fNodes.length - 1 : Nat) : Int) := by omega
        have HL := Lib.hid (show (clF x.fNodes (k + 1)).length ≤ 16777216 by omega)
        have HKE := Lib.hid hke; clear hke hll
        go_wp2_with ((with_reducible refine (cloneEntry_calls (clF x.fNodes (k + 1)) _ _ HR.out HL.out).mono ?_); rintro e wc ⟨va, Fa, rfl, hr, hf, hn, hb⟩; have R1 := Lib.hid hr; have R2 := Lib.hid hf; have R3 := Lib.hid hn; have R4 := Lib.hid hb; clear hr hf hn hb)
        go_ret2
        exact ⟨_, by rw [P1.out]; rfl, by rw [clV, if_pos P1.out, ← HKE.out]; exact ⟨_, R1.out, fun b hb => Nat.le_trans HB.out.size (R2.out b hb), R3.out, HB.out.trans (R4.out.mono HB.out.size)⟩⟩
end Go.Proofs.Ythnjcolbdoaabaa
