/- spec.LeadersOf, walked. -/
import Derived.Test.YthnjcolbdoaabaaLdP
import Derived.Test.YthnjcolbdoaabaaMade
namespace Go.Proofs.Ythnjcolbdoaabaa
open Go Go.RowKit Go.Sort
set_option linter.unusedVariables false
set_option linter.unusedSimpArgs false

theorem clu_len {x : DCluster} (h : cluOk x = true) : 1 ≤ x.fNodes.length ∧ x.fNodes.length ≤ 7 := by
  simp only [cluOk, cntC, Bool.and_eq_true] at h
  have hn := h.1.1.1.1.1
  simp only [inR, Bool.and_eq_true, decide_eq_true_eq] at hn
  omega
theorem ldS_len (xs : List DRaftNode) (n : Nat) : (ldS xs n).length ≤ xs.length := by
  rw [(ldS_perm xs n).length_eq, List.length_map]
  exact List.length_filter_le _ _
def ldTk (xs : List DRaftNode) (t k : Nat) : List DLead := ldT (xs.take k) t
theorem ldTk_len (xs : List DRaftNode) (t k : Nat) : (ldTk xs t k).length ≤ k := by
  unfold ldTk ldT
  rw [List.length_map]
  refine Nat.le_trans (List.length_filter_le _ _) ?_
  rw [List.length_take]
  omega
theorem ldTk_succ {xs : List DRaftNode} {t k : Nat} (h : k < xs.length) : ldTk xs t (k + 1) = ldTk xs t k ++ (if (xs[k].fRole == 2) && (xs[k].fTerm == ((t + 1 : Nat) : Int)) then [leadOf xs[k]] else []) := by
  unfold ldTk ldT
  rw [List.take_add_one, List.getElem?_eq_getElem h, List.filter_append, List.map_append]
  congr 1
  simp only [Option.toList_some, List.filter_cons, List.filter_nil]
  split <;> simp
set_option maxHeartbeats 4000000 in
set_option maxRecDepth 100000 in
theorem sLeadersOf_calls (x : DCluster) (v0 v1 v2 : Value) (w : World) (g0 : kRaftNode.S w x.fNodes v0) (g1 : kRaftMsg.S w x.fNet v1) (g2 : kLead.S w x.fLeads v2) (hl : smCluster 1048576 x) : Calls Try.prog 34 #[.agg #[v0, v1, v2]] w
    fun e w' => ∃ v, e = .returned (.tuple #[v, .bool (cluOk x)]) ∧ MadeR kLead 109 (ldV x) w w' v := by
  have G0 := Lib.hid g0; have G1 := Lib.hid g1; have G2 := Lib.hid g2
  obtain ⟨A0, c0, rfl, _, h0⟩ := g0
  obtain ⟨A1, c1, rfl, _, _⟩ := g1
  obtain ⟨A2, c2, rfl, _, _⟩ := g2
  have H := Lib.hid h0; clear h0
  have SM := Lib.hid hl
  obtain ⟨⟨l0, _⟩, ⟨_, _⟩, _⟩ := hl
  have BB0 : Box (w.alloc (.cells #[.slice A0 x.fNodes.length c0, .slice A1 x.fNet.length c1, .slice A2 x.fLeads.length c2] 68)) w.heap.size #[.slice A0 x.fNodes.length c0, .slice A1 x.fNet.length c1, .slice A2 x.fLeads.length c2] 68 := Box.new rfl
  have HBB := (Below.refl w.heap.size w).alloc (Nat.le_refl _) (.cells #[.slice A0 x.fNodes.length c0, .slice A1 x.fNet.length c1, .slice A2 x.fLeads.length c2] 68)
  go_enter Try.func34, Try.ntmps34
  go_upto_region 1 with fail
  generalize w.alloc (.cells #[.slice A0 x.fNodes.length c0, .slice A1 x.fNet.length c1, .slice A2 x.fLeads.length c2] 68) = w1 at *
  have B0 := Lib.hid BB0; have HB := Lib.hid HBB
  have e0 := BB0.cell 0 (v := .slice A0 x.fNodes.length c0) rfl
  have e1 := BB0.cell 1 (v := .slice A1 x.fNet.length c1) rfl
  have e2 := BB0.cell 2 (v := .slice A2 x.fLeads.length c2) rfl
  clear BB0 HBB
  cases p1 : cluOk x
  · go_wp2_with (with_reducible refine (sGoodCluster_calls x _ _ _ _ (Rp.S_below G0.out HB.out) (Rp.S_below G1.out HB.out) (Rp.S_below G2.out HB.out) SM.out).mono ?_; rintro e wq ⟨rfl, hb⟩; rw [p1]; have HB1 := Lib.hid (HB.out.trans (hb.mono HB.out.size)); clear hb)
    go_ret2
    exact ⟨_, by rw [p1]; rfl, by rw [ldV, p1]; exact MadeR.nil _ _ HB1.out⟩
  have P1 := Lib.hid p1
  have LN := Lib.hid (clu_len p1)
  go_wp2_with (with_reducible refine (sGoodCluster_calls x _ _ _ _ (Rp.S_below G0.out HB.out) (Rp.S_below G1.out HB.out) (Rp.S_below G2.out HB.out) SM.out).mono ?_; rintro e wq ⟨rfl, hb⟩; rw [p1]; have HB1 := Lib.hid (HB.out.trans (hb.mono HB.out.size)); have B1 := Lib.hid (B0.out.below hb); have f0 := B1.out.cell 0 (v := .slice A0 x.fNodes.length c0) rfl; clear hb)
  clear p1
  go_loopw [4, 5] (fun v t wr => ∃ m : Nat, m ≤ 1000 ∧ t = .int .i64 ((m : Int) + 1) ∧ Hid (kLead.Row 109 wr (Rp.ofOwn v) (ldS x.fNodes m) v) ∧ Hid (∀ b ∈ Rp.ofOwn v, w.heap.size + 1 ≤ b) ∧ Hid (Below w.heap.size w wr) ∧ Hid (Box wr w.heap.size #[.slice A0 x.fNodes.length c0, .slice A1 x.fNet.length c1, .slice A2 x.fLeads.length c2] 68)) (fun _ t _ => 1001 - (intOf t).toNat)
  case atStart => exact ⟨0, Nat.zero_le _, rfl, Rp.Row_nil _ _ _, by simp [Hid, Rp.ofOwn, Value.ownBlock], HB1.out, B1.out⟩
  case round =>
    clear HB1 B1 f0 HB B0 e0 e1 e2
    obtain ⟨m, hm, rfl, HR, HF, HB, B0⟩ := hrel
    rename_i v_ _
    by_cases hlt : m < 1000
    · have i1 : (m : Int) + 1 ≤ 1000 := by omega
      have e0 := B0.out.cell 0 (v := .slice A0 x.fNodes.length c0) rfl
      have u0 := B0.out.lt
      go_wp2
      have LT := Lib.hid (show 0 + (ldS x.fNodes m ++ ldTk x.fNodes m 0).length = 0 + (ldS x.fNodes m).length by simp [ldTk, ldT])
      have L0 := Lib.hid (show ldTk x.fNodes m 0 = [] by simp [ldTk, ldT])
      have LS := Lib.hid (ldS_len x.fNodes m)
      go_loopw [4, 18] (fun v i wt => ∃ k : Nat, k ≤ x.fNodes.length ∧ i = .int .i64 k ∧ Hid (kLead.Row 109 wt (Rp.ofOwn v) (ldS x.fNodes m ++ ldTk x.fNodes m k) v) ∧ Hid (∀ b ∈ Rp.ofOwn v, w.heap.size + 1 ≤ b) ∧ Hid (Below w.heap.size w wt) ∧ Hid (Box wt w.heap.size #[.slice A0 x.fNodes.length c0, .slice A1 x.fNet.length c1, .slice A2 x.fLeads.length c2] 68)) (fun _ i _ => x.fNodes.length - (intOf i).toNat)
      case atStart => exact ⟨0, Nat.zero_le _, rfl, by rw [L0.out, List.append_nil]; exact HR.out, HF.out, HB.out, B0.out⟩
      case round =>
        clear HR HF HB B0 e0 u0 LT L0
        obtain ⟨k, hk, rfl, HR, HF, HB, B0⟩ := hrel
        by_cases hlk : k < x.fNodes.length
        · obtain ⟨b, o, cs, rfl, k1, q1⟩ := Rp.C_get H.out k hlk
          obtain ⟨v4, v7, v8, rfl, g4, g7, g8⟩ := kRaftNode_read k1
          obtain ⟨A4, c4, rfl, _, _⟩ := g4; obtain ⟨A7, c7, rfl, _, _⟩ := g7; obtain ⟨A8, c8, rfl, _, _⟩ := g8
          have hsu := ldTk_succ (t := m) hlk
          have hll := ldTk_len x.fNodes m k
          generalize he : x.fNodes[k] = y at *
          clear he k1
          have HSU := Lib.hid hsu; clear hsu
          have hL : (ldS x.fNodes m ++ ldTk x.fNodes m k).length ≤ 14 := by
            rw [List.length_append]; have := LN.out; have := LS.out; omega
          have hST : ldS x.fNodes m ++ ldTk x.fNodes m (k + 1) = (ldS x.fNodes m ++ ldTk x.fNodes m k) ++ (if (y.fRole == 2) && (y.fTerm == ((m + 1 : Nat) : Int)) then [leadOf y] else []) := by rw [HSU.out, List.append_assoc]
          clear hll HSU
          generalize hL1 : ldS x.fNodes m ++ ldTk x.fNodes m (k + 1) = L1 at *
          generalize ldS x.fNodes m ++ ldTk x.fNodes m k = L at *
          have HL1 := Lib.hid hL1; clear hL1
          have HST := Lib.hid hST; have HL := Lib.hid hL
          clear hST hL
          have Q := Lib.hid q1; clear q1
          have a0 := (World.cell?_of_block (HB.out.block b (World.block_lt_of_cell? w _ (Q.out 0 _ rfl)))).trans (Q.out 0 _ rfl)
          simp only [kRaftNode_sz, Nat.add_zero, Nat.zero_mul] at a0
          have a1 := (World.cell?_of_block (HB.out.block b (World.block_lt_of_cell? w _ (Q.out 0 _ rfl)))).trans (Q.out 1 _ rfl)
          simp only [kRaftNode_sz, Nat.add_zero, Nat.zero_mul] at a1
          have a2 := (World.cell?_of_block (HB.out.block b (World.block_lt_of_cell? w _ (Q.out 0 _ rfl)))).trans (Q.out 2 _ rfl)
          simp only [kRaftNode_sz, Nat.add_zero, Nat.zero_mul] at a2
          have a3 := (World.cell?_of_block (HB.out.block b (World.block_lt_of_cell? w _ (Q.out 0 _ rfl)))).trans (Q.out 3 _ rfl)
          simp only [kRaftNode_sz, Nat.add_zero, Nat.zero_mul] at a3
          have a4 := (World.cell?_of_block (HB.out.block b (World.block_lt_of_cell? w _ (Q.out 0 _ rfl)))).trans (Q.out 4 _ rfl)
          simp only [kRaftNode_sz, Nat.add_zero, Nat.zero_mul] at a4
          have a5 := (World.cell?_of_block (HB.out.block b (World.block_lt_of_cell? w _ (Q.out 0 _ rfl)))).trans (Q.out 5 _ rfl)
          simp only [kRaftNode_sz, Nat.add_zero, Nat.zero_mul] at a5
          have a6 := (World.cell?_of_block (HB.out.block b (World.block_lt_of_cell? w _ (Q.out 0 _ rfl)))).trans (Q.out 6 _ rfl)
          simp only [kRaftNode_sz, Nat.add_zero, Nat.zero_mul] at a6
          have a7 := (World.cell?_of_block (HB.out.block b (World.block_lt_of_cell? w _ (Q.out 0 _ rfl)))).trans (Q.out 7 _ rfl)
          simp only [kRaftNode_sz, Nat.add_zero, Nat.zero_mul] at a7
          have a8 := (World.cell?_of_block (HB.out.block b (World.block_lt_of_cell? w _ (Q.out 0 _ rfl)))).trans (Q.out 8 _ rfl)
          simp only [kRaftNode_sz, Nat.add_zero, Nat.zero_mul] at a8
          have i2 : (0 : Int) ≤ (k : Int) := by omega
          have i3 : (k : Int) < (x.fNodes.length : Int) := by omega
          have HBX := Lib.hid (HB.out.alloc HB.out.size (.cells #[.int .i64 y.fId, .int .i64 y.fPeers, .int .i64 y.fTerm, .int .i64 y.fVote, .slice A4 y.fLog.length c4, .int .i64 y.fCommit, .int .i64 y.fRole, .slice A7 y.fVotes.length c7, .slice A8 y.fMatch.length c8] 29))
          have B0X := Lib.hid (Box.alloc (o := .cells #[.int .i64 y.fId, .int .i64 y.fPeers, .int .i64 y.fTerm, .int .i64 y.fVote, .slice A4 y.fLog.length c4, .int .i64 y.fCommit, .int .i64 y.fRole, .slice A7 y.fVotes.length c7, .slice A8 y.fMatch.length c8] 29) B0.out)
          have hpath : (y.fRole == 2) = false ∨ (y.fRole == 2) = true ∧ (y.fTerm == (m : Int) + 1) = false ∨ (y.fRole == 2) = true ∧ (y.fTerm == (m : Int) + 1) = true := by
            cases (y.fRole == 2) <;> cases (y.fTerm == (m : Int) + 1) <;> simp
          rcases hpath with p1 | ⟨p1, p2⟩ | ⟨p1, p2⟩
          · have hq := HST.out
            rw [p1, Bool.false_and, if_neg (by simp), List.append_nil] at hq
            have HQ := Lib.hid hq; clear hq
            go_wp2
            exact ⟨⟨k + 1, by omega, by go_num, by rw [HL1.out, HQ.out]; exact Rp.Row_below HR.out ((Below.refl _ _).alloc (Nat.le_refl _) _), HF.out, HBX.out, B0X.out⟩, by simp [intOf]; omega⟩
          · have hq := HST.out
            rw [p1, Bool.true_and, if_neg (by simpa using p2), List.append_nil] at hq
            have HQ := Lib.hid hq; clear hq
            go_wp2
            exact ⟨⟨k + 1, by omega, by go_num, by rw [HL1.out, HQ.out]; exact Rp.Row_below HR.out ((Below.refl _ _).alloc (Nat.le_refl _) _), HF.out, HBX.out, B0X.out⟩, by simp [intOf]; omega⟩
          · have hq := HST.out
            rw [p1, Bool.true_and, if_pos (by simpa using p2), show leadOf y = (⟨(m : Int) + 1, y.fId⟩ : DLead) by simp [leadOf]; simpa using p2] at hq
            have HQ := Lib.hid hq; clear hq
            go_wp2_with (at_builtin; go_loud (refine wp_append (d := kLead) rfl _ _ 63 109 rfl Try.underlying63 infoLead rfl (by decide) rfl (by decide) kLead_flat (xs := L) (ys := [⟨(m : Int) + 1, y.fId⟩]) rfl rfl (Rp.Row_below HR.out (((Below.refl _ _).alloc (Nat.le_refl _) _).alloc (by simp) _)) (Rp.S_one (Box.new (by simp)) (kLead.M_K (kLead_mk _ ⟨(m : Int) + 1, y.fId⟩))) (by have := HL.out; simp; omega) ?_; intro va w2 r1 r2 r3 r4; clear r4; have R1 := Lib.hid r1; have R2 := Lib.hid r2; have R3 := Lib.hid r3; clear r1 r2 r3))
            exact ⟨⟨k + 1, by omega, by go_num, by rw [HL1.out, HQ.out]; exact R1.out, fun b hb => by rcases R3.out b hb with h | h; exact HF.out b h; simp at h; have := B0.out.lt; omega, (Below.alloc HBX.out HBX.out.size _).trans (R2.out.toBelow (by have := HB.out.size; simp; omega) (fun b hb => Nat.le_of_succ_le (HF.out b hb))), (Box.alloc B0X.out).kept R2.out (fun h => by have := HF.out _ h; omega)⟩, by simp [intOf]; omega⟩
        · obtain rfl : k = x.fNodes.length := by omega
          have hfin : ldTk x.fNodes m x.fNodes.length = ldT x.fNodes m := by rw [ldTk, List.take_length]
          have HFN := Lib.hid hfin; clear hfin
          go_wp2
          exact ⟨⟨m + 1, by omega, by go_num, by rw [Hid, ldS_succ, ← HFN.out]; exact HR.out, HF.out, HB.out, B0.out⟩, by simp [intOf]; omega⟩
    · obtain rfl : m = 1000 := by omega
      go_wp2
      go_ret2
      exact ⟨_, by rw [P1.out]; rfl, by rw [ldV, if_pos P1.out]; exact ⟨_, HR.out, fun b hb => Nat.le_of_succ_le (HF.out b hb), ofOwn_nodup _, HB.out⟩⟩
end Go.Proofs.Ythnjcolbdoaabaa
