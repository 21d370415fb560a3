/- spec.CommonLog, walked. -/
import Derived.Test.YthnjcolbdoaabaaCoP
import Derived.Test.YthnjcolbdoaabaaLdS
namespace Go.Proofs.Ythnjcolbdoaabaa
open Go Go.RowKit Go.Sort
set_option linter.unusedVariables false
set_option linter.unusedSimpArgs false

def logC (n : DRaftNode) : List DEntry := n.fLog.take n.fCommit.toNat
def log0 : List DRaftNode → List DEntry
  | [] => []
  | n :: _ => logC n
def clF (xs : List DRaftNode) (j : Nat) : List DEntry := (xs.take j).foldl (fun o n => lcp o (logC n)) (log0 xs)
theorem clF_zero (xs : List DRaftNode) (h : 0 < xs.length) : clF xs 0 = logC xs[0] := by
  cases xs with
  | nil => simp at h
  | cons a t => rfl
theorem clF_succ {xs : List DRaftNode} {k : Nat} (h : k < xs.length) : clF xs (k + 1) = lcp (clF xs k) (logC xs[k]) := by
  unfold clF
  rw [List.take_add_one, List.getElem?_eq_getElem h, List.foldl_append]
  rfl
theorem clF_one {xs : List DRaftNode} (h : 0 < xs.length) : clF xs 1 = logC xs[0] := by
  rw [clF_succ h, clF_zero xs h, lcp_self]
theorem clF_len {xs : List DRaftNode} (h : 0 < xs.length) : ∀ k, k ≤ xs.length → (clF xs k).length ≤ xs[0].fLog.length
  | 0, _ => by rw [clF_zero xs h, logC, List.length_take]; omega
  | k + 1, hk => by
    rw [clF_succ (by omega)]
    exact Nat.le_trans (lcp_len _ _) (clF_len h k (by omega))
def clV (x : DCluster) : List DEntry := if cluOk x then clF x.fNodes x.fNodes.length else []
theorem comm_nat {y : DRaftNode} (h : nodeOk y = true) : ∃ m : Nat, y.fCommit = (m : Int) ∧ m ≤ y.fLog.length ∧ y.fLog.length ≤ 60 ∧ logC y = y.fLog.take m := by
  obtain ⟨_, _, _, _, _, _, h0, h1, h2, _⟩ := nodeOk_facts h
  refine ⟨y.fCommit.toNat, by omega, by omega, h2, rfl⟩
theorem S_take {xs : List DEntry} {w : World} {A : Option Addr} {n c m : Nat} (h : kEntry.S w xs (.slice A n c)) (hm : m ≤ xs.length) : kEntry.S w (xs.take m) (.slice A m c) :=
  Rp.S_cut h 2 rfl 0 m (by omega) rfl (.inl (by cases A <;> rfl)) rfl
set_option maxHeartbeats 1000000 in
set_option maxRecDepth 100000 in
theorem sCommonLog_calls (x : DCluster) (v0 v1 v2 : Value) (w : World) (g0 : kRaftNode.S w x.fNodes v0) (g1 : kRaftMsg.S w x.fNet v1) (g2 : kLead.S w x.fLeads v2) (hl : smCluster 1048576 x) : Calls Try.prog 49 #[.agg #[v0, v1, v2]] w
    fun e w' => ∃ v, e = .returned (.tuple #[v, .bool (cluOk x)]) ∧ MadeR kEntry 46 (clV x) w w' v := by
  have G0 := Lib.hid g0; have G1 := Lib.hid g1; have G2 := Lib.hid g2
  obtain ⟨A0, c0, rfl, _, h0⟩ := g0
  obtain ⟨A1, c1, rfl, _, _⟩ := g1
  obtain ⟨A2, c2, rfl, _, _⟩ := g2
  have H := Lib.hid h0; clear h0
  have SM := Lib.hid hl
  obtain ⟨⟨l0, _⟩, ⟨_, _⟩, _⟩ := hl
  have BB0 : Box (w.alloc (.cells #[.slice A0 x.fNodes.length c0, .slice A1 x.fNet.length c1, .slice A2 x.fLeads.length c2] 68)) w.heap.size #[.slice A0 x.fNodes.length c0, .slice A1 x.fNet.length c1, .slice A2 x.fLeads.length c2] 68 := Box.new rfl
  have HBB := (Below.refl w.heap.size w).alloc (Nat.le_refl _) (.cells #[.slice A0 x.fNodes.length c0, .slice A1 x.fNet.length c1, .slice A2 x.fLeads.length c2] 68)
  go_enter Try.func49, Try.ntmps49
  go_upto_region 1 with fail
  generalize w.alloc (.cells #[.slice A0 x.fNodes.length c0, .slice A1 x.fNet.length c1, .slice A2 x.fLeads.length c2] 68) = w1 at *
  have B0 := Lib.hid BB0; have HB := Lib.hid HBB
  have e0 := BB0.cell 0 (v := .slice A0 x.fNodes.length c0) rfl
  have e1 := BB0.cell 1 (v := .slice A1 x.fNet.length c1) rfl
  have e2 := BB0.cell 2 (v := .slice A2 x.fLeads.length c2) rfl
  clear BB0 HBB
  cases p1 : cluOk x
  · go_wp2_with (with_reducible refine (sGoodCluster_calls x _ _ _ _ (Rp.S_below G0.out HB.out) (Rp.S_below G1.out HB.out) (Rp.S_below G2.out HB.out) SM.out).mono ?_; rintro e wq ⟨rfl, hb⟩; rw [p1]; have HB1 := Lib.hid (HB.out.trans (hb.mono HB.out.size)); clear hb)
    go_ret2
    exact ⟨_, by rw [p1]; rfl, by rw [clV, p1]; exact MadeR.nil _ _ HB1.out⟩
  have P1 := Lib.hid p1
  have LN := Lib.hid (clu_len p1)
  go_wp2_with (with_reducible refine (sGoodCluster_calls x _ _ _ _ (Rp.S_below G0.out HB.out) (Rp.S_below G1.out HB.out) (Rp.S_below G2.out HB.out) SM.out).mono ?_; rintro e wq ⟨rfl, hb⟩; rw [p1]; have HB1 := Lib.hid (HB.out.trans (hb.mono HB.out.size)); have B1 := Lib.hid (B0.out.below hb); have f0 := B1.out.cell 0 (v := .slice A0 x.fNodes.length c0) rfl; clear hb)
  clear p1
  have h0 : 0 < x.fNodes.length := LN.out.1
  have CZ := Lib.hid (clF_zero x.fNodes h0)
  have CL := Lib.hid (fun k (hk : k ≤ x.fNodes.length) => clF_len h0 k hk)
  obtain ⟨b, o, cs, rfl, k1, q1⟩ := Rp.C_get H.out 0 h0
  obtain ⟨v4, v7, v8, rfl, g4, g7, g8⟩ := kRaftNode_read k1
  have G4 := Lib.hid g4
  obtain ⟨A4, c4, rfl, z4, _⟩ := g4
  obtain ⟨m, hm, hml, h60, hlc⟩ := comm_nat (clu_at P1.out 0 h0).2
  have hmc : m ≤ c4 := Nat.le_trans hml z4.1
  generalize he : x.fNodes[0] = y at *
  clear he k1 g7 g8 z4
  have Q := Lib.hid q1; clear q1
  have a4 := (World.cell?_of_block (HB1.out.block b (World.block_lt_of_cell? w _ (Q.out 4 _ rfl)))).trans (Q.out 4 _ rfl)
  simp only [kRaftNode_sz, Nat.add_zero, Nat.zero_mul] at a4
  have a5 := (World.cell?_of_block (HB1.out.block b (World.block_lt_of_cell? w _ (Q.out 5 _ rfl)))).trans (Q.out 5 _ rfl)
  simp only [kRaftNode_sz, Nat.add_zero, Nat.zero_mul] at a5
  rw [hm] at a5
  have CZ := Lib.hid (CZ.out.trans hlc); clear hlc
  go_upto_region 3 with fail
  refine wp_region_still_lit (by kernel_rfl) (by kernel_rfl) ?_
  repeat still_step
  refine wpStill_nil ?_
  change Exit.then _ _ _ _ wq.drew
  have HB := Lib.hid (show Below w.heap.size w wq.drew from HB1.out.drew)
  have B0 := Lib.hid (show Box wq.drew w.heap.size _ _ from B1.out.drew)
  clear a4 a5 f0 HB1 B1
  generalize wq.drew = w3 at *
  have f0 := B0.out.cell 0 (v := .slice (some ⟨b, o, none⟩) x.fNodes.length c0) rfl
  go_wp2
  go_loopw [4, 24] (fun v i wr => ∃ k : Nat, k ≤ x.fNodes.length ∧ i = .int .i64 k ∧ Hid (kEntry.S wr (clF x.fNodes k) v) ∧ Hid (Below w.heap.size w wr) ∧ Hid (Box wr w.heap.size #[.slice (some ⟨b, o, none⟩) x.fNodes.length c0, .slice A1 x.fNet.length c1, .slice A2 x.fLeads.length c2] 68)) (fun _ i _ => x.fNodes.length - (intOf i).toNat)
  case atStart => exact ⟨0, Nat.zero_le _, rfl, by rw [CZ.out]; exact Rp.S_below (S_take G4.out hml) HB.out, HB.out, B0.out⟩
  case round =>
    clear HB B0 f0 CZ G4 Q hm hml hmc
    obtain ⟨k, hk, rfl, HR, HB, B0⟩ := hrel
    rename_i v_ _
    by_cases hlk : k < x.fNodes.length
    · obtain ⟨b', o', cs, hA, k1, q1⟩ := Rp.C_get H.out k hlk
      obtain ⟨rfl, rfl⟩ : b = b' ∧ o = o' := by simpa using hA
      clear hA
      obtain ⟨v4, v7, v8, rfl, g4, g7, g8⟩ := kRaftNode_read k1
      have G4 := Lib.hid g4
      obtain ⟨A4, c4, rfl, z4, _⟩ := g4; obtain ⟨A7, c7, rfl, _, _⟩ := g7; obtain ⟨A8, c8, rfl, _, _⟩ := g8
      obtain ⟨m, hm, hml, h60b, hlc⟩ := comm_nat (clu_at P1.out k hlk).2
      have hmc : m ≤ c4 := Nat.le_trans hml z4.1
      have hsu := clF_succ hlk
      have hll := CL.out k hk
      generalize he : x.fNodes[k] = y at *
      clear he k1 z4
      rw [hlc] at hsu
      have HST := Lib.hid hsu; clear hsu hlc
      have HL := Lib.hid (show (clF x.fNodes k).length ≤ 1048576 by omega)
      have HM := Lib.hid (show (y.fLog.take m).length ≤ 1048576 by rw [List.length_take]; omega)
      clear hll
      have Q := Lib.hid q1; clear q1
      have a0 := (World.cell?_of_block (HB.out.block b (World.block_lt_of_cell? w _ (Q.out 0 _ rfl)))).trans (Q.out 0 _ rfl)
      simp only [kRaftNode_sz, Nat.add_zero, Nat.zero_mul] at a0
      have a1 := (World.cell?_of_block (HB.out.block b (World.block_lt_of_cell? w _ (Q.out 0 _ rfl)))).trans (Q.out 1 _ rfl)
      simp only [kRaftNode_sz, Nat.add_zero, Nat.zero_mul] at a1
      have a2 := (World.cell?_of_block (HB.out.block b (World.block_lt_of_cell? w _ (Q.out 0 _ rfl)))).trans (Q.out 2 _ rfl)
      simp only [kRaftNode_sz, Nat.add_zero, Nat.zero_mul] at a2
      have a3 := (World.cell?_of_block (HB.out.block b (World.block_lt_of_cell? w _ (Q.out 0 _ rfl)))).trans (Q.out 3 _ rfl)
      simp only [kRaftNode_sz, Nat.add_zero, Nat.zero_mul] at a3
      have a4 := (World.cell?_of_block (HB.out.block b (World.block_lt_of_cell? w _ (Q.out 0 _ rfl)))).trans (Q.out 4 _ rfl)
      simp only [kRaftNode_sz, Nat.add_zero, Nat.zero_mul] at a4
      have a5 := (World.cell?_of_block (HB.out.block b (World.block_lt_of_cell? w _ (Q.out 0 _ rfl)))).trans (Q.out 5 _ rfl)
      simp only [kRaftNode_sz, Nat.add_zero, Nat.zero_mul] at a5
      have a6 := (World.cell?_of_block (HB.out.block b (World.block_lt_of_cell? w _ (Q.out 0 _ rfl)))).trans (Q.out 6 _ rfl)
      simp only [kRaftNode_sz, Nat.add_zero, Nat.zero_mul] at a6
      have a7 := (World.cell?_of_block (HB.out.block b (World.block_lt_of_cell? w _ (Q.out 0 _ rfl)))).trans (Q.out 7 _ rfl)
      simp only [kRaftNode_sz, Nat.add_zero, Nat.zero_mul] at a7
      have a8 := (World.cell?_of_block (HB.out.block b (World.block_lt_of_cell? w _ (Q.out 0 _ rfl)))).trans (Q.out 8 _ rfl)
      simp only [kRaftNode_sz, Nat.add_zero, Nat.zero_mul] at a8
      rw [hm] at a5
      have i2 : (0 : Int) ≤ (k : Int) := by omega
      have i3 : (k : Int) < (x.fNodes.length : Int) := by omega
      have HBA := Lib.hid ((Below.refl wr.heap.size wr).alloc (Nat.le_refl _) (.cells #[.int .i64 y.fId, .int .i64 y.fPeers, .int .i64 y.fTerm, .int .i64 y.fVote, .slice A4 y.fLog.length c4, .int .i64 (m : Int), .int .i64 y.fRole, .slice A7 y.fVotes.length c7, .slice A8 y.fMatch.length c8] 29))
      have u0 := B0.out.lt
      go_wp2_with ((with_reducible refine (common_calls (clF x.fNodes k) (y.fLog.take m) _ _ _ (Rp.S_below HR.out HBA.out) (Rp.S_below (S_take G4.out hml) (HB.out.trans (HBA.out.mono HB.out.size))) HL.out HM.out).mono ?_); rintro e wn ⟨hb, v2, rfl, hs⟩; have HN := Lib.hid (HB.out.trans (HBA.out.mono HB.out.size)); have HBN := Lib.hid (HN.out.trans (hb.mono HN.out.size)); have BN := Lib.hid ((B0.out.below HBA.out).below hb); have SN := Lib.hid hs; clear hb hs)
      exact ⟨⟨k + 1, by omega, by go_num, by rw [HST.out]; exact SN.out, HBN.out, BN.out⟩, by simp [intOf]; omega⟩
    · obtain rfl : k = x.fNodes.length := by omega
      have HL := Lib.hid (CL.out _ (Nat.le_refl _))
      go_wp2_with (at_builtin; go_loud (refine wp_append (d := kEntry) rfl _ _ 27 46 rfl Try.underlying27 infoEntry rfl (by decide) rfl (by decide) kEntry_flat (xs := []) (ys := clF x.fNodes x.fNodes.length) rfl rfl (Rp.Row_made0 _ _ _ (by simp)) (Rp.S_below HR.out ((Below.refl _ _).alloc (Nat.le_refl _) _)) (by have := HL.out; simp; omega) ?_; intro va w2 r1 r2 r3 r4; clear r4; rw [List.nil_append] at r1; have R1 := Lib.hid r1; have R2 := Lib.hid r2; have R3 := Lib.hid r3; clear r1 r2 r3))
      go_ret2
      exact ⟨_, by rw [P1.out]; rfl, by rw [clV, if_pos P1.out]; exact ⟨_, R1.out, fun b hb => by have := HB.out.size; rcases R3.out b hb with h | h <;> simp at h <;> omega, ofOwn_nodup _, HB.out.trans ((R2.out.newBelow (Nat.le_refl _)).mono HB.out.size)⟩⟩
end Go.Proofs.Ythnjcolbdoaabaa
