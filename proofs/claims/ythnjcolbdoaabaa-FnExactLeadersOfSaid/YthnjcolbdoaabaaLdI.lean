/- impl.LeadersOf, walked. -/
import Derived.Test.YthnjcolbdoaabaaLdC
import Derived.Test.YthnjcolbdoaabaaLdS
import Derived.Test.YthnjcolbdoaabaaLdSh
import Derived.Shelf.SlSortCmp.WholeK
namespace Go.Proofs.Ythnjcolbdoaabaa
open Go Go.RowKit Go.Sort Go.Shelf
set_option linter.unusedVariables false
set_option linter.unusedSimpArgs false

instance : Inhabited DLead := ⟨⟨0, 0⟩⟩
def encLd (x : DLead) : List Value := [.int .i64 x.fTerm, .int .i64 x.fNode]
theorem kLead_enc : kLead.Enc 2 encLd := ⟨fun _ => rfl, rfl, fun x u hu => by simp [encLd] at hu; rcases hu with rfl | rfl <;> rfl, fun h => kLead_M h, fun w x => kLead_mk w x⟩
theorem ordL_lt (x y : DLead) : ltOf ordL x y = decide (x.fTerm < y.fTerm ∨ (x.fTerm = y.fTerm ∧ x.fNode < y.fNode)) := by
  unfold ltOf ordL orI cmpI
  by_cases h1 : x.fTerm < y.fTerm
  · simp [h1]
  · by_cases h2 : x.fTerm = y.fTerm
    · by_cases h3 : x.fNode < y.fNode
      · simp [h2, h3]
      · by_cases h4 : x.fNode = y.fNode <;> simp [h2, h3, h4]
    · simp [h1, h2]
theorem ordL_swo : SWO (ltOf ordL) where
  irrefl x := by rw [ordL_lt]; simp
  trans x y z h1 h2 := by rw [ordL_lt] at *; simp at *; omega
  ntrans x y z h1 h2 := by rw [ordL_lt] at *; simp at *; omega
theorem ordL_le {x y : DLead} (h : ltOf ordL y x = false) : leL x y := by
  rw [ordL_lt] at h
  simp at h
  unfold leL
  omega
theorem sortedL {d : Array DLead} {n : Nat} (h : SortedIn (ltOf ordL) 0 n d) (hs : d.size = n) : d.toList.Pairwise leL := by
  rw [List.pairwise_iff_getElem]
  intro i j hi hj hij
  have hi' : i < d.size := by simpa using hi
  have hj' : j < d.size := by simpa using hj
  have := h i j (Nat.zero_le _) hij (by omega)
  rw [getElem!_pos d i hi', getElem!_pos d j hj'] at this
  simpa using ordL_le this
theorem permL {d d' : Array DLead} (h : PermIn 0 d.size d d') : d'.toList.Perm d.toList := by
  obtain ⟨h1, _, h3⟩ := h
  rw [← h1, Array.extract_size] at h3
  rwa [h1, Array.extract_size] at h3
theorem cmpLd (blk off size : Nat) (w : World) : CmpLays Try.prog 92 #[] encLd 2 ordL blk off size w := fun _ _ _ _ x y => cloLd_calls x y _
theorem sortLd_calls {xs : List DLead} {g cap n : Nat} {w : World} {F : List Nat} (hr : kLead.Row 109 w F xs (.slice (some ⟨g, 0, none⟩) n cap)) (hl : xs.length ≤ 1000) :
    Calls Try.prog 91 #[.slice (some ⟨g, 0, none⟩) n cap, .func (.func 92) #[] #[]] w fun e w' => e = .returned (.tuple #[]) ∧ ∃ ys : List DLead, ys.Perm xs ∧ ys.Pairwise leL ∧ kLead.Row 109 w' F ys (.slice (some ⟨g, 0, none⟩) n cap) ∧ KeptF F w w' := by
  obtain ⟨hv, _, _⟩ | ⟨g', cap', cur, hv, rfl, hg, _, _, _, _⟩ := kLead_enc.Row_of hr
  · simp at hv
  obtain ⟨rfl, rfl, rfl⟩ : g = g' ∧ n = xs.length ∧ cap = cap' := by simpa using hv
  have hgl : g < w.heap.size := (Array.getElem?_eq_some_iff.1 hg).1
  have eg : ∀ args w, (callFunc 92 args).run Try.prog w = .ok (.enter 92 args) w := enters_of Try.func92 (by kernel_rfl) rfl
  have hH := Rp.Row_holds kLead_enc hr
  have hcon := AnyQ.slices_SortFunc LdSort 2 Try.isAgg109 Try.sizeOf109 encLd (fun _ => rfl) (fun x v hv => kLead_enc.one x v hv) ordL ordL_swo 92 #[] g 0 cap xs.toArray w eg (cmpLd g 0 _ w) hH hgl (by simp; omega)
  change Calls Try.prog 91 _ _ _ at hcon
  rw [List.size_toArray] at hcon
  refine hcon.mono ?_
  rintro e w' ⟨rfl, d', m, os, hp, hs, rfl⟩
  have hd : d'.size = xs.length := by simpa using hp.1
  obtain ⟨h1, h2⟩ := Rp.Row_sorted kLead_enc hr d' hd m os
  refine ⟨rfl, d'.toList, ?_, sortedL hs hd, h1, h2⟩
  have hp' : PermIn 0 xs.toArray.size xs.toArray d' := by simpa using hp
  simpa using permL hp'

def ldIk (xs : List DRaftNode) (k : Nat) : List DLead := ldI (xs.take k)
theorem ldIk_len (xs : List DRaftNode) (k : Nat) : (ldIk xs k).length ≤ k := by
  unfold ldIk ldI
  rw [List.length_map]
  refine Nat.le_trans (List.length_filter_le _ _) ?_
  rw [List.length_take]
  omega
theorem ldIk_succ {xs : List DRaftNode} {k : Nat} (h : k < xs.length) : ldIk xs (k + 1) = ldIk xs k ++ (if (xs[k].fRole == 2) then [leadOf xs[k]] else []) := by
  unfold ldIk ldI
  rw [List.take_add_one, List.getElem?_eq_getElem h, List.filter_append, List.map_append]
  congr 1
  simp only [Option.toList_some, List.filter_cons, List.filter_nil]
  split <;> simp
set_option maxHeartbeats 4000000 in
set_option maxRecDepth 100000 in
theorem iLeadersOf_calls (x : DCluster) (v0 v1 v2 : Value) (w : World) (g0 : kRaftNode.S w x.fNodes v0) (g1 : kRaftMsg.S w x.fNet v1) (g2 : kLead.S w x.fLeads v2) (hl : smCluster 1048576 x) : Calls Try.prog 36 #[.agg #[v0, v1, v2]] w
    fun e w' => ∃ v, e = .returned (.tuple #[v, .bool (cluOk x)]) ∧ MadeR kLead 109 (ldV x) w w' v := by
  have G0 := Lib.hid g0; have G1 := Lib.hid g1; have G2 := Lib.hid g2
  obtain ⟨A0, c0, rfl, _, h0⟩ := g0
  obtain ⟨A1, c1, rfl, _, _⟩ := g1
  obtain ⟨A2, c2, rfl, _, _⟩ := g2
  have H := Lib.hid h0; clear h0
  have SM := Lib.hid hl
  obtain ⟨⟨l0, _⟩, ⟨_, _⟩, _⟩ := hl
  have BB0 : Box (w.alloc (.cells #[.slice A0 x.fNodes.length c0, .slice A1 x.fNet.length c1, .slice A2 x.fLeads.length c2] 68)) w.heap.size #[.slice A0 x.fNodes.length c0, .slice A1 x.fNet.length c1, .slice A2 x.fLeads.length c2] 68 := Box.new rfl
  have HBB := (Below.refl w.heap.size w).alloc (Nat.le_refl _) (.cells #[.slice A0 x.fNodes.length c0, .slice A1 x.fNet.length c1, .slice A2 x.fLeads.length c2] 68)
  go_enter Try.func36, Try.ntmps36
  go_upto_region 1 with fail
  generalize w.alloc (.cells #[.slice A0 x.fNodes.length c0, .slice A1 x.fNet.length c1, .slice A2 x.fLeads.length c2] 68) = w1 at *
  have B0 := Lib.hid BB0; have HB := Lib.hid HBB
  have e0 := BB0.cell 0 (v := .slice A0 x.fNodes.length c0) rfl
  have e1 := BB0.cell 1 (v := .slice A1 x.fNet.length c1) rfl
  have e2 := BB0.cell 2 (v := .slice A2 x.fLeads.length c2) rfl
  clear BB0 HBB
  cases p1 : cluOk x
  · go_wp2_with (with_reducible refine (iGoodCluster_calls x _ _ _ _ (Rp.S_below G0.out HB.out) (Rp.S_below G1.out HB.out) (Rp.S_below G2.out HB.out) SM.out).mono ?_; rintro e wq ⟨rfl, hb⟩; rw [p1]; have HB1 := Lib.hid (HB.out.trans (hb.mono HB.out.size)); clear hb)
    go_ret2
    exact ⟨_, by rw [p1]; rfl, by rw [ldV, p1]; exact MadeR.nil _ _ HB1.out⟩
  have P1 := Lib.hid p1
  have LN := Lib.hid (clu_len p1)
  go_wp2_with (with_reducible refine (iGoodCluster_calls x _ _ _ _ (Rp.S_below G0.out HB.out) (Rp.S_below G1.out HB.out) (Rp.S_below G2.out HB.out) SM.out).mono ?_; rintro e wq ⟨rfl, hb⟩; rw [p1]; have HB1 := Lib.hid (HB.out.trans (hb.mono HB.out.size)); have B1 := Lib.hid (B0.out.below hb); have f0 := B1.out.cell 0 (v := .slice A0 x.fNodes.length c0) rfl; have u0 := B1.out.lt; clear hb)
  clear p1
  have L0 := Lib.hid (show ldIk x.fNodes 0 = [] by simp [ldIk, ldI])
  go_loopw [4, 14] (fun v i wr => ∃ k : Nat, k ≤ x.fNodes.length ∧ i = .int .i64 k ∧ Hid (kLead.Row 109 wr (Rp.ofOwn v) (ldIk x.fNodes k) v) ∧ Hid (v ≠ .slice none 0 0) ∧ Hid (∀ b ∈ Rp.ofOwn v, w.heap.size + 1 ≤ b) ∧ Hid (Below w.heap.size w wr) ∧ Hid (Box wr w.heap.size #[.slice A0 x.fNodes.length c0, .slice A1 x.fNet.length c1, .slice A2 x.fLeads.length c2] 68)) (fun _ i _ => x.fNodes.length - (intOf i).toNat)
  case atStart => exact ⟨0, Nat.zero_le _, rfl, by rw [L0.out]; exact Rp.Row_made0 _ _ _ (by simp), by simp [Hid], by have := B1.out.lt; simp [Hid, Rp.ofOwn, Value.ownBlock]; omega, HB1.out.alloc HB1.out.size _, Box.alloc B1.out⟩
  case round =>
    clear HB1 B1 f0 HB B0 e0 e1 e2 u0
    obtain ⟨k, hk, rfl, HR, HV, HF, HB, B0⟩ := hrel
    rename_i v_ _
    by_cases hlk : k < x.fNodes.length
    · obtain ⟨b, o, cs, rfl, k1, q1⟩ := Rp.C_get H.out k hlk
      obtain ⟨v4, v7, v8, rfl, g4, g7, g8⟩ := kRaftNode_read k1
      obtain ⟨A4, c4, rfl, _, _⟩ := g4; obtain ⟨A7, c7, rfl, _, _⟩ := g7; obtain ⟨A8, c8, rfl, _, _⟩ := g8
      have hsu := ldIk_succ hlk
      have hll := ldIk_len x.fNodes k
      generalize he : x.fNodes[k] = y at *
      clear he k1
      have hL : (ldIk x.fNodes k).length ≤ 7 := by
        have := LN.out; omega
      clear hll
      generalize hL1 : ldIk x.fNodes (k + 1) = L1 at *
      generalize ldIk x.fNodes k = L at *
      have HL1 := Lib.hid hL1; clear hL1
      have HST := Lib.hid hsu; have HL := Lib.hid hL
      clear hsu hL
      have Q := Lib.hid q1; clear q1
      have a0 := (World.cell?_of_block (HB.out.block b (World.block_lt_of_cell? w _ (Q.out 0 _ rfl)))).trans (Q.out 0 _ rfl)
      simp only [kRaftNode_sz, Nat.add_zero, Nat.zero_mul] at a0
      have a1 := (World.cell?_of_block (HB.out.block b (World.block_lt_of_cell? w _ (Q.out 0 _ rfl)))).trans (Q.out 1 _ rfl)
      simp only [kRaftNode_sz, Nat.add_zero, Nat.zero_mul] at a1
      have a2 := (World.cell?_of_block (HB.out.block b (World.block_lt_of_cell? w _ (Q.out 0 _ rfl)))).trans (Q.out 2 _ rfl)
      simp only [kRaftNode_sz, Nat.add_zero, Nat.zero_mul] at a2
      have a3 := (World.cell?_of_block (HB.out.block b (World.block_lt_of_cell? w _ (Q.out 0 _ rfl)))).trans (Q.out 3 _ rfl)
      simp only [kRaftNode_sz, Nat.add_zero, Nat.zero_mul] at a3
      have a4 := (World.cell?_of_block (HB.out.block b (World.block_lt_of_cell? w _ (Q.out 0 _ rfl)))).trans (Q.out 4 _ rfl)
      simp only [kRaftNode_sz, Nat.add_zero, Nat.zero_mul] at a4
      have a5 := (World.cell?_of_block (HB.out.block b (World.block_lt_of_cell? w _ (Q.out 0 _ rfl)))).trans (Q.out 5 _ rfl)
      simp only [kRaftNode_sz, Nat.add_zero, Nat.zero_mul] at a5
      have a6 := (World.cell?_of_block (HB.out.block b (World.block_lt_of_cell? w _ (Q.out 0 _ rfl)))).trans (Q.out 6 _ rfl)
      simp only [kRaftNode_sz, Nat.add_zero, Nat.zero_mul] at a6
      have a7 := (World.cell?_of_block (HB.out.block b (World.block_lt_of_cell? w _ (Q.out 0 _ rfl)))).trans (Q.out 7 _ rfl)
      simp only [kRaftNode_sz, Nat.add_zero, Nat.zero_mul] at a7
      have a8 := (World.cell?_of_block (HB.out.block b (World.block_lt_of_cell? w _ (Q.out 0 _ rfl)))).trans (Q.out 8 _ rfl)
      simp only [kRaftNode_sz, Nat.add_zero, Nat.zero_mul] at a8
      have i2 : (0 : Int) ≤ (k : Int) := by omega
      have i3 : (k : Int) < (x.fNodes.length : Int) := by omega
      have HBX := Lib.hid (HB.out.alloc HB.out.size (.cells #[.int .i64 y.fId, .int .i64 y.fPeers, .int .i64 y.fTerm, .int .i64 y.fVote, .slice A4 y.fLog.length c4, .int .i64 y.fCommit, .int .i64 y.fRole, .slice A7 y.fVotes.length c7, .slice A8 y.fMatch.length c8] 29))
      have B0X := Lib.hid (Box.alloc (o := .cells #[.int .i64 y.fId, .int .i64 y.fPeers, .int .i64 y.fTerm, .int .i64 y.fVote, .slice A4 y.fLog.length c4, .int .i64 y.fCommit, .int .i64 y.fRole, .slice A7 y.fVotes.length c7, .slice A8 y.fMatch.length c8] 29) B0.out)
      have u0 := B0.out.lt
      cases p1 : (y.fRole == 2)
      · have hq := HST.out
        rw [p1, if_neg (by simp), List.append_nil] at hq
        have HQ := Lib.hid hq; clear hq
        go_wp2
        exact ⟨⟨k + 1, by omega, by go_num, by rw [HL1.out, HQ.out]; exact Rp.Row_below HR.out ((Below.refl _ _).alloc (Nat.le_refl _) _), HV.out, HF.out, HBX.out, B0X.out⟩, by simp [intOf]; omega⟩
      · have hq := HST.out
        rw [p1, if_pos rfl, show leadOf y = (⟨y.fTerm, y.fId⟩ : DLead) from rfl] at hq
        have HQ := Lib.hid hq; clear hq
        go_wp2_with (at_builtin; go_loud (refine wp_append (d := kLead) rfl _ _ 63 109 rfl Try.underlying63 infoLead rfl (by decide) rfl (by decide) kLead_flat (xs := L) (ys := [⟨y.fTerm, y.fId⟩]) rfl rfl (Rp.Row_below HR.out (((Below.refl _ _).alloc (Nat.le_refl _) _).alloc (by simp) _)) (Rp.S_one (Box.new (by simp)) (kLead.M_K (kLead_mk _ ⟨y.fTerm, y.fId⟩))) (by have := HL.out; simp; omega) ?_; intro va w2 r1 r2 r3 r4; have RV := Lib.hid (fun h => by simpa using (r4.1 h).2 : va ≠ .slice none 0 0); clear r4; have R1 := Lib.hid r1; have R2 := Lib.hid r2; have R3 := Lib.hid r3; clear r1 r2 r3))
        exact ⟨⟨k + 1, by omega, by go_num, by rw [HL1.out, HQ.out]; exact R1.out, RV.out, fun b hb => by rcases R3.out b hb with h | h; exact HF.out b h; simp at h; have := B0.out.lt; omega, (Below.alloc HBX.out HBX.out.size _).trans (R2.out.toBelow (by have := HB.out.size; simp; omega) (fun b hb => Nat.le_of_succ_le (HF.out b hb))), (Box.alloc B0X.out).kept R2.out (fun h => by have := HF.out _ h; omega)⟩, by simp [intOf]; omega⟩
    · obtain rfl : k = x.fNodes.length := by omega
      have hfin : ldIk x.fNodes x.fNodes.length = ldI x.fNodes := by rw [ldIk, List.take_length]
      have hll : (ldI x.fNodes).length ≤ 7 := by have := ldIk_len x.fNodes x.fNodes.length; rw [hfin] at this; have := LN.out; omega
      have hr := HR.out
      rw [hfin] at hr
      rcases kLead_enc.Row_of hr with ⟨rfl, _, _⟩ | ⟨g, cap, cur, rfl, _⟩
      · exact absurd rfl HV.out
      have HR := Lib.hid hr; clear hr
      have HLL := Lib.hid (show (ldI x.fNodes).length ≤ 1000 by omega)
      generalize hn : (ldI x.fNodes).length = n at HR HV HF ⊢
      clear hn hll
      go_wp2_with (with_reducible refine (sortLd_calls HR.out HLL.out).mono ?_; rintro e wq ⟨rfl, ys, hp, hs, hr, hk⟩; have HP := Lib.hid hp; have HS := Lib.hid hs; have R1 := Lib.hid hr; have K1 := Lib.hid hk; clear hp hs hr hk)
      go_ret2
      exact ⟨_, by rw [P1.out]; rfl, by rw [ldV, if_pos P1.out, ← ld_eq (clu_ids P1.out) (clu_terms P1.out) HP.out HS.out]; exact ⟨_, R1.out, fun b hb => Nat.le_of_succ_le (HF.out b hb), ofOwn_nodup _, HB.out.trans (K1.out.toBelow HB.out.size (fun b hb => Nat.le_of_succ_le (HF.out b hb)))⟩⟩
end Go.Proofs.Ythnjcolbdoaabaa
