/- Nodes: which are good, walked: the program. -/
import Derived.Test.YtcimnhpgackciaaGnA
namespace Go.Proofs.Ytcimnhpgackciaa
open Go Go.RowKit Go.Sort
set_option linter.unusedVariables false
set_option linter.unusedSimpArgs false

set_option maxHeartbeats 4000000 in
set_option maxRecDepth 100000 in
theorem iVotes_calls (x : DRaftNode) (b : Nat) (v4 v7 v8 : Value) (w : World) (B : Box w b #[.int .i64 x.fId, .int .i64 x.fPeers, .int .i64 x.fTerm, .int .i64 x.fVote, v4, .int .i64 x.fCommit, .int .i64 x.fRole, v7, v8] 29) (g7 : kInt.S w x.fVotes v7) (hp : inR x.fPeers 1 7 = true) (hl : x.fVotes.length ≤ 1048576) :
    Calls Try.prog 43 #[.pointer (some ⟨b, 0, none⟩)] w fun e w' => e = .returned (.bool (votesN x)) ∧ Below w.heap.size w w' := by
  have G := Lib.hid g7
  obtain ⟨A, c, rfl, hc, h⟩ := g7
  have H := Lib.hid h; clear h
  have hp2 : 1 ≤ x.fPeers ∧ x.fPeers ≤ 7 := by simpa [inR] using hp
  obtain ⟨p1, p2⟩ := hp2
  have hwr : IntKind.i64.wrap (x.fPeers - 1) = x.fPeers - 1 := by rw [IntKind.wrap_i64]; omega
  have c0 := B.cell 0 (v := .int .i64 x.fId) rfl; have c1 := B.cell 1 (v := .int .i64 x.fPeers) rfl; have c2 := B.cell 2 (v := .int .i64 x.fTerm) rfl; have c3 := B.cell 3 (v := .int .i64 x.fVote) rfl; have c4 := B.cell 4 (v := v4) rfl; have c5 := B.cell 5 (v := .int .i64 x.fCommit) rfl; have c6 := B.cell 6 (v := .int .i64 x.fRole) rfl; have c7 := B.cell 7 (v := .slice A x.fVotes.length c) rfl; have c8 := B.cell 8 (v := v8) rfl
  have X := Lib.hid B
  clear B
  generalize hxs : x.fVotes = xs at *
  have HX := Lib.hid hxs; clear hxs
  cases hr : (x.fRole == 1)
  · have hr2 : (x.fRole != 1) = true := by simp [bne, hr]
    have HV := Lib.hid (show votesN x = decide ((xs.length : Int) = 0) by rw [votesN, HX.out, hr]; rfl)
    go_enter Try.func43, Try.ntmps43
    go_wp2
    go_ret
    exact ⟨by rw [HV.out]; rfl, Below.refl _ _⟩
  · have hr2 : (x.fRole != 1) = false := by simp [bne, hr]
    have HV := Lib.hid (show votesN x = (votesFrom x.fPeers none xs && hasI x.fId xs && decide (2 * (xs.length : Int) ≤ x.fPeers)) by rw [votesN, HX.out, hr]; rfl)
    go_enter Try.func43, Try.ntmps43
    go_wp2
    go_loopw [21] (fun i wr => ∃ k : Nat, k ≤ xs.length ∧ i = .int .i64 k ∧ Hid (votesFrom x.fPeers (prevV xs k) (xs.drop k) = votesFrom x.fPeers none xs) ∧ Hid (w = wr)) (fun i _ => xs.length - (intOf i).toNat)
    case atStart => exact ⟨0, Nat.zero_le _, rfl, rfl, rfl⟩
    case round =>
      obtain ⟨k, hk, rfl, HE, HW⟩ := hrel
      obtain rfl := HW.out
      by_cases hlt : k < xs.length
      · obtain ⟨bx, o, rfl, a0⟩ := int_at H.out (Below.refl _ _) k hlt
        have hd := HE.out
        have hp3 := prevV_succ hlt
        rw [List.drop_eq_getElem_cons hlt, votesFrom] at hd
        generalize he : xs[k] = y at *
        have HP := Lib.hid hp3; clear hp3
        have HG := Lib.hid he; clear he
        have HD := Lib.hid hd; clear hd HE
        have i1 : (0 : Int) ≤ (k : Int) := by omega
        have i2 : (k : Int) < (xs.length : Int) := by omega
        rcases Nat.eq_zero_or_pos k with hz | hz
        · have HQ := Lib.hid (show prevV xs k = none by rw [prevV, if_pos hz])
          have i3 : ¬ (0 : Int) < (k : Int) := by omega
          have i4 : ¬ 0 < k := by omega
          clear hz
          cases h1 : inR y 0 (x.fPeers - 1)
          · go_wp2_with (first | (with_reducible refine (iInR_calls y _ _ _).mono ?_; rintro e wq ⟨rfl, rfl⟩; rw [h1]))
            all_goals go_ret
            all_goals exact ⟨by rw [HV.out, ← HD.out, HQ.out]; simp [overI2, h1], Below.refl _ _⟩
          · go_wp2_with (first | (with_reducible refine (iInR_calls y _ _ _).mono ?_; rintro e wq ⟨rfl, rfl⟩; rw [h1]))
            all_goals exact ⟨⟨k + 1, by omega, by go_num, by rw [Hid, ← HD.out, HP.out, HQ.out]; simp [overI2, h1], trivial⟩, by simp [intOf]; omega⟩
        · have hlt2 : k - 1 < xs.length := by omega
          obtain ⟨b2, o2, e2, d0⟩ := int_at H.out (Below.refl _ _) (k - 1) hlt2
          obtain ⟨rfl, rfl⟩ : bx = b2 ∧ o = o2 := by simpa using e2
          clear e2
          have HQ := Lib.hid (prevV_pos hlt2 (by omega))
          generalize xs[k - 1] = z at *
          have i3 : (0 : Int) < (k : Int) := by omega
          obtain ⟨m, rfl⟩ : ∃ m, k = m + 1 := ⟨k - 1, by omega⟩
          rw [Nat.add_sub_cancel] at d0
          have i4 : ((m + 1 : Nat) : Int) - 1 = (m : Int) := by omega
          have i5 : IntKind.i64.wrap (m : Int) = (m : Int) := by rw [IntKind.wrap_i64]; omega
          cases h1 : inR y 0 (x.fPeers - 1)
          · go_wp2_with (first | (with_reducible refine (iInR_calls y _ _ _).mono ?_; rintro e wq ⟨rfl, rfl⟩; rw [h1]))
            all_goals go_ret
            all_goals exact ⟨by rw [HV.out, ← HD.out, HQ.out]; simp [overI2, h1], Below.refl _ _⟩
          · by_cases h2 : z < y
            · go_wp2_with (first | (with_reducible refine (iInR_calls y _ _ _).mono ?_; rintro e wq ⟨rfl, rfl⟩; rw [h1]))
              all_goals exact ⟨⟨m + 1 + 1, by omega, by go_num, by rw [Hid, ← HD.out, HP.out, HQ.out]; simp [overI2, h1, h2], trivial⟩, by simp [intOf]; omega⟩
            · have h2' : y ≤ z := by omega
              go_wp2_with (first | (with_reducible refine (iInR_calls y _ _ _).mono ?_; rintro e wq ⟨rfl, rfl⟩; rw [h1]))
              all_goals go_ret
              all_goals exact ⟨by rw [HV.out, ← HD.out, HQ.out]; simp [overI2, h1, show ¬ z < y by omega], Below.refl _ _⟩
      · obtain rfl : k = xs.length := by omega
        have hE := HE.out
        rw [List.drop_length, votesFrom] at hE
        have HE2 := Lib.hid hE; clear hE HE
        have hwl : IntKind.i64.wrap (2 * (xs.length : Int)) = 2 * xs.length := by rw [IntKind.wrap_i64]; omega
        have r0 := regr (Below.refl _ _) X.out.lt c0
        have r1 := regr (Below.refl _ _) X.out.lt c1
        have r7 := regr (Below.refl _ _) X.out.lt c7
        go_upto_region 9 with fail
        cases h1 : hasI x.fId xs
        · refine wp_region_quiet_below (by kernel_rfl) (by kernel_rfl) ?_
          have c_h1 : ∀ W : World, Below w.heap.size w W → Calls Try.prog 52 #[.slice A xs.length c, .int .i64 x.fId] W (fun e w' => e = .returned (.bool false) ∧ Below W.heap.size W w') := fun W hW => (conI_calls xs _ x.fId W (Rp.S_below G.out hW) (by omega)).mono (fun e w' h => ⟨by rw [h.1, h1], h.2⟩)
          repeat (go_big_quiet_step (first | (with_reducible exact Calls.regrown_of (c_h1 _ (below_regrown _ _ _)))))
          refine wpQuiet_nil ?_
          rintro w2 ⟨p, rfl⟩
          go_wp2
          go_ret
          exact ⟨by rw [HV.out, h1]; simp, below_regrown _ _ _⟩
        · refine wp_region_quiet_below (by kernel_rfl) (by kernel_rfl) ?_
          have c_h1 : ∀ W : World, Below w.heap.size w W → Calls Try.prog 52 #[.slice A xs.length c, .int .i64 x.fId] W (fun e w' => e = .returned (.bool true) ∧ Below W.heap.size W w') := fun W hW => (conI_calls xs _ x.fId W (Rp.S_below G.out hW) (by omega)).mono (fun e w' h => ⟨by rw [h.1, h1], h.2⟩)
          have c_h2 : ∀ W : World, Below w.heap.size w W → Calls Try.prog 47 #[.pointer (some ⟨b, 0, none⟩), .int .i64 xs.length] W (fun e w' => e = .returned (.bool (decide (x.fPeers < 2 * (xs.length : Int)))) ∧ Below W.heap.size W w') := fun W hW => (iHalf_calls _ x.fPeers b W ((X.out.below hW).cell 1 rfl) (by omega) (by omega)).mono (fun e w' h => ⟨h.1, by rw [h.2]; exact Below.refl _ _⟩)
          repeat (go_big_quiet_step (first | (with_reducible exact Calls.regrown_of (c_h1 _ (below_regrown _ _ _))) | (with_reducible exact Calls.regrown_of (c_h2 _ (below_regrown _ _ _)))))
          refine wpQuiet_nil ?_
          rintro w2 ⟨p, rfl⟩
          go_wp2
          go_ret
          exact ⟨by rw [HV.out, h1, ← HE2.out]; refine ret_bool ?_; rw [Bool.true_and, Bool.true_and, Bool.eq_iff_iff]; simp; try omega, below_regrown _ _ _⟩

set_option maxHeartbeats 4000000 in
set_option maxRecDepth 100000 in
theorem iMatch_calls (x : DRaftNode) (b : Nat) (v4 v7 v8 : Value) (w : World) (B : Box w b #[.int .i64 x.fId, .int .i64 x.fPeers, .int .i64 x.fTerm, .int .i64 x.fVote, v4, .int .i64 x.fCommit, .int .i64 x.fRole, v7, v8] 29) (g4 : kEntry.S w x.fLog v4) (g8 : kInt.S w x.fMatch v8) (hi : inR x.fId 0 (x.fPeers - 1) = true) (hl : x.fMatch.length ≤ 1048576) :
    Calls Try.prog 44 #[.pointer (some ⟨b, 0, none⟩)] w fun e w' => e = .returned (.bool (matchN x)) ∧ Below w.heap.size w w' := by
  obtain ⟨A4, d4, rfl, _, _⟩ := g4
  have G := Lib.hid g8
  obtain ⟨A, c, rfl, hc, h⟩ := g8
  have H := Lib.hid h; clear h
  have hi2 : 0 ≤ x.fId ∧ x.fId ≤ x.fPeers - 1 := by simpa [inR] using hi
  obtain ⟨p1, p2⟩ := hi2
  have HB := Lib.hid ((Below.refl w.heap.size w).alloc (Nat.le_refl _) (.cells #[.pointer (some ⟨b, 0, none⟩)] 64))
  have BP : Box (w.alloc (.cells #[.pointer (some ⟨b, 0, none⟩)] 64)) w.heap.size #[.pointer (some ⟨b, 0, none⟩)] 64 := Box.new rfl
  have B1 := Box.below B HB.out
  generalize hxs : x.fMatch = xs at *
  have HX := Lib.hid hxs; clear hxs
  generalize hn : x.fLog.length = n at *
  have HN := Lib.hid hn; clear hn
  clear B
  cases hr : (x.fRole == 2)
  · have hr2 : (x.fRole != 2) = true := by simp [bne, hr]
    have HV := Lib.hid (show matchN x = decide ((xs.length : Int) = 0) by rw [matchN, HX.out, hr]; rfl)
    go_enter Try.func44, Try.ntmps44
    go_upto_region 1 with fail
    generalize w.alloc (.cells #[.pointer (some ⟨b, 0, none⟩)] 64) = w1 at *
    have q0 := BP.cell 0 (v := .pointer (some ⟨b, 0, none⟩)) rfl
    have c6 := B1.cell 6 (v := .int .i64 x.fRole) rfl
    have c8 := B1.cell 8 (v := .slice A xs.length c) rfl
    go_wp2
    go_ret
    exact ⟨by rw [HV.out]; rfl, HB.out⟩
  · have hr2 : (x.fRole != 2) = false := by simp [bne, hr]
    have HV := Lib.hid (show matchN x = (decide ((xs.length : Int) = x.fPeers) && (atI xs x.fId == (n : Int)) && !outI n xs) by rw [matchN, HX.out, HN.out, hr]; rfl)
    by_cases h1 : (xs.length : Int) = x.fPeers
    case neg =>
      have h1' : ((xs.length : Int) == x.fPeers) = false := by simpa using h1
      have h1'' : ((xs.length : Int) != x.fPeers) = true := by simp [bne, h1']
      have HF := Lib.hid (show matchN x = false by rw [HV.out, decide_eq_false h1]; rfl)
      clear HV
      go_enter Try.func44, Try.ntmps44
      go_upto_region 1 with fail
      generalize w.alloc (.cells #[.pointer (some ⟨b, 0, none⟩)] 64) = w1 at *
      have q0 := BP.cell 0 (v := .pointer (some ⟨b, 0, none⟩)) rfl
      have c1 := B1.cell 1 (v := .int .i64 x.fPeers) rfl
      have c6 := B1.cell 6 (v := .int .i64 x.fRole) rfl
      have c8 := B1.cell 8 (v := .slice A xs.length c) rfl
      have r0 := regr (Below.refl _ _) BP.lt q0
      have r1 := regr (Below.refl _ _) B1.lt c1
      have r8 := regr (Below.refl _ _) B1.lt c8
      go_upto_region 3 with fail
      refine wp_region_quiet_below (by kernel_rfl) (by kernel_rfl) ?_
      repeat (go_big_quiet_step (fail))
      refine wpQuiet_nil ?_
      rintro w2 ⟨p, rfl⟩
      go_wp2
      go_ret
      exact ⟨by rw [HF.out]; rfl, HB.out.trans ((below_regrown _ _ _).mono HB.out.size)⟩
    case pos =>
      have h1' : ((xs.length : Int) == x.fPeers) = true := by simpa using h1
      obtain ⟨k, hk⟩ : ∃ k : Nat, x.fId = k := ⟨x.fId.toNat, by omega⟩
      have hlt : k < xs.length := by omega
      obtain ⟨bx, ox, rfl, a0⟩ := int_at H.out HB.out k hlt
      have hat : atI xs x.fId = xs[k] := by rw [atI, hk, Int.toNat_natCast, List.getD_eq_getElem?_getD, List.getElem?_eq_getElem hlt]; rfl
      have HV2 := Lib.hid (show matchN x = ((xs[k] == (n : Int)) && !outI n xs) by rw [HV.out, hat, decide_eq_true h1, Bool.true_and])
      clear HV hat
      generalize xs[k] = y at *
      have i1 : (0 : Int) ≤ (k : Int) := by omega
      have i2 : (k : Int) < (xs.length : Int) := by omega
      cases h2 : (y == (n : Int))
      · have HF := Lib.hid (show matchN x = false by rw [HV2.out, h2]; rfl)
        clear HV2
        go_enter Try.func44, Try.ntmps44
        go_upto_region 1 with fail
        generalize w.alloc (.cells #[.pointer (some ⟨b, 0, none⟩)] 64) = w1 at *
        have q0 := BP.cell 0 (v := .pointer (some ⟨b, 0, none⟩)) rfl
        have c0 := B1.cell 0 (v := .int .i64 k) (by rw [← hk]; rfl)
        have c1 := B1.cell 1 (v := .int .i64 x.fPeers) rfl
        have c4 := B1.cell 4 (v := .slice A4 n d4) rfl
        have c6 := B1.cell 6 (v := .int .i64 x.fRole) rfl
        have c8 := B1.cell 8 (v := .slice (some ⟨bx, ox, none⟩) xs.length c) rfl
        have r0 := regr (Below.refl _ _) BP.lt q0
        have s0 := regr (Below.refl _ _) B1.lt c0
        have s1 := regr (Below.refl _ _) B1.lt c1
        have s4 := regr (Below.refl _ _) B1.lt c4
        have s8 := regr (Below.refl _ _) B1.lt c8
        have t0 := regr (Below.refl _ _) (World.block_lt_of_cell? w1 _ a0) a0
        go_upto_region 3 with fail
        refine wp_region_quiet_below (by kernel_rfl) (by kernel_rfl) ?_
        repeat (go_big_quiet_step (fail))
        refine wpQuiet_nil ?_
        rintro w2 ⟨p, rfl⟩
        go_wp2
        go_ret
        exact ⟨by rw [HF.out]; rfl, HB.out.trans ((below_regrown _ _ _).mono HB.out.size)⟩
      · have HF := Lib.hid (show matchN x = !outI n xs by rw [HV2.out, h2]; rfl)
        clear HV2
        go_enter Try.func44, Try.ntmps44
        go_upto_region 1 with fail
        generalize w.alloc (.cells #[.pointer (some ⟨b, 0, none⟩)] 64) = w1 at *
        have q0 := BP.cell 0 (v := .pointer (some ⟨b, 0, none⟩)) rfl
        have c0 := B1.cell 0 (v := .int .i64 k) (by rw [← hk]; rfl)
        have c1 := B1.cell 1 (v := .int .i64 x.fPeers) rfl
        have c4 := B1.cell 4 (v := .slice A4 n d4) rfl
        have c6 := B1.cell 6 (v := .int .i64 x.fRole) rfl
        have c8 := B1.cell 8 (v := .slice (some ⟨bx, ox, none⟩) xs.length c) rfl
        have r0 := regr (Below.refl _ _) BP.lt q0
        have s0 := regr (Below.refl _ _) B1.lt c0
        have s1 := regr (Below.refl _ _) B1.lt c1
        have s4 := regr (Below.refl _ _) B1.lt c4
        have s8 := regr (Below.refl _ _) B1.lt c8
        have t0 := regr (Below.refl _ _) (World.block_lt_of_cell? w1 _ a0) a0
        go_upto_region 3 with fail
        refine wp_region_quiet_below (by kernel_rfl) (by kernel_rfl) ?_
        repeat (go_big_quiet_step (fail))
        refine wpQuiet_nil ?_
        rintro w2 ⟨p, rfl⟩
        have hb2 := below_regrown w1 p.d p.os
        have HB2 := Lib.hid (HB.out.trans (hb2.mono HB.out.size))
        replace BP := BP.below hb2
        replace B1 := B1.below hb2
        clear q0 c0 c1 c4 c6 c8 r0 s0 s1 s4 s8 t0 hb2
        generalize grow (redrawn w1 p.d) p.os = w2 at *
        have q0 := BP.cell 0 (v := .pointer (some ⟨b, 0, none⟩)) rfl
        have c4 := B1.cell 4 (v := .slice A4 n d4) rfl
        have c8 := B1.cell 8 (v := .slice (some ⟨bx, ox, none⟩) xs.length c) rfl
        go_wp2_with ((with_reducible refine (conM_calls xs _ w.heap.size b n d4 A4 _ (Rp.S_below G.out HB2.out) (by omega) q0 c4).mono ?_); rintro e w3 ⟨rfl, hb3⟩; have HB3 := Lib.hid (HB2.out.trans (hb3.mono HB2.out.size)); clear hb3)
        go_ret
        exact ⟨by rw [HF.out]; rfl, HB3.out⟩

end Go.Proofs.Ytcimnhpgackciaa
