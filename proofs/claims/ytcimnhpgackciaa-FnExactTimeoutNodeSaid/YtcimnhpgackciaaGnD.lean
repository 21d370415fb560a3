/- Nodes: which are good, walked: the reference. -/
import Derived.Test.YtcimnhpgackciaaGnC
namespace Go.Proofs.Ytcimnhpgackciaa
open Go Go.RowKit Go.Sort
set_option linter.unusedVariables false
set_option linter.unusedSimpArgs false

def vB (x : DRaftNode) : Bool := if x.fRole == 1 then hasI x.fId x.fVotes && decide (2 * (x.fVotes.length : Int) ≤ x.fPeers) else decide ((x.fVotes.length : Int) = 0)
theorem votesN_of {x : DRaftNode} (h : vB x = true) : votesN x = votesFrom x.fPeers none x.fVotes := by
  rw [votesN]
  rw [vB] at h
  split at h
  · rename_i hr
    rw [if_pos hr]
    simp only [Bool.and_eq_true, decide_eq_true_eq] at h
    simp [h.1, h.2]
  · rename_i hr
    rw [if_neg hr]
    have h0 : x.fVotes = [] := by simpa using h
    rw [h0]; rfl
theorem votesN_no {x : DRaftNode} (h : vB x = false) : votesN x = false := by
  rw [votesN]
  rw [vB] at h
  split at h
  · rename_i hr
    rw [if_pos hr, Bool.and_assoc, h, Bool.and_false]
  · rename_i hr
    rw [if_neg hr, h]
set_option maxHeartbeats 8000000 in
set_option maxRecDepth 100000 in
theorem sGoodNode_calls (x : DRaftNode) (v4 v7 v8 : Value) (w : World) (g4 : kEntry.S w x.fLog v4) (g7 : kInt.S w x.fVotes v7) (g8 : kInt.S w x.fMatch v8) (hl : smRaftNode 1048576 x) : Calls Try.prog 16 #[.agg #[.int .i64 x.fId, .int .i64 x.fPeers, .int .i64 x.fTerm, .int .i64 x.fVote, v4, .int .i64 x.fCommit, .int .i64 x.fRole, v7, v8]] w
    fun e w' => e = .returned (.bool (nodeOk x)) ∧ Below w.heap.size w w' := by
  have G4 := Lib.hid g4; have G7 := Lib.hid g7; have G8 := Lib.hid g8
  obtain ⟨A4, d4, rfl, _, _⟩ := g4
  obtain ⟨A7, d7, rfl, _, _⟩ := g7
  obtain ⟨A8, d8, rfl, _, _⟩ := g8
  obtain ⟨l4, l7, l8⟩ := hl
  have HP : Hid (inR x.fPeers 1 7 = false ∨ inR x.fPeers 1 7 = true ∧ IntKind.i64.wrap (x.fPeers - 1) = x.fPeers - 1) := by
    show _ ∨ _
    cases h : inR x.fPeers 1 7
    · exact .inl rfl
    · have h2 : 1 ≤ x.fPeers ∧ x.fPeers ≤ 7 := by simpa [inR] using h
      exact .inr ⟨rfl, by rw [IntKind.wrap_i64]; omega⟩
  have HD5 : Hid ((decide ((x.fLog.length : Int) ≤ 60) && entFrom x.fTerm none x.fLog && inR x.fCommit 0 x.fLog.length && inR x.fRole 0 2) = ((entS x.fTerm 1 x.fLog && decide (x.fLog.length ≤ 60)) && inR x.fCommit 0 x.fLog.length && inR x.fRole 0 2)) := by
    show _ = _
    rw [entS_none, Bool.and_comm (decide _)]
    congr 4
    apply propext
    omega
  go_enter Try.func16, Try.ntmps16
  go_upto_region 1 with fail
  have XB := Lib.hid (Box.new (w := w) (cs := #[.int .i64 x.fId, .int .i64 x.fPeers, .int .i64 x.fTerm, .int .i64 x.fVote, .slice A4 x.fLog.length d4, .int .i64 x.fCommit, .int .i64 x.fRole, .slice A7 x.fVotes.length d7, .slice A8 x.fMatch.length d8]) (T := 29) (b := w.heap.size) rfl)
  have HC := Lib.hid ((Below.refl w.heap.size w).alloc (Nat.le_refl _) (.cells #[.int .i64 x.fId, .int .i64 x.fPeers, .int .i64 x.fTerm, .int .i64 x.fVote, .slice A4 x.fLog.length d4, .int .i64 x.fCommit, .int .i64 x.fRole, .slice A7 x.fVotes.length d7, .slice A8 x.fMatch.length d8] 29))
  generalize w.alloc (.cells #[.int .i64 x.fId, .int .i64 x.fPeers, .int .i64 x.fTerm, .int .i64 x.fVote, .slice A4 x.fLog.length d4, .int .i64 x.fCommit, .int .i64 x.fRole, .slice A7 x.fVotes.length d7, .slice A8 x.fMatch.length d8] 29) = w1 at *
  have c0 := XB.out.cell 0 (v := .int .i64 x.fId) rfl; have c1 := XB.out.cell 1 (v := .int .i64 x.fPeers) rfl; have c2 := XB.out.cell 2 (v := .int .i64 x.fTerm) rfl; have c3 := XB.out.cell 3 (v := .int .i64 x.fVote) rfl; have c4 := XB.out.cell 4 (v := .slice A4 x.fLog.length d4) rfl; have c5 := XB.out.cell 5 (v := .int .i64 x.fCommit) rfl; have c6 := XB.out.cell 6 (v := .int .i64 x.fRole) rfl; have c7 := XB.out.cell 7 (v := .slice A7 x.fVotes.length d7) rfl; have c8 := XB.out.cell 8 (v := .slice A8 x.fMatch.length d8) rfl
  go_cut [57] from 7 to 57 (fun s wx => (Below w.heap.size w wx ∧ Box wx w.heap.size #[.int .i64 x.fId, .int .i64 x.fPeers, .int .i64 x.fTerm, .int .i64 x.fVote, .slice A4 x.fLog.length d4, .int .i64 x.fCommit, .int .i64 x.fRole, .slice A7 x.fVotes.length d7, .slice A8 x.fMatch.length d8] 29) ∧ s = .bool (!(headN x && logN x)))
  case first =>
    go_wp2_with (first | (go_at_call 34; (with_reducible refine (sPeers_calls x.fPeers _).mono ?_); rintro e wq ⟨rfl, rfl⟩; refine HP.out.elim (fun h1 => ?_) (fun ⟨h1, hwr⟩ => ?_) <;> rw [h1]) | (with_reducible refine (sInR_calls x.fId _ _ _).mono ?_; rintro e wq ⟨rfl, rfl⟩; cases h2 : inR x.fId 0 (x.fPeers - 1)) | (with_reducible refine (sInR_calls x.fTerm _ _ _).mono ?_; rintro e wq ⟨rfl, rfl⟩; cases h3 : inR x.fTerm 0 1000) | (with_reducible refine (sInR_calls x.fVote _ _ _).mono ?_; rintro e wq ⟨rfl, rfl⟩; cases h4 : inR x.fVote (-1) (x.fPeers - 1)) | (go_at_call 36; (with_reducible refine (sEntries_calls x.fLog 1 x.fTerm _ _ (Rp.S_below G4.out HC.out) (by omega)).mono ?_); rintro e wq ⟨rfl, hb⟩; cases h5 : (entS x.fTerm 1 x.fLog && decide (x.fLog.length ≤ 60)) <;> (have XB := Lib.hid (XB.out.below hb); have HC := Lib.hid (HC.out.trans (hb.mono HC.out.size)); clear hb c0 c1 c2 c3 c4 c5 c6 c7 c8; have c0 := XB.out.cell 0 (v := .int .i64 x.fId) rfl; have c1 := XB.out.cell 1 (v := .int .i64 x.fPeers) rfl; have c2 := XB.out.cell 2 (v := .int .i64 x.fTerm) rfl; have c3 := XB.out.cell 3 (v := .int .i64 x.fVote) rfl; have c4 := XB.out.cell 4 (v := .slice A4 x.fLog.length d4) rfl; have c5 := XB.out.cell 5 (v := .int .i64 x.fCommit) rfl; have c6 := XB.out.cell 6 (v := .int .i64 x.fRole) rfl; have c7 := XB.out.cell 7 (v := .slice A7 x.fVotes.length d7) rfl; have c8 := XB.out.cell 8 (v := .slice A8 x.fMatch.length d8) rfl)) | (with_reducible refine (sInR_calls x.fCommit _ _ _).mono ?_; rintro e wq ⟨rfl, rfl⟩; cases h6 : inR x.fCommit 0 x.fLog.length) | (with_reducible refine (sInR_calls x.fRole _ _ _).mono ?_; rintro e wq ⟨rfl, rfl⟩; cases h7 : inR x.fRole 0 2))
    all_goals (go_meet; go_light)
    all_goals refine ⟨⟨HC.out, XB.out⟩, ?_⟩
    all_goals clear c0 c1 c2 c3 c4 c5 c6 c7 c8 XB HC
    all_goals first
      | (congr 1; rw [headN, logN, HD5.out]; simp [*]; done)
      | (congr 1; rw [headN, logN, HD5.out]; simp_all; done)
  case rest =>
    obtain ⟨⟨hcc, hbx⟩, rfl⟩ := hcut
    clear HC XB c0 c1 c2 c3 c4 c5 c6 c7 c8
    have HC := Lib.hid hcc; have XB := Lib.hid hbx
    clear hcc hbx
    have c0 := XB.out.cell 0 (v := .int .i64 x.fId) rfl; have c1 := XB.out.cell 1 (v := .int .i64 x.fPeers) rfl; have c2 := XB.out.cell 2 (v := .int .i64 x.fTerm) rfl; have c3 := XB.out.cell 3 (v := .int .i64 x.fVote) rfl; have c4 := XB.out.cell 4 (v := .slice A4 x.fLog.length d4) rfl; have c5 := XB.out.cell 5 (v := .int .i64 x.fCommit) rfl; have c6 := XB.out.cell 6 (v := .int .i64 x.fRole) rfl; have c7 := XB.out.cell 7 (v := .slice A7 x.fVotes.length d7) rfl; have c8 := XB.out.cell 8 (v := .slice A8 x.fMatch.length d8) rfl
    cases hg : (headN x && logN x) <;> simp only [Bool.not_true, Bool.not_false]
    · go_wp2
      go_ret
      exact ⟨ret_bool (by rw [nodeOk, hg]; simp), HC.out⟩
    have HN := Lib.hid (show nodeOk x = (roleN x && votesN x && matchN x) by rw [nodeOk, hg, Bool.true_and])
    have hq : inR x.fPeers 1 7 = true ∧ inR x.fId 0 (x.fPeers - 1) = true ∧ inR x.fTerm 0 1000 = true := by
      simp only [headN, Bool.and_eq_true] at hg
      exact ⟨hg.1.1.1.1, hg.1.1.1.2, hg.1.1.2⟩
    clear hg HD5
    obtain ⟨q1, q2, q3⟩ := hq
    have q4 : 1 ≤ x.fPeers ∧ x.fPeers ≤ 7 := by simpa [inR] using q1
    have q5 : 0 ≤ x.fId ∧ x.fId ≤ x.fPeers - 1 := by simpa [inR] using q2
    have q6 : 0 ≤ x.fTerm ∧ x.fTerm ≤ 1000 := by simpa [inR] using q3
    obtain ⟨p1, p2⟩ := q4
    obtain ⟨p3, p4⟩ := q5
    obtain ⟨p5, p6⟩ := q6
    clear q1 q2 q3 HP
    have hwr : IntKind.i64.wrap (x.fPeers - 1) = x.fPeers - 1 := by rw [IntKind.wrap_i64]; omega
    go_upto_region 3 with fail
    go_cut [72] from 58 to 72 (fun s wx => (Below w.heap.size w wx ∧ Box wx w.heap.size #[.int .i64 x.fId, .int .i64 x.fPeers, .int .i64 x.fTerm, .int .i64 x.fVote, .slice A4 x.fLog.length d4, .int .i64 x.fCommit, .int .i64 x.fRole, .slice A7 x.fVotes.length d7, .slice A8 x.fMatch.length d8] 29) ∧ s = .bool (!roleN x))
    case first =>
      have hd : decide (1 ≤ x.fTerm) = !(x.fTerm == 0) := by
        by_cases h : x.fTerm = 0
        · simp [h]
        · have : 1 ≤ x.fTerm := by omega
          simp [h, this]
      cases e1 : (x.fRole != 0) <;> cases e2 : (x.fVote != x.fId) <;> cases e3 : (x.fTerm == 0)
      all_goals go_wp2
      all_goals (go_meet; go_light)
      all_goals refine ⟨⟨HC.out, XB.out⟩, ?_⟩
      all_goals clear c0 c1 c2 c3 c4 c5 c6 c7 c8 XB HC
      all_goals (congr 1; rw [roleN, hd])
      all_goals (simp_all [bne]; done)
    case rest =>
    obtain ⟨⟨hcc, hbx⟩, rfl⟩ := hcut
    clear HC XB c0 c1 c2 c3 c4 c5 c6 c7 c8
    have HC := Lib.hid hcc; have XB := Lib.hid hbx
    clear hcc hbx
    have c0 := XB.out.cell 0 (v := .int .i64 x.fId) rfl; have c1 := XB.out.cell 1 (v := .int .i64 x.fPeers) rfl; have c2 := XB.out.cell 2 (v := .int .i64 x.fTerm) rfl; have c3 := XB.out.cell 3 (v := .int .i64 x.fVote) rfl; have c4 := XB.out.cell 4 (v := .slice A4 x.fLog.length d4) rfl; have c5 := XB.out.cell 5 (v := .int .i64 x.fCommit) rfl; have c6 := XB.out.cell 6 (v := .int .i64 x.fRole) rfl; have c7 := XB.out.cell 7 (v := .slice A7 x.fVotes.length d7) rfl; have c8 := XB.out.cell 8 (v := .slice A8 x.fMatch.length d8) rfl
    cases hr0 : roleN x <;> simp only [Bool.not_true, Bool.not_false]
    · go_wp2
      go_ret
      exact ⟨ret_bool (by rw [HN.out, hr0]; rfl), HC.out⟩
    have HN2 := Lib.hid (show nodeOk x = (votesN x && matchN x) by rw [HN.out, hr0, Bool.true_and])
    clear hr0 HN
    have hwl : IntKind.i64.wrap (2 * (x.fVotes.length : Int)) = 2 * x.fVotes.length := by rw [IntKind.wrap_i64]; omega
    go_upto_region 5 with fail
    go_cut [103] from 73 to 103 (fun s wx => (Below w.heap.size w wx ∧ Box wx w.heap.size #[.int .i64 x.fId, .int .i64 x.fPeers, .int .i64 x.fTerm, .int .i64 x.fVote, .slice A4 x.fLog.length d4, .int .i64 x.fCommit, .int .i64 x.fRole, .slice A7 x.fVotes.length d7, .slice A8 x.fMatch.length d8] 29) ∧ s = .bool (!vB x))
    case first =>
      cases e1 : (x.fRole == 1)
      all_goals have e2 : (x.fRole != 1) = !(x.fRole == 1) := rfl
      all_goals rw [e1] at e2
      all_goals simp only [Bool.not_true, Bool.not_false] at e2
      all_goals go_wp2_with (first | (go_at_call 37; (with_reducible refine (sHasI_calls x.fVotes _ x.fId _ (Rp.S_below G7.out HC.out) (by omega)).mono ?_); rintro e wq ⟨rfl, hb⟩; cases h5 : hasI x.fId x.fVotes <;> (have XB := Lib.hid (XB.out.below hb); have HC := Lib.hid (HC.out.trans (hb.mono HC.out.size)); clear hb c0 c1 c2 c3 c4 c5 c6 c7 c8; have c0 := XB.out.cell 0 (v := .int .i64 x.fId) rfl; have c1 := XB.out.cell 1 (v := .int .i64 x.fPeers) rfl; have c2 := XB.out.cell 2 (v := .int .i64 x.fTerm) rfl; have c3 := XB.out.cell 3 (v := .int .i64 x.fVote) rfl; have c4 := XB.out.cell 4 (v := .slice A4 x.fLog.length d4) rfl; have c5 := XB.out.cell 5 (v := .int .i64 x.fCommit) rfl; have c6 := XB.out.cell 6 (v := .int .i64 x.fRole) rfl; have c7 := XB.out.cell 7 (v := .slice A7 x.fVotes.length d7) rfl; have c8 := XB.out.cell 8 (v := .slice A8 x.fMatch.length d8) rfl)))
      all_goals (go_meet; go_light)
      all_goals refine ⟨⟨HC.out, XB.out⟩, ?_⟩
      all_goals clear c0 c1 c2 c3 c4 c5 c6 c7 c8 XB HC
      all_goals (congr 1; rw [vB, e1])
      all_goals simp only [if_true, if_false, Bool.false_eq_true]
      all_goals clear G7 hwl
      all_goals generalize x.fVotes.length = nv at *
      all_goals first
        | (simp [*]; done)
        | (simp [*]; omega)
        | (rw [Bool.eq_iff_iff]; simp [*]; omega)
    case rest =>
    obtain ⟨⟨hcc, hbx⟩, rfl⟩ := hcut
    clear HC XB c0 c1 c2 c3 c4 c5 c6 c7 c8
    have HC := Lib.hid hcc; have XB := Lib.hid hbx
    clear hcc hbx
    have c0 := XB.out.cell 0 (v := .int .i64 x.fId) rfl; have c1 := XB.out.cell 1 (v := .int .i64 x.fPeers) rfl; have c2 := XB.out.cell 2 (v := .int .i64 x.fTerm) rfl; have c3 := XB.out.cell 3 (v := .int .i64 x.fVote) rfl; have c4 := XB.out.cell 4 (v := .slice A4 x.fLog.length d4) rfl; have c5 := XB.out.cell 5 (v := .int .i64 x.fCommit) rfl; have c6 := XB.out.cell 6 (v := .int .i64 x.fRole) rfl; have c7 := XB.out.cell 7 (v := .slice A7 x.fVotes.length d7) rfl; have c8 := XB.out.cell 8 (v := .slice A8 x.fMatch.length d8) rfl
    cases hv : vB x <;> simp only [Bool.not_true, Bool.not_false]
    · go_wp2
      go_ret
      exact ⟨ret_bool (by rw [HN2.out, votesN_no hv]; rfl), HC.out⟩
    have HV := Lib.hid (votesN_of hv)
    clear hv hwl
    obtain ⟨A7', d7', e7, _, H7⟩ := G7.out
    obtain ⟨rfl, _, rfl⟩ : A7 = A7' ∧ True ∧ d7 = d7' := by simpa using e7
    clear e7
    have H := Lib.hid H7; clear H7
    generalize hxs : x.fVotes = xs at *
    have HX := Lib.hid hxs; clear hxs
    go_wp2
    go_loopw [107] (fun i wr => ∃ k : Nat, k ≤ xs.length ∧ i = .int .i64 k ∧ Hid (votesFrom x.fPeers (prevV xs k) (xs.drop k) = votesFrom x.fPeers none xs) ∧ Hid (wc = wr)) (fun i _ => xs.length - (intOf i).toNat)
    case atStart => exact ⟨0, Nat.zero_le _, rfl, rfl, rfl⟩
    case round =>
      obtain ⟨k, hk, rfl, HE, HW⟩ := hrel
      obtain rfl := HW.out
      by_cases hlt : k < xs.length
      · obtain ⟨bx, o, rfl, a0⟩ := int_at H.out HC.out k hlt
        have hd := HE.out
        have hp3 := prevV_succ hlt
        rw [List.drop_eq_getElem_cons hlt, votesFrom] at hd
        generalize he : xs[k] = y at *
        have HP := Lib.hid hp3; clear hp3
        have HG := Lib.hid he; clear he
        have HD := Lib.hid hd; clear hd HE
        have i1 : (0 : Int) ≤ (k : Int) := by omega
        have i2 : (k : Int) < (xs.length : Int) := by omega
        rcases Nat.eq_zero_or_pos k with hz | hz
        · have HQ := Lib.hid (show prevV xs k = none by rw [prevV, if_pos hz])
          have i3 : ¬ (0 : Int) < (k : Int) := by omega
          have i4 : ¬ 0 < k := by omega
          clear hz
          cases h1 : inR y 0 (x.fPeers - 1)
          · go_wp2_with (first | (with_reducible refine (sInR_calls y _ _ _).mono ?_; rintro e wq ⟨rfl, rfl⟩; rw [h1]))
            all_goals go_ret
            all_goals exact ⟨ret_bool (by rw [HN2.out, HV.out, ← HD.out, HQ.out]; simp [overI2, h1]), HC.out⟩
          · go_wp2_with (first | (with_reducible refine (sInR_calls y _ _ _).mono ?_; rintro e wq ⟨rfl, rfl⟩; rw [h1]))
            all_goals exact ⟨⟨k + 1, by omega, by go_num, by rw [Hid, ← HD.out, HP.out, HQ.out]; simp [overI2, h1], trivial⟩, by simp [intOf]; omega⟩
        · have hlt2 : k - 1 < xs.length := by omega
          obtain ⟨b2, o2, e2, d0⟩ := int_at H.out HC.out (k - 1) hlt2
          obtain ⟨rfl, rfl⟩ : bx = b2 ∧ o = o2 := by simpa using e2
          clear e2
          have HQ := Lib.hid (prevV_pos hlt2 (by omega))
          generalize xs[k - 1] = z at *
          have i3 : (0 : Int) < (k : Int) := by omega
          obtain ⟨m, rfl⟩ : ∃ m, k = m + 1 := ⟨k - 1, by omega⟩
          rw [Nat.add_sub_cancel] at d0
          have i4 : ((m + 1 : Nat) : Int) - 1 = (m : Int) := by omega
          have i5 : IntKind.i64.wrap (m : Int) = (m : Int) := by rw [IntKind.wrap_i64]; omega
          cases h1 : inR y 0 (x.fPeers - 1)
          · go_wp2_with (first | (with_reducible refine (sInR_calls y _ _ _).mono ?_; rintro e wq ⟨rfl, rfl⟩; rw [h1]))
            all_goals go_ret
            all_goals exact ⟨ret_bool (by rw [HN2.out, HV.out, ← HD.out, HQ.out]; simp [overI2, h1]), HC.out⟩
          · by_cases h2 : z < y
            · go_wp2_with (first | (with_reducible refine (sInR_calls y _ _ _).mono ?_; rintro e wq ⟨rfl, rfl⟩; rw [h1]))
              all_goals exact ⟨⟨m + 1 + 1, by omega, by go_num, by rw [Hid, ← HD.out, HP.out, HQ.out]; simp [overI2, h1, h2], trivial⟩, by simp [intOf]; omega⟩
            · have h2' : y ≤ z := by omega
              go_wp2_with (first | (with_reducible refine (sInR_calls y _ _ _).mono ?_; rintro e wq ⟨rfl, rfl⟩; rw [h1]))
              all_goals go_ret
              all_goals exact ⟨ret_bool (by rw [HN2.out, HV.out, ← HD.out, HQ.out]; simp [overI2, h1, show ¬ z < y by omega]), HC.out⟩
      · obtain rfl : k = xs.length := by omega
        have hE := HE.out
        rw [List.drop_length, votesFrom] at hE
        have HN3 := Lib.hid (show nodeOk x = matchN x by rw [HN2.out, HV.out, ← hE, Bool.true_and])
        clear hE HE HN2 HV H hk
        obtain ⟨A8', d8', e8, _, H8⟩ := G8.out
        obtain ⟨rfl, _, rfl⟩ : A8 = A8' ∧ True ∧ d8 = d8' := by simpa using e8
        clear e8
        have H := Lib.hid H8; clear H8
        generalize hms : x.fMatch = ms at *
        have HM := Lib.hid hms; clear hms
        generalize hn : x.fLog.length = n at *
        have HNn := Lib.hid hn; clear hn
        cases hr : (x.fRole == 2)
        · have hr2 : (x.fRole != 2) = true := by simp [bne, hr]
          have HF := Lib.hid (show nodeOk x = decide ((ms.length : Int) = 0) by rw [HN3.out, matchN, HM.out, hr]; rfl)
          go_wp2
          go_ret
          exact ⟨ret_bool (by rw [HF.out]; rfl), HC.out⟩
        · have hr2 : (x.fRole != 2) = false := by simp [bne, hr]
          have HF := Lib.hid (show nodeOk x = (decide ((ms.length : Int) = x.fPeers) && (atI ms x.fId == (n : Int)) && !outI n ms) by rw [HN3.out, matchN, HM.out, HNn.out, hr]; rfl)
          clear HN3
          go_wp2
          go_loopw [143] (fun i wr => ∃ k : Nat, k ≤ ms.length ∧ i = .int .i64 k ∧ Hid ((ms.take k).any (fun y => !inR y 0 n) = false) ∧ Hid (wc = wr)) (fun i _ => ms.length - (intOf i).toNat)
          case atStart => exact ⟨0, Nat.zero_le _, rfl, rfl, rfl⟩
          case round =>
            obtain ⟨k, hk, rfl, HE, HW⟩ := hrel
            obtain rfl := HW.out
            by_cases hlt : k < ms.length
            · obtain ⟨bx, o, rfl, a0⟩ := int_at H.out HC.out k hlt
              have hany := any_take (p := fun y => !inR y 0 n) hlt
              have hsome := any_at (p := fun y => !inR y 0 n) hlt
              rw [HE.out, Bool.false_or] at hany
              generalize he : ms[k] = y at *
              have HG := Lib.hid he; clear he
              have HA := Lib.hid hany; clear hany
              have HS := Lib.hid hsome; clear hsome HE
              have i1 : (0 : Int) ≤ (k : Int) := by omega
              have i2 : (k : Int) < (ms.length : Int) := by omega
              cases hm : inR y 0 n
              · have HS2 := Lib.hid (HS.out (by rw [hm]; rfl))
                go_wp2_with (first | (with_reducible refine (sInR_calls y _ _ _).mono ?_; rintro e wq ⟨rfl, rfl⟩; rw [hm]))
                all_goals go_ret
                all_goals exact ⟨ret_bool (by rw [HF.out, show outI n ms = true from HS2.out]; simp), HC.out⟩
              · have HA2 := Lib.hid (HA.out.trans (by rw [hm]))
                go_wp2_with (first | (with_reducible refine (sInR_calls y _ _ _).mono ?_; rintro e wq ⟨rfl, rfl⟩; rw [hm]))
                all_goals exact ⟨⟨k + 1, by omega, by go_num, HA2.out, trivial⟩, by simp [intOf]; omega⟩
            · obtain rfl : k = ms.length := by omega
              have h1 := HE.out
              rw [List.take_length] at h1
              have HF2 := Lib.hid (show nodeOk x = (decide ((ms.length : Int) = x.fPeers) && (atI ms x.fId == (n : Int))) by rw [HF.out, show outI n ms = false from h1]; simp)
              clear HF h1 HE
              have r1 := regr (Below.refl _ _) XB.out.lt c1
              have r4 := regr (Below.refl _ _) XB.out.lt c4
              have r8 := regr (Below.refl _ _) XB.out.lt c8
              by_cases h1 : (ms.length : Int) = x.fPeers
              · have h1' : ((ms.length : Int) == x.fPeers) = true := by simpa using h1
                obtain ⟨k, hk⟩ : ∃ k : Nat, x.fId = k := ⟨x.fId.toNat, by omega⟩
                have hlt : k < ms.length := by omega
                obtain ⟨bx, ox, rfl, a0⟩ := int_at H.out HC.out k hlt
                have hat : atI ms x.fId = ms[k] := by rw [atI, hk, Int.toNat_natCast, List.getD_eq_getElem?_getD, List.getElem?_eq_getElem hlt]; rfl
                have HF3 := Lib.hid (show nodeOk x = (ms[k] == (n : Int)) by rw [HF2.out, hat, decide_eq_true h1, Bool.true_and])
                clear hat
                generalize ms[k] = y at *
                have i1 : (0 : Int) ≤ (k : Int) := by omega
                have i2 : (k : Int) < (ms.length : Int) := by omega
                have c0' := XB.out.cell 0 (v := .int .i64 k) (by rw [← hk]; rfl)
                have r0 := regr (Below.refl _ _) XB.out.lt c0'
                have t0 := regr (Below.refl _ _) (World.block_lt_of_cell? _ _ a0) a0
                go_upto_region 21 with fail
                refine wp_region_quiet_below (by kernel_rfl) (by kernel_rfl) ?_
                repeat (go_big_quiet_step (fail))
                refine wpQuiet_nil ?_
                rintro w2 ⟨p, rfl⟩
                go_wp2
                go_ret
                exact ⟨ret_bool (by rw [HF3.out]), HC.out.trans ((below_regrown _ _ _).mono HC.out.size)⟩
              · have h1' : ((ms.length : Int) == x.fPeers) = false := by simpa using h1
                go_upto_region 21 with fail
                refine wp_region_quiet_below (by kernel_rfl) (by kernel_rfl) ?_
                repeat (go_big_quiet_step (fail))
                refine wpQuiet_nil ?_
                rintro w2 ⟨p, rfl⟩
                go_wp2
                go_ret
                exact ⟨ret_bool (by rw [HF2.out, decide_eq_false h1]; rfl), HC.out.trans ((below_regrown _ _ _).mono HC.out.size)⟩

theorem sGoodNode_k {x : DRaftNode} {c0 : List Value} {w : World} (k0 : kRaftNode.K w x c0) (h0 : wfRaftNode x) (s0 : smRaftNode 1048576 x) : Calls Try.prog 16 #[.agg c0.toArray] w
    fun e w' => e = .returned (.bool (nodeOk x)) ∧ Below w.heap.size w w' := by
  obtain ⟨v4, v7, v8, rfl, g4, g7, g8⟩ := kRaftNode_read k0
  exact sGoodNode_calls x v4 v7 v8 w g4 g7 g8 s0
theorem iGoodNode_k {x : DRaftNode} {c0 : List Value} {w : World} (k0 : kRaftNode.K w x c0) (h0 : wfRaftNode x) (s0 : smRaftNode 1048576 x) : Calls Try.prog 22 #[.agg c0.toArray] w
    fun e w' => e = .returned (.bool (nodeOk x)) ∧ Below w.heap.size w w' := by
  obtain ⟨v4, v7, v8, rfl, g4, g7, g8⟩ := kRaftNode_read k0
  exact iGoodNode_calls x v4 v7 v8 w g4 g7 g8 s0
end Go.Proofs.Ytcimnhpgackciaa
