/- Nodes: copies. -/
import Derived.Test.YtcimnhpgackciaaGnE
import Derived.Test.YtcimnhpgackciaaInv
namespace Go.Proofs.Ytcimnhpgackciaa
open Go Go.RowKit Go.Sort
set_option linter.unusedVariables false
set_option linter.unusedSimpArgs false

set_option maxHeartbeats 1000000 in
set_option maxRecDepth 100000 in
theorem cloneInt_calls (xs : List Int) (v : Value) (w : World) (g : kInt.S w xs v) (hl : xs.length ≤ 16777216) : Calls Try.prog 46 #[v] w
    fun e w' => ∃ v' F, e = .returned v' ∧ kInt.Row 3 w' F xs v' ∧ (∀ b ∈ F, w.heap.size ≤ b) ∧ F.Nodup ∧ Below w.heap.size w w' := by
  have g0 := g
  obtain ⟨A, c, rfl, hc, h⟩ := g
  have H := Lib.hid g0; clear g0 h
  cases A with
  | none =>
    have e1 := hc.2 rfl
    subst e1
    have e2 : xs = [] := List.length_eq_zero_iff.1 (Nat.le_zero.1 hc.1)
    subst e2
    clear hc H
    have he := Lib.run_eql_slice_nil (P := Try.prog) w 23 3 none 0 0 0 0 Try.underlying23
    go_enter Try.func46, Try.ntmps46
    go_wp2
    go_ret
    exact ⟨_, [], rfl, Rp.Row_nil _ _ _, by simp, by simp, Below.refl _ _⟩
  | some a =>
    have he := Lib.run_eql_slice_nil (P := Try.prog) w 23 3 (some a) xs.length c 0 0 Try.underlying23
    go_enter Try.func46, Try.ntmps46
    go_wp2_with (at_builtin; refine wp_append (d := kInt) rfl _ _ 23 3 rfl Try.underlying23 infoInt rfl (by decide) rfl (by decide) kInt_flat (xs := []) (ys := xs) rfl rfl (Rp.Row_made0 _ _ _ (by simp)) (Rp.S_below H.out ((Below.refl _ _).alloc (Nat.le_refl _) _)) (by simpa using hl) ?_; intro v1 w1 r1 r2 r3 _; have R1 := Lib.hid r1; have R2 := Lib.hid r2; have R3 := Lib.hid r3; clear r1 r2 r3)
    go_ret
    exact ⟨_, _, rfl, R1.out, fun b hb => by rcases R3.out b hb with h | h <;> simp at h <;> omega, ofOwn_nodup _, R2.out.newBelow (Nat.le_refl _)⟩
set_option maxHeartbeats 8000000 in
set_option maxRecDepth 100000 in
theorem iClone_calls (x : DRaftNode) (v4 v7 v8 : Value) (w : World) (g4 : kEntry.S w x.fLog v4) (g7 : kInt.S w x.fVotes v7) (g8 : kInt.S w x.fMatch v8) (hl : smRaftNode 1048576 x) : Calls Try.prog 23 #[.agg #[.int .i64 x.fId, .int .i64 x.fPeers, .int .i64 x.fTerm, .int .i64 x.fVote, v4, .int .i64 x.fCommit, .int .i64 x.fRole, v7, v8]] w
    fun e w' => ∃ cs F, e = .returned (.agg cs.toArray) ∧ kRaftNode.M w' F x cs ∧ (∀ b ∈ F, w.heap.size ≤ b) ∧ F.Nodup ∧ Below w.heap.size w w' := by
  have G4 := Lib.hid g4; have G7 := Lib.hid g7; have G8 := Lib.hid g8
  obtain ⟨A4, d4, rfl, _, _⟩ := g4
  obtain ⟨A7, d7, rfl, _, _⟩ := g7
  obtain ⟨A8, d8, rfl, _, _⟩ := g8
  obtain ⟨l4, l7, l8⟩ := hl
  go_enter Try.func23, Try.ntmps23
  go_upto_region 1 with fail
  have HC := Lib.hid (show Below w.heap.size w ((w.alloc (.cells #[.int .i64 x.fId, .int .i64 x.fPeers, .int .i64 x.fTerm, .int .i64 x.fVote, .slice A4 x.fLog.length d4, .int .i64 x.fCommit, .int .i64 x.fRole, .slice A7 x.fVotes.length d7, .slice A8 x.fMatch.length d8] 29)).alloc (.cells #[.int .i64 0, .int .i64 0, .int .i64 0, .int .i64 0, .slice none 0 0, .int .i64 0, .int .i64 0, .slice none 0 0, .slice none 0 0] 29)) from Below.alloc (Below.alloc (Below.refl w.heap.size w) (by first | exact Nat.le_refl _ | (simp; done) | (simp; omega)) (.cells #[.int .i64 x.fId, .int .i64 x.fPeers, .int .i64 x.fTerm, .int .i64 x.fVote, .slice A4 x.fLog.length d4, .int .i64 x.fCommit, .int .i64 x.fRole, .slice A7 x.fVotes.length d7, .slice A8 x.fMatch.length d8] 29)) (by first | exact Nat.le_refl _ | (simp; done) | (simp; omega)) (.cells #[.int .i64 0, .int .i64 0, .int .i64 0, .int .i64 0, .slice none 0 0, .int .i64 0, .int .i64 0, .slice none 0 0, .slice none 0 0] 29))
  have Xn := Lib.hid (show Box ((w.alloc (.cells #[.int .i64 x.fId, .int .i64 x.fPeers, .int .i64 x.fTerm, .int .i64 x.fVote, .slice A4 x.fLog.length d4, .int .i64 x.fCommit, .int .i64 x.fRole, .slice A7 x.fVotes.length d7, .slice A8 x.fMatch.length d8] 29)).alloc (.cells #[.int .i64 0, .int .i64 0, .int .i64 0, .int .i64 0, .slice none 0 0, .int .i64 0, .int .i64 0, .slice none 0 0, .slice none 0 0] 29)) (w.heap.size) #[.int .i64 x.fId, .int .i64 x.fPeers, .int .i64 x.fTerm, .int .i64 x.fVote, .slice A4 x.fLog.length d4, .int .i64 x.fCommit, .int .i64 x.fRole, .slice A7 x.fVotes.length d7, .slice A8 x.fMatch.length d8] 29 from Box.alloc (Box.new rfl))
  have Xr := Lib.hid (show Box ((w.alloc (.cells #[.int .i64 x.fId, .int .i64 x.fPeers, .int .i64 x.fTerm, .int .i64 x.fVote, .slice A4 x.fLog.length d4, .int .i64 x.fCommit, .int .i64 x.fRole, .slice A7 x.fVotes.length d7, .slice A8 x.fMatch.length d8] 29)).alloc (.cells #[.int .i64 0, .int .i64 0, .int .i64 0, .int .i64 0, .slice none 0 0, .int .i64 0, .int .i64 0, .slice none 0 0, .slice none 0 0] 29)) (w.heap.size + 1) #[.int .i64 0, .int .i64 0, .int .i64 0, .int .i64 0, .slice none 0 0, .int .i64 0, .int .i64 0, .slice none 0 0, .slice none 0 0] 29 from Box.new (by simp))
  have hsz : w.heap.size + 2 ≤ ((w.alloc (.cells #[.int .i64 x.fId, .int .i64 x.fPeers, .int .i64 x.fTerm, .int .i64 x.fVote, .slice A4 x.fLog.length d4, .int .i64 x.fCommit, .int .i64 x.fRole, .slice A7 x.fVotes.length d7, .slice A8 x.fMatch.length d8] 29)).alloc (.cells #[.int .i64 0, .int .i64 0, .int .i64 0, .int .i64 0, .slice none 0 0, .int .i64 0, .int .i64 0, .slice none 0 0, .slice none 0 0] 29)).heap.size := by simp
  generalize (w.alloc (.cells #[.int .i64 x.fId, .int .i64 x.fPeers, .int .i64 x.fTerm, .int .i64 x.fVote, .slice A4 x.fLog.length d4, .int .i64 x.fCommit, .int .i64 x.fRole, .slice A7 x.fVotes.length d7, .slice A8 x.fMatch.length d8] 29)).alloc (.cells #[.int .i64 0, .int .i64 0, .int .i64 0, .int .i64 0, .slice none 0 0, .int .i64 0, .int .i64 0, .slice none 0 0, .slice none 0 0] 29) = w1 at *
  have cn_0 := Xn.out.cell 0 (v := .int .i64 x.fId) rfl; have cn_1 := Xn.out.cell 1 (v := .int .i64 x.fPeers) rfl; have cn_2 := Xn.out.cell 2 (v := .int .i64 x.fTerm) rfl; have cn_3 := Xn.out.cell 3 (v := .int .i64 x.fVote) rfl; have cn_4 := Xn.out.cell 4 (v := .slice A4 x.fLog.length d4) rfl; have cn_5 := Xn.out.cell 5 (v := .int .i64 x.fCommit) rfl; have cn_6 := Xn.out.cell 6 (v := .int .i64 x.fRole) rfl; have cn_7 := Xn.out.cell 7 (v := .slice A7 x.fVotes.length d7) rfl; have cn_8 := Xn.out.cell 8 (v := .slice A8 x.fMatch.length d8) rfl; have cr_0 := Xr.out.cell 0 (v := .int .i64 0) rfl; have cr_1 := Xr.out.cell 1 (v := .int .i64 0) rfl; have cr_2 := Xr.out.cell 2 (v := .int .i64 0) rfl; have cr_3 := Xr.out.cell 3 (v := .int .i64 0) rfl; have cr_4 := Xr.out.cell 4 (v := .slice none 0 0) rfl; have cr_5 := Xr.out.cell 5 (v := .int .i64 0) rfl; have cr_6 := Xr.out.cell 6 (v := .int .i64 0) rfl; have cr_7 := Xr.out.cell 7 (v := .slice none 0 0) rfl; have cr_8 := Xr.out.cell 8 (v := .slice none 0 0) rfl
  refine wp_region_tab (G := Value × Value × Value × List Nat × List Nat × List Nat) (fun g => [(3, 0, .pointer (some ⟨w.heap.size, 4, none⟩)), (0, 1, .slice A4 x.fLog.length d4), (0, 2, g.1), (0, 3, .pointer (some ⟨w.heap.size, 7, none⟩)), (0, 4, .slice A7 x.fVotes.length d7), (0, 5, g.2.1), (0, 6, .pointer (some ⟨w.heap.size, 8, none⟩)), (0, 7, .slice A8 x.fMatch.length d8), (0, 8, g.2.2.1), (0, 9, .pointer (some ⟨w.heap.size, 4, none⟩)), (0, 11, .pointer (some ⟨w.heap.size, 7, none⟩)), (0, 13, .pointer (some ⟨w.heap.size, 8, none⟩))])
    (fun L g W => Below w.heap.size w W ∧ w.heap.size + 2 ≤ W.heap.size ∧ Box W w.heap.size #[.int .i64 x.fId, .int .i64 x.fPeers, .int .i64 x.fTerm, .int .i64 x.fVote, bif L 10 then g.1 else .slice A4 x.fLog.length d4, .int .i64 x.fCommit, .int .i64 x.fRole, bif L 12 then g.2.1 else .slice A7 x.fVotes.length d7, bif L 14 then g.2.2.1 else .slice A8 x.fMatch.length d8] 29 ∧ Box W (w.heap.size + 1) #[.int .i64 0, .int .i64 0, .int .i64 0, .int .i64 0, .slice none 0 0, .int .i64 0, .int .i64 0, .slice none 0 0, .slice none 0 0] 29 ∧
      (L 2 = true → kEntry.Row 59 W g.2.2.2.1 x.fLog g.1 ∧ g.2.2.2.1.Nodup ∧ ∀ b ∈ g.2.2.2.1, w.heap.size + 2 ≤ b) ∧
      (L 5 = true → kInt.Row 3 W g.2.2.2.2.1 x.fVotes g.2.1 ∧ g.2.2.2.2.1.Nodup ∧ (∀ b ∈ g.2.2.2.2.1, w.heap.size + 2 ≤ b) ∧ ∀ b ∈ g.2.2.2.2.1, b ∉ g.2.2.2.1) ∧
      (L 8 = true → kInt.Row 3 W g.2.2.2.2.2 x.fMatch g.2.2.1 ∧ g.2.2.2.2.2.Nodup ∧ (∀ b ∈ g.2.2.2.2.2, w.heap.size + 2 ≤ b) ∧ (∀ b ∈ g.2.2.2.2.2, b ∉ g.2.2.2.1) ∧ ∀ b ∈ g.2.2.2.2.2, b ∉ g.2.2.2.2.1) ∧
      (L 10 = true → L 1 = true ∧ L 2 = true) ∧ (L 12 = true → L 4 = true ∧ L 5 = true) ∧ (L 14 = true → L 7 = true ∧ L 8 = true) ∧ (L 5 = true → L 2 = true) ∧ (L 8 = true → L 5 = true))
    (undef, undef, undef, [], [], []) (by kernel_rfl) (by kernel_rfl) (fun _ => rfl) ?_ ?_ ?_
  · exact ⟨HC.out.drew, hsz, Xn.out.drew, Xr.out.drew, nofun, nofun, nofun, nofun, nofun, nofun, nofun, nofun⟩
  · simp only [StepsT, layT, Nat.reduceAdd, Nat.reduceBEq, cond_true, cond_false]
    refine ⟨?_, ?_, ?_, ?_, ?_, ?_, ?_, ?_, ?_, ?_, ?_, ?_, ?_, ?_, ?_, trivial⟩
    · rintro L ⟨y4, y7, y8, F4, F7, F8⟩ W hL hd ⟨q1, q2, q3, q4, q5, q6, q7, q8, q9, q10, q11, q12⟩
      replace hd := hd
      simp only [depsT, Region.binds, forall_const, and_true, beq_iff_eq, reduceCtorEq, false_implies, true_and] at hd
      intro K hK; refine do_wanted rfl ?_
      have HK := Lib.hid hK; clear hK
      simp only [hd, cond_true]
      go_wp2
      exact HK.out _ _ ⟨⟨y4, y7, y8, F4, F7, F8⟩, by simp only [upd, Nat.reduceBEq, cond_true, cond_false, hd], ⟨q1, q2, q3, q4, q5, q6, q7, q8, q9, q10, q11, q12⟩⟩
    · rintro L ⟨y4, y7, y8, F4, F7, F8⟩ W hL hd ⟨q1, q2, q3, q4, q5, q6, q7, q8, q9, q10, q11, q12⟩
      replace hd := hd
      simp only [depsT, Region.binds, forall_const, and_true, beq_iff_eq, reduceCtorEq, false_implies, true_and] at hd
      intro K hK; refine do_wanted rfl ?_
      have HK := Lib.hid hK; clear hK
      simp only [hd, cond_true]
      have e10 : L 10 = false := by
          cases h : L 10 with
          | false => rfl
          | true => exact absurd (q8 h) (by rw [hL]; simp)
      have c4 := q3.cell 4 (v := .slice A4 x.fLog.length d4) (by simp only [e10, cond_false]; rfl)
      go_wp2
      exact HK.out _ _ ⟨⟨y4, y7, y8, F4, F7, F8⟩, by simp only [upd, Nat.reduceBEq, cond_true, cond_false, hd], ⟨q1, q2, q3, q4, q5, q6, q7, fun h => ⟨rfl, (q8 h).2⟩, q9, q10, q11, q12⟩⟩
    · rintro L ⟨y4, y7, y8, F4, F7, F8⟩ W hL hd ⟨q1, q2, q3, q4, q5, q6, q7, q8, q9, q10, q11, q12⟩
      replace hd := hd
      simp only [depsT, Region.binds, forall_const, and_true, beq_iff_eq, reduceCtorEq, false_implies, true_and] at hd
      intro K hK; refine do_wanted rfl ?_
      have HK := Lib.hid hK; clear hK
      simp only [hd, cond_true]
      have e10 : L 10 = false := by
          cases h : L 10 with
          | false => rfl
          | true => exact absurd (q8 h) (by rw [hL]; simp)
      have HQ := Lib.hid (And.intro q1 (And.intro q2 (And.intro q3 q4)))
      have Q5 := Lib.hid q5; have Q6 := Lib.hid q6; have Q7 := Lib.hid q7; have Q8 := Lib.hid q8; have Q9 := Lib.hid q9; have Q10 := Lib.hid q10; have Q11 := Lib.hid q11; have Q12 := Lib.hid q12
      clear q3 q4 q5 q6 q7 q8 q9 q10 q11 q12
      go_wp2_with ((with_reducible refine (cloneEntry_calls x.fLog _ _ (Rp.S_below G4.out q1) (by omega)).mono ?_); rintro e W2 ⟨v2, Fn, rfl, r1, r2, r3, hb⟩; have R1 := Lib.hid r1; have R2 := Lib.hid r2; have R3 := Lib.hid r3; have HB := Lib.hid hb; clear r1 r2 r3 hb)
      obtain ⟨q1, q2, q3, q4⟩ := HQ.out
      exact HK.out _ _ ⟨⟨v2, y7, y8, Fn, F7, F8⟩, by simp only [upd, Nat.reduceBEq, cond_true, cond_false, hd], ⟨q1.trans (HB.out.mono (by omega)), Nat.le_trans q2 HB.out.size, (by simp only [upd, Nat.reduceBEq, e10, cond_false] at q3 ⊢; exact q3.below HB.out), q4.below HB.out, fun _ => ⟨R1.out, R3.out, fun b h => Nat.le_trans q2 (R2.out b h)⟩, fun h => absurd (Q11.out h) (by rw [hL]; nofun), fun h => absurd (Q11.out (Q12.out h)) (by rw [hL]; nofun), fun h => ⟨(Q8.out h).1, rfl⟩, Q9.out, Q10.out, fun h => rfl, Q12.out⟩⟩
    · rintro L ⟨y4, y7, y8, F4, F7, F8⟩ W hL hd ⟨q1, q2, q3, q4, q5, q6, q7, q8, q9, q10, q11, q12⟩
      replace hd := hd
      simp only [depsT, Region.binds, forall_const, and_true, beq_iff_eq, reduceCtorEq, false_implies, true_and] at hd
      intro K hK; refine do_wanted rfl ?_
      have HK := Lib.hid hK; clear hK
      simp only [hd, cond_true]
      go_wp2
      exact HK.out _ _ ⟨⟨y4, y7, y8, F4, F7, F8⟩, by simp only [upd, Nat.reduceBEq, cond_true, cond_false, hd], ⟨q1, q2, q3, q4, q5, q6, q7, q8, q9, q10, q11, q12⟩⟩
    · rintro L ⟨y4, y7, y8, F4, F7, F8⟩ W hL hd ⟨q1, q2, q3, q4, q5, q6, q7, q8, q9, q10, q11, q12⟩
      replace hd := hd
      simp only [depsT, Region.binds, forall_const, and_true, beq_iff_eq, reduceCtorEq, false_implies, true_and] at hd
      intro K hK; refine do_wanted rfl ?_
      have HK := Lib.hid hK; clear hK
      simp only [hd, cond_true]
      have e12 : L 12 = false := by
          cases h : L 12 with
          | false => rfl
          | true => exact absurd (q9 h) (by rw [hL]; simp)
      have c7 := q3.cell 7 (v := .slice A7 x.fVotes.length d7) (by simp only [e12, cond_false]; rfl)
      go_wp2
      exact HK.out _ _ ⟨⟨y4, y7, y8, F4, F7, F8⟩, by simp only [upd, Nat.reduceBEq, cond_true, cond_false, hd], ⟨q1, q2, q3, q4, q5, q6, q7, q8, fun h => ⟨rfl, (q9 h).2⟩, q10, q11, q12⟩⟩
    · rintro L ⟨y4, y7, y8, F4, F7, F8⟩ W hL hd ⟨q1, q2, q3, q4, q5, q6, q7, q8, q9, q10, q11, q12⟩
      replace hd := hd
      simp only [depsT, Region.binds, forall_const, and_true, beq_iff_eq, reduceCtorEq, false_implies, true_and] at hd
      intro K hK; refine do_wanted rfl ?_
      have HK := Lib.hid hK; clear hK
      simp only [hd, cond_true]
      have e12 : L 12 = false := by
          cases h : L 12 with
          | false => rfl
          | true => exact absurd (q9 h) (by rw [hL]; simp)
      have z4 := Rp.Row_lt (q5 (show L 2 = true by simp only [hd])).1
      have HQ := Lib.hid (And.intro q1 (And.intro q2 (And.intro q3 q4)))
      have Q5 := Lib.hid q5; have Q6 := Lib.hid q6; have Q7 := Lib.hid q7; have Q8 := Lib.hid q8; have Q9 := Lib.hid q9; have Q10 := Lib.hid q10; have Q11 := Lib.hid q11; have Q12 := Lib.hid q12; have Z4 := Lib.hid z4; clear z4
      clear q3 q4 q5 q6 q7 q8 q9 q10 q11 q12
      go_wp2_with ((with_reducible refine (cloneInt_calls x.fVotes _ _ (Rp.S_below G7.out q1) (by omega)).mono ?_); rintro e W2 ⟨v2, Fn, rfl, r1, r2, r3, hb⟩; have R1 := Lib.hid r1; have R2 := Lib.hid r2; have R3 := Lib.hid r3; have HB := Lib.hid hb; clear r1 r2 r3 hb)
      obtain ⟨q1, q2, q3, q4⟩ := HQ.out
      exact HK.out _ _ ⟨⟨y4, v2, y8, F4, Fn, F8⟩, by simp only [upd, Nat.reduceBEq, cond_true, cond_false, hd], ⟨q1.trans (HB.out.mono (by omega)), Nat.le_trans q2 HB.out.size, (by simp only [upd, Nat.reduceBEq, e12, cond_false] at q3 ⊢; exact q3.below HB.out), q4.below HB.out, fun h => ⟨Rp.Row_below (Q5.out h).1 HB.out, (Q5.out h).2.1, (Q5.out h).2.2⟩, fun _ => ⟨R1.out, R3.out, fun b h => Nat.le_trans q2 (R2.out b h), fun b h hm => by have := R2.out b h; have := Z4.out b hm; omega⟩, fun h => absurd (Q12.out h) (by rw [hL]; nofun), Q8.out, fun h => ⟨(Q9.out h).1, rfl⟩, Q10.out, fun _ => (show L 2 = true by simp only [hd]), fun h => rfl⟩⟩
    · rintro L ⟨y4, y7, y8, F4, F7, F8⟩ W hL hd ⟨q1, q2, q3, q4, q5, q6, q7, q8, q9, q10, q11, q12⟩
      replace hd := hd
      simp only [depsT, Region.binds, forall_const, and_true, beq_iff_eq, reduceCtorEq, false_implies, true_and] at hd
      intro K hK; refine do_wanted rfl ?_
      have HK := Lib.hid hK; clear hK
      simp only [hd, cond_true]
      go_wp2
      exact HK.out _ _ ⟨⟨y4, y7, y8, F4, F7, F8⟩, by simp only [upd, Nat.reduceBEq, cond_true, cond_false, hd], ⟨q1, q2, q3, q4, q5, q6, q7, q8, q9, q10, q11, q12⟩⟩
    · rintro L ⟨y4, y7, y8, F4, F7, F8⟩ W hL hd ⟨q1, q2, q3, q4, q5, q6, q7, q8, q9, q10, q11, q12⟩
      replace hd := hd
      simp only [depsT, Region.binds, forall_const, and_true, beq_iff_eq, reduceCtorEq, false_implies, true_and] at hd
      intro K hK; refine do_wanted rfl ?_
      have HK := Lib.hid hK; clear hK
      simp only [hd, cond_true]
      have e14 : L 14 = false := by
          cases h : L 14 with
          | false => rfl
          | true => exact absurd (q10 h) (by rw [hL]; simp)
      have c8 := q3.cell 8 (v := .slice A8 x.fMatch.length d8) (by simp only [e14, cond_false]; rfl)
      go_wp2
      exact HK.out _ _ ⟨⟨y4, y7, y8, F4, F7, F8⟩, by simp only [upd, Nat.reduceBEq, cond_true, cond_false, hd], ⟨q1, q2, q3, q4, q5, q6, q7, q8, q9, fun h => ⟨rfl, (q10 h).2⟩, q11, q12⟩⟩
    · rintro L ⟨y4, y7, y8, F4, F7, F8⟩ W hL hd ⟨q1, q2, q3, q4, q5, q6, q7, q8, q9, q10, q11, q12⟩
      replace hd := hd
      simp only [depsT, Region.binds, forall_const, and_true, beq_iff_eq, reduceCtorEq, false_implies, true_and] at hd
      intro K hK; refine do_wanted rfl ?_
      have HK := Lib.hid hK; clear hK
      simp only [hd, cond_true]
      have e14 : L 14 = false := by
          cases h : L 14 with
          | false => rfl
          | true => exact absurd (q10 h) (by rw [hL]; simp)
      have z4 := Rp.Row_lt (q5 (q11 (show L 5 = true by simp only [hd]))).1
      have z7 := Rp.Row_lt (q6 (show L 5 = true by simp only [hd])).1
      have HQ := Lib.hid (And.intro q1 (And.intro q2 (And.intro q3 q4)))
      have Q5 := Lib.hid q5; have Q6 := Lib.hid q6; have Q7 := Lib.hid q7; have Q8 := Lib.hid q8; have Q9 := Lib.hid q9; have Q10 := Lib.hid q10; have Q11 := Lib.hid q11; have Q12 := Lib.hid q12; have Z4 := Lib.hid z4; clear z4; have Z7 := Lib.hid z7; clear z7
      clear q3 q4 q5 q6 q7 q8 q9 q10 q11 q12
      go_wp2_with ((with_reducible refine (cloneInt_calls x.fMatch _ _ (Rp.S_below G8.out q1) (by omega)).mono ?_); rintro e W2 ⟨v2, Fn, rfl, r1, r2, r3, hb⟩; have R1 := Lib.hid r1; have R2 := Lib.hid r2; have R3 := Lib.hid r3; have HB := Lib.hid hb; clear r1 r2 r3 hb)
      obtain ⟨q1, q2, q3, q4⟩ := HQ.out
      exact HK.out _ _ ⟨⟨y4, y7, v2, F4, F7, Fn⟩, by simp only [upd, Nat.reduceBEq, cond_true, cond_false, hd], ⟨q1.trans (HB.out.mono (by omega)), Nat.le_trans q2 HB.out.size, (by simp only [upd, Nat.reduceBEq, e14, cond_false] at q3 ⊢; exact q3.below HB.out), q4.below HB.out, fun h => ⟨Rp.Row_below (Q5.out h).1 HB.out, (Q5.out h).2.1, (Q5.out h).2.2⟩, fun h => ⟨Rp.Row_below (Q6.out h).1 HB.out, (Q6.out h).2⟩, fun _ => ⟨R1.out, R3.out, fun b h => Nat.le_trans q2 (R2.out b h), fun b h hm => (by have := R2.out b h; have := Z4.out b hm; omega), fun b h hm => (by have := R2.out b h; have := Z7.out b hm; omega)⟩, Q8.out, Q9.out, fun h => ⟨(Q10.out h).1, rfl⟩, Q11.out, fun _ => (show L 5 = true by simp only [hd])⟩⟩
    · rintro L ⟨y4, y7, y8, F4, F7, F8⟩ W hL hd ⟨q1, q2, q3, q4, q5, q6, q7, q8, q9, q10, q11, q12⟩
      replace hd := hd
      simp only [depsT, Region.binds, forall_const, and_true, beq_iff_eq, reduceCtorEq, false_implies, true_and] at hd
      intro K hK; refine do_wanted rfl ?_
      have HK := Lib.hid hK; clear hK
      simp only [hd, cond_true]
      go_wp2
      exact HK.out _ _ ⟨⟨y4, y7, y8, F4, F7, F8⟩, by simp only [upd, Nat.reduceBEq, cond_true, cond_false, hd], ⟨q1, q2, q3, q4, q5, q6, q7, q8, q9, q10, q11, q12⟩⟩
    · rintro L ⟨y4, y7, y8, F4, F7, F8⟩ W hL hd ⟨q1, q2, q3, q4, q5, q6, q7, q8, q9, q10, q11, q12⟩
      replace hd := hd
      simp only [depsT, Region.binds, forall_const, and_true, beq_iff_eq, reduceCtorEq, false_implies, true_and] at hd
      intro K hK; refine do_wanted rfl ?_
      have HK := Lib.hid hK; clear hK
      simp only [hd, cond_true]
      obtain ⟨P, C, e, _, _⟩ := Rp.Row_K (q5 (show L 2 = true by simp only [hd])).1
      dsimp only at e
      subst e
      have ck := q3.cell 4 (v := bif L 10 then (.slice P x.fLog.length C) else .slice A4 x.fLog.length d4) rfl
      have fk := q3.fro 4
      have hk := Lib.hid ((KeptF.refl [w.heap.size] W).set (p := ⟨w.heap.size, 4, none⟩) (by simp) (.slice P x.fLog.length C))
      have HQ := Lib.hid (And.intro q1 (And.intro q2 (And.intro q3 q4)))
      have Q5 := Lib.hid q5; have Q6 := Lib.hid q6; have Q7 := Lib.hid q7; have Q8 := Lib.hid q8; have Q9 := Lib.hid q9; have Q10 := Lib.hid q10; have Q11 := Lib.hid q11; have Q12 := Lib.hid q12
      clear q1 q3 q4 q5 q6 q7 q8 q9 q10 q11 q12
      go_wp2
      obtain ⟨q1, q2, q3, q4⟩ := HQ.out
      exact HK.out _ _ ⟨⟨(.slice P x.fLog.length C), y7, y8, F4, F7, F8⟩, by simp only [upd, Nat.reduceBEq, cond_true, cond_false, hd], ⟨q1.setCell (by simp) _, by simpa [World.setCell] using q2, q3.set 4 (.slice P x.fLog.length C), q4.set_other _ (by simp), fun h => ⟨Rp.Row_kept (Q5.out h).1 hk.out (fun b hb => by have := (Q5.out h).2.2 b hb; simp; omega), (Q5.out h).2⟩, fun h => ⟨Rp.Row_kept (Q6.out h).1 hk.out (fun b hb => by have := (Q6.out h).2.2.1 b hb; simp; omega), (Q6.out h).2⟩, fun h => ⟨Rp.Row_kept (Q7.out h).1 hk.out (fun b hb => by have := (Q7.out h).2.2.1 b hb; simp; omega), (Q7.out h).2⟩, fun _ => ⟨(show L 1 = true by simp only [hd]), (show L 2 = true by simp only [hd])⟩, Q9.out, Q10.out, Q11.out, Q12.out⟩⟩
    · rintro L ⟨y4, y7, y8, F4, F7, F8⟩ W hL hd ⟨q1, q2, q3, q4, q5, q6, q7, q8, q9, q10, q11, q12⟩
      replace hd := hd
      simp only [depsT, Region.binds, forall_const, and_true, beq_iff_eq, reduceCtorEq, false_implies, true_and] at hd
      intro K hK; refine do_wanted rfl ?_
      have HK := Lib.hid hK; clear hK
      simp only [hd, cond_true]
      go_wp2
      exact HK.out _ _ ⟨⟨y4, y7, y8, F4, F7, F8⟩, by simp only [upd, Nat.reduceBEq, cond_true, cond_false, hd], ⟨q1, q2, q3, q4, q5, q6, q7, q8, q9, q10, q11, q12⟩⟩
    · rintro L ⟨y4, y7, y8, F4, F7, F8⟩ W hL hd ⟨q1, q2, q3, q4, q5, q6, q7, q8, q9, q10, q11, q12⟩
      replace hd := hd
      simp only [depsT, Region.binds, forall_const, and_true, beq_iff_eq, reduceCtorEq, false_implies, true_and] at hd
      intro K hK; refine do_wanted rfl ?_
      have HK := Lib.hid hK; clear hK
      simp only [hd, cond_true]
      obtain ⟨P, C, e, _, _⟩ := Rp.Row_K (q6 (show L 5 = true by simp only [hd])).1
      dsimp only at e
      subst e
      have ck := q3.cell 7 (v := bif L 12 then (.slice P x.fVotes.length C) else .slice A7 x.fVotes.length d7) rfl
      have fk := q3.fro 7
      have hk := Lib.hid ((KeptF.refl [w.heap.size] W).set (p := ⟨w.heap.size, 7, none⟩) (by simp) (.slice P x.fVotes.length C))
      have HQ := Lib.hid (And.intro q1 (And.intro q2 (And.intro q3 q4)))
      have Q5 := Lib.hid q5; have Q6 := Lib.hid q6; have Q7 := Lib.hid q7; have Q8 := Lib.hid q8; have Q9 := Lib.hid q9; have Q10 := Lib.hid q10; have Q11 := Lib.hid q11; have Q12 := Lib.hid q12
      clear q1 q3 q4 q5 q6 q7 q8 q9 q10 q11 q12
      go_wp2
      obtain ⟨q1, q2, q3, q4⟩ := HQ.out
      exact HK.out _ _ ⟨⟨y4, (.slice P x.fVotes.length C), y8, F4, F7, F8⟩, by simp only [upd, Nat.reduceBEq, cond_true, cond_false, hd], ⟨q1.setCell (by simp) _, by simpa [World.setCell] using q2, q3.set 7 (.slice P x.fVotes.length C), q4.set_other _ (by simp), fun h => ⟨Rp.Row_kept (Q5.out h).1 hk.out (fun b hb => by have := (Q5.out h).2.2 b hb; simp; omega), (Q5.out h).2⟩, fun h => ⟨Rp.Row_kept (Q6.out h).1 hk.out (fun b hb => by have := (Q6.out h).2.2.1 b hb; simp; omega), (Q6.out h).2⟩, fun h => ⟨Rp.Row_kept (Q7.out h).1 hk.out (fun b hb => by have := (Q7.out h).2.2.1 b hb; simp; omega), (Q7.out h).2⟩, Q8.out, fun _ => ⟨(show L 4 = true by simp only [hd]), (show L 5 = true by simp only [hd])⟩, Q10.out, Q11.out, Q12.out⟩⟩
    · rintro L ⟨y4, y7, y8, F4, F7, F8⟩ W hL hd ⟨q1, q2, q3, q4, q5, q6, q7, q8, q9, q10, q11, q12⟩
      replace hd := hd
      simp only [depsT, Region.binds, forall_const, and_true, beq_iff_eq, reduceCtorEq, false_implies, true_and] at hd
      intro K hK; refine do_wanted rfl ?_
      have HK := Lib.hid hK; clear hK
      simp only [hd, cond_true]
      go_wp2
      exact HK.out _ _ ⟨⟨y4, y7, y8, F4, F7, F8⟩, by simp only [upd, Nat.reduceBEq, cond_true, cond_false, hd], ⟨q1, q2, q3, q4, q5, q6, q7, q8, q9, q10, q11, q12⟩⟩
    · rintro L ⟨y4, y7, y8, F4, F7, F8⟩ W hL hd ⟨q1, q2, q3, q4, q5, q6, q7, q8, q9, q10, q11, q12⟩
      replace hd := hd
      simp only [depsT, Region.binds, forall_const, and_true, beq_iff_eq, reduceCtorEq, false_implies, true_and] at hd
      intro K hK; refine do_wanted rfl ?_
      have HK := Lib.hid hK; clear hK
      simp only [hd, cond_true]
      obtain ⟨P, C, e, _, _⟩ := Rp.Row_K (q7 (show L 8 = true by simp only [hd])).1
      dsimp only at e
      subst e
      have ck := q3.cell 8 (v := bif L 14 then (.slice P x.fMatch.length C) else .slice A8 x.fMatch.length d8) rfl
      have fk := q3.fro 8
      have hk := Lib.hid ((KeptF.refl [w.heap.size] W).set (p := ⟨w.heap.size, 8, none⟩) (by simp) (.slice P x.fMatch.length C))
      have HQ := Lib.hid (And.intro q1 (And.intro q2 (And.intro q3 q4)))
      have Q5 := Lib.hid q5; have Q6 := Lib.hid q6; have Q7 := Lib.hid q7; have Q8 := Lib.hid q8; have Q9 := Lib.hid q9; have Q10 := Lib.hid q10; have Q11 := Lib.hid q11; have Q12 := Lib.hid q12
      clear q1 q3 q4 q5 q6 q7 q8 q9 q10 q11 q12
      go_wp2
      obtain ⟨q1, q2, q3, q4⟩ := HQ.out
      exact HK.out _ _ ⟨⟨y4, y7, (.slice P x.fMatch.length C), F4, F7, F8⟩, by simp only [upd, Nat.reduceBEq, cond_true, cond_false, hd], ⟨q1.setCell (by simp) _, by simpa [World.setCell] using q2, q3.set 8 (.slice P x.fMatch.length C), q4.set_other _ (by simp), fun h => ⟨Rp.Row_kept (Q5.out h).1 hk.out (fun b hb => by have := (Q5.out h).2.2 b hb; simp; omega), (Q5.out h).2⟩, fun h => ⟨Rp.Row_kept (Q6.out h).1 hk.out (fun b hb => by have := (Q6.out h).2.2.1 b hb; simp; omega), (Q6.out h).2⟩, fun h => ⟨Rp.Row_kept (Q7.out h).1 hk.out (fun b hb => by have := (Q7.out h).2.2.1 b hb; simp; omega), (Q7.out h).2⟩, Q8.out, Q9.out, fun _ => ⟨(show L 7 = true by simp only [hd]), (show L 8 = true by simp only [hd])⟩, Q11.out, Q12.out⟩⟩
  · simp only [layT, Nat.reduceAdd, Nat.reduceBEq, cond_true, cond_false]
    rintro L ⟨y4, y7, y8, F4, F7, F8⟩ W hd ⟨q1, q2, q3, q4, q5, q6, q7, q8, q9, q10, q11, q12⟩
    simp only [doneT, true_and, List.length_cons, List.length_nil, Nat.reduceAdd] at hd
    obtain ⟨⟨⟨⟨⟨⟨⟨⟨⟨⟨⟨⟨⟨⟨e0, e1⟩, e2⟩, e3⟩, e4⟩, e5⟩, e6⟩, e7⟩, e8⟩, e9⟩, e10⟩, e11⟩, e12⟩, e13⟩, e14⟩ := hd
    simp only [e0, e1, e2, e3, e4, e5, e6, e7, e8, e9, e10, e11, e12, e13, e14, cond_true] at q3 ⊢
    obtain ⟨r4, n4, g4⟩ := q5 e2
    obtain ⟨r7, n7, g7, d7'⟩ := q6 e5
    obtain ⟨r8, n8, g8, d8', d8''⟩ := q7 e8
    obtain ⟨P4, C4, z4, _, _⟩ := Rp.Row_K r4
    obtain ⟨P7, C7, z7, _, _⟩ := Rp.Row_K r7
    obtain ⟨P8, C8, z8, _, _⟩ := Rp.Row_K r8
    dsimp only at z4 z7 z8
    subst z4 z7 z8
    have HN := Lib.hid q3; have HR := Lib.hid q4
    have R4 := Lib.hid r4; have R7 := Lib.hid r7; have R8 := Lib.hid r8
    have T4 := Lib.hid (And.intro n4 g4); have T7 := Lib.hid (And.intro n7 (And.intro g7 d7')); have T8 := Lib.hid (And.intro n8 (And.intro g8 (And.intro d8' d8'')))
    have HB := Lib.hid q1
    have dn0 := HN.out.cell 0 (v := .int .i64 x.fId) rfl; have dn1 := HN.out.cell 1 (v := .int .i64 x.fPeers) rfl; have dn2 := HN.out.cell 2 (v := .int .i64 x.fTerm) rfl; have dn3 := HN.out.cell 3 (v := .int .i64 x.fVote) rfl; have dn4 := HN.out.cell 4 (v := .slice P4 x.fLog.length C4) rfl; have dn5 := HN.out.cell 5 (v := .int .i64 x.fCommit) rfl; have dn6 := HN.out.cell 6 (v := .int .i64 x.fRole) rfl; have dn7 := HN.out.cell 7 (v := .slice P7 x.fVotes.length C7) rfl; have dn8 := HN.out.cell 8 (v := .slice P8 x.fMatch.length C8) rfl
    have dr0 := HR.out.cell 0 (v := .int .i64 0) rfl; have dr1 := HR.out.cell 1 (v := .int .i64 0) rfl; have dr2 := HR.out.cell 2 (v := .int .i64 0) rfl; have dr3 := HR.out.cell 3 (v := .int .i64 0) rfl; have dr4 := HR.out.cell 4 (v := .slice none 0 0) rfl; have dr5 := HR.out.cell 5 (v := .int .i64 0) rfl; have dr6 := HR.out.cell 6 (v := .int .i64 0) rfl; have dr7 := HR.out.cell 7 (v := .slice none 0 0) rfl; have dr8 := HR.out.cell 8 (v := .slice none 0 0) rfl
    have fr := HR.out.fro
    clear q1 q3 q4 q5 q6 q7 q8 q9 q10 q11 q12 r4 r7 r8 n4 n7 n8 g4 g7 g8 d7' d8' d8'' HC Xn Xr cn_0 cn_1 cn_2 cn_3 cn_4 cn_5 cn_6 cn_7 cn_8 cr_0 cr_1 cr_2 cr_3 cr_4 cr_5 cr_6 cr_7 cr_8
    go_wp2
    obtain ⟨hk, bf⟩ := HR.out.stored [.int .i64 x.fId, .int .i64 x.fPeers, .int .i64 x.fTerm, .int .i64 x.fVote, .slice P4 x.fLog.length C4, .int .i64 x.fCommit, .int .i64 x.fRole, .slice P7 x.fVotes.length C7, .slice P8 x.fMatch.length C8] 0
    rw [setA_all (by rfl)] at bf
    have q4 := Rp.Row_kept R4.out hk (fun b hb => by have := T4.out.2 b hb; simp; omega)
    have q7 := Rp.Row_kept R7.out hk (fun b hb => by have := T7.out.2.1 b hb; simp; omega)
    have q8 := Rp.Row_kept R8.out hk (fun b hb => by have := T8.out.2.1 b hb; simp; omega)
    change bodyPost _ _ _ _ _ (Rp.setN W (w.heap.size + 1) 0 [.int .i64 x.fId, .int .i64 x.fPeers, .int .i64 x.fTerm, .int .i64 x.fVote, .slice P4 x.fLog.length C4, .int .i64 x.fCommit, .int .i64 x.fRole, .slice P7 x.fVotes.length C7, .slice P8 x.fMatch.length C8])
    clear dn0 dn1 dn2 dn3 dn4 dn5 dn6 dn7 dn8 dr0 dr1 dr2 dr3 dr4 dr5 dr6 dr7 dr8 fr
    have HK := Lib.hid hk; clear hk
    generalize hwf : Rp.setN W (w.heap.size + 1) 0 [.int .i64 x.fId, .int .i64 x.fPeers, .int .i64 x.fTerm, .int .i64 x.fVote, .slice P4 x.fLog.length C4, .int .i64 x.fCommit, .int .i64 x.fRole, .slice P7 x.fVotes.length C7, .slice P8 x.fMatch.length C8] = wf at *
    have df0 := bf.cell 0 (v := .int .i64 x.fId) rfl; have df1 := bf.cell 1 (v := .int .i64 x.fPeers) rfl; have df2 := bf.cell 2 (v := .int .i64 x.fTerm) rfl; have df3 := bf.cell 3 (v := .int .i64 x.fVote) rfl; have df4 := bf.cell 4 (v := .slice P4 x.fLog.length C4) rfl; have df5 := bf.cell 5 (v := .int .i64 x.fCommit) rfl; have df6 := bf.cell 6 (v := .int .i64 x.fRole) rfl; have df7 := bf.cell 7 (v := .slice P7 x.fVotes.length C7) rfl; have df8 := bf.cell 8 (v := .slice P8 x.fMatch.length C8) rfl
    refine bodyPost_ret (v := .agg #[.int .i64 x.fId, .int .i64 x.fPeers, .int .i64 x.fTerm, .int .i64 x.fVote, .slice P4 x.fLog.length C4, .int .i64 x.fCommit, .int .i64 x.fRole, .slice P7 x.fVotes.length C7, .slice P8 x.fMatch.length C8]) (by simp [results, Try.results23, go_sem, df0, df1, df2, df3, df4, df5, df6, df7, df8]) rfl ⟨[.int .i64 x.fId, .int .i64 x.fPeers, .int .i64 x.fTerm, .int .i64 x.fVote, .slice P4 x.fLog.length C4, .int .i64 x.fCommit, .int .i64 x.fRole, .slice P7 x.fVotes.length C7, .slice P8 x.fMatch.length C8], rfl, F4 ++ (F7 ++ F8), kRaftNode_make q4 q7 q8, fun b hb => ?_, ?_, HB.out.trans (HK.out.toBelow HB.out.size (by simp))⟩
    · simp only [List.mem_append] at hb
      rcases hb with hb | hb | hb
      · have := T4.out.2 b hb; omega
      · have := T7.out.2.1 b hb; omega
      · have := T8.out.2.1 b hb; omega
    · rw [List.nodup_append, List.nodup_append]
      exact ⟨T4.out.1, ⟨T7.out.1, T8.out.1, fun a ha b hb e => T8.out.2.2.2 b hb (e ▸ ha)⟩, fun a ha b hb e => by
        rcases List.mem_append.1 hb with hb | hb
        · exact T7.out.2.2 b hb (e ▸ ha)
        · exact T8.out.2.2.1 b hb (e ▸ ha)⟩
end Go.Proofs.Ytcimnhpgackciaa
