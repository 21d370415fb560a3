/- A drawn log and where it is cut. -/
import Derived.Test.YtjigbmgfjmghcaaCurF
namespace Go.Proofs.Ytjigbmgfjmghcaa
open Go Go.RowKit Go.Sort
set_option linter.unusedVariables false
set_option linter.unusedSimpArgs false

set_option maxHeartbeats 8000000 in
set_option maxRecDepth 100000 in
theorem DrawCutWal_calls {w : World} {bs : List Int} {A : Option Addr} {c : Nat} (h : kByte.S w bs (.slice A bs.length c)) (hby : ∀ x ∈ bs, 0 ≤ x ∧ x ≤ 255) (hln : bs.length ≤ 1048576) : Calls Try.prog 26 #[.slice A bs.length c] w
    fun e w' => ∃ (x : DWal) (A2 : Option Addr) (c2 : Nat) (n : Int), e = .returned (.tuple #[.agg #[.int .i64 x.fFirst, .int .i64 x.fBefore, .slice A2 x.fEntries.length c2], .int .i64 n]) ∧ kEntry.S w' x.fEntries (.slice A2 x.fEntries.length c2) ∧ WalB x ∧ (-1 ≤ n ∧ n ≤ 1000100) ∧ (∀ a, A2 = some a → w.heap.size ≤ a.block) ∧ Below w.heap.size w w' := by
  have hA := code_in h
  have y0 : Box ((w.alloc (.cells #[.int .i64 0, .int .i64 0, .slice none 0 0] 25)).alloc (.cells #[.slice A bs.length c, .int .i64 0, .int .u64 0] 45)) (w.heap.size) #[.int .i64 0, .int .i64 0, .slice none 0 0] 25 := Box.alloc (Box.new rfl)
  have y1 : Box ((w.alloc (.cells #[.int .i64 0, .int .i64 0, .slice none 0 0] 25)).alloc (.cells #[.slice A bs.length c, .int .i64 0, .int .u64 0] 45)) (w.heap.size + 1) #[.slice A bs.length c, .int .i64 0, .int .u64 0] 45 := Box.new (by simp)
  have hb1 : Below w.heap.size w ((w.alloc (.cells #[.int .i64 0, .int .i64 0, .slice none 0 0] 25)).alloc (.cells #[.slice A bs.length c, .int .i64 0, .int .u64 0] 45)) := Below.alloc (Below.alloc (Below.refl w.heap.size w) (by first | exact Nat.le_refl _ | (simp; done) | (simp; omega)) (.cells #[.int .i64 0, .int .i64 0, .slice none 0 0] 25)) (by first | exact Nat.le_refl _ | (simp; done) | (simp; omega)) (.cells #[.slice A bs.length c, .int .i64 0, .int .u64 0] 45)
  have hz1 : w.heap.size + 2 ≤ ((w.alloc (.cells #[.int .i64 0, .int .i64 0, .slice none 0 0] 25)).alloc (.cells #[.slice A bs.length c, .int .i64 0, .int .u64 0] 45)).heap.size := by simp
  go_enter Try.func26, Try.ntmps26
  go_upto_region 2 with fail
  generalize (w.alloc (.cells #[.int .i64 0, .int .i64 0, .slice none 0 0] 25)).alloc (.cells #[.slice A bs.length c, .int .i64 0, .int .u64 0] 45) = w1 at *
  obtain ⟨b, hb⟩ : ∃ b, b = w.heap.size + 1 := ⟨_, rfl⟩
  rw [← hb] at y1 ⊢
  have hbl : w.heap.size + 1 ≤ b ∧ b < w1.heap.size := by omega
  clear hb
  obtain ⟨hbl1, hbl2⟩ := hbl
  have HC := Lib.hid (show Cur w1 b bs A c 0 from ⟨⟨0, 0, y1, Nat.le_refl _, by decide, by decide⟩, Rp.S_below h hb1, fun he a ha => by have := hA he a ha; omega, hby, hln⟩)
  have X2 := Lib.hid y0
  have HB1 := Lib.hid hb1
  clear h hb1 y0 y1
  go_wp2_with fail
  (with_reducible refine (wal_calls HC.out (by decide) (by omega) (fun he a ha => by have := hA he a ha; omega)).mono ?_)
  rintro e w2 ⟨x, A2, c2, rfl, hS, hA2, hl, f0, f1, g0, g1, hk, hc⟩
  have HXB := Lib.hid (show WalB x from ⟨hl, f0, f1, g0, g1⟩); have HL := Lib.hid hl
  have HA2 := Lib.hid hA2
  have b5 : Box (w2.alloc (.cells #[.int .i64 x.fFirst, .int .i64 x.fBefore, .slice A2 x.fEntries.length c2] 25)) w2.heap.size #[.int .i64 x.fFirst, .int .i64 x.fBefore, .slice A2 x.fEntries.length c2] 25 := Box.new rfl
  have hb5 := (Below.refl w2.heap.size w2).alloc (Nat.le_refl _) (.cells #[.int .i64 x.fFirst, .int .i64 x.fBefore, .slice A2 x.fEntries.length c2] 25)
  have X2 := Lib.hid ((X2.out.kept hk (by first | (simp; done) | (simp; omega))).below hb5)
  have SX := Lib.hid (Rp.S_below hS hb5); have HC := Lib.hid ((hc.mono (show 0 + 20000 ≤ 20000 by decide)).below hb5)
  have HB3 := Lib.hid ((HB1.out.trans (hk.toBelow HB1.out.size (by first | (simp; done) | (simp; omega)))).trans (hb5.mono (by have := HB1.out.size; have := hk.size; omega)))
  have hg5 : w1.heap.size ≤ w2.heap.size := hk.size
  clear hS hA2 hk hc HB1 hl f0 f1 g0 g1
  go_upto_region 3 with fail
  have sz5 : w2.heap.size + 1 ≤ (w2.alloc (.cells #[.int .i64 x.fFirst, .int .i64 x.fBefore, .slice A2 x.fEntries.length c2] 25)).heap.size := by simp
  generalize w2.alloc (.cells #[.int .i64 x.fFirst, .int .i64 x.fBefore, .slice A2 x.fEntries.length c2] 25) = w3 at *
  have X5 := Lib.hid b5
  clear b5 hb5
  generalize w2.heap.size = g5 at *
  refine wp_region_tab (G := Int) (fun g => [(3, 12, .int .i64 (x.fFirst + g - 1)), (7, 0, .agg #[.int .i64 x.fFirst, .int .i64 x.fBefore, .slice A2 x.fEntries.length c2]), (0, 1, .pointer (some ⟨g5, 0, none⟩)), (0, 2, .int .i64 x.fFirst), (0, 3, .pointer (some ⟨b, 0, none⟩)), (0, 4, .pointer (some ⟨g5, 2, none⟩)), (0, 5, .slice A2 x.fEntries.length c2), (0, 6, .int .i64 x.fEntries.length), (0, 7, .int .i64 ((x.fEntries.length : Int) + 3)), (0, 8, .int .i64 g), (0, 9, .int .i64 (x.fFirst + g)), (0, 10, .int .i64 (x.fFirst + g - 1))])
      (fun L g W => (Below w.heap.size w W) ∧
        (w3.heap.size ≤ W.heap.size) ∧
        (L 11 = false → Box W w.heap.size #[.int .i64 0, .int .i64 0, .slice none 0 0] 25) ∧
        (L 11 = true → Box W w.heap.size #[.int .i64 x.fFirst, .int .i64 x.fBefore, .slice A2 x.fEntries.length c2] 25) ∧
        (L 8 = true → 0 ≤ g ∧ g ≤ 63) ∧
        (Box W g5 #[.int .i64 x.fFirst, .int .i64 x.fBefore, .slice A2 x.fEntries.length c2] 25) ∧
        (kEntry.S W x.fEntries (.slice A2 x.fEntries.length c2)) ∧
        (L 8 = false → Cur W b bs A c 20000) ∧
        ((L 12 = true → L 10 = true)) ∧
        ((L 10 = true → L 9 = true)) ∧
        ((L 9 = true → L 8 = true)) ∧
        ((L 11 = true → L 8 = true)))
      (0) (by kernel_rfl) (by kernel_rfl) (fun _ => rfl) ?_ ?_ ?_
  · exact ⟨HB3.out.drew, Nat.le_refl _, fun _ => X2.out.drew, nofun, nofun, X5.out.drew, Rp.S_below SX.out (Below.refl _ _).drew, fun _ => HC.out.below (Below.refl _ _).drew, nofun, nofun, nofun, nofun⟩
  · simp (config := { maxSteps := 4000000 }) only [StepsT, layT, Nat.reduceAdd, Nat.reduceBEq, cond_true, cond_false]
    refine ⟨?_, ?_, ?_, ?_, ?_, ?_, ?_, ?_, ?_, ?_, ?_, ?_, ?_, trivial⟩
    · rintro L p W hL hd ⟨q0, q1, q2, q3, q4, q5, q6, q7, q8, q9, q10, q11⟩
      try dsimp only at q0 q1 q2 q3 q4 q5 q6 q7 q8 q9 q10 q11
      try simp only [depsT, Region.binds, forall_const, and_true, beq_iff_eq, reduceCtorEq, false_implies, true_and] at hd
      intro K hK; refine do_wanted rfl ?_
      have HK := Lib.hid hK; clear hK
      try simp only [hd, cond_true]
      have cc0 := q5.cell 0 (v := .int .i64 x.fFirst) rfl; have cc1 := q5.cell 1 (v := .int .i64 x.fBefore) rfl; have cc2 := q5.cell 2 (v := .slice A2 x.fEntries.length c2) rfl
      have Q0 := Lib.hid q0; have Q1 := Lib.hid q1; have Q2 := Lib.hid q2; have Q3 := Lib.hid q3; have Q4 := Lib.hid q4; have Q5 := Lib.hid q5; have Q6 := Lib.hid q6; have Q7 := Lib.hid q7; have Q8 := Lib.hid q8; have Q9 := Lib.hid q9; have Q10 := Lib.hid q10; have Q11 := Lib.hid q11
      clear q0 q1 q2 q3 q4 q5 q6 q7 q8 q9 q10 q11
      go_wp2
      exact HK.out _ _ ⟨p, by simp only [upd, Nat.reduceBEq, cond_true, cond_false, hd], ⟨Q0.out, Q1.out, Q2.out, Q3.out, Q4.out, Q5.out, Q6.out, Q7.out, Q8.out, Q9.out, Q10.out, Q11.out⟩⟩
    · rintro L p W hL hd ⟨q0, q1, q2, q3, q4, q5, q6, q7, q8, q9, q10, q11⟩
      try dsimp only at q0 q1 q2 q3 q4 q5 q6 q7 q8 q9 q10 q11
      try simp only [depsT, Region.binds, forall_const, and_true, beq_iff_eq, reduceCtorEq, false_implies, true_and] at hd
      intro K hK; refine do_wanted rfl ?_
      have HK := Lib.hid hK; clear hK
      try simp only [hd, cond_true]
      have Q0 := Lib.hid q0; have Q1 := Lib.hid q1; have Q2 := Lib.hid q2; have Q3 := Lib.hid q3; have Q4 := Lib.hid q4; have Q5 := Lib.hid q5; have Q6 := Lib.hid q6; have Q7 := Lib.hid q7; have Q8 := Lib.hid q8; have Q9 := Lib.hid q9; have Q10 := Lib.hid q10; have Q11 := Lib.hid q11
      clear q0 q1 q2 q3 q4 q5 q6 q7 q8 q9 q10 q11
      go_wp2
      exact HK.out _ _ ⟨p, by simp only [upd, Nat.reduceBEq, cond_true, cond_false, hd], ⟨Q0.out, Q1.out, Q2.out, Q3.out, Q4.out, Q5.out, Q6.out, Q7.out, Q8.out, Q9.out, Q10.out, Q11.out⟩⟩
    · rintro L p W hL hd ⟨q0, q1, q2, q3, q4, q5, q6, q7, q8, q9, q10, q11⟩
      try dsimp only at q0 q1 q2 q3 q4 q5 q6 q7 q8 q9 q10 q11
      try simp only [depsT, Region.binds, forall_const, and_true, beq_iff_eq, reduceCtorEq, false_implies, true_and] at hd
      intro K hK; refine do_wanted rfl ?_
      have HK := Lib.hid hK; clear hK
      try simp only [hd, cond_true]
      have cc0 := q5.cell 0 (v := .int .i64 x.fFirst) rfl; have cc1 := q5.cell 1 (v := .int .i64 x.fBefore) rfl; have cc2 := q5.cell 2 (v := .slice A2 x.fEntries.length c2) rfl
      have Q0 := Lib.hid q0; have Q1 := Lib.hid q1; have Q2 := Lib.hid q2; have Q3 := Lib.hid q3; have Q4 := Lib.hid q4; have Q5 := Lib.hid q5; have Q6 := Lib.hid q6; have Q7 := Lib.hid q7; have Q8 := Lib.hid q8; have Q9 := Lib.hid q9; have Q10 := Lib.hid q10; have Q11 := Lib.hid q11
      clear q0 q1 q2 q3 q4 q5 q6 q7 q8 q9 q10 q11
      go_wp2
      exact HK.out _ _ ⟨p, by simp only [upd, Nat.reduceBEq, cond_true, cond_false, hd], ⟨Q0.out, Q1.out, Q2.out, Q3.out, Q4.out, Q5.out, Q6.out, Q7.out, Q8.out, Q9.out, Q10.out, Q11.out⟩⟩
    · rintro L p W hL hd ⟨q0, q1, q2, q3, q4, q5, q6, q7, q8, q9, q10, q11⟩
      try dsimp only at q0 q1 q2 q3 q4 q5 q6 q7 q8 q9 q10 q11
      try simp only [depsT, Region.binds, forall_const, and_true, beq_iff_eq, reduceCtorEq, false_implies, true_and] at hd
      intro K hK; refine do_wanted rfl ?_
      have HK := Lib.hid hK; clear hK
      try simp only [hd, cond_true]
      have Q0 := Lib.hid q0; have Q1 := Lib.hid q1; have Q2 := Lib.hid q2; have Q3 := Lib.hid q3; have Q4 := Lib.hid q4; have Q5 := Lib.hid q5; have Q6 := Lib.hid q6; have Q7 := Lib.hid q7; have Q8 := Lib.hid q8; have Q9 := Lib.hid q9; have Q10 := Lib.hid q10; have Q11 := Lib.hid q11
      clear q0 q1 q2 q3 q4 q5 q6 q7 q8 q9 q10 q11
      go_wp2
      exact HK.out _ _ ⟨p, by simp only [upd, Nat.reduceBEq, cond_true, cond_false, hd], ⟨Q0.out, Q1.out, Q2.out, Q3.out, Q4.out, Q5.out, Q6.out, Q7.out, Q8.out, Q9.out, Q10.out, Q11.out⟩⟩
    · rintro L p W hL hd ⟨q0, q1, q2, q3, q4, q5, q6, q7, q8, q9, q10, q11⟩
      try dsimp only at q0 q1 q2 q3 q4 q5 q6 q7 q8 q9 q10 q11
      try simp only [depsT, Region.binds, forall_const, and_true, beq_iff_eq, reduceCtorEq, false_implies, true_and] at hd
      intro K hK; refine do_wanted rfl ?_
      have HK := Lib.hid hK; clear hK
      try simp only [hd, cond_true]
      have Q0 := Lib.hid q0; have Q1 := Lib.hid q1; have Q2 := Lib.hid q2; have Q3 := Lib.hid q3; have Q4 := Lib.hid q4; have Q5 := Lib.hid q5; have Q6 := Lib.hid q6; have Q7 := Lib.hid q7; have Q8 := Lib.hid q8; have Q9 := Lib.hid q9; have Q10 := Lib.hid q10; have Q11 := Lib.hid q11
      clear q0 q1 q2 q3 q4 q5 q6 q7 q8 q9 q10 q11
      go_wp2
      exact HK.out _ _ ⟨p, by simp only [upd, Nat.reduceBEq, cond_true, cond_false, hd], ⟨Q0.out, Q1.out, Q2.out, Q3.out, Q4.out, Q5.out, Q6.out, Q7.out, Q8.out, Q9.out, Q10.out, Q11.out⟩⟩
    · rintro L p W hL hd ⟨q0, q1, q2, q3, q4, q5, q6, q7, q8, q9, q10, q11⟩
      try dsimp only at q0 q1 q2 q3 q4 q5 q6 q7 q8 q9 q10 q11
      try simp only [depsT, Region.binds, forall_const, and_true, beq_iff_eq, reduceCtorEq, false_implies, true_and] at hd
      intro K hK; refine do_wanted rfl ?_
      have HK := Lib.hid hK; clear hK
      try simp only [hd, cond_true]
      have cc0 := q5.cell 0 (v := .int .i64 x.fFirst) rfl; have cc1 := q5.cell 1 (v := .int .i64 x.fBefore) rfl; have cc2 := q5.cell 2 (v := .slice A2 x.fEntries.length c2) rfl
      have Q0 := Lib.hid q0; have Q1 := Lib.hid q1; have Q2 := Lib.hid q2; have Q3 := Lib.hid q3; have Q4 := Lib.hid q4; have Q5 := Lib.hid q5; have Q6 := Lib.hid q6; have Q7 := Lib.hid q7; have Q8 := Lib.hid q8; have Q9 := Lib.hid q9; have Q10 := Lib.hid q10; have Q11 := Lib.hid q11
      clear q0 q1 q2 q3 q4 q5 q6 q7 q8 q9 q10 q11
      go_wp2
      exact HK.out _ _ ⟨p, by simp only [upd, Nat.reduceBEq, cond_true, cond_false, hd], ⟨Q0.out, Q1.out, Q2.out, Q3.out, Q4.out, Q5.out, Q6.out, Q7.out, Q8.out, Q9.out, Q10.out, Q11.out⟩⟩
    · rintro L p W hL hd ⟨q0, q1, q2, q3, q4, q5, q6, q7, q8, q9, q10, q11⟩
      try dsimp only at q0 q1 q2 q3 q4 q5 q6 q7 q8 q9 q10 q11
      try simp only [depsT, Region.binds, forall_const, and_true, beq_iff_eq, reduceCtorEq, false_implies, true_and] at hd
      intro K hK; refine do_wanted rfl ?_
      have HK := Lib.hid hK; clear hK
      try simp only [hd, cond_true]
      have Q0 := Lib.hid q0; have Q1 := Lib.hid q1; have Q2 := Lib.hid q2; have Q3 := Lib.hid q3; have Q4 := Lib.hid q4; have Q5 := Lib.hid q5; have Q6 := Lib.hid q6; have Q7 := Lib.hid q7; have Q8 := Lib.hid q8; have Q9 := Lib.hid q9; have Q10 := Lib.hid q10; have Q11 := Lib.hid q11
      clear q0 q1 q2 q3 q4 q5 q6 q7 q8 q9 q10 q11
      go_wp2
      exact HK.out _ _ ⟨p, by simp only [upd, Nat.reduceBEq, cond_true, cond_false, hd], ⟨Q0.out, Q1.out, Q2.out, Q3.out, Q4.out, Q5.out, Q6.out, Q7.out, Q8.out, Q9.out, Q10.out, Q11.out⟩⟩
    · rintro L p W hL hd ⟨q0, q1, q2, q3, q4, q5, q6, q7, q8, q9, q10, q11⟩
      try dsimp only at q0 q1 q2 q3 q4 q5 q6 q7 q8 q9 q10 q11
      try simp only [depsT, Region.binds, forall_const, and_true, beq_iff_eq, reduceCtorEq, false_implies, true_and] at hd
      intro K hK; refine do_wanted rfl ?_
      have HK := Lib.hid hK; clear hK
      try simp only [hd, cond_true]
      have hl := HL.out
      have Q0 := Lib.hid q0; have Q1 := Lib.hid q1; have Q2 := Lib.hid q2; have Q3 := Lib.hid q3; have Q4 := Lib.hid q4; have Q5 := Lib.hid q5; have Q6 := Lib.hid q6; have Q7 := Lib.hid q7; have Q8 := Lib.hid q8; have Q9 := Lib.hid q9; have Q10 := Lib.hid q10; have Q11 := Lib.hid q11
      clear q0 q1 q2 q3 q4 q5 q6 q7 q8 q9 q10 q11
      go_wp2
      exact HK.out _ _ ⟨p, by simp only [upd, Nat.reduceBEq, cond_true, cond_false, hd], ⟨Q0.out, Q1.out, Q2.out, Q3.out, Q4.out, Q5.out, Q6.out, Q7.out, Q8.out, Q9.out, Q10.out, Q11.out⟩⟩
    · rintro L p W hL hd ⟨q0, q1, q2, q3, q4, q5, q6, q7, q8, q9, q10, q11⟩
      try dsimp only at q0 q1 q2 q3 q4 q5 q6 q7 q8 q9 q10 q11
      try simp only [depsT, Region.binds, forall_const, and_true, beq_iff_eq, reduceCtorEq, false_implies, true_and] at hd
      intro K hK; refine do_wanted rfl ?_
      have HK := Lib.hid hK; clear hK
      try simp only [hd, cond_true]
      have E9 : L 9 = false := (by cases h : L 9 with | false => rfl | true => exact absurd (q10 h) (by rw [hL]; simp))
      have E10 : L 10 = false := (by cases h : L 10 with | false => rfl | true => exact absurd (q9 h) (by rw [E9]; simp))
      have E12 : L 12 = false := (by cases h : L 12 with | false => rfl | true => exact absurd (q8 h) (by rw [E10]; simp))
      have E11 : L 11 = false := (by cases h : L 11 with | false => rfl | true => exact absurd (q11 h) (by rw [hL]; simp))
      try simp only [E9, E10, E12, cond_false]
      have Q0 := Lib.hid q0; have Q1 := Lib.hid q1; have Q2 := Lib.hid q2; have Q3 := Lib.hid q3; have Q4 := Lib.hid q4; have Q5 := Lib.hid q5; have Q6 := Lib.hid q6; have Q7 := Lib.hid q7; have Q8 := Lib.hid q8; have Q9 := Lib.hid q9; have Q10 := Lib.hid q10; have Q11 := Lib.hid q11
      clear q0 q1 q2 q3 q4 q5 q6 q7 q8 q9 q10 q11
      go_wp2_with ((with_reducible refine (pick_calls ((x.fEntries.length : Int) + 3) (Q7.out hL) (by decide)).mono ?_); rintro ee we ⟨pp, rfl, z0, z1, hk, hcur⟩; have hl := HL.out)
      exact HK.out _ _ ⟨pp, by (simp only [upd, Nat.reduceBEq, cond_true, cond_false, hd, E9, E10, E12]; try rfl), ⟨Q0.out.trans (hk.toBelow Q0.out.size (by first | (simp; done) | (simp; omega))), Nat.le_trans Q1.out hk.size, fun h => (Q2.out h).kept hk (by first | (simp; done) | (simp; omega)), fun h => absurd (show L 11 = true from h) (by simp [E11]), fun _ => ⟨z0, by omega⟩, Q5.out.kept hk (by first | (simp; done) | (simp; omega)), S_keptC kEntry_flat Q6.out hk (fun a ha => by have := HA2.out a ha; omega), fun h => absurd h (by simp [upd]), Q8.out, Q9.out, fun h => rfl, fun h => rfl⟩⟩
    · rintro L p W hL hd ⟨q0, q1, q2, q3, q4, q5, q6, q7, q8, q9, q10, q11⟩
      try dsimp only at q0 q1 q2 q3 q4 q5 q6 q7 q8 q9 q10 q11
      try simp only [depsT, Region.binds, forall_const, and_true, beq_iff_eq, reduceCtorEq, false_implies, true_and] at hd
      intro K hK; refine do_wanted rfl ?_
      have HK := Lib.hid hK; clear hK
      try simp only [hd, cond_true]
      have hp := q4 (show L 8 = true by simp only [hd])
      have hx := HXB.out.2
      have Q0 := Lib.hid q0; have Q1 := Lib.hid q1; have Q2 := Lib.hid q2; have Q3 := Lib.hid q3; have Q4 := Lib.hid q4; have Q5 := Lib.hid q5; have Q6 := Lib.hid q6; have Q7 := Lib.hid q7; have Q8 := Lib.hid q8; have Q9 := Lib.hid q9; have Q10 := Lib.hid q10; have Q11 := Lib.hid q11
      clear q0 q1 q2 q3 q4 q5 q6 q7 q8 q9 q10 q11
      go_wp2
      exact HK.out _ _ ⟨p, by simp only [upd, Nat.reduceBEq, cond_true, cond_false, hd], ⟨Q0.out, Q1.out, Q2.out, Q3.out, Q4.out, Q5.out, Q6.out, Q7.out, Q8.out, fun h => rfl, fun _ => (show L 8 = true by simp only [hd]), Q11.out⟩⟩
    · rintro L p W hL hd ⟨q0, q1, q2, q3, q4, q5, q6, q7, q8, q9, q10, q11⟩
      try dsimp only at q0 q1 q2 q3 q4 q5 q6 q7 q8 q9 q10 q11
      try simp only [depsT, Region.binds, forall_const, and_true, beq_iff_eq, reduceCtorEq, false_implies, true_and] at hd
      intro K hK; refine do_wanted rfl ?_
      have HK := Lib.hid hK; clear hK
      try simp only [hd, cond_true]
      have hp := q4 (q10 (show L 9 = true by simp only [hd]))
      have hx := HXB.out.2
      have Q0 := Lib.hid q0; have Q1 := Lib.hid q1; have Q2 := Lib.hid q2; have Q3 := Lib.hid q3; have Q4 := Lib.hid q4; have Q5 := Lib.hid q5; have Q6 := Lib.hid q6; have Q7 := Lib.hid q7; have Q8 := Lib.hid q8; have Q9 := Lib.hid q9; have Q10 := Lib.hid q10; have Q11 := Lib.hid q11
      clear q0 q1 q2 q3 q4 q5 q6 q7 q8 q9 q10 q11
      go_wp2
      exact HK.out _ _ ⟨p, by simp only [upd, Nat.reduceBEq, cond_true, cond_false, hd], ⟨Q0.out, Q1.out, Q2.out, Q3.out, Q4.out, Q5.out, Q6.out, Q7.out, fun h => rfl, fun _ => (show L 9 = true by simp only [hd]), Q10.out, Q11.out⟩⟩
    · rintro L p W hL hd ⟨q0, q1, q2, q3, q4, q5, q6, q7, q8, q9, q10, q11⟩
      try dsimp only at q0 q1 q2 q3 q4 q5 q6 q7 q8 q9 q10 q11
      try simp only [depsT, Region.binds, forall_const, and_true, beq_iff_eq, reduceCtorEq, false_implies, true_and] at hd
      intro K hK; refine do_wanted rfl ?_
      have HK := Lib.hid hK; clear hK
      try simp only [hd, cond_true]
      have hz := q2 hL
      have cz0 := hz.cell 0 (v := .int .i64 0) rfl; have cz1 := hz.cell 1 (v := .int .i64 0) rfl; have cz2 := hz.cell 2 (v := .slice none 0 0) rfl
      have fz := hz.fro
      have HZ := Lib.hid hz; clear hz
      have Q0 := Lib.hid q0; have Q1 := Lib.hid q1; have Q2 := Lib.hid q2; have Q3 := Lib.hid q3; have Q4 := Lib.hid q4; have Q5 := Lib.hid q5; have Q6 := Lib.hid q6; have Q7 := Lib.hid q7; have Q8 := Lib.hid q8; have Q9 := Lib.hid q9; have Q10 := Lib.hid q10; have Q11 := Lib.hid q11
      clear q0 q1 q2 q3 q4 q5 q6 q7 q8 q9 q10 q11
      go_wp2
      change K _ (Rp.setN W (w.heap.size) 0 [.int .i64 x.fFirst, .int .i64 x.fBefore, .slice A2 x.fEntries.length c2])
      obtain ⟨hk, hbx⟩ := HZ.out.stored [.int .i64 x.fFirst, .int .i64 x.fBefore, .slice A2 x.fEntries.length c2] 0
      rw [setA_all (by rfl)] at hbx
      exact HK.out _ _ ⟨p, by simp only [upd, Nat.reduceBEq, cond_true, cond_false, hd], ⟨Q0.out.trans (hk.toBelow Q0.out.size (by first | (simp; done) | (simp; omega))), Nat.le_trans Q1.out hk.size, fun h => absurd h (by simp [upd]), fun _ => hbx, Q4.out, Q5.out.kept hk (by first | (simp; done) | (simp; omega)), S_keptC kEntry_flat Q6.out hk (fun a ha => by have := HA2.out a ha; omega), fun h => (Q7.out h).kept hk (by first | (simp; done) | (simp; omega)) (fun he a ha => by have := hA he a ha; simp; omega), Q8.out, Q9.out, Q10.out, fun _ => (show L 8 = true by simp only [hd])⟩⟩
    · rintro L p W hL hd ⟨q0, q1, q2, q3, q4, q5, q6, q7, q8, q9, q10, q11⟩
      try dsimp only at q0 q1 q2 q3 q4 q5 q6 q7 q8 q9 q10 q11
      try simp only [depsT, Region.binds, forall_const, and_true, beq_iff_eq, reduceCtorEq, false_implies, true_and] at hd
      intro K hK; refine do_wanted rfl ?_
      have HK := Lib.hid hK; clear hK
      try simp only [hd, cond_true]
      have Q0 := Lib.hid q0; have Q1 := Lib.hid q1; have Q2 := Lib.hid q2; have Q3 := Lib.hid q3; have Q4 := Lib.hid q4; have Q5 := Lib.hid q5; have Q6 := Lib.hid q6; have Q7 := Lib.hid q7; have Q8 := Lib.hid q8; have Q9 := Lib.hid q9; have Q10 := Lib.hid q10; have Q11 := Lib.hid q11
      clear q0 q1 q2 q3 q4 q5 q6 q7 q8 q9 q10 q11
      go_wp2
      exact HK.out _ _ ⟨p, by simp only [upd, Nat.reduceBEq, cond_true, cond_false, hd], ⟨Q0.out, Q1.out, Q2.out, Q3.out, Q4.out, Q5.out, Q6.out, Q7.out, fun _ => (show L 10 = true by simp only [hd]), Q9.out, Q10.out, Q11.out⟩⟩
  · simp (config := { maxSteps := 4000000 }) only [layT, Nat.reduceAdd, Nat.reduceBEq, cond_true, cond_false]
    rintro L p W hd ⟨q0, q1, q2, q3, q4, q5, q6, q7, q8, q9, q10, q11⟩
    simp only [doneT, true_and, List.length_cons, List.length_nil, Nat.reduceAdd] at hd
    obtain ⟨⟨⟨⟨⟨⟨⟨⟨⟨⟨⟨⟨e0, e1⟩, e2⟩, e3⟩, e4⟩, e5⟩, e6⟩, e7⟩, e8⟩, e9⟩, e10⟩, e11⟩, e12⟩ := hd
    try dsimp only at q0 q1 q2 q3 q4 q5 q6 q7 q8 q9 q10 q11
    simp only [e0, e1, e2, e3, e4, e5, e6, e7, e8, e9, e10, e11, e12, cond_true]
    have dx := q3 e11; have HP := Lib.hid (q4 e8)
    have HQ := Lib.hid q0; have HS := Lib.hid q6
    clear q0 q1 q2 q3 q4 q5 q6 q7 q8 q9 q10 q11
    have d0 := dx.cell 0 (v := .int .i64 x.fFirst) rfl; have d1 := dx.cell 1 (v := .int .i64 x.fBefore) rfl; have d2 := dx.cell 2 (v := .slice A2 x.fEntries.length c2) rfl
    go_wp2
    refine bodyPost_ret (v := .tuple #[.agg #[.int .i64 x.fFirst, .int .i64 x.fBefore, .slice A2 x.fEntries.length c2], .int .i64 (x.fFirst + p - 1)]) (by simp [results, Try.results26, go_sem, d0, d1, d2]) rfl ⟨x, A2, c2, x.fFirst + p - 1, rfl, HS.out, HXB.out, by have := HP.out; have := HXB.out.2; omega, fun a ha => by have := HA2.out a ha; omega, HQ.out⟩
set_option maxHeartbeats 8000000 in
set_option maxRecDepth 100000 in
theorem DrawDropWal_calls {w : World} {bs : List Int} {A : Option Addr} {c : Nat} (h : kByte.S w bs (.slice A bs.length c)) (hby : ∀ x ∈ bs, 0 ≤ x ∧ x ≤ 255) (hln : bs.length ≤ 1048576) : Calls Try.prog 11 #[.slice A bs.length c] w
    fun e w' => ∃ (x : DWal) (A2 : Option Addr) (c2 : Nat) (n : Int), e = .returned (.tuple #[.agg #[.int .i64 x.fFirst, .int .i64 x.fBefore, .slice A2 x.fEntries.length c2], .int .i64 n]) ∧ kEntry.S w' x.fEntries (.slice A2 x.fEntries.length c2) ∧ WalB x ∧ (-1 ≤ n ∧ n ≤ 1000100) ∧ (∀ a, A2 = some a → w.heap.size ≤ a.block) ∧ Below w.heap.size w w' := by
  have y0 : Box (w.alloc (.cells #[.int .i64 0, .int .i64 0, .slice none 0 0] 25)) w.heap.size #[.int .i64 0, .int .i64 0, .slice none 0 0] 25 := Box.new rfl
  have hb1 := (Below.refl w.heap.size w).alloc (Nat.le_refl _) (.cells #[.int .i64 0, .int .i64 0, .slice none 0 0] 25)
  have hz : w.heap.size + 1 ≤ (w.alloc (.cells #[.int .i64 0, .int .i64 0, .slice none 0 0] 25)).heap.size := by simp
  go_enter Try.func11, Try.ntmps11
  go_upto_region 1 with fail
  generalize w.alloc (.cells #[.int .i64 0, .int .i64 0, .slice none 0 0] 25) = w1 at *
  go_wp2_with fail
  (with_reducible refine (DrawCutWal_calls (Rp.S_below h hb1) hby hln).mono ?_)
  rintro e w2 ⟨x, A2, c2, n, rfl, hS, hx, hn, ha2, hb⟩
  have BX := Lib.hid (y0.below hb); have HS := Lib.hid hS; have HXB := Lib.hid hx; have HN := Lib.hid hn; have HB := Lib.hid (hb1.trans (hb.mono hb1.size)); have hz2 := Nat.le_trans hz hb.size
  have HA2 := Lib.hid (fun a ha => Nat.le_trans hz (ha2 a ha) : ∀ a, A2 = some a → w.heap.size + 1 ≤ a.block)
  clear y0 hb1 hS hx hn hb h ha2
  have c0 := BX.out.cell 0 (v := .int .i64 0) rfl; have c1 := BX.out.cell 1 (v := .int .i64 0) rfl; have c2_ := BX.out.cell 2 (v := .slice none 0 0) rfl
  have f0 := BX.out.fro
  go_wp2
  have hk : KeptF [w.heap.size] w2 (Rp.setN w2 w.heap.size 0 [.int .i64 x.fFirst, .int .i64 x.fBefore, .slice A2 x.fEntries.length c2]) := Rp.setN_kept (by simp) _ _ _ (KeptF.refl _ _)
  have bf : Box (Rp.setN w2 w.heap.size 0 [.int .i64 x.fFirst, .int .i64 x.fBefore, .slice A2 x.fEntries.length c2]) w.heap.size #[.int .i64 x.fFirst, .int .i64 x.fBefore, .slice A2 x.fEntries.length c2] 25 := by
    have h := Box.setN [.int .i64 x.fFirst, .int .i64 x.fBefore, .slice A2 x.fEntries.length c2] BX.out 0
    rw [setA_all (by rfl)] at h
    exact h
  change bodyPost _ _ _ _ _ (Rp.setN w2 w.heap.size 0 [.int .i64 x.fFirst, .int .i64 x.fBefore, .slice A2 x.fEntries.length c2])
  have HF := Lib.hid (HB.out.trans (hk.toBelow HB.out.size (by simp)))
  have HQ := Lib.hid (S_keptC kEntry_flat HS.out hk (fun a ha => by have := HA2.out a ha; omega))
  clear c0 c1 c2_ f0 hk
  generalize Rp.setN w2 w.heap.size 0 [.int .i64 x.fFirst, .int .i64 x.fBefore, .slice A2 x.fEntries.length c2] = wf at *
  have d0 := bf.cell 0 (v := .int .i64 x.fFirst) rfl; have d1 := bf.cell 1 (v := .int .i64 x.fBefore) rfl; have d2 := bf.cell 2 (v := .slice A2 x.fEntries.length c2) rfl
  refine bodyPost_ret (v := .tuple #[.agg #[.int .i64 x.fFirst, .int .i64 x.fBefore, .slice A2 x.fEntries.length c2], .int .i64 n]) (by simp [results, Try.results11, go_sem, d0, d1, d2]) rfl ⟨x, A2, c2, n, rfl, HQ.out, HXB.out, HN.out, fun a ha => Nat.le_of_succ_le (HA2.out a ha), HF.out⟩
end Go.Proofs.Ytjigbmgfjmghcaa
