/- A drawn log and an entry behind it. -/
import Derived.Test.YtjigbmgfjmghcaaCurE
namespace Go.Proofs.Ytjigbmgfjmghcaa
open Go Go.RowKit Go.Sort
set_option linter.unusedVariables false
set_option linter.unusedSimpArgs false

theorem code_in {w : World} {bs : List Int} {A : Option Addr} {n c : Nat} (h : kByte.S w bs (.slice A n c)) : bs ≠ [] → ∀ a, A = some a → a.block < w.heap.size := by
  intro he a ha
  obtain ⟨A_, c_, e_, _, hC⟩ := h
  obtain ⟨rfl, _, rfl⟩ := Value.slice.inj e_
  obtain ⟨g, o, cs, rfl, k1, q1⟩ := Rp.C_get hC 0 (List.length_pos_iff.2 he)
  obtain rfl : cs = [.int .u8 (bs[0]'(List.length_pos_iff.2 he))] := k1
  have := World.block_lt_of_cell? w _ (q1 0 _ rfl)
  obtain rfl := Option.some.inj ha
  exact this
def WalB (x : DWal) : Prop := x.fEntries.length ≤ 60 ∧ 0 ≤ x.fFirst ∧ x.fFirst ≤ 1000001 ∧ 0 ≤ x.fBefore ∧ x.fBefore ≤ 1000001
set_option maxHeartbeats 8000000 in
set_option maxRecDepth 100000 in
theorem DrawAppendWal_calls {w : World} {bs : List Int} {A : Option Addr} {c : Nat} (h : kByte.S w bs (.slice A bs.length c)) (hby : ∀ x ∈ bs, 0 ≤ x ∧ x ≤ 255) (hln : bs.length ≤ 1048576) : Calls Try.prog 4 #[.slice A bs.length c] w
    fun e w' => ∃ (x : DWal) (A2 : Option Addr) (c2 : Nat) (t : Int) (s : ByteArray), e = .returned (.tuple #[.agg #[.int .i64 x.fFirst, .int .i64 x.fBefore, .slice A2 x.fEntries.length c2], .agg #[.int .i64 t, .string s]]) ∧ kEntry.S w' x.fEntries (.slice A2 x.fEntries.length c2) ∧ WalB x ∧ Below w.heap.size w w' := by
  have hA := code_in h
  have y0 : Box (((w.alloc (.cells #[.int .i64 0, .int .i64 0, .slice none 0 0] 25)).alloc (.cells #[.int .i64 0, .string ⟨#[]⟩] 27)).alloc (.cells #[.slice A bs.length c, .int .i64 0, .int .u64 0] 45)) (w.heap.size) #[.int .i64 0, .int .i64 0, .slice none 0 0] 25 := Box.alloc (Box.alloc (Box.new rfl))
  have y1 : Box (((w.alloc (.cells #[.int .i64 0, .int .i64 0, .slice none 0 0] 25)).alloc (.cells #[.int .i64 0, .string ⟨#[]⟩] 27)).alloc (.cells #[.slice A bs.length c, .int .i64 0, .int .u64 0] 45)) (w.heap.size + 1) #[.int .i64 0, .string ⟨#[]⟩] 27 := Box.alloc (Box.new (by simp))
  have y2 : Box (((w.alloc (.cells #[.int .i64 0, .int .i64 0, .slice none 0 0] 25)).alloc (.cells #[.int .i64 0, .string ⟨#[]⟩] 27)).alloc (.cells #[.slice A bs.length c, .int .i64 0, .int .u64 0] 45)) (w.heap.size + 1 + 1) #[.slice A bs.length c, .int .i64 0, .int .u64 0] 45 := Box.new (by simp)
  have hb1 : Below w.heap.size w (((w.alloc (.cells #[.int .i64 0, .int .i64 0, .slice none 0 0] 25)).alloc (.cells #[.int .i64 0, .string ⟨#[]⟩] 27)).alloc (.cells #[.slice A bs.length c, .int .i64 0, .int .u64 0] 45)) := Below.alloc (Below.alloc (Below.alloc (Below.refl w.heap.size w) (by first | exact Nat.le_refl _ | (simp; done) | (simp; omega)) (.cells #[.int .i64 0, .int .i64 0, .slice none 0 0] 25)) (by first | exact Nat.le_refl _ | (simp; done) | (simp; omega)) (.cells #[.int .i64 0, .string ⟨#[]⟩] 27)) (by first | exact Nat.le_refl _ | (simp; done) | (simp; omega)) (.cells #[.slice A bs.length c, .int .i64 0, .int .u64 0] 45)
  have hz1 : w.heap.size + 3 ≤ (((w.alloc (.cells #[.int .i64 0, .int .i64 0, .slice none 0 0] 25)).alloc (.cells #[.int .i64 0, .string ⟨#[]⟩] 27)).alloc (.cells #[.slice A bs.length c, .int .i64 0, .int .u64 0] 45)).heap.size := by simp
  go_enter Try.func4, Try.ntmps4
  go_upto_region 2 with fail
  generalize ((w.alloc (.cells #[.int .i64 0, .int .i64 0, .slice none 0 0] 25)).alloc (.cells #[.int .i64 0, .string ⟨#[]⟩] 27)).alloc (.cells #[.slice A bs.length c, .int .i64 0, .int .u64 0] 45) = w1 at *
  obtain ⟨b, hb⟩ : ∃ b, b = w.heap.size + 1 + 1 := ⟨_, rfl⟩
  rw [← hb] at y2 ⊢
  have hbl : w.heap.size + 2 ≤ b ∧ b < w1.heap.size := by omega
  clear hb
  obtain ⟨hbl1, hbl2⟩ := hbl
  have HC := Lib.hid (show Cur w1 b bs A c 0 from ⟨⟨0, 0, y2, Nat.le_refl _, by decide, by decide⟩, Rp.S_below h hb1, fun he a ha => by have := hA he a ha; omega, hby, hln⟩)
  have X2 := Lib.hid y0
  have X3 := Lib.hid y1
  have HB1 := Lib.hid hb1
  clear h hb1 y0 y1 y2
  go_wp2_with fail
  (with_reducible refine (wal_calls HC.out (by decide) (by omega) (fun he a ha => by have := hA he a ha; omega)).mono ?_)
  rintro e w2 ⟨x, A2, c2, rfl, hS, hA2, hl, f0, f1, g0, g1, hk, hc⟩
  have HXB := Lib.hid (show WalB x from ⟨hl, f0, f1, g0, g1⟩); have HL := Lib.hid hl
  have HA2 := Lib.hid hA2
  have b5 : Box (w2.alloc (.cells #[.int .i64 x.fFirst, .int .i64 x.fBefore, .slice A2 x.fEntries.length c2] 25)) w2.heap.size #[.int .i64 x.fFirst, .int .i64 x.fBefore, .slice A2 x.fEntries.length c2] 25 := Box.new rfl
  have hb5 := (Below.refl w2.heap.size w2).alloc (Nat.le_refl _) (.cells #[.int .i64 x.fFirst, .int .i64 x.fBefore, .slice A2 x.fEntries.length c2] 25)
  have X2 := Lib.hid ((X2.out.kept hk (by first | (simp; done) | (simp; omega))).below hb5)
  have X3 := Lib.hid ((X3.out.kept hk (by first | (simp; done) | (simp; omega))).below hb5)
  have SX := Lib.hid (Rp.S_below hS hb5); have HC := Lib.hid ((hc.mono (show 0 + 20000 ≤ 20000 by decide)).below hb5)
  have HB3 := Lib.hid ((HB1.out.trans (hk.toBelow HB1.out.size (by first | (simp; done) | (simp; omega)))).trans (hb5.mono (by have := HB1.out.size; have := hk.size; omega)))
  have hg5 : w1.heap.size ≤ w2.heap.size := hk.size
  clear hS hA2 hk hc HB1 hl f0 f1 g0 g1
  go_upto_region 3 with fail
  have sz5 : w2.heap.size + 1 ≤ (w2.alloc (.cells #[.int .i64 x.fFirst, .int .i64 x.fBefore, .slice A2 x.fEntries.length c2] 25)).heap.size := by simp
  generalize w2.alloc (.cells #[.int .i64 x.fFirst, .int .i64 x.fBefore, .slice A2 x.fEntries.length c2] 25) = w3 at *
  have X5 := Lib.hid b5
  clear b5 hb5
  generalize w2.heap.size = g5 at *
  refine wp_region_tab (G := Int × Int × Int × ByteArray) (fun g => [(11, 0, .agg #[.int .i64 x.fFirst, .int .i64 x.fBefore, .slice A2 x.fEntries.length c2]), (0, 1, .pointer (some ⟨b, 0, none⟩)), (0, 2, .agg #[.int .i64 x.fFirst, .int .i64 x.fBefore, .slice A2 x.fEntries.length c2]), (0, 3, .int .i64 (termW x)), (0, 4, .pointer (some ⟨b, 0, none⟩)), (0, 5, .int .i64 g.1), (0, 6, .int .i64 (wrap64 (termW x + g.1))), (0, 7, .pointer (some ⟨b, 0, none⟩)), (0, 8, .int .i64 g.2.1), (0, 9, .int .i64 (wrap64 (wrap64 (termW x + g.1) - g.2.1))), (0, 10, .agg #[.int .i64 g.2.2.1, .string g.2.2.2])])
      (fun L g W => (Below w.heap.size w W) ∧
        (w3.heap.size ≤ W.heap.size) ∧
        (L 11 = false → Box W w.heap.size #[.int .i64 0, .int .i64 0, .slice none 0 0] 25) ∧
        (L 11 = true → Box W w.heap.size #[.int .i64 x.fFirst, .int .i64 x.fBefore, .slice A2 x.fEntries.length c2] 25) ∧
        (L 12 = false → Box W (w.heap.size + 1) #[.int .i64 0, .string ⟨#[]⟩] 27) ∧
        (L 12 = true → Box W (w.heap.size + 1) #[.int .i64 g.2.2.1, .string g.2.2.2] 27) ∧
        (Box W g5 #[.int .i64 x.fFirst, .int .i64 x.fBefore, .slice A2 x.fEntries.length c2] 25) ∧
        (kEntry.S W x.fEntries (.slice A2 x.fEntries.length c2)) ∧
        (L 5 = false → Cur W b bs A c 20000) ∧
        (L 5 = true → L 8 = false → Cur W b bs A c 20002) ∧
        (L 8 = true → L 10 = false → Cur W b bs A c 20004) ∧
        ((L 12 = true → L 11 = true ∧ L 10 = true)) ∧
        ((L 11 = true → L 10 = true ∧ L 0 = true)) ∧
        ((L 10 = true → L 8 = true ∧ L 9 = true)) ∧
        ((L 9 = true → L 6 = true ∧ L 8 = true)) ∧
        ((L 8 = true → L 5 = true)) ∧
        ((L 6 = true → L 3 = true ∧ L 5 = true)) ∧
        ((L 5 = true → L 3 = true)))
      (0, 0, 0, ⟨#[]⟩) (by kernel_rfl) (by kernel_rfl) (fun _ => rfl) ?_ ?_ ?_
  · exact ⟨HB3.out.drew, Nat.le_refl _, fun _ => X2.out.drew, nofun, fun _ => X3.out.drew, nofun, X5.out.drew, Rp.S_below SX.out (Below.refl _ _).drew, fun _ => HC.out.below (Below.refl _ _).drew, nofun, nofun, nofun, nofun, nofun, nofun, nofun, nofun, nofun⟩
  · simp (config := { maxSteps := 4000000 }) only [StepsT, layT, Nat.reduceAdd, Nat.reduceBEq, cond_true, cond_false]
    refine ⟨?_, ?_, ?_, ?_, ?_, ?_, ?_, ?_, ?_, ?_, ?_, ?_, ?_, trivial⟩
    · rintro L ⟨p, q, tg, sg⟩ W hL hd ⟨q0, q1, q2, q3, q4, q5, q6, q7, q8, q9, q10, q11, q12, q13, q14, q15, q16, q17⟩
      try dsimp only at q0 q1 q2 q3 q4 q5 q6 q7 q8 q9 q10 q11 q12 q13 q14 q15 q16 q17
      try simp only [depsT, Region.binds, forall_const, and_true, beq_iff_eq, reduceCtorEq, false_implies, true_and] at hd
      intro K hK; refine do_wanted rfl ?_
      have HK := Lib.hid hK; clear hK
      try simp only [hd, cond_true]
      have cc0 := q6.cell 0 (v := .int .i64 x.fFirst) rfl; have cc1 := q6.cell 1 (v := .int .i64 x.fBefore) rfl; have cc2 := q6.cell 2 (v := .slice A2 x.fEntries.length c2) rfl
      have Q0 := Lib.hid q0; have Q1 := Lib.hid q1; have Q2 := Lib.hid q2; have Q3 := Lib.hid q3; have Q4 := Lib.hid q4; have Q5 := Lib.hid q5; have Q6 := Lib.hid q6; have Q7 := Lib.hid q7; have Q8 := Lib.hid q8; have Q9 := Lib.hid q9; have Q10 := Lib.hid q10; have Q11 := Lib.hid q11; have Q12 := Lib.hid q12; have Q13 := Lib.hid q13; have Q14 := Lib.hid q14; have Q15 := Lib.hid q15; have Q16 := Lib.hid q16; have Q17 := Lib.hid q17
      clear q0 q1 q2 q3 q4 q5 q6 q7 q8 q9 q10 q11 q12 q13 q14 q15 q16 q17
      go_wp2
      exact HK.out _ _ ⟨⟨p, q, tg, sg⟩, by simp only [upd, Nat.reduceBEq, cond_true, cond_false, hd], ⟨Q0.out, Q1.out, Q2.out, Q3.out, Q4.out, Q5.out, Q6.out, Q7.out, Q8.out, Q9.out, Q10.out, Q11.out, fun h => ⟨(Q12.out h).1, rfl⟩, Q13.out, Q14.out, Q15.out, Q16.out, Q17.out⟩⟩
    · rintro L ⟨p, q, tg, sg⟩ W hL hd ⟨q0, q1, q2, q3, q4, q5, q6, q7, q8, q9, q10, q11, q12, q13, q14, q15, q16, q17⟩
      try dsimp only at q0 q1 q2 q3 q4 q5 q6 q7 q8 q9 q10 q11 q12 q13 q14 q15 q16 q17
      try simp only [depsT, Region.binds, forall_const, and_true, beq_iff_eq, reduceCtorEq, false_implies, true_and] at hd
      intro K hK; refine do_wanted rfl ?_
      have HK := Lib.hid hK; clear hK
      try simp only [hd, cond_true]
      have Q0 := Lib.hid q0; have Q1 := Lib.hid q1; have Q2 := Lib.hid q2; have Q3 := Lib.hid q3; have Q4 := Lib.hid q4; have Q5 := Lib.hid q5; have Q6 := Lib.hid q6; have Q7 := Lib.hid q7; have Q8 := Lib.hid q8; have Q9 := Lib.hid q9; have Q10 := Lib.hid q10; have Q11 := Lib.hid q11; have Q12 := Lib.hid q12; have Q13 := Lib.hid q13; have Q14 := Lib.hid q14; have Q15 := Lib.hid q15; have Q16 := Lib.hid q16; have Q17 := Lib.hid q17
      clear q0 q1 q2 q3 q4 q5 q6 q7 q8 q9 q10 q11 q12 q13 q14 q15 q16 q17
      go_wp2
      exact HK.out _ _ ⟨⟨p, q, tg, sg⟩, by simp only [upd, Nat.reduceBEq, cond_true, cond_false, hd], ⟨Q0.out, Q1.out, Q2.out, Q3.out, Q4.out, Q5.out, Q6.out, Q7.out, Q8.out, Q9.out, Q10.out, Q11.out, Q12.out, Q13.out, Q14.out, Q15.out, Q16.out, Q17.out⟩⟩
    · rintro L ⟨p, q, tg, sg⟩ W hL hd ⟨q0, q1, q2, q3, q4, q5, q6, q7, q8, q9, q10, q11, q12, q13, q14, q15, q16, q17⟩
      try dsimp only at q0 q1 q2 q3 q4 q5 q6 q7 q8 q9 q10 q11 q12 q13 q14 q15 q16 q17
      try simp only [depsT, Region.binds, forall_const, and_true, beq_iff_eq, reduceCtorEq, false_implies, true_and] at hd
      intro K hK; refine do_wanted rfl ?_
      have HK := Lib.hid hK; clear hK
      try simp only [hd, cond_true]
      have cc0 := q6.cell 0 (v := .int .i64 x.fFirst) rfl; have cc1 := q6.cell 1 (v := .int .i64 x.fBefore) rfl; have cc2 := q6.cell 2 (v := .slice A2 x.fEntries.length c2) rfl
      have Q0 := Lib.hid q0; have Q1 := Lib.hid q1; have Q2 := Lib.hid q2; have Q3 := Lib.hid q3; have Q4 := Lib.hid q4; have Q5 := Lib.hid q5; have Q6 := Lib.hid q6; have Q7 := Lib.hid q7; have Q8 := Lib.hid q8; have Q9 := Lib.hid q9; have Q10 := Lib.hid q10; have Q11 := Lib.hid q11; have Q12 := Lib.hid q12; have Q13 := Lib.hid q13; have Q14 := Lib.hid q14; have Q15 := Lib.hid q15; have Q16 := Lib.hid q16; have Q17 := Lib.hid q17
      clear q0 q1 q2 q3 q4 q5 q6 q7 q8 q9 q10 q11 q12 q13 q14 q15 q16 q17
      go_wp2
      exact HK.out _ _ ⟨⟨p, q, tg, sg⟩, by simp only [upd, Nat.reduceBEq, cond_true, cond_false, hd], ⟨Q0.out, Q1.out, Q2.out, Q3.out, Q4.out, Q5.out, Q6.out, Q7.out, Q8.out, Q9.out, Q10.out, Q11.out, Q12.out, Q13.out, Q14.out, Q15.out, Q16.out, Q17.out⟩⟩
    · rintro L ⟨p, q, tg, sg⟩ W hL hd ⟨q0, q1, q2, q3, q4, q5, q6, q7, q8, q9, q10, q11, q12, q13, q14, q15, q16, q17⟩
      try dsimp only at q0 q1 q2 q3 q4 q5 q6 q7 q8 q9 q10 q11 q12 q13 q14 q15 q16 q17
      try simp only [depsT, Region.binds, forall_const, and_true, beq_iff_eq, reduceCtorEq, false_implies, true_and] at hd
      intro K hK; refine do_wanted rfl ?_
      have HK := Lib.hid hK; clear hK
      try simp only [hd, cond_true]
      have Q0 := Lib.hid q0; have Q1 := Lib.hid q1; have Q2 := Lib.hid q2; have Q3 := Lib.hid q3; have Q4 := Lib.hid q4; have Q5 := Lib.hid q5; have Q6 := Lib.hid q6; have Q7 := Lib.hid q7; have Q8 := Lib.hid q8; have Q9 := Lib.hid q9; have Q10 := Lib.hid q10; have Q11 := Lib.hid q11; have Q12 := Lib.hid q12; have Q13 := Lib.hid q13; have Q14 := Lib.hid q14; have Q15 := Lib.hid q15; have Q16 := Lib.hid q16; have Q17 := Lib.hid q17
      clear q0 q1 q2 q3 q4 q5 q6 q7 q8 q9 q10 q11 q12 q13 q14 q15 q16 q17
      go_wp2_with ((with_reducible refine (sTerm_calls x _ _ Q7.out (by have := HL.out; omega)).mono ?_); rintro ee we ⟨rfl, hb⟩; have HB := Lib.hid hb; clear hb)
      exact HK.out _ _ ⟨⟨p, q, tg, sg⟩, by simp only [upd, Nat.reduceBEq, cond_true, cond_false, hd], ⟨Q0.out.trans (HB.out.mono Q0.out.size), Nat.le_trans Q1.out HB.out.size, fun h => (Q2.out h).below HB.out, fun h => (Q3.out h).below HB.out, fun h => (Q4.out h).below HB.out, fun h => (Q5.out h).below HB.out, Q6.out.below HB.out, Rp.S_below Q7.out HB.out, fun h => (Q8.out h).below HB.out, fun h k => (Q9.out h k).below HB.out, fun h k => (Q10.out h k).below HB.out, Q11.out, Q12.out, Q13.out, Q14.out, Q15.out, fun h => ⟨rfl, (Q16.out h).2⟩, fun h => rfl⟩⟩
    · rintro L ⟨p, q, tg, sg⟩ W hL hd ⟨q0, q1, q2, q3, q4, q5, q6, q7, q8, q9, q10, q11, q12, q13, q14, q15, q16, q17⟩
      try dsimp only at q0 q1 q2 q3 q4 q5 q6 q7 q8 q9 q10 q11 q12 q13 q14 q15 q16 q17
      try simp only [depsT, Region.binds, forall_const, and_true, beq_iff_eq, reduceCtorEq, false_implies, true_and] at hd
      intro K hK; refine do_wanted rfl ?_
      have HK := Lib.hid hK; clear hK
      try simp only [hd, cond_true]
      have Q0 := Lib.hid q0; have Q1 := Lib.hid q1; have Q2 := Lib.hid q2; have Q3 := Lib.hid q3; have Q4 := Lib.hid q4; have Q5 := Lib.hid q5; have Q6 := Lib.hid q6; have Q7 := Lib.hid q7; have Q8 := Lib.hid q8; have Q9 := Lib.hid q9; have Q10 := Lib.hid q10; have Q11 := Lib.hid q11; have Q12 := Lib.hid q12; have Q13 := Lib.hid q13; have Q14 := Lib.hid q14; have Q15 := Lib.hid q15; have Q16 := Lib.hid q16; have Q17 := Lib.hid q17
      clear q0 q1 q2 q3 q4 q5 q6 q7 q8 q9 q10 q11 q12 q13 q14 q15 q16 q17
      go_wp2
      exact HK.out _ _ ⟨⟨p, q, tg, sg⟩, by simp only [upd, Nat.reduceBEq, cond_true, cond_false, hd], ⟨Q0.out, Q1.out, Q2.out, Q3.out, Q4.out, Q5.out, Q6.out, Q7.out, Q8.out, Q9.out, Q10.out, Q11.out, Q12.out, Q13.out, Q14.out, Q15.out, Q16.out, Q17.out⟩⟩
    · rintro L ⟨p, q, tg, sg⟩ W hL hd ⟨q0, q1, q2, q3, q4, q5, q6, q7, q8, q9, q10, q11, q12, q13, q14, q15, q16, q17⟩
      try dsimp only at q0 q1 q2 q3 q4 q5 q6 q7 q8 q9 q10 q11 q12 q13 q14 q15 q16 q17
      try simp only [depsT, Region.binds, forall_const, and_true, beq_iff_eq, reduceCtorEq, false_implies, true_and] at hd
      intro K hK; refine do_wanted rfl ?_
      have HK := Lib.hid hK; clear hK
      try simp only [hd, cond_true]
      have E8 : L 8 = false := (by cases h : L 8 with | false => rfl | true => exact absurd (q15 h) (by rw [hL]; simp))
      have E6 : L 6 = false := (by cases h : L 6 with | false => rfl | true => exact absurd ((q16 h).2) (by rw [hL]; simp))
      have E9 : L 9 = false := (by cases h : L 9 with | false => rfl | true => exact absurd ((q14 h).1) (by rw [E6]; simp))
      have E10 : L 10 = false := (by cases h : L 10 with | false => rfl | true => exact absurd ((q13 h).1) (by rw [E8]; simp))
      have E11 : L 11 = false := (by cases h : L 11 with | false => rfl | true => exact absurd ((q12 h).1) (by rw [E10]; simp))
      have E12 : L 12 = false := (by cases h : L 12 with | false => rfl | true => exact absurd ((q11 h).2) (by rw [E10]; simp))
      try simp only [E6, E8, E9, E10, cond_false]
      have Q0 := Lib.hid q0; have Q1 := Lib.hid q1; have Q2 := Lib.hid q2; have Q3 := Lib.hid q3; have Q4 := Lib.hid q4; have Q5 := Lib.hid q5; have Q6 := Lib.hid q6; have Q7 := Lib.hid q7; have Q8 := Lib.hid q8; have Q9 := Lib.hid q9; have Q10 := Lib.hid q10; have Q11 := Lib.hid q11; have Q12 := Lib.hid q12; have Q13 := Lib.hid q13; have Q14 := Lib.hid q14; have Q15 := Lib.hid q15; have Q16 := Lib.hid q16; have Q17 := Lib.hid q17
      clear q0 q1 q2 q3 q4 q5 q6 q7 q8 q9 q10 q11 q12 q13 q14 q15 q16 q17
      go_wp2_with ((with_reducible refine (pick_calls 3 (Q8.out hL) (by decide)).mono ?_); rintro ee we ⟨pp, rfl, z0, z1, hk, hcur⟩)
      exact HK.out _ _ ⟨⟨pp, q, tg, sg⟩, by (simp only [upd, Nat.reduceBEq, cond_true, cond_false, hd, E6, E8, E9, E10]; try rfl), ⟨Q0.out.trans (hk.toBelow Q0.out.size (by first | (simp; done) | (simp; omega))), Nat.le_trans Q1.out hk.size, fun h => (Q2.out h).kept hk (by first | (simp; done) | (simp; omega)), fun h => absurd (show L 11 = true from h) (by simp [E11]), fun h => (Q4.out h).kept hk (by first | (simp; done) | (simp; omega)), fun h => absurd (show L 12 = true from h) (by simp [E12]), Q6.out.kept hk (by first | (simp; done) | (simp; omega)), S_keptC kEntry_flat Q7.out hk (fun a ha => by have := HA2.out a ha; omega), fun h => absurd h (by simp [upd]), fun _ _ => hcur, fun h _ => absurd (show L 8 = true from h) (by simp [E8]), Q11.out, Q12.out, Q13.out, Q14.out, fun h => rfl, fun h => ⟨(Q16.out h).1, rfl⟩, fun _ => (show L 3 = true by simp only [hd])⟩⟩
    · rintro L ⟨p, q, tg, sg⟩ W hL hd ⟨q0, q1, q2, q3, q4, q5, q6, q7, q8, q9, q10, q11, q12, q13, q14, q15, q16, q17⟩
      try dsimp only at q0 q1 q2 q3 q4 q5 q6 q7 q8 q9 q10 q11 q12 q13 q14 q15 q16 q17
      try simp only [depsT, Region.binds, forall_const, and_true, beq_iff_eq, reduceCtorEq, false_implies, true_and] at hd
      intro K hK; refine do_wanted rfl ?_
      have HK := Lib.hid hK; clear hK
      try simp only [hd, cond_true]
      have Q0 := Lib.hid q0; have Q1 := Lib.hid q1; have Q2 := Lib.hid q2; have Q3 := Lib.hid q3; have Q4 := Lib.hid q4; have Q5 := Lib.hid q5; have Q6 := Lib.hid q6; have Q7 := Lib.hid q7; have Q8 := Lib.hid q8; have Q9 := Lib.hid q9; have Q10 := Lib.hid q10; have Q11 := Lib.hid q11; have Q12 := Lib.hid q12; have Q13 := Lib.hid q13; have Q14 := Lib.hid q14; have Q15 := Lib.hid q15; have Q16 := Lib.hid q16; have Q17 := Lib.hid q17
      clear q0 q1 q2 q3 q4 q5 q6 q7 q8 q9 q10 q11 q12 q13 q14 q15 q16 q17
      go_wp2
      exact HK.out _ _ ⟨⟨p, q, tg, sg⟩, by simp only [upd, Nat.reduceBEq, cond_true, cond_false, hd], ⟨Q0.out, Q1.out, Q2.out, Q3.out, Q4.out, Q5.out, Q6.out, Q7.out, Q8.out, Q9.out, Q10.out, Q11.out, Q12.out, Q13.out, fun h => ⟨rfl, (Q14.out h).2⟩, Q15.out, fun _ => ⟨(show L 3 = true by simp only [hd]), (show L 5 = true by simp only [hd])⟩, Q17.out⟩⟩
    · rintro L ⟨p, q, tg, sg⟩ W hL hd ⟨q0, q1, q2, q3, q4, q5, q6, q7, q8, q9, q10, q11, q12, q13, q14, q15, q16, q17⟩
      try dsimp only at q0 q1 q2 q3 q4 q5 q6 q7 q8 q9 q10 q11 q12 q13 q14 q15 q16 q17
      try simp only [depsT, Region.binds, forall_const, and_true, beq_iff_eq, reduceCtorEq, false_implies, true_and] at hd
      intro K hK; refine do_wanted rfl ?_
      have HK := Lib.hid hK; clear hK
      try simp only [hd, cond_true]
      have Q0 := Lib.hid q0; have Q1 := Lib.hid q1; have Q2 := Lib.hid q2; have Q3 := Lib.hid q3; have Q4 := Lib.hid q4; have Q5 := Lib.hid q5; have Q6 := Lib.hid q6; have Q7 := Lib.hid q7; have Q8 := Lib.hid q8; have Q9 := Lib.hid q9; have Q10 := Lib.hid q10; have Q11 := Lib.hid q11; have Q12 := Lib.hid q12; have Q13 := Lib.hid q13; have Q14 := Lib.hid q14; have Q15 := Lib.hid q15; have Q16 := Lib.hid q16; have Q17 := Lib.hid q17
      clear q0 q1 q2 q3 q4 q5 q6 q7 q8 q9 q10 q11 q12 q13 q14 q15 q16 q17
      go_wp2
      exact HK.out _ _ ⟨⟨p, q, tg, sg⟩, by simp only [upd, Nat.reduceBEq, cond_true, cond_false, hd], ⟨Q0.out, Q1.out, Q2.out, Q3.out, Q4.out, Q5.out, Q6.out, Q7.out, Q8.out, Q9.out, Q10.out, Q11.out, Q12.out, Q13.out, Q14.out, Q15.out, Q16.out, Q17.out⟩⟩
    · rintro L ⟨p, q, tg, sg⟩ W hL hd ⟨q0, q1, q2, q3, q4, q5, q6, q7, q8, q9, q10, q11, q12, q13, q14, q15, q16, q17⟩
      try dsimp only at q0 q1 q2 q3 q4 q5 q6 q7 q8 q9 q10 q11 q12 q13 q14 q15 q16 q17
      try simp only [depsT, Region.binds, forall_const, and_true, beq_iff_eq, reduceCtorEq, false_implies, true_and] at hd
      intro K hK; refine do_wanted rfl ?_
      have HK := Lib.hid hK; clear hK
      try simp only [hd, cond_true]
      have E9 : L 9 = false := (by cases h : L 9 with | false => rfl | true => exact absurd ((q14 h).2) (by rw [hL]; simp))
      have E10 : L 10 = false := (by cases h : L 10 with | false => rfl | true => exact absurd ((q13 h).1) (by rw [hL]; simp))
      have E11 : L 11 = false := (by cases h : L 11 with | false => rfl | true => exact absurd ((q12 h).1) (by rw [E10]; simp))
      have E12 : L 12 = false := (by cases h : L 12 with | false => rfl | true => exact absurd ((q11 h).2) (by rw [E10]; simp))
      try simp only [E9, E10, cond_false]
      have Q0 := Lib.hid q0; have Q1 := Lib.hid q1; have Q2 := Lib.hid q2; have Q3 := Lib.hid q3; have Q4 := Lib.hid q4; have Q5 := Lib.hid q5; have Q6 := Lib.hid q6; have Q7 := Lib.hid q7; have Q8 := Lib.hid q8; have Q9 := Lib.hid q9; have Q10 := Lib.hid q10; have Q11 := Lib.hid q11; have Q12 := Lib.hid q12; have Q13 := Lib.hid q13; have Q14 := Lib.hid q14; have Q15 := Lib.hid q15; have Q16 := Lib.hid q16; have Q17 := Lib.hid q17
      clear q0 q1 q2 q3 q4 q5 q6 q7 q8 q9 q10 q11 q12 q13 q14 q15 q16 q17
      go_wp2_with ((with_reducible refine (pick_calls 2 (Q9.out (show L 5 = true by simp only [hd]) hL) (by decide)).mono ?_); rintro ee we ⟨pp, rfl, z0, z1, hk, hcur⟩)
      exact HK.out _ _ ⟨⟨p, pp, tg, sg⟩, by (simp only [upd, Nat.reduceBEq, cond_true, cond_false, hd, E9, E10]; try rfl), ⟨Q0.out.trans (hk.toBelow Q0.out.size (by first | (simp; done) | (simp; omega))), Nat.le_trans Q1.out hk.size, fun h => (Q2.out h).kept hk (by first | (simp; done) | (simp; omega)), fun h => absurd (show L 11 = true from h) (by simp [E11]), fun h => (Q4.out h).kept hk (by first | (simp; done) | (simp; omega)), fun h => absurd (show L 12 = true from h) (by simp [E12]), Q6.out.kept hk (by first | (simp; done) | (simp; omega)), S_keptC kEntry_flat Q7.out hk (fun a ha => by have := HA2.out a ha; omega), fun h => absurd (show L 5 = true by simp only [hd]) (by rw [show L 5 = false from h]; simp), fun _ h => absurd h (by simp [upd]), fun _ _ => hcur, Q11.out, Q12.out, fun h => ⟨rfl, (Q13.out h).2⟩, fun h => ⟨(Q14.out h).1, rfl⟩, fun _ => (show L 5 = true by simp only [hd]), Q16.out, Q17.out⟩⟩
    · rintro L ⟨p, q, tg, sg⟩ W hL hd ⟨q0, q1, q2, q3, q4, q5, q6, q7, q8, q9, q10, q11, q12, q13, q14, q15, q16, q17⟩
      try dsimp only at q0 q1 q2 q3 q4 q5 q6 q7 q8 q9 q10 q11 q12 q13 q14 q15 q16 q17
      try simp only [depsT, Region.binds, forall_const, and_true, beq_iff_eq, reduceCtorEq, false_implies, true_and] at hd
      intro K hK; refine do_wanted rfl ?_
      have HK := Lib.hid hK; clear hK
      try simp only [hd, cond_true]
      have Q0 := Lib.hid q0; have Q1 := Lib.hid q1; have Q2 := Lib.hid q2; have Q3 := Lib.hid q3; have Q4 := Lib.hid q4; have Q5 := Lib.hid q5; have Q6 := Lib.hid q6; have Q7 := Lib.hid q7; have Q8 := Lib.hid q8; have Q9 := Lib.hid q9; have Q10 := Lib.hid q10; have Q11 := Lib.hid q11; have Q12 := Lib.hid q12; have Q13 := Lib.hid q13; have Q14 := Lib.hid q14; have Q15 := Lib.hid q15; have Q16 := Lib.hid q16; have Q17 := Lib.hid q17
      clear q0 q1 q2 q3 q4 q5 q6 q7 q8 q9 q10 q11 q12 q13 q14 q15 q16 q17
      go_wp2
      exact HK.out _ _ ⟨⟨p, q, tg, sg⟩, by simp only [upd, Nat.reduceBEq, cond_true, cond_false, hd], ⟨Q0.out, Q1.out, Q2.out, Q3.out, Q4.out, Q5.out, Q6.out, Q7.out, Q8.out, Q9.out, Q10.out, Q11.out, Q12.out, fun h => ⟨(Q13.out h).1, rfl⟩, fun _ => ⟨(show L 6 = true by simp only [hd]), (show L 8 = true by simp only [hd])⟩, Q15.out, Q16.out, Q17.out⟩⟩
    · rintro L ⟨p, q, tg, sg⟩ W hL hd ⟨q0, q1, q2, q3, q4, q5, q6, q7, q8, q9, q10, q11, q12, q13, q14, q15, q16, q17⟩
      try dsimp only at q0 q1 q2 q3 q4 q5 q6 q7 q8 q9 q10 q11 q12 q13 q14 q15 q16 q17
      try simp only [depsT, Region.binds, forall_const, and_true, beq_iff_eq, reduceCtorEq, false_implies, true_and] at hd
      intro K hK; refine do_wanted rfl ?_
      have HK := Lib.hid hK; clear hK
      try simp only [hd, cond_true]
      have E11 : L 11 = false := (by cases h : L 11 with | false => rfl | true => exact absurd ((q12 h).1) (by rw [hL]; simp))
      have E12 : L 12 = false := (by cases h : L 12 with | false => rfl | true => exact absurd ((q11 h).2) (by rw [hL]; simp))
      have h5 : L 5 = true := q15 (show L 8 = true by simp only [hd])
      have Q0 := Lib.hid q0; have Q1 := Lib.hid q1; have Q2 := Lib.hid q2; have Q3 := Lib.hid q3; have Q4 := Lib.hid q4; have Q5 := Lib.hid q5; have Q6 := Lib.hid q6; have Q7 := Lib.hid q7; have Q8 := Lib.hid q8; have Q9 := Lib.hid q9; have Q10 := Lib.hid q10; have Q11 := Lib.hid q11; have Q12 := Lib.hid q12; have Q13 := Lib.hid q13; have Q14 := Lib.hid q14; have Q15 := Lib.hid q15; have Q16 := Lib.hid q16; have Q17 := Lib.hid q17
      clear q0 q1 q2 q3 q4 q5 q6 q7 q8 q9 q10 q11 q12 q13 q14 q15 q16 q17
      go_wp2_with ((with_reducible refine (entry_calls _ (Q10.out (show L 8 = true by simp only [hd]) hL) (by decide) (by have := Q1.out; omega) (fun he a ha => by have := hA he a ha; have := Q1.out; omega)).mono ?_); rintro ee we ⟨tg2, sg2, rfl, z1, z2, hk, hcur⟩)
      exact HK.out _ _ ⟨⟨p, q, tg2, sg2⟩, by (simp only [upd, Nat.reduceBEq, cond_true, cond_false, hd, E11, E12, h5]; try rfl), ⟨Q0.out.trans (hk.toBelow Q0.out.size (by first | (simp; done) | (simp; omega))), Nat.le_trans Q1.out hk.size, fun h => (Q2.out h).kept hk (by first | (simp; done) | (simp; omega)), fun h => absurd (show L 11 = true from h) (by simp [E11]), fun h => (Q4.out h).kept hk (by first | (simp; done) | (simp; omega)), fun h => absurd (show L 12 = true from h) (by simp [E12]), Q6.out.kept hk (by first | (simp; done) | (simp; omega)), S_keptC kEntry_flat Q7.out hk (fun a ha => by have := HA2.out a ha; omega), fun h => absurd h5 (by rw [show L 5 = false from h]; simp), fun _ h => absurd (show L 8 = true by simp only [hd]) (by rw [show L 8 = false from h]; simp), fun _ h => absurd h (by simp [upd]), fun h => ⟨(Q11.out h).1, rfl⟩, fun h => ⟨rfl, (Q12.out h).2⟩, fun _ => ⟨(show L 8 = true by simp only [hd]), (show L 9 = true by simp only [hd])⟩, Q14.out, Q15.out, Q16.out, Q17.out⟩⟩
    · rintro L ⟨p, q, tg, sg⟩ W hL hd ⟨q0, q1, q2, q3, q4, q5, q6, q7, q8, q9, q10, q11, q12, q13, q14, q15, q16, q17⟩
      try dsimp only at q0 q1 q2 q3 q4 q5 q6 q7 q8 q9 q10 q11 q12 q13 q14 q15 q16 q17
      try simp only [depsT, Region.binds, forall_const, and_true, beq_iff_eq, reduceCtorEq, false_implies, true_and] at hd
      intro K hK; refine do_wanted rfl ?_
      have HK := Lib.hid hK; clear hK
      try simp only [hd, cond_true]
      have h10 : L 10 = true := (by simp only [hd])
      have hz := q2 hL
      have cz0 := hz.cell 0 (v := .int .i64 0) rfl; have cz1 := hz.cell 1 (v := .int .i64 0) rfl; have cz2 := hz.cell 2 (v := .slice none 0 0) rfl
      have fz := hz.fro
      have HZ := Lib.hid hz; clear hz
      have Q0 := Lib.hid q0; have Q1 := Lib.hid q1; have Q2 := Lib.hid q2; have Q3 := Lib.hid q3; have Q4 := Lib.hid q4; have Q5 := Lib.hid q5; have Q6 := Lib.hid q6; have Q7 := Lib.hid q7; have Q8 := Lib.hid q8; have Q9 := Lib.hid q9; have Q10 := Lib.hid q10; have Q11 := Lib.hid q11; have Q12 := Lib.hid q12; have Q13 := Lib.hid q13; have Q14 := Lib.hid q14; have Q15 := Lib.hid q15; have Q16 := Lib.hid q16; have Q17 := Lib.hid q17
      clear q0 q1 q2 q3 q4 q5 q6 q7 q8 q9 q10 q11 q12 q13 q14 q15 q16 q17
      go_wp2
      change K _ (Rp.setN W (w.heap.size) 0 [.int .i64 x.fFirst, .int .i64 x.fBefore, .slice A2 x.fEntries.length c2])
      obtain ⟨hk, hbx⟩ := HZ.out.stored [.int .i64 x.fFirst, .int .i64 x.fBefore, .slice A2 x.fEntries.length c2] 0
      rw [setA_all (by rfl)] at hbx
      exact HK.out _ _ ⟨⟨p, q, tg, sg⟩, by simp only [upd, Nat.reduceBEq, cond_true, cond_false, hd], ⟨Q0.out.trans (hk.toBelow Q0.out.size (by first | (simp; done) | (simp; omega))), Nat.le_trans Q1.out hk.size, fun h => absurd h (by simp [upd]), fun _ => hbx, fun h => (Q4.out h).kept hk (by first | (simp; done) | (simp; omega)), fun h => (Q5.out h).kept hk (by first | (simp; done) | (simp; omega)), Q6.out.kept hk (by first | (simp; done) | (simp; omega)), S_keptC kEntry_flat Q7.out hk (fun a ha => by have := HA2.out a ha; omega), fun h => (Q8.out h).kept hk (by first | (simp; done) | (simp; omega)) (fun he a ha => by have := hA he a ha; simp; omega), fun h h2 => (Q9.out h h2).kept hk (by first | (simp; done) | (simp; omega)) (fun he a ha => by have := hA he a ha; simp; omega), fun h h2 => (Q10.out h h2).kept hk (by first | (simp; done) | (simp; omega)) (fun he a ha => by have := hA he a ha; simp; omega), fun h => ⟨rfl, (Q11.out h).2⟩, fun _ => ⟨(show L 10 = true by simp only [hd]), (show L 0 = true by simp only [hd])⟩, Q13.out, Q14.out, Q15.out, Q16.out, Q17.out⟩⟩
    · rintro L ⟨p, q, tg, sg⟩ W hL hd ⟨q0, q1, q2, q3, q4, q5, q6, q7, q8, q9, q10, q11, q12, q13, q14, q15, q16, q17⟩
      try dsimp only at q0 q1 q2 q3 q4 q5 q6 q7 q8 q9 q10 q11 q12 q13 q14 q15 q16 q17
      try simp only [depsT, Region.binds, forall_const, and_true, beq_iff_eq, reduceCtorEq, false_implies, true_and] at hd
      intro K hK; refine do_wanted rfl ?_
      have HK := Lib.hid hK; clear hK
      try simp only [hd, cond_true]
      have h10 : L 10 = true := (by simp only [hd])
      have hz := q4 hL
      have cz0 := hz.cell 0 (v := .int .i64 0) rfl; have cz1 := hz.cell 1 (v := .string ⟨#[]⟩) rfl
      have fz := hz.fro
      have HZ := Lib.hid hz; clear hz
      have Q0 := Lib.hid q0; have Q1 := Lib.hid q1; have Q2 := Lib.hid q2; have Q3 := Lib.hid q3; have Q4 := Lib.hid q4; have Q5 := Lib.hid q5; have Q6 := Lib.hid q6; have Q7 := Lib.hid q7; have Q8 := Lib.hid q8; have Q9 := Lib.hid q9; have Q10 := Lib.hid q10; have Q11 := Lib.hid q11; have Q12 := Lib.hid q12; have Q13 := Lib.hid q13; have Q14 := Lib.hid q14; have Q15 := Lib.hid q15; have Q16 := Lib.hid q16; have Q17 := Lib.hid q17
      clear q0 q1 q2 q3 q4 q5 q6 q7 q8 q9 q10 q11 q12 q13 q14 q15 q16 q17
      go_wp2
      change K _ (Rp.setN W (w.heap.size + 1) 0 [.int .i64 tg, .string sg])
      obtain ⟨hk, hbx⟩ := HZ.out.stored [.int .i64 tg, .string sg] 0
      rw [setA_all (by rfl)] at hbx
      exact HK.out _ _ ⟨⟨p, q, tg, sg⟩, by simp only [upd, Nat.reduceBEq, cond_true, cond_false, hd], ⟨Q0.out.trans (hk.toBelow Q0.out.size (by first | (simp; done) | (simp; omega))), Nat.le_trans Q1.out hk.size, fun h => (Q2.out h).kept hk (by first | (simp; done) | (simp; omega)), fun h => (Q3.out h).kept hk (by first | (simp; done) | (simp; omega)), fun h => absurd h (by simp [upd]), fun _ => hbx, Q6.out.kept hk (by first | (simp; done) | (simp; omega)), S_keptC kEntry_flat Q7.out hk (fun a ha => by have := HA2.out a ha; omega), fun h => (Q8.out h).kept hk (by first | (simp; done) | (simp; omega)) (fun he a ha => by have := hA he a ha; simp; omega), fun h h2 => (Q9.out h h2).kept hk (by first | (simp; done) | (simp; omega)) (fun he a ha => by have := hA he a ha; simp; omega), fun h h2 => (Q10.out h h2).kept hk (by first | (simp; done) | (simp; omega)) (fun he a ha => by have := hA he a ha; simp; omega), fun _ => ⟨(show L 11 = true by simp only [hd]), (show L 10 = true by simp only [hd])⟩, Q12.out, Q13.out, Q14.out, Q15.out, Q16.out, Q17.out⟩⟩
  · simp (config := { maxSteps := 4000000 }) only [layT, Nat.reduceAdd, Nat.reduceBEq, cond_true, cond_false]
    rintro L ⟨p, q, tg, sg⟩ W hd ⟨q0, q1, q2, q3, q4, q5, q6, q7, q8, q9, q10, q11, q12, q13, q14, q15, q16, q17⟩
    simp only [doneT, true_and, List.length_cons, List.length_nil, Nat.reduceAdd] at hd
    obtain ⟨⟨⟨⟨⟨⟨⟨⟨⟨⟨⟨⟨e0, e1⟩, e2⟩, e3⟩, e4⟩, e5⟩, e6⟩, e7⟩, e8⟩, e9⟩, e10⟩, e11⟩, e12⟩ := hd
    try dsimp only at q0 q1 q2 q3 q4 q5 q6 q7 q8 q9 q10 q11 q12 q13 q14 q15 q16 q17
    simp only [e0, e1, e2, e3, e4, e5, e6, e7, e8, e9, e10, e11, e12, cond_true]
    have dx := q3 e11; have de := q5 e12
    have HQ := Lib.hid q0; have HS := Lib.hid q7
    clear q0 q1 q2 q3 q4 q5 q6 q7 q8 q9 q10 q11 q12 q13 q14 q15 q16 q17
    have d0 := dx.cell 0 (v := .int .i64 x.fFirst) rfl; have d1 := dx.cell 1 (v := .int .i64 x.fBefore) rfl; have d2 := dx.cell 2 (v := .slice A2 x.fEntries.length c2) rfl
    have f0 := de.cell 0 (v := .int .i64 tg) rfl; have f1 := de.cell 1 (v := .string sg) rfl
    go_wp2
    refine bodyPost_ret (v := .tuple #[.agg #[.int .i64 x.fFirst, .int .i64 x.fBefore, .slice A2 x.fEntries.length c2], .agg #[.int .i64 tg, .string sg]]) (by simp [results, Try.results4, go_sem, d0, d1, d2, f0, f1]) rfl ⟨x, A2, c2, tg, sg, rfl, HS.out, HXB.out, HQ.out⟩
end Go.Proofs.Ytjigbmgfjmghcaa
