/- A piece is taken: spec.TakeChunk. -/
import Derived.Test.YtioelmhikablcaaTkE
namespace Go.Proofs.Ytioelmhikablcaa
open Go Go.RowKit Go.Sort
set_option linter.unusedVariables false
set_option linter.unusedSimpArgs false

set_option maxHeartbeats 4000000 in
set_option maxRecDepth 100000 in
theorem sTakeC_calls (ws : List DWanted) (xs : List DChunk) (y : DChunk) (v0 v1 : Value) (w : World) (g0 : kWanted.S w ws v0) (g1 : kChunk.S w xs v1) (hl : ws.length ≤ 1048576 ∧ xs.length ≤ 1048576) : Calls Try.prog 23 #[.agg #[v0, v1], .agg #[.int .i64 y.fFile, .int .i64 y.fAt, .string y.fData, .int .u32 y.fSum]] w
    fun e w' => ∃ v, e = .returned (.tuple #[v, .bool (tcB ws xs y)]) ∧ Made kTaking (tcX ws xs y) w w' v := by
  have G0 := Lib.hid g0
  have G1 := Lib.hid g1
  obtain ⟨A0, c0, rfl, _, _⟩ := g0
  obtain ⟨A2, c2, rfl, _, _⟩ := g1
  go_enter Try.func23, Try.ntmps23
  go_upto_region 1 with fail
  have HC := Lib.hid (show Below w.heap.size w (((w.alloc (.cells #[.slice A0 ws.length c0, .slice A2 xs.length c2] 33)).alloc (.cells #[.int .i64 y.fFile, .int .i64 y.fAt, .string y.fData, .int .u32 y.fSum] 46)).alloc (.cells #[.slice none 0 0, .slice none 0 0] 33)) from Below.alloc (Below.alloc (Below.alloc (Below.refl w.heap.size w) (by first | exact Nat.le_refl _ | (simp; done) | (simp; omega)) (.cells #[.slice A0 ws.length c0, .slice A2 xs.length c2] 33)) (by first | exact Nat.le_refl _ | (simp; done) | (simp; omega)) (.cells #[.int .i64 y.fFile, .int .i64 y.fAt, .string y.fData, .int .u32 y.fSum] 46)) (by first | exact Nat.le_refl _ | (simp; done) | (simp; omega)) (.cells #[.slice none 0 0, .slice none 0 0] 33))
  have Xt := Lib.hid (show Box (((w.alloc (.cells #[.slice A0 ws.length c0, .slice A2 xs.length c2] 33)).alloc (.cells #[.int .i64 y.fFile, .int .i64 y.fAt, .string y.fData, .int .u32 y.fSum] 46)).alloc (.cells #[.slice none 0 0, .slice none 0 0] 33)) (w.heap.size) #[.slice A0 ws.length c0, .slice A2 xs.length c2] 33 from Box.alloc (Box.alloc (Box.new rfl)))
  have Xc := Lib.hid (show Box (((w.alloc (.cells #[.slice A0 ws.length c0, .slice A2 xs.length c2] 33)).alloc (.cells #[.int .i64 y.fFile, .int .i64 y.fAt, .string y.fData, .int .u32 y.fSum] 46)).alloc (.cells #[.slice none 0 0, .slice none 0 0] 33)) (w.heap.size + 1) #[.int .i64 y.fFile, .int .i64 y.fAt, .string y.fData, .int .u32 y.fSum] 46 from Box.alloc (Box.new (by simp)))
  have Xr := Lib.hid (show Box (((w.alloc (.cells #[.slice A0 ws.length c0, .slice A2 xs.length c2] 33)).alloc (.cells #[.int .i64 y.fFile, .int .i64 y.fAt, .string y.fData, .int .u32 y.fSum] 46)).alloc (.cells #[.slice none 0 0, .slice none 0 0] 33)) (w.heap.size + 1 + 1) #[.slice none 0 0, .slice none 0 0] 33 from Box.new (by simp))
  have hsz : w.heap.size + 3 ≤ (((w.alloc (.cells #[.slice A0 ws.length c0, .slice A2 xs.length c2] 33)).alloc (.cells #[.int .i64 y.fFile, .int .i64 y.fAt, .string y.fData, .int .u32 y.fSum] 46)).alloc (.cells #[.slice none 0 0, .slice none 0 0] 33)).heap.size := by simp
  generalize ((w.alloc (.cells #[.slice A0 ws.length c0, .slice A2 xs.length c2] 33)).alloc (.cells #[.int .i64 y.fFile, .int .i64 y.fAt, .string y.fData, .int .u32 y.fSum] 46)).alloc (.cells #[.slice none 0 0, .slice none 0 0] 33) = w1 at *
  have ct_0 := Xt.out.cell 0 (v := .slice A0 ws.length c0) rfl; have ct_1 := Xt.out.cell 1 (v := .slice A2 xs.length c2) rfl; have cc_0 := Xc.out.cell 0 (v := .int .i64 y.fFile) rfl; have cc_1 := Xc.out.cell 1 (v := .int .i64 y.fAt) rfl; have cc_2 := Xc.out.cell 2 (v := .string y.fData) rfl; have cc_3 := Xc.out.cell 3 (v := .int .u32 y.fSum) rfl; have cr_0 := Xr.out.cell 0 (v := .slice none 0 0) rfl; have cr_1 := Xr.out.cell 1 (v := .slice none 0 0) rfl
  go_wp2_with fail
  (with_reducible refine (sGoodT_calls ws xs _ _ _ (Rp.S_below G0.out HC.out) (Rp.S_below G1.out HC.out) hl).mono ?_)
  rintro e w2 ⟨rfl, hb⟩
  have HC := Lib.hid (HC.out.trans (hb.mono (by first | exact HC.out.size | (have := HC.out.size; omega)))); have hsz := Nat.le_trans hsz hb.size; have Xt := Lib.hid (Xt.out.below hb); have Xc := Lib.hid (Xc.out.below hb); have Xr := Lib.hid (Xr.out.below hb); clear ct_0 ct_1 cc_0 cc_1 cc_2 cc_3 cr_0 cr_1; clear hb; have ct_0 := Xt.out.cell 0 (v := .slice A0 ws.length c0) rfl; have ct_1 := Xt.out.cell 1 (v := .slice A2 xs.length c2) rfl; have cc_0 := Xc.out.cell 0 (v := .int .i64 y.fFile) rfl; have cc_1 := Xc.out.cell 1 (v := .int .i64 y.fAt) rfl; have cc_2 := Xc.out.cell 2 (v := .string y.fData) rfl; have cc_3 := Xc.out.cell 3 (v := .int .u32 y.fSum) rfl; have cr_0 := Xr.out.cell 0 (v := .slice none 0 0) rfl; have cr_1 := Xr.out.cell 1 (v := .slice none 0 0) rfl
  cases hg : tkOk ws xs
  case false =>
    have HX := Lib.hid (show tcB ws xs y = false by rw [tcB, hg]; rfl)
    have fr_ := Xr.out.fro
    go_wp2
    obtain ⟨hk, bf⟩ := Xr.out.stored [.slice none 0 0, .slice none 0 0] 0
    rw [setA_all (by rfl)] at bf
    change bodyPost _ _ _ _ _ (Rp.setN w2 (w.heap.size + 1 + 1) 0 [.slice none 0 0, .slice none 0 0])
    clear fr_ ct_0 ct_1 cc_0 cc_1 cc_2 cc_3 cr_0 cr_1
    have HK := Lib.hid hk; clear hk
    generalize Rp.setN w2 (w.heap.size + 1 + 1) 0 [.slice none 0 0, .slice none 0 0] = wf at *
    have df0 := bf.cell 0 (v := .slice none 0 0) rfl; have df1 := bf.cell 1 (v := .slice none 0 0) rfl
    refine bodyPost_ret (v := .tuple #[.agg #[.slice none 0 0, .slice none 0 0], .bool false]) (by simp [results, Try.results23, go_sem, df0, df1]) rfl ⟨_, by rw [HX.out], by rw [tcX, HX.out]; exact Made.tz (HC.out.trans (HK.out.toBelow HC.out.size (by simp; omega)))⟩
  case true =>
    obtain ⟨hw, hx, ho, hgd⟩ := tk_open hg
    have HG := Lib.hid hg; clear hg
    go_wp2_with fail
    (with_reducible refine (sTake_calls ws xs y _ _ _ (Rp.S_below G0.out HC.out) (Rp.S_below G1.out HC.out) hw hx ho hgd).mono ?_)
    rintro e w3 ⟨vn, rfl, s1, hb, _⟩
    have SN := Lib.hid s1
    obtain ⟨PN, CN, e1, _, _⟩ := s1
    obtain ⟨nn, HNN⟩ : ∃ nn, Hid ((tkX ws xs y).length = nn) := ⟨_, rfl⟩
    rw [HNN.out] at e1
    subst e1
    have HC := Lib.hid (HC.out.trans (hb.mono (by first | exact HC.out.size | (have := HC.out.size; omega)))); have hsz := Nat.le_trans hsz hb.size; have Xt := Lib.hid (Xt.out.below hb); have Xc := Lib.hid (Xc.out.below hb); have Xr := Lib.hid (Xr.out.below hb); clear ct_0 ct_1 cc_0 cc_1 cc_2 cc_3 cr_0 cr_1; clear hb; have ct_0 := Xt.out.cell 0 (v := .slice A0 ws.length c0) rfl; have ct_1 := Xt.out.cell 1 (v := .slice A2 xs.length c2) rfl; have cc_0 := Xc.out.cell 0 (v := .int .i64 y.fFile) rfl; have cc_1 := Xc.out.cell 1 (v := .int .i64 y.fAt) rfl; have cc_2 := Xc.out.cell 2 (v := .string y.fData) rfl; have cc_3 := Xc.out.cell 3 (v := .int .u32 y.fSum) rfl; have cr_0 := Xr.out.cell 0 (v := .slice none 0 0) rfl; have cr_1 := Xr.out.cell 1 (v := .slice none 0 0) rfl
    go_upto_region 4 with fail
    have SN := Lib.hid (Rp.S_below SN.out ((Below.refl w3.heap.size w3).alloc (Nat.le_refl _) (.cells #[.slice A0 ws.length c0, .slice PN nn CN] 33)))
    have h3 := hsz
    have hb := (Below.refl w3.heap.size w3).alloc (Nat.le_refl _) (.cells #[.slice A0 ws.length c0, .slice PN nn CN] 33)
    have hso : w3.heap.size + 1 ≤ (w3.alloc (.cells #[.slice A0 ws.length c0, .slice PN nn CN] 33)).heap.size := by simp
    have Xo := Lib.hid (show Box (w3.alloc (.cells #[.slice A0 ws.length c0, .slice PN nn CN] 33)) w3.heap.size #[.slice A0 ws.length c0, .slice PN nn CN] 33 from Box.new rfl)
    generalize w3.alloc (.cells #[.slice A0 ws.length c0, .slice PN nn CN] 33) = w4 at *
    have HC := Lib.hid (HC.out.trans (hb.mono (by first | exact HC.out.size | (have := HC.out.size; omega)))); have hsz := Nat.le_trans hsz hb.size; have Xt := Lib.hid (Xt.out.below hb); have Xc := Lib.hid (Xc.out.below hb); have Xr := Lib.hid (Xr.out.below hb); clear ct_0 ct_1 cc_0 cc_1 cc_2 cc_3 cr_0 cr_1; clear hb; have ct_0 := Xt.out.cell 0 (v := .slice A0 ws.length c0) rfl; have ct_1 := Xt.out.cell 1 (v := .slice A2 xs.length c2) rfl; have cc_0 := Xc.out.cell 0 (v := .int .i64 y.fFile) rfl; have cc_1 := Xc.out.cell 1 (v := .int .i64 y.fAt) rfl; have cc_2 := Xc.out.cell 2 (v := .string y.fData) rfl; have cc_3 := Xc.out.cell 3 (v := .int .u32 y.fSum) rfl; have cr_0 := Xr.out.cell 0 (v := .slice none 0 0) rfl; have cr_1 := Xr.out.cell 1 (v := .slice none 0 0) rfl
    have co_0 := Xo.out.cell 0 (v := .slice A0 ws.length c0) rfl; have co_1 := Xo.out.cell 1 (v := .slice PN nn CN) rfl
    have SW := Lib.hid (Rp.S_below G0.out HC.out)
    cases hk : tkB ws xs y
    case false =>
      have HX := Lib.hid (show tcB ws xs y = false by rw [tcB, hk, Bool.and_false])
      have fr_ := Xr.out.fro
      go_wp2
      obtain ⟨hk, bf⟩ := Xr.out.stored [.slice none 0 0, .slice none 0 0] 0
      rw [setA_all (by rfl)] at bf
      change bodyPost _ _ _ _ _ (Rp.setN w4 (w.heap.size + 1 + 1) 0 [.slice none 0 0, .slice none 0 0])
      clear fr_ ct_0 ct_1 cc_0 cc_1 cc_2 cc_3 cr_0 cr_1 co_0 co_1
      have HK := Lib.hid hk; clear hk
      generalize Rp.setN w4 (w.heap.size + 1 + 1) 0 [.slice none 0 0, .slice none 0 0] = wf at *
      have df0 := bf.cell 0 (v := .slice none 0 0) rfl; have df1 := bf.cell 1 (v := .slice none 0 0) rfl
      refine bodyPost_ret (v := .tuple #[.agg #[.slice none 0 0, .slice none 0 0], .bool false]) (by simp [results, Try.results23, go_sem, df0, df1]) rfl ⟨_, by rw [HX.out], by rw [tcX, HX.out]; exact Made.tz (HC.out.trans (HK.out.toBelow HC.out.size (by simp; omega)))⟩
    case true =>
      have HX := Lib.hid (show tcB ws xs y = true by rw [tcB, hk, HG.out]; rfl)
      clear hk
      go_upto_region 6 with fail
      have h34 : w3.heap.size < w4.heap.size := Xo.out.lt
      have hlen : (tkX ws xs y).length ≤ 201 := by have := tkX_len ws xs y; omega
      clear ct_0 ct_1 cc_0 cc_1 cc_2 cc_3 cr_0 cr_1 co_0 co_1
      refine wp_region_tab (G := Nat × Value × Nat × Value) (fun g => [(5, 10, .bool true), (15, 0, .slice (some ⟨g.1, 0, none⟩) 0 0), (0, 1, .pointer (some ⟨w3.heap.size, 0, none⟩)), (0, 2, .slice A0 ws.length c0), (0, 3, g.2.1), (0, 4, .slice (some ⟨g.2.2.1, 0, none⟩) 0 0), (0, 5, .pointer (some ⟨w3.heap.size, 1, none⟩)), (0, 6, .slice PN nn CN), (0, 7, g.2.2.2), (0, 8, .agg #[g.2.1, g.2.2.2])])
          (fun L g W => (Below w.heap.size w W) ∧
            (L 9 = false → Below w4.heap.size w4 W) ∧
            (w4.heap.size ≤ W.heap.size) ∧
            (Box W w3.heap.size #[.slice A0 ws.length c0, .slice PN nn CN] 33) ∧
            (L 9 = false → Box W (w.heap.size + 1 + 1) #[.slice none 0 0, .slice none 0 0] 33) ∧
            (L 9 = true → Box W (w.heap.size + 1 + 1) #[g.2.1, g.2.2.2] 33) ∧
            (L 0 = true → w4.heap.size ≤ g.1 ∧ g.1 < W.heap.size) ∧
            (L 0 = true → L 3 = false → kWanted.Row 136 W [g.1] [] (.slice (some ⟨g.1, 0, none⟩) 0 0)) ∧
            (L 3 = true → kWanted.Row 136 W (Rp.ofOwn g.2.1) ws g.2.1 ∧ ∀ b ∈ Rp.ofOwn g.2.1, w4.heap.size ≤ b) ∧
            (L 4 = true → w4.heap.size ≤ g.2.2.1 ∧ g.2.2.1 < W.heap.size) ∧
            (L 4 = true → L 7 = false → kChunk.Row 46 W [g.2.2.1] [] (.slice (some ⟨g.2.2.1, 0, none⟩) 0 0)) ∧
            (L 7 = true → kChunk.Row 46 W (Rp.ofOwn g.2.2.2) (tkX ws xs y) g.2.2.2 ∧ ∀ b ∈ Rp.ofOwn g.2.2.2, w4.heap.size ≤ b) ∧
            (L 0 = true → L 4 = true → g.1 ≠ g.2.2.1) ∧
            (L 0 = true → L 7 = true → g.1 ∉ Rp.ofOwn g.2.2.2) ∧
            (L 4 = true → L 3 = true → g.2.2.1 ∉ Rp.ofOwn g.2.1) ∧
            (L 3 = true → L 7 = true → ∀ b ∈ Rp.ofOwn g.2.2.2, b ∉ Rp.ofOwn g.2.1) ∧
            ((L 9 = true → L 8 = true)) ∧
            ((L 8 = true → L 3 = true ∧ L 7 = true)) ∧
            ((L 3 = true → L 0 = true)) ∧
            ((L 7 = true → L 4 = true)))
          (0, undef, 0, undef) (by kernel_rfl) (by kernel_rfl) (fun _ => rfl) ?_ ?_ ?_
      · exact ⟨HC.out.drew, fun _ => (Below.refl _ _).drew, Nat.le_refl _, Xo.out.drew, fun _ => Xr.out.drew, nofun, nofun, nofun, nofun, nofun, nofun, nofun, nofun, nofun, nofun, nofun, nofun, nofun, nofun, nofun⟩
      · simp (config := { maxSteps := 4000000 }) only [StepsT, layT, Nat.reduceAdd, Nat.reduceBEq, cond_true, cond_false]
        refine ⟨?_, ?_, ?_, ?_, ?_, ?_, ?_, ?_, ?_, ?_, ?_, trivial⟩
        · rintro L ⟨g0, v3, g4, v7⟩ W hL hd ⟨q0, q1, q2, q3, q4, q5, q6, q7, q8, q9, q10, q11, q12, q13, q14, q15, q16, q17, q18, q19⟩
          try dsimp only at q0 q1 q2 q3 q4 q5 q6 q7 q8 q9 q10 q11 q12 q13 q14 q15 q16 q17 q18 q19
          try simp only [depsT, Region.binds, forall_const, and_true, beq_iff_eq, reduceCtorEq, false_implies, true_and] at hd
          intro K hK; refine do_wanted rfl ?_
          have HK := Lib.hid hK; clear hK
          try simp only [hd, cond_true]
          have E3 : L 3 = false := (by cases h : L 3 with | false => rfl | true => exact absurd (q18 h) (by rw [hL]; simp))
          have E8 : L 8 = false := (by cases h : L 8 with | false => rfl | true => exact absurd ((q17 h).1) (by rw [E3]; simp))
          have E9 : L 9 = false := (by cases h : L 9 with | false => rfl | true => exact absurd (q16 h) (by rw [E8]; simp))
          simp only [E8, E3, cond_false]
          have Q0 := Lib.hid q0; have Q1 := Lib.hid q1; have Q2 := Lib.hid q2; have Q3 := Lib.hid q3; have Q4 := Lib.hid q4; have Q5 := Lib.hid q5; have Q6 := Lib.hid q6; have Q7 := Lib.hid q7; have Q8 := Lib.hid q8; have Q9 := Lib.hid q9; have Q10 := Lib.hid q10; have Q11 := Lib.hid q11; have Q12 := Lib.hid q12; have Q13 := Lib.hid q13; have Q14 := Lib.hid q14; have Q15 := Lib.hid q15; have Q16 := Lib.hid q16; have Q17 := Lib.hid q17; have Q18 := Lib.hid q18; have Q19 := Lib.hid q19
          clear q0 q1 q2 q3 q4 q5 q6 q7 q8 q9 q10 q11 q12 q13 q14 q15 q16 q17 q18 q19
          go_wp2
          have HB := Lib.hid ((Below.refl W.heap.size W).alloc (Nat.le_refl _) (.cells #[] 136))
          exact HK.out _ _ ⟨⟨W.heap.size, v3, g4, v7⟩, by (simp only [upd, Nat.reduceBEq, cond_true, cond_false, hd, E8, E3]; try rfl), ⟨Q0.out.trans (HB.out.mono (Nat.le_trans HC.out.size Q2.out)), fun h => (Q1.out h).trans (HB.out.mono Q2.out), Nat.le_trans Q2.out HB.out.size, Q3.out.below HB.out, fun h => (Q4.out h).below HB.out, fun h => (Q5.out h).below HB.out, fun _ => ⟨Q2.out, by simp⟩, fun _ _ => Rp.Row_made0 kWanted 136 W rfl, fun h => ⟨Rp.Row_below (Q8.out h).1 HB.out, (Q8.out h).2⟩, fun h => ⟨(Q9.out h).1, Nat.lt_of_lt_of_le (Q9.out h).2 HB.out.size⟩, fun h k => Rp.Row_below (Q10.out h k) HB.out, fun h => ⟨Rp.Row_below (Q11.out h).1 HB.out, (Q11.out h).2⟩, fun _ h e => by have h5 := (Q9.out h).2; have h6 : W.heap.size = g4 := e; omega, fun _ h e => by have h5 := Rp.Row_lt (Q11.out h).1 _ e; have h6 : W.heap.size < W.heap.size := h5; omega, Q14.out, Q15.out, Q16.out, Q17.out, fun h => rfl, Q19.out⟩⟩
        · rintro L ⟨g0, v3, g4, v7⟩ W hL hd ⟨q0, q1, q2, q3, q4, q5, q6, q7, q8, q9, q10, q11, q12, q13, q14, q15, q16, q17, q18, q19⟩
          try dsimp only at q0 q1 q2 q3 q4 q5 q6 q7 q8 q9 q10 q11 q12 q13 q14 q15 q16 q17 q18 q19
          try simp only [depsT, Region.binds, forall_const, and_true, beq_iff_eq, reduceCtorEq, false_implies, true_and] at hd
          intro K hK; refine do_wanted rfl ?_
          have HK := Lib.hid hK; clear hK
          try simp only [hd, cond_true]
          have Q0 := Lib.hid q0; have Q1 := Lib.hid q1; have Q2 := Lib.hid q2; have Q3 := Lib.hid q3; have Q4 := Lib.hid q4; have Q5 := Lib.hid q5; have Q6 := Lib.hid q6; have Q7 := Lib.hid q7; have Q8 := Lib.hid q8; have Q9 := Lib.hid q9; have Q10 := Lib.hid q10; have Q11 := Lib.hid q11; have Q12 := Lib.hid q12; have Q13 := Lib.hid q13; have Q14 := Lib.hid q14; have Q15 := Lib.hid q15; have Q16 := Lib.hid q16; have Q17 := Lib.hid q17; have Q18 := Lib.hid q18; have Q19 := Lib.hid q19
          clear q0 q1 q2 q3 q4 q5 q6 q7 q8 q9 q10 q11 q12 q13 q14 q15 q16 q17 q18 q19
          go_wp2
          exact HK.out _ _ ⟨⟨g0, v3, g4, v7⟩, by simp only [upd, Nat.reduceBEq, cond_true, cond_false, hd], ⟨Q0.out, Q1.out, Q2.out, Q3.out, Q4.out, Q5.out, Q6.out, Q7.out, Q8.out, Q9.out, Q10.out, Q11.out, Q12.out, Q13.out, Q14.out, Q15.out, Q16.out, Q17.out, Q18.out, Q19.out⟩⟩
        · rintro L ⟨g0, v3, g4, v7⟩ W hL hd ⟨q0, q1, q2, q3, q4, q5, q6, q7, q8, q9, q10, q11, q12, q13, q14, q15, q16, q17, q18, q19⟩
          try dsimp only at q0 q1 q2 q3 q4 q5 q6 q7 q8 q9 q10 q11 q12 q13 q14 q15 q16 q17 q18 q19
          try simp only [depsT, Region.binds, forall_const, and_true, beq_iff_eq, reduceCtorEq, false_implies, true_and] at hd
          intro K hK; refine do_wanted rfl ?_
          have HK := Lib.hid hK; clear hK
          try simp only [hd, cond_true]
          have cc := q3.cell 0 (v := .slice A0 ws.length c0) rfl
          have Q0 := Lib.hid q0; have Q1 := Lib.hid q1; have Q2 := Lib.hid q2; have Q3 := Lib.hid q3; have Q4 := Lib.hid q4; have Q5 := Lib.hid q5; have Q6 := Lib.hid q6; have Q7 := Lib.hid q7; have Q8 := Lib.hid q8; have Q9 := Lib.hid q9; have Q10 := Lib.hid q10; have Q11 := Lib.hid q11; have Q12 := Lib.hid q12; have Q13 := Lib.hid q13; have Q14 := Lib.hid q14; have Q15 := Lib.hid q15; have Q16 := Lib.hid q16; have Q17 := Lib.hid q17; have Q18 := Lib.hid q18; have Q19 := Lib.hid q19
          clear q0 q1 q2 q3 q4 q5 q6 q7 q8 q9 q10 q11 q12 q13 q14 q15 q16 q17 q18 q19
          go_wp2
          exact HK.out _ _ ⟨⟨g0, v3, g4, v7⟩, by simp only [upd, Nat.reduceBEq, cond_true, cond_false, hd], ⟨Q0.out, Q1.out, Q2.out, Q3.out, Q4.out, Q5.out, Q6.out, Q7.out, Q8.out, Q9.out, Q10.out, Q11.out, Q12.out, Q13.out, Q14.out, Q15.out, Q16.out, Q17.out, Q18.out, Q19.out⟩⟩
        · rintro L ⟨g0, v3, g4, v7⟩ W hL hd ⟨q0, q1, q2, q3, q4, q5, q6, q7, q8, q9, q10, q11, q12, q13, q14, q15, q16, q17, q18, q19⟩
          try dsimp only at q0 q1 q2 q3 q4 q5 q6 q7 q8 q9 q10 q11 q12 q13 q14 q15 q16 q17 q18 q19
          try simp only [depsT, Region.binds, forall_const, and_true, beq_iff_eq, reduceCtorEq, false_implies, true_and] at hd
          intro K hK; refine do_wanted rfl ?_
          have HK := Lib.hid hK; clear hK
          try simp only [hd, cond_true]
          have E8 : L 8 = false := (by cases h : L 8 with | false => rfl | true => exact absurd ((q17 h).1) (by rw [hL]; simp))
          have E9 : L 9 = false := (by cases h : L 9 with | false => rfl | true => exact absurd (q16 h) (by rw [E8]; simp))
          simp only [E8, cond_false]
          have Q0 := Lib.hid q0; have Q1 := Lib.hid q1; have Q2 := Lib.hid q2; have Q3 := Lib.hid q3; have Q4 := Lib.hid q4; have Q5 := Lib.hid q5; have Q6 := Lib.hid q6; have Q7 := Lib.hid q7; have Q8 := Lib.hid q8; have Q9 := Lib.hid q9; have Q10 := Lib.hid q10; have Q11 := Lib.hid q11; have Q12 := Lib.hid q12; have Q13 := Lib.hid q13; have Q14 := Lib.hid q14; have Q15 := Lib.hid q15; have Q16 := Lib.hid q16; have Q17 := Lib.hid q17; have Q18 := Lib.hid q18; have Q19 := Lib.hid q19
          clear q0 q1 q2 q3 q4 q5 q6 q7 q8 q9 q10 q11 q12 q13 q14 q15 q16 q17 q18 q19
          refine wp_append_op (d := kWanted) _ _ 30 136 rfl Try.underlying30 infoWanted rfl (by decide) rfl (by decide) kWanted_flat (xs := []) (ys := ws) rfl rfl (Q7.out (show L 0 = true by simp only [hd]) hL) (Rp.S_below SW.out (Q1.out E9)) (by simp; omega) ?_
          intro va wa r1 r2 r3 r4
          clear r4
          rw [List.nil_append] at r1
          have hg := Q6.out (show L 0 = true by simp only [hd])
          have hq2 := Q2.out
          have hq0 := HC.out.size
          exact HK.out _ _ ⟨⟨g0, va, g4, v7⟩, by (simp only [upd, Nat.reduceBEq, cond_true, cond_false, hd, E8]; try rfl), ⟨Q0.out.trans (r2.toBelow Q0.out.size (fun b h => by have h2 : b = g0 := (by simpa using h); omega)), fun h => (Q1.out h).trans (r2.toBelow Q2.out (fun b h => by have h2 : b = g0 := (by simpa using h); omega)), Nat.le_trans Q2.out r2.size, Box_ne Q3.out r2 (by omega), fun h => Box_ne (Q4.out h) r2 (by omega), fun h => absurd (show L 9 = true from h) (by simp [E9]), fun h => ⟨(Q6.out h).1, Nat.lt_of_lt_of_le (Q6.out h).2 r2.size⟩, fun _ h => absurd h (by simp [upd]), fun _ => ⟨r1, fun b h => (by rcases r3 b h with h2 | h2; have h5 : b = g0 := (by simpa using h2); omega; omega)⟩, fun h => ⟨(Q9.out h).1, Nat.lt_of_lt_of_le (Q9.out h).2 r2.size⟩, fun h k => Row_ne (Q10.out h k) r2 (fun hm => Q12.out (show L 0 = true by simp only [hd]) h (by simpa using hm)), fun h => ⟨Row_ne (Q11.out h).1 r2 (fun hm => Q13.out (show L 0 = true by simp only [hd]) h hm), (Q11.out h).2⟩, Q12.out, Q13.out, fun h _ hm => by rcases r3 _ hm with h2 | h2; exact Q12.out (show L 0 = true by simp only [hd]) h ((show g4 = g0 by simpa using h2).symm); have h5 := (Q9.out h).2; have h6 : W.heap.size ≤ g4 := h2; omega, fun _ h b hb hm => by rcases r3 _ hm with h2 | h2; have h5 : b = g0 := (by simpa using h2); exact Q13.out (show L 0 = true by simp only [hd]) h (h5 ▸ hb); have := Rp.Row_lt (Q11.out h).1 _ hb; omega, Q16.out, fun h => ⟨rfl, (Q17.out h).2⟩, fun _ => (show L 0 = true by simp only [hd]), Q19.out⟩⟩
        · rintro L ⟨g0, v3, g4, v7⟩ W hL hd ⟨q0, q1, q2, q3, q4, q5, q6, q7, q8, q9, q10, q11, q12, q13, q14, q15, q16, q17, q18, q19⟩
          try dsimp only at q0 q1 q2 q3 q4 q5 q6 q7 q8 q9 q10 q11 q12 q13 q14 q15 q16 q17 q18 q19
          try simp only [depsT, Region.binds, forall_const, and_true, beq_iff_eq, reduceCtorEq, false_implies, true_and] at hd
          intro K hK; refine do_wanted rfl ?_
          have HK := Lib.hid hK; clear hK
          try simp only [hd, cond_true]
          have E7 : L 7 = false := (by cases h : L 7 with | false => rfl | true => exact absurd (q19 h) (by rw [hL]; simp))
          have E8 : L 8 = false := (by cases h : L 8 with | false => rfl | true => exact absurd ((q17 h).2) (by rw [E7]; simp))
          have E9 : L 9 = false := (by cases h : L 9 with | false => rfl | true => exact absurd (q16 h) (by rw [E8]; simp))
          simp only [E8, E7, cond_false]
          have Q0 := Lib.hid q0; have Q1 := Lib.hid q1; have Q2 := Lib.hid q2; have Q3 := Lib.hid q3; have Q4 := Lib.hid q4; have Q5 := Lib.hid q5; have Q6 := Lib.hid q6; have Q7 := Lib.hid q7; have Q8 := Lib.hid q8; have Q9 := Lib.hid q9; have Q10 := Lib.hid q10; have Q11 := Lib.hid q11; have Q12 := Lib.hid q12; have Q13 := Lib.hid q13; have Q14 := Lib.hid q14; have Q15 := Lib.hid q15; have Q16 := Lib.hid q16; have Q17 := Lib.hid q17; have Q18 := Lib.hid q18; have Q19 := Lib.hid q19
          clear q0 q1 q2 q3 q4 q5 q6 q7 q8 q9 q10 q11 q12 q13 q14 q15 q16 q17 q18 q19
          go_wp2
          have HB := Lib.hid ((Below.refl W.heap.size W).alloc (Nat.le_refl _) (.cells #[] 46))
          exact HK.out _ _ ⟨⟨g0, v3, W.heap.size, v7⟩, by (simp only [upd, Nat.reduceBEq, cond_true, cond_false, hd, E8, E7]; try rfl), ⟨Q0.out.trans (HB.out.mono (Nat.le_trans HC.out.size Q2.out)), fun h => (Q1.out h).trans (HB.out.mono Q2.out), Nat.le_trans Q2.out HB.out.size, Q3.out.below HB.out, fun h => (Q4.out h).below HB.out, fun h => (Q5.out h).below HB.out, fun h => ⟨(Q6.out h).1, Nat.lt_of_lt_of_le (Q6.out h).2 HB.out.size⟩, fun h k => Rp.Row_below (Q7.out h k) HB.out, fun h => ⟨Rp.Row_below (Q8.out h).1 HB.out, (Q8.out h).2⟩, fun _ => ⟨Q2.out, by simp⟩, fun _ _ => Rp.Row_made0 kChunk 46 W rfl, fun h => ⟨Rp.Row_below (Q11.out h).1 HB.out, (Q11.out h).2⟩, fun h _ e => by have h5 := (Q6.out h).2; have h6 : g0 = W.heap.size := e; omega, Q13.out, fun _ h e => by have h5 := Rp.Row_lt (Q8.out h).1 _ e; have h6 : W.heap.size < W.heap.size := h5; omega, Q15.out, Q16.out, Q17.out, Q18.out, fun h => rfl⟩⟩
        · rintro L ⟨g0, v3, g4, v7⟩ W hL hd ⟨q0, q1, q2, q3, q4, q5, q6, q7, q8, q9, q10, q11, q12, q13, q14, q15, q16, q17, q18, q19⟩
          try dsimp only at q0 q1 q2 q3 q4 q5 q6 q7 q8 q9 q10 q11 q12 q13 q14 q15 q16 q17 q18 q19
          try simp only [depsT, Region.binds, forall_const, and_true, beq_iff_eq, reduceCtorEq, false_implies, true_and] at hd
          intro K hK; refine do_wanted rfl ?_
          have HK := Lib.hid hK; clear hK
          try simp only [hd, cond_true]
          have Q0 := Lib.hid q0; have Q1 := Lib.hid q1; have Q2 := Lib.hid q2; have Q3 := Lib.hid q3; have Q4 := Lib.hid q4; have Q5 := Lib.hid q5; have Q6 := Lib.hid q6; have Q7 := Lib.hid q7; have Q8 := Lib.hid q8; have Q9 := Lib.hid q9; have Q10 := Lib.hid q10; have Q11 := Lib.hid q11; have Q12 := Lib.hid q12; have Q13 := Lib.hid q13; have Q14 := Lib.hid q14; have Q15 := Lib.hid q15; have Q16 := Lib.hid q16; have Q17 := Lib.hid q17; have Q18 := Lib.hid q18; have Q19 := Lib.hid q19
          clear q0 q1 q2 q3 q4 q5 q6 q7 q8 q9 q10 q11 q12 q13 q14 q15 q16 q17 q18 q19
          go_wp2
          exact HK.out _ _ ⟨⟨g0, v3, g4, v7⟩, by simp only [upd, Nat.reduceBEq, cond_true, cond_false, hd], ⟨Q0.out, Q1.out, Q2.out, Q3.out, Q4.out, Q5.out, Q6.out, Q7.out, Q8.out, Q9.out, Q10.out, Q11.out, Q12.out, Q13.out, Q14.out, Q15.out, Q16.out, Q17.out, Q18.out, Q19.out⟩⟩
        · rintro L ⟨g0, v3, g4, v7⟩ W hL hd ⟨q0, q1, q2, q3, q4, q5, q6, q7, q8, q9, q10, q11, q12, q13, q14, q15, q16, q17, q18, q19⟩
          try dsimp only at q0 q1 q2 q3 q4 q5 q6 q7 q8 q9 q10 q11 q12 q13 q14 q15 q16 q17 q18 q19
          try simp only [depsT, Region.binds, forall_const, and_true, beq_iff_eq, reduceCtorEq, false_implies, true_and] at hd
          intro K hK; refine do_wanted rfl ?_
          have HK := Lib.hid hK; clear hK
          try simp only [hd, cond_true]
          have cc := q3.cell 1 (v := .slice PN nn CN) rfl
          have Q0 := Lib.hid q0; have Q1 := Lib.hid q1; have Q2 := Lib.hid q2; have Q3 := Lib.hid q3; have Q4 := Lib.hid q4; have Q5 := Lib.hid q5; have Q6 := Lib.hid q6; have Q7 := Lib.hid q7; have Q8 := Lib.hid q8; have Q9 := Lib.hid q9; have Q10 := Lib.hid q10; have Q11 := Lib.hid q11; have Q12 := Lib.hid q12; have Q13 := Lib.hid q13; have Q14 := Lib.hid q14; have Q15 := Lib.hid q15; have Q16 := Lib.hid q16; have Q17 := Lib.hid q17; have Q18 := Lib.hid q18; have Q19 := Lib.hid q19
          clear q0 q1 q2 q3 q4 q5 q6 q7 q8 q9 q10 q11 q12 q13 q14 q15 q16 q17 q18 q19
          go_wp2
          exact HK.out _ _ ⟨⟨g0, v3, g4, v7⟩, by simp only [upd, Nat.reduceBEq, cond_true, cond_false, hd], ⟨Q0.out, Q1.out, Q2.out, Q3.out, Q4.out, Q5.out, Q6.out, Q7.out, Q8.out, Q9.out, Q10.out, Q11.out, Q12.out, Q13.out, Q14.out, Q15.out, Q16.out, Q17.out, Q18.out, Q19.out⟩⟩
        · rintro L ⟨g0, v3, g4, v7⟩ W hL hd ⟨q0, q1, q2, q3, q4, q5, q6, q7, q8, q9, q10, q11, q12, q13, q14, q15, q16, q17, q18, q19⟩
          try dsimp only at q0 q1 q2 q3 q4 q5 q6 q7 q8 q9 q10 q11 q12 q13 q14 q15 q16 q17 q18 q19
          try simp only [depsT, Region.binds, forall_const, and_true, beq_iff_eq, reduceCtorEq, false_implies, true_and] at hd
          intro K hK; refine do_wanted rfl ?_
          have HK := Lib.hid hK; clear hK
          try simp only [hd, cond_true]
          have E8 : L 8 = false := (by cases h : L 8 with | false => rfl | true => exact absurd ((q17 h).2) (by rw [hL]; simp))
          have E9 : L 9 = false := (by cases h : L 9 with | false => rfl | true => exact absurd (q16 h) (by rw [E8]; simp))
          simp only [E8, cond_false]
          have Q0 := Lib.hid q0; have Q1 := Lib.hid q1; have Q2 := Lib.hid q2; have Q3 := Lib.hid q3; have Q4 := Lib.hid q4; have Q5 := Lib.hid q5; have Q6 := Lib.hid q6; have Q7 := Lib.hid q7; have Q8 := Lib.hid q8; have Q9 := Lib.hid q9; have Q10 := Lib.hid q10; have Q11 := Lib.hid q11; have Q12 := Lib.hid q12; have Q13 := Lib.hid q13; have Q14 := Lib.hid q14; have Q15 := Lib.hid q15; have Q16 := Lib.hid q16; have Q17 := Lib.hid q17; have Q18 := Lib.hid q18; have Q19 := Lib.hid q19
          clear q0 q1 q2 q3 q4 q5 q6 q7 q8 q9 q10 q11 q12 q13 q14 q15 q16 q17 q18 q19
          refine wp_append_op (d := kChunk) _ _ 31 46 rfl Try.underlying31 infoChunk rfl (by decide) rfl (by decide) kChunk_flat (xs := []) (ys := (tkX ws xs y)) rfl rfl (Q10.out (show L 4 = true by simp only [hd]) hL) (Rp.S_below SN.out (Q1.out E9)) (by simp; omega) ?_
          intro va wa r1 r2 r3 r4
          clear r4
          rw [List.nil_append] at r1
          have hg := Q9.out (show L 4 = true by simp only [hd])
          have hq2 := Q2.out
          have hq0 := HC.out.size
          exact HK.out _ _ ⟨⟨g0, v3, g4, va⟩, by (simp only [upd, Nat.reduceBEq, cond_true, cond_false, hd, E8]; try rfl), ⟨Q0.out.trans (r2.toBelow Q0.out.size (fun b h => by have h2 : b = g4 := (by simpa using h); omega)), fun h => (Q1.out h).trans (r2.toBelow Q2.out (fun b h => by have h2 : b = g4 := (by simpa using h); omega)), Nat.le_trans Q2.out r2.size, Box_ne Q3.out r2 (by omega), fun h => Box_ne (Q4.out h) r2 (by omega), fun h => absurd (show L 9 = true from h) (by simp [E9]), fun h => ⟨(Q6.out h).1, Nat.lt_of_lt_of_le (Q6.out h).2 r2.size⟩, fun h k => Row_ne (Q7.out h k) r2 (fun hm => Q12.out h (show L 4 = true by simp only [hd]) ((show g4 = g0 by simpa using hm).symm)), fun h => ⟨Row_ne (Q8.out h).1 r2 (fun hm => Q14.out (show L 4 = true by simp only [hd]) h hm), (Q8.out h).2⟩, fun h => ⟨(Q9.out h).1, Nat.lt_of_lt_of_le (Q9.out h).2 r2.size⟩, fun _ h => absurd h (by simp [upd]), fun _ => ⟨r1, fun b h => (by rcases r3 b h with h2 | h2; have h5 : b = g4 := (by simpa using h2); omega; omega)⟩, Q12.out, fun h _ hm => by rcases r3 _ hm with h2 | h2; exact Q12.out h (show L 4 = true by simp only [hd]) (show g0 = g4 by simpa using h2); have h5 := (Q6.out h).2; have h6 : W.heap.size ≤ g0 := h2; omega, Q14.out, fun h _ b hb hm => by rcases r3 _ hb with h2 | h2; have h5 : b = g4 := (by simpa using h2); exact Q14.out (show L 4 = true by simp only [hd]) h (h5 ▸ hm); have := Rp.Row_lt (Q8.out h).1 _ hm; omega, Q16.out, fun h => ⟨(Q17.out h).1, rfl⟩, Q18.out, fun _ => (show L 4 = true by simp only [hd])⟩⟩
        · rintro L ⟨g0, v3, g4, v7⟩ W hL hd ⟨q0, q1, q2, q3, q4, q5, q6, q7, q8, q9, q10, q11, q12, q13, q14, q15, q16, q17, q18, q19⟩
          try dsimp only at q0 q1 q2 q3 q4 q5 q6 q7 q8 q9 q10 q11 q12 q13 q14 q15 q16 q17 q18 q19
          try simp only [depsT, Region.binds, forall_const, and_true, beq_iff_eq, reduceCtorEq, false_implies, true_and] at hd
          intro K hK; refine do_wanted rfl ?_
          have HK := Lib.hid hK; clear hK
          try simp only [hd, cond_true]
          obtain ⟨P3, C3, e3, _, _⟩ := Rp.Row_K (q8 (show L 3 = true by simp only [hd])).1
          subst e3
          obtain ⟨P7, C7, e7, _, _⟩ := Rp.Row_K (q11 (show L 7 = true by simp only [hd])).1
          rw [HNN.out] at e7
          subst e7
          have Q0 := Lib.hid q0; have Q1 := Lib.hid q1; have Q2 := Lib.hid q2; have Q3 := Lib.hid q3; have Q4 := Lib.hid q4; have Q5 := Lib.hid q5; have Q6 := Lib.hid q6; have Q7 := Lib.hid q7; have Q8 := Lib.hid q8; have Q9 := Lib.hid q9; have Q10 := Lib.hid q10; have Q11 := Lib.hid q11; have Q12 := Lib.hid q12; have Q13 := Lib.hid q13; have Q14 := Lib.hid q14; have Q15 := Lib.hid q15; have Q16 := Lib.hid q16; have Q17 := Lib.hid q17; have Q18 := Lib.hid q18; have Q19 := Lib.hid q19
          clear q0 q1 q2 q3 q4 q5 q6 q7 q8 q9 q10 q11 q12 q13 q14 q15 q16 q17 q18 q19
          go_wp2
          exact HK.out _ _ ⟨⟨g0, (.slice P3 ws.length C3), g4, (.slice P7 nn C7)⟩, by simp only [upd, Nat.reduceBEq, cond_true, cond_false, hd], ⟨Q0.out, Q1.out, Q2.out, Q3.out, Q4.out, Q5.out, Q6.out, Q7.out, Q8.out, Q9.out, Q10.out, Q11.out, Q12.out, Q13.out, Q14.out, Q15.out, fun h => rfl, fun _ => ⟨(show L 3 = true by simp only [hd]), (show L 7 = true by simp only [hd])⟩, Q18.out, Q19.out⟩⟩
        · rintro L ⟨g0, v3, g4, v7⟩ W hL hd ⟨q0, q1, q2, q3, q4, q5, q6, q7, q8, q9, q10, q11, q12, q13, q14, q15, q16, q17, q18, q19⟩
          try dsimp only at q0 q1 q2 q3 q4 q5 q6 q7 q8 q9 q10 q11 q12 q13 q14 q15 q16 q17 q18 q19
          try simp only [depsT, Region.binds, forall_const, and_true, beq_iff_eq, reduceCtorEq, false_implies, true_and] at hd
          intro K hK; refine do_wanted rfl ?_
          have HK := Lib.hid hK; clear hK
          try simp only [hd, cond_true]
          have h37 := q17 (show L 8 = true by simp only [hd])
          obtain ⟨P3, C3, e3, _, _⟩ := Rp.Row_K (q8 h37.1).1
          subst e3
          obtain ⟨P7, C7, e7, _, _⟩ := Rp.Row_K (q11 h37.2).1
          rw [HNN.out] at e7
          subst e7
          have hz := q4 hL
          have cz0 := hz.cell 0 (v := .slice none 0 0) rfl; have cz1 := hz.cell 1 (v := .slice none 0 0) rfl
          have fz := hz.fro
          have HZ := Lib.hid hz; clear hz
          have Q0 := Lib.hid q0; have Q1 := Lib.hid q1; have Q2 := Lib.hid q2; have Q3 := Lib.hid q3; have Q4 := Lib.hid q4; have Q5 := Lib.hid q5; have Q6 := Lib.hid q6; have Q7 := Lib.hid q7; have Q8 := Lib.hid q8; have Q9 := Lib.hid q9; have Q10 := Lib.hid q10; have Q11 := Lib.hid q11; have Q12 := Lib.hid q12; have Q13 := Lib.hid q13; have Q14 := Lib.hid q14; have Q15 := Lib.hid q15; have Q16 := Lib.hid q16; have Q17 := Lib.hid q17; have Q18 := Lib.hid q18; have Q19 := Lib.hid q19
          clear q0 q1 q2 q3 q4 q5 q6 q7 q8 q9 q10 q11 q12 q13 q14 q15 q16 q17 q18 q19
          go_wp2
          change K _ (Rp.setN W (w.heap.size + 1 + 1) 0 [.slice P3 ws.length C3, .slice P7 nn C7])
          obtain ⟨hk, hbx⟩ := HZ.out.stored [.slice P3 ws.length C3, .slice P7 nn C7] 0
          rw [setA_all (by rfl)] at hbx
          have hq2 := Q2.out
          have hq0 := HC.out.size
          exact HK.out _ _ ⟨⟨g0, (.slice P3 ws.length C3), g4, (.slice P7 nn C7)⟩, by simp only [upd, Nat.reduceBEq, cond_true, cond_false, hd], ⟨Q0.out.trans (hk.toBelow Q0.out.size (by simp; omega)), fun h => absurd h (by simp [upd]), Nat.le_trans Q2.out hk.size, Box_ne Q3.out hk (by omega), fun h => absurd h (by simp [upd]), fun _ => hbx, fun h => ⟨(Q6.out h).1, Nat.lt_of_lt_of_le (Q6.out h).2 hk.size⟩, fun h k => Row_ne (Q7.out h k) hk (fun hm => by have h2 : (w.heap.size + 1 + 1) = g0 := (by simpa using hm); have := (Q6.out h).1; omega), fun h => ⟨Row_ne (Q8.out h).1 hk (fun hm => by have := (Q8.out h).2 _ hm; omega), (Q8.out h).2⟩, fun h => ⟨(Q9.out h).1, Nat.lt_of_lt_of_le (Q9.out h).2 hk.size⟩, fun h k => Row_ne (Q10.out h k) hk (fun hm => by have h2 : (w.heap.size + 1 + 1) = g4 := (by simpa using hm); have := (Q9.out h).1; omega), fun h => ⟨Row_ne (Q11.out h).1 hk (fun hm => by have := (Q11.out h).2 _ hm; omega), (Q11.out h).2⟩, Q12.out, Q13.out, Q14.out, Q15.out, fun _ => (show L 8 = true by simp only [hd]), Q17.out, Q18.out, Q19.out⟩⟩
        · rintro L ⟨g0, v3, g4, v7⟩ W hL hd ⟨q0, q1, q2, q3, q4, q5, q6, q7, q8, q9, q10, q11, q12, q13, q14, q15, q16, q17, q18, q19⟩
          try dsimp only at q0 q1 q2 q3 q4 q5 q6 q7 q8 q9 q10 q11 q12 q13 q14 q15 q16 q17 q18 q19
          try simp only [depsT, Region.binds, forall_const, and_true, beq_iff_eq, reduceCtorEq, false_implies, true_and] at hd
          intro K hK; refine do_wanted rfl ?_
          have HK := Lib.hid hK; clear hK
          try simp only [hd, cond_true]
          have Q0 := Lib.hid q0; have Q1 := Lib.hid q1; have Q2 := Lib.hid q2; have Q3 := Lib.hid q3; have Q4 := Lib.hid q4; have Q5 := Lib.hid q5; have Q6 := Lib.hid q6; have Q7 := Lib.hid q7; have Q8 := Lib.hid q8; have Q9 := Lib.hid q9; have Q10 := Lib.hid q10; have Q11 := Lib.hid q11; have Q12 := Lib.hid q12; have Q13 := Lib.hid q13; have Q14 := Lib.hid q14; have Q15 := Lib.hid q15; have Q16 := Lib.hid q16; have Q17 := Lib.hid q17; have Q18 := Lib.hid q18; have Q19 := Lib.hid q19
          clear q0 q1 q2 q3 q4 q5 q6 q7 q8 q9 q10 q11 q12 q13 q14 q15 q16 q17 q18 q19
          go_wp2
          exact HK.out _ _ ⟨⟨g0, v3, g4, v7⟩, by simp only [upd, Nat.reduceBEq, cond_true, cond_false, hd], ⟨Q0.out, Q1.out, Q2.out, Q3.out, Q4.out, Q5.out, Q6.out, Q7.out, Q8.out, Q9.out, Q10.out, Q11.out, Q12.out, Q13.out, Q14.out, Q15.out, Q16.out, Q17.out, Q18.out, Q19.out⟩⟩
      · simp (config := { maxSteps := 4000000 }) only [layT, Nat.reduceAdd, Nat.reduceBEq, cond_true, cond_false]
        rintro L ⟨g0, v3, g4, v7⟩ W hd ⟨q0, q1, q2, q3, q4, q5, q6, q7, q8, q9, q10, q11, q12, q13, q14, q15, q16, q17, q18, q19⟩
        simp only [doneT, true_and, List.length_cons, List.length_nil, Nat.reduceAdd] at hd
        obtain ⟨⟨⟨⟨⟨⟨⟨⟨⟨⟨e0, e1⟩, e2⟩, e3⟩, e4⟩, e5⟩, e6⟩, e7⟩, e8⟩, e9⟩, e10⟩ := hd
        try dsimp only at q0 q1 q2 q3 q4 q5 q6 q7 q8 q9 q10 q11 q12 q13 q14 q15 q16 q17 q18 q19
        simp only [e0, e1, e2, e3, e4, e5, e6, e7, e8, e9, e10, cond_true]
        have hb5 := q5 e9; have h8 := q8 e3; have h11 := q11 e7; have h15 := q15 e3 e7
        obtain ⟨P3, C3, e3', _, _⟩ := Rp.Row_K h8.1
        subst e3'
        obtain ⟨P7, C7, e7', _, _⟩ := Rp.Row_K h11.1
        rw [HNN.out] at e7'
        subst e7'
        have dz0 := hb5.cell 0 (v := .slice P3 ws.length C3) rfl; have dz1 := hb5.cell 1 (v := .slice P7 nn C7) rfl
        have HQ := Lib.hid (And.intro q0 (And.intro h8 (And.intro h11 h15)))
        clear q0 q1 q2 q3 q4 q5 q6 q7 q8 q9 q10 q11 q12 q13 q14 q15 q16 q17 q18 q19 hb5 h8 h11 h15
        go_wp2
        refine bodyPost_ret (v := .tuple #[.agg #[.slice P3 ws.length C3, .slice P7 nn C7], .bool true]) (by simp [results, Try.results23, go_sem, dz0, dz1]) rfl ⟨_, by rw [HX.out], ?_⟩
        rw [tcX, HX.out]
        exact Made.tak2 (x := ⟨ws, tkX ws xs y⟩) (N := w4.heap.size) HC.out.size HQ.out.2.1.1 HQ.out.2.2.1.1 HQ.out.2.1.2 HQ.out.2.2.1.2 (ofOwn_nodup _) (ofOwn_nodup _) HQ.out.2.2.2 HQ.out.1
theorem sTakeChunk_k {x : DTaking} {y : DChunk} {c0 c1 : List Value} {w : World} (k0 : kTaking.K w x c0) (h0 : wfTaking x) (s0 : smTaking 1048576 x) (k1 : kChunk.K w y c1) (h1 : wfChunk y) (s1 : smChunk 1048576 y) : Calls Try.prog 23 #[.agg c0.toArray, .agg c1.toArray] w
    fun e w' => ∃ cs F, e = .returned (.tuple #[.agg cs.toArray, .bool (tcB x.fWant x.fGot y)]) ∧ kTaking.M w' F (tcX x.fWant x.fGot y) cs ∧ (∀ b ∈ F, w.heap.size ≤ b) ∧ F.Nodup ∧ Below w.heap.size w w' := by
  obtain ⟨v0, v1, rfl, g0, g1⟩ := kTaking_read k0
  obtain rfl := kChunk_K k1
  refine (sTakeC_calls x.fWant x.fGot y v0 v1 w g0 g1 s0).mono ?_
  rintro e w' ⟨v, rfl, cs, F, rfl, h1, h2, h3, h4⟩
  exact ⟨cs, F, rfl, h1, h2, h3, h4⟩
end Go.Proofs.Ytioelmhikablcaa
