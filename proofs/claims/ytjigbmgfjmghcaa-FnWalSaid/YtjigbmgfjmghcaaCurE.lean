/- A drawn log. -/
import Derived.Test.YtjigbmgfjmghcaaCurD
namespace Go.Proofs.Ytjigbmgfjmghcaa
open Go Go.RowKit Go.Sort
set_option linter.unusedVariables false
set_option linter.unusedSimpArgs false

theorem entriesOk_last : ∀ {es : List DEntry} {t : Int} {y : DEntry}, entriesOk t (es ++ [y]) = true → goodE y = true
  | [], t, y, h => by
    simp [entriesOk] at h
    exact h.1
  | e :: es, t, y, h => by
    simp [entriesOk] at h
    exact entriesOk_last h.2
theorem append_facts {f bf : Int} {es : List DEntry} {y : DEntry} (h : appendB (⟨f, bf, es⟩ : DWal) y = true) : (es ++ [y]).length ≤ 60 ∧ 1 ≤ y.fTerm ∧ y.fTerm ≤ 1000000 := by
  simp only [appendB, addW, goodWal, headOk, Bool.and_eq_true, decide_eq_true_eq] at h
  obtain ⟨_, ⟨_, h1⟩, h2⟩ := h
  have h3 := entriesOk_last h2
  simp only [goodE, inB, Bool.and_eq_true, decide_eq_true_eq] at h3
  exact ⟨of_decide_eq_true h1, h3.1⟩
theorem termW_snoc (f bf : Int) (es : List DEntry) (y : DEntry) : termW (⟨f, bf, es ++ [y]⟩ : DWal) = y.fTerm := by
  simp [termW]
set_option maxHeartbeats 8000000 in
set_option maxRecDepth 100000 in
theorem wal_calls {w : World} {b : Nat} {bs : List Int} {A : Option Addr} {c top : Nat} (h : Cur w b bs A c top) (ht : top ≤ 100000) (hb : b < w.heap.size) (hA : bs ≠ [] → ∀ a, A = some a → a.block < w.heap.size) : Calls Try.prog 15 #[.pointer (some ⟨b, 0, none⟩)] w
    fun e w' => ∃ (x : DWal) (A2 : Option Addr) (c2 : Nat), e = .returned (.agg #[.int .i64 x.fFirst, .int .i64 x.fBefore, .slice A2 x.fEntries.length c2]) ∧ kEntry.S w' x.fEntries (.slice A2 x.fEntries.length c2) ∧ (∀ a, A2 = some a → w.heap.size ≤ a.block) ∧ x.fEntries.length ≤ 60 ∧ 0 ≤ x.fFirst ∧ x.fFirst ≤ 1000001 ∧ 0 ≤ x.fBefore ∧ x.fBefore ≤ 1000001 ∧ KeptF [b] w w' ∧ Cur w' b bs A c (top + 20000) := by
  have BA : Box ((w.alloc (.cells #[.int .i64 0, .int .i64 0, .slice none 0 0] 25)).alloc (.cells #[.int .i64 1, .int .i64 0, .slice none 0 0] 25)) w.heap.size #[.int .i64 0, .int .i64 0, .slice none 0 0] 25 := Box.alloc (Box.new rfl)
  have BB : Box ((w.alloc (.cells #[.int .i64 0, .int .i64 0, .slice none 0 0] 25)).alloc (.cells #[.int .i64 1, .int .i64 0, .slice none 0 0] 25)) (w.heap.size + 1) #[.int .i64 1, .int .i64 0, .slice none 0 0] 25 := Box.new (by simp)
  have HBA := Below.alloc ((Below.refl w.heap.size w).alloc (Nat.le_refl _) (.cells #[.int .i64 0, .int .i64 0, .slice none 0 0] 25)) (by simp) (.cells #[.int .i64 1, .int .i64 0, .slice none 0 0] 25)
  have HSZ : w.heap.size + 2 ≤ ((w.alloc (.cells #[.int .i64 0, .int .i64 0, .slice none 0 0] 25)).alloc (.cells #[.int .i64 1, .int .i64 0, .slice none 0 0] 25)).heap.size := by simp
  go_enter Try.func15, Try.ntmps15
  go_upto_region 2 with fail
  generalize (w.alloc (.cells #[.int .i64 0, .int .i64 0, .slice none 0 0] 25)).alloc (.cells #[.int .i64 1, .int .i64 0, .slice none 0 0] 25) = w1 at *
  have B2 := Lib.hid BA; have B3 := Lib.hid BB; have H := Lib.hid (h.below HBA); have HK := Lib.hid (show KeptF [b] w w1 from KeptF.of_below HBA); have SZ := Lib.hid HSZ
  clear BA BB h HBA HSZ
  go_upto_if 10 with ((with_reducible refine (one_calls 2 H.out (by omega)).mono ?_); rintro e wq ⟨r, rfl, hk, h'⟩; have B2 := Lib.hid (B2.out.kept hk (by simp; omega)); have B3 := Lib.hid (B3.out.kept hk (by simp; omega)); have HK := Lib.hid (HK.out.trans hk); have SZ := Lib.hid (Nat.le_trans SZ.out hk.size); have H := Lib.hid h'; clear hk h')
  go_cut [] from 11 to 18 (fun wx => ∃ f bf : Int, 0 ≤ f ∧ f ≤ 1000001 ∧ 0 ≤ bf ∧ bf ≤ 1000001 ∧ Hid (Box wx (w.heap.size + 1) #[.int .i64 f, .int .i64 bf, .slice none 0 0] 25) ∧ Hid (Box wx w.heap.size #[.int .i64 0, .int .i64 0, .slice none 0 0] 25) ∧ Hid (KeptF [b] w wx) ∧ Hid (w.heap.size + 2 ≤ wx.heap.size) ∧ Hid (Cur wx b bs A c (top + 10)))
  case first =>
    cases r
    · go_wp2_with fail
      go_meet
      exact ⟨1, 0, by decide, by decide, by decide, by decide, B3.out, B2.out, HK.out, SZ.out, H.out.mono (by omega)⟩
    · go_wp2_with fail
      (with_reducible refine (pick_calls 200 H.out (by omega)).mono ?_)
      rintro e w3 ⟨p, rfl, p0, p1, hk, h'⟩
      have B2 := Lib.hid (B2.out.kept hk (by simp; omega)); have B3 := Lib.hid (B3.out.kept hk (by simp; omega)); have HK := Lib.hid (HK.out.trans hk); have SZ := Lib.hid (Nat.le_trans SZ.out hk.size); have H := Lib.hid h'; clear hk h'
      have u0 := B3.out.cell 0 (v := .int .i64 1) rfl
      have f3 := B3.out.fro
      go_upto_region 4 with fail
      refine wp_genC (Q := fun W => Box W (w.heap.size + 1) #[.int .i64 (2 + p), .int .i64 0, .slice none 0 0] 25 ∧ Box W w.heap.size #[.int .i64 0, .int .i64 0, .slice none 0 0] 25 ∧ KeptF [b] w W ∧ w.heap.size + 2 ≤ W.heap.size ∧ Cur W b bs A c (top + 4)) _ ⟨B3.out.set 0 _, Box_ne B2.out (kept_set _ _ _ _) (by omega), KeptF.newset HK.out (by omega) _ _, Nat.le_trans SZ.out (kept_set _ _ _ _).size, H.out.kept (kept_set _ _ _ _) (by simp; omega) (fun he a ha => by have := hA he a ha; simp; omega)⟩ ?_
      clear u0 f3 B3 B2 HK SZ H
      rintro w4 ⟨b3, b2, hk0, hsz, hc⟩
      have B3 := Lib.hid b3; have B2 := Lib.hid b2; have HK := Lib.hid hk0; have SZ := Lib.hid hsz; have H := Lib.hid hc
      clear b3 b2 hk0 hsz hc
      go_wp2_with fail
      (with_reducible refine (pick_calls 3 H.out (by omega)).mono ?_)
      rintro e w5 ⟨q, rfl, q0, q1, hk, h'⟩
      have B2 := Lib.hid (B2.out.kept hk (by simp; omega)); have B3 := Lib.hid (B3.out.kept hk (by simp; omega)); have HK := Lib.hid (HK.out.trans hk); have SZ := Lib.hid (Nat.le_trans SZ.out hk.size); have H := Lib.hid h'; clear hk h'
      have u1 := B3.out.cell 1 (v := .int .i64 0) rfl
      have f3 := B3.out.fro
      go_wp2_with fail
      go_meet
      exact ⟨2 + p, 1 + q, by omega, by omega, by omega, by omega, B3.out.set 1 _, Box_ne B2.out (kept_set _ _ _ _) (by omega), KeptF.newset HK.out (by omega) _ _, Nat.le_trans SZ.out (kept_set _ _ _ _).size, (H.out.kept (kept_set _ _ _ _) (by simp; omega) (fun he a ha => by have := hA he a ha; simp; omega)).mono (by omega)⟩
  case rest =>
    clear B3 B2 HK SZ H
    obtain ⟨f, bf, hf0, hf1, hb0, hb1, B3, B2, HK, SZ, H⟩ := hcut
    have u1 := B3.out.cell 1 (v := .int .i64 bf) rfl
    go_upto_if 22 with fail
    go_cut [4] (fun s wx => (∃ te : Int, s = .int .i64 te ∧ 0 ≤ te ∧ te ≤ 1000001) ∧ wx = wc)
    case first =>
      go_wp2_with fail
      all_goals (go_meet; exact ⟨⟨_, rfl, by first | omega | decide, by first | omega | decide⟩, rfl⟩)
    case rest =>
      obtain ⟨⟨te, rfl, te0, te1⟩, rfl⟩ := hcut
      clear u1
      go_wp2_with fail
      (with_reducible refine (pick_calls 12 H.out (by omega)).mono ?_)
      rintro e w7 ⟨p, rfl, p0, p1, hk, h'⟩
      have B2 := Lib.hid (B2.out.kept hk (by simp; omega)); have B3 := Lib.hid (B3.out.kept hk (by simp; omega)); have HK := Lib.hid (HK.out.trans hk); have SZ := Lib.hid (Nat.le_trans SZ.out hk.size); have H := Lib.hid h'; clear hk h'
      go_upto_if 26 with ((with_reducible refine (one_calls 20 H.out (by omega)).mono ?_); rintro e wq ⟨r2, rfl, hk, h'⟩; have B2 := Lib.hid (B2.out.kept hk (by simp; omega)); have B3 := Lib.hid (B3.out.kept hk (by simp; omega)); have HK := Lib.hid (HK.out.trans hk); have SZ := Lib.hid (Nat.le_trans SZ.out hk.size); have H := Lib.hid h'; clear hk h')
      go_cut [5] (fun s wx => (∃ j : Nat, s = .int .i64 j ∧ j ≤ 60) ∧ wx = wq)
      case first =>
        cases r2
        · go_wp2_with fail
          go_meet
          exact ⟨⟨p.toNat, by rw [Int.toNat_of_nonneg p0], by omega⟩, rfl⟩
        · go_wp2_with fail
          go_meet
          exact ⟨⟨60, rfl, by decide⟩, rfl⟩
      case rest =>
        obtain ⟨⟨j0, rfl, hj0⟩, rfl⟩ := hcut
        go_wp2_with fail
        go_loopw [4, 5] (fun t n wr => ∃ (j : Nat) (te : Int) (es : List DEntry) (A2 : Option Addr) (c2 : Nat), j ≤ 60 ∧ n = .int .i64 j ∧ t = .int .i64 te ∧ 0 ≤ te ∧ te ≤ 1000100 - j ∧ es.length ≤ 60 ∧ Hid (Box wr (w.heap.size + 1) #[.int .i64 f, .int .i64 bf, .slice A2 es.length c2] 25) ∧ Hid (kEntry.S wr es (.slice A2 es.length c2)) ∧ Hid (∀ a, A2 = some a → w.heap.size + 2 ≤ a.block ∧ a.block < wr.heap.size) ∧ Hid (Box wr w.heap.size #[.int .i64 0, .int .i64 0, .slice none 0 0] 25) ∧ Hid (KeptF [b] w wr) ∧ Hid (w.heap.size + 2 ≤ wr.heap.size) ∧ Hid (Cur wr b bs A c (top + 100 + 300 * (60 - j)))) (fun _ n _ => (intOf n).toNat)
        case atStart => exact ⟨j0, te, [], none, 0, hj0, rfl, rfl, te0, by omega, by simp, B3.out, ⟨none, 0, rfl, ⟨Nat.le_refl _, by simp⟩, .inl rfl⟩, nofun, B2.out, HK.out, SZ.out, H.out.mono (by omega)⟩
        case round =>
          clear te0 te1 B3 B2 HK SZ H hj0
          obtain ⟨j, te, es, A2, c2, hj, rfl, rfl, te0, te1, hes, B3, S3, HA2, B2, HK, SZ, H⟩ := hrel
          by_cases hj0 : 0 < j
          · have i3 : (0 : Int) < (j : Int) := by omega
            obtain ⟨tp, htp⟩ : ∃ tp, tp = top + 100 + 300 * (60 - j) + 2 := ⟨_, rfl⟩
            go_wp2_with fail
            (with_reducible refine (pick_calls 3 H.out (by omega)).mono ?_)
            rintro e w6 ⟨r, rfl, r0, r1, hk, h'⟩
            rw [← htp] at h'
            have S3 := Lib.hid (S_keptC kEntry_flat S3.out hk (fun a ha => by have := (HA2.out a ha).1; omega)); have HA2 := Lib.hid (fun a ha => ⟨(HA2.out a ha).1, Nat.lt_of_lt_of_le (HA2.out a ha).2 hk.size⟩ : ∀ a, A2 = some a → w.heap.size + 2 ≤ a.block ∧ a.block < w6.heap.size)
            have B2 := Lib.hid (B2.out.kept hk (by simp; omega)); have B3 := Lib.hid (B3.out.kept hk (by simp; omega)); have HK := Lib.hid (HK.out.trans hk); have SZ := Lib.hid (Nat.le_trans SZ.out hk.size); have H := Lib.hid h'; clear hk h'
            go_upto_region 14 with fail
            obtain ⟨te2, hte2⟩ : ∃ t, te + r / 2 = t := ⟨_, rfl⟩
            rw [hte2]
            have ht2 : 0 ≤ te2 ∧ te2 ≤ te + 1 := by omega
            have HS6 := SZ; have HTP := Lib.hid (show tp ≤ 1000000 by omega); have HL := Lib.hid hes
            clear hte2 r0 r1
            refine wp_region_tab (G := Int × ByteArray × Option Addr × Nat × Nat) (fun g => [(6, 8, .pointer (some ⟨g.2.2.2.2, 0, none⟩)), (0, 10, .bool (appendB (⟨f, bf, es⟩ : DWal) (⟨g.1, g.2.1⟩ : DEntry))), (28, 5, .tuple #[.agg #[.int .i64 (appendW (⟨f, bf, es⟩ : DWal) (⟨g.1, g.2.1⟩ : DEntry)).fFirst, .int .i64 (appendW (⟨f, bf, es⟩ : DWal) (⟨g.1, g.2.1⟩ : DEntry)).fBefore, .slice g.2.2.1 (appendW (⟨f, bf, es⟩ : DWal) (⟨g.1, g.2.1⟩ : DEntry)).fEntries.length g.2.2.2.1], .bool (appendB (⟨f, bf, es⟩ : DWal) (⟨g.1, g.2.1⟩ : DEntry))]), (0, 0, .agg #[.int .i64 f, .int .i64 bf, .slice A2 es.length c2]), (0, 1, .pointer (some ⟨b, 0, none⟩)), (0, 2, .int .i64 te2), (0, 3, .agg #[.int .i64 g.1, .string g.2.1]), (0, 4, .tuple #[.agg #[.int .i64 (appendW (⟨f, bf, es⟩ : DWal) (⟨g.1, g.2.1⟩ : DEntry)).fFirst, .int .i64 (appendW (⟨f, bf, es⟩ : DWal) (⟨g.1, g.2.1⟩ : DEntry)).fBefore, .slice g.2.2.1 (appendW (⟨f, bf, es⟩ : DWal) (⟨g.1, g.2.1⟩ : DEntry)).fEntries.length g.2.2.2.1], .bool (appendB (⟨f, bf, es⟩ : DWal) (⟨g.1, g.2.1⟩ : DEntry))]), (0, 6, .agg #[.int .i64 (appendW (⟨f, bf, es⟩ : DWal) (⟨g.1, g.2.1⟩ : DEntry)).fFirst, .int .i64 (appendW (⟨f, bf, es⟩ : DWal) (⟨g.1, g.2.1⟩ : DEntry)).fBefore, .slice g.2.2.1 (appendW (⟨f, bf, es⟩ : DWal) (⟨g.1, g.2.1⟩ : DEntry)).fEntries.length g.2.2.2.1]), (0, 7, .bool (appendB (⟨f, bf, es⟩ : DWal) (⟨g.1, g.2.1⟩ : DEntry)))])
                (fun L g W => (KeptF [b] w W) ∧
                  (w6.heap.size ≤ W.heap.size) ∧
                  (Box W w.heap.size #[.int .i64 0, .int .i64 0, .slice none 0 0] 25) ∧
                  (Box W (w.heap.size + 1) #[.int .i64 f, .int .i64 bf, .slice A2 es.length c2] 25) ∧
                  (kEntry.S W es (.slice A2 es.length c2)) ∧
                  (L 3 = false → Cur W b bs A c tp) ∧
                  (L 3 = true → Cur W b bs A c (tp + 200)) ∧
                  (L 3 = true → g.2.1.size ≤ 101 ∧ (g.1 = te2 ∨ 0 ≤ g.1 ∧ g.1 ≤ 1000001)) ∧
                  (L 4 = true → kEntry.S W (appendW (⟨f, bf, es⟩ : DWal) (⟨g.1, g.2.1⟩ : DEntry)).fEntries (.slice g.2.2.1 (appendW (⟨f, bf, es⟩ : DWal) (⟨g.1, g.2.1⟩ : DEntry)).fEntries.length g.2.2.2.1) ∧ ∀ a, g.2.2.1 = some a → w.heap.size + 2 ≤ a.block ∧ a.block < W.heap.size) ∧
                  (L 8 = true → w6.heap.size ≤ g.2.2.2.2 ∧ g.2.2.2.2 < W.heap.size) ∧
                  (L 8 = true → L 9 = false → Box W g.2.2.2.2 #[.int .i64 0, .int .i64 0, .slice none 0 0] 25) ∧
                  (L 9 = true → Box W g.2.2.2.2 #[.int .i64 (appendW (⟨f, bf, es⟩ : DWal) (⟨g.1, g.2.1⟩ : DEntry)).fFirst, .int .i64 (appendW (⟨f, bf, es⟩ : DWal) (⟨g.1, g.2.1⟩ : DEntry)).fBefore, .slice g.2.2.1 (appendW (⟨f, bf, es⟩ : DWal) (⟨g.1, g.2.1⟩ : DEntry)).fEntries.length g.2.2.2.1] 25) ∧
                  (L 4 = true → L 8 = true → ∀ a, g.2.2.1 = some a → a.block ≠ g.2.2.2.2) ∧
                  ((L 9 = true → L 8 = true ∧ L 6 = true)) ∧
                  ((L 6 = true → L 5 = true)) ∧
                  ((L 5 = true → L 4 = true)) ∧
                  ((L 4 = true → L 3 = true)) ∧
                  ((L 7 = true → L 5 = true)) ∧
                  ((L 10 = true → L 7 = true)))
                (0, ⟨#[]⟩, none, 0, 0) (by kernel_rfl) (by kernel_rfl) (fun _ => rfl) ?_ ?_ ?_
            · exact ⟨HK.out.drew, Nat.le_refl _, B2.out.drew, B3.out.drew, Rp.S_below S3.out (Below.refl _ _).drew, fun _ => H.out.below (Below.refl _ _).drew, nofun, nofun, nofun, nofun, nofun, nofun, nofun, nofun, nofun, nofun, nofun, nofun, nofun⟩
            · simp (config := { maxSteps := 4000000 }) only [StepsT, layT, Nat.reduceAdd, Nat.reduceBEq, cond_true, cond_false]
              refine ⟨?_, ?_, ?_, ?_, ?_, ?_, ?_, ?_, ?_, ?_, ?_, trivial⟩
              · rintro L ⟨tg, sg, Pg, Cg, gb⟩ W hL hd ⟨q0, q1, q2, q3, q4, q5, q6, q7, q8, q9, q10, q11, q12, q13, q14, q15, q16, q17, q18⟩
                try dsimp only at q0 q1 q2 q3 q4 q5 q6 q7 q8 q9 q10 q11 q12 q13 q14 q15 q16 q17 q18
                try simp only [depsT, Region.binds, forall_const, and_true, beq_iff_eq, reduceCtorEq, false_implies, true_and] at hd
                intro K hK; refine do_wanted rfl ?_
                have HK := Lib.hid hK; clear hK
                try simp only [hd, cond_true]
                have cc0 := q3.cell 0 (v := .int .i64 f) rfl; have cc1 := q3.cell 1 (v := .int .i64 bf) rfl; have cc2 := q3.cell 2 (v := .slice A2 es.length c2) rfl
                have Q0 := Lib.hid q0; have Q1 := Lib.hid q1; have Q2 := Lib.hid q2; have Q3 := Lib.hid q3; have Q4 := Lib.hid q4; have Q5 := Lib.hid q5; have Q6 := Lib.hid q6; have Q7 := Lib.hid q7; have Q8 := Lib.hid q8; have Q9 := Lib.hid q9; have Q10 := Lib.hid q10; have Q11 := Lib.hid q11; have Q12 := Lib.hid q12; have Q13 := Lib.hid q13; have Q14 := Lib.hid q14; have Q15 := Lib.hid q15; have Q16 := Lib.hid q16; have Q17 := Lib.hid q17; have Q18 := Lib.hid q18
                clear q0 q1 q2 q3 q4 q5 q6 q7 q8 q9 q10 q11 q12 q13 q14 q15 q16 q17 q18
                go_wp2
                exact HK.out _ _ ⟨⟨tg, sg, Pg, Cg, gb⟩, by simp only [upd, Nat.reduceBEq, cond_true, cond_false, hd], ⟨Q0.out, Q1.out, Q2.out, Q3.out, Q4.out, Q5.out, Q6.out, Q7.out, Q8.out, Q9.out, Q10.out, Q11.out, Q12.out, Q13.out, Q14.out, Q15.out, Q16.out, Q17.out, Q18.out⟩⟩
              · rintro L ⟨tg, sg, Pg, Cg, gb⟩ W hL hd ⟨q0, q1, q2, q3, q4, q5, q6, q7, q8, q9, q10, q11, q12, q13, q14, q15, q16, q17, q18⟩
                try dsimp only at q0 q1 q2 q3 q4 q5 q6 q7 q8 q9 q10 q11 q12 q13 q14 q15 q16 q17 q18
                try simp only [depsT, Region.binds, forall_const, and_true, beq_iff_eq, reduceCtorEq, false_implies, true_and] at hd
                intro K hK; refine do_wanted rfl ?_
                have HK := Lib.hid hK; clear hK
                try simp only [hd, cond_true]
                have Q0 := Lib.hid q0; have Q1 := Lib.hid q1; have Q2 := Lib.hid q2; have Q3 := Lib.hid q3; have Q4 := Lib.hid q4; have Q5 := Lib.hid q5; have Q6 := Lib.hid q6; have Q7 := Lib.hid q7; have Q8 := Lib.hid q8; have Q9 := Lib.hid q9; have Q10 := Lib.hid q10; have Q11 := Lib.hid q11; have Q12 := Lib.hid q12; have Q13 := Lib.hid q13; have Q14 := Lib.hid q14; have Q15 := Lib.hid q15; have Q16 := Lib.hid q16; have Q17 := Lib.hid q17; have Q18 := Lib.hid q18
                clear q0 q1 q2 q3 q4 q5 q6 q7 q8 q9 q10 q11 q12 q13 q14 q15 q16 q17 q18
                go_wp2
                exact HK.out _ _ ⟨⟨tg, sg, Pg, Cg, gb⟩, by simp only [upd, Nat.reduceBEq, cond_true, cond_false, hd], ⟨Q0.out, Q1.out, Q2.out, Q3.out, Q4.out, Q5.out, Q6.out, Q7.out, Q8.out, Q9.out, Q10.out, Q11.out, Q12.out, Q13.out, Q14.out, Q15.out, Q16.out, Q17.out, Q18.out⟩⟩
              · rintro L ⟨tg, sg, Pg, Cg, gb⟩ W hL hd ⟨q0, q1, q2, q3, q4, q5, q6, q7, q8, q9, q10, q11, q12, q13, q14, q15, q16, q17, q18⟩
                try dsimp only at q0 q1 q2 q3 q4 q5 q6 q7 q8 q9 q10 q11 q12 q13 q14 q15 q16 q17 q18
                try simp only [depsT, Region.binds, forall_const, and_true, beq_iff_eq, reduceCtorEq, false_implies, true_and] at hd
                intro K hK; refine do_wanted rfl ?_
                have HK := Lib.hid hK; clear hK
                try simp only [hd, cond_true]
                have Q0 := Lib.hid q0; have Q1 := Lib.hid q1; have Q2 := Lib.hid q2; have Q3 := Lib.hid q3; have Q4 := Lib.hid q4; have Q5 := Lib.hid q5; have Q6 := Lib.hid q6; have Q7 := Lib.hid q7; have Q8 := Lib.hid q8; have Q9 := Lib.hid q9; have Q10 := Lib.hid q10; have Q11 := Lib.hid q11; have Q12 := Lib.hid q12; have Q13 := Lib.hid q13; have Q14 := Lib.hid q14; have Q15 := Lib.hid q15; have Q16 := Lib.hid q16; have Q17 := Lib.hid q17; have Q18 := Lib.hid q18
                clear q0 q1 q2 q3 q4 q5 q6 q7 q8 q9 q10 q11 q12 q13 q14 q15 q16 q17 q18
                go_wp2
                exact HK.out _ _ ⟨⟨tg, sg, Pg, Cg, gb⟩, by simp only [upd, Nat.reduceBEq, cond_true, cond_false, hd], ⟨Q0.out, Q1.out, Q2.out, Q3.out, Q4.out, Q5.out, Q6.out, Q7.out, Q8.out, Q9.out, Q10.out, Q11.out, Q12.out, Q13.out, Q14.out, Q15.out, Q16.out, Q17.out, Q18.out⟩⟩
              · rintro L ⟨tg, sg, Pg, Cg, gb⟩ W hL hd ⟨q0, q1, q2, q3, q4, q5, q6, q7, q8, q9, q10, q11, q12, q13, q14, q15, q16, q17, q18⟩
                try dsimp only at q0 q1 q2 q3 q4 q5 q6 q7 q8 q9 q10 q11 q12 q13 q14 q15 q16 q17 q18
                try simp only [depsT, Region.binds, forall_const, and_true, beq_iff_eq, reduceCtorEq, false_implies, true_and] at hd
                intro K hK; refine do_wanted rfl ?_
                have HK := Lib.hid hK; clear hK
                try simp only [hd, cond_true]
                have E4 : L 4 = false := (by cases h : L 4 with | false => rfl | true => exact absurd (q16 h) (by rw [hL]; simp))
                have E5 : L 5 = false := (by cases h : L 5 with | false => rfl | true => exact absurd (q15 h) (by rw [E4]; simp))
                have E6 : L 6 = false := (by cases h : L 6 with | false => rfl | true => exact absurd (q14 h) (by rw [E5]; simp))
                have E7 : L 7 = false := (by cases h : L 7 with | false => rfl | true => exact absurd (q17 h) (by rw [E5]; simp))
                have E9 : L 9 = false := (by cases h : L 9 with | false => rfl | true => exact absurd ((q13 h).2) (by rw [E6]; simp))
                have E10 : L 10 = false := (by cases h : L 10 with | false => rfl | true => exact absurd (q18 h) (by rw [E7]; simp))
                try simp only [E4, E5, E6, E7, E10, cond_false]
                have Q0 := Lib.hid q0; have Q1 := Lib.hid q1; have Q2 := Lib.hid q2; have Q3 := Lib.hid q3; have Q4 := Lib.hid q4; have Q5 := Lib.hid q5; have Q6 := Lib.hid q6; have Q7 := Lib.hid q7; have Q8 := Lib.hid q8; have Q9 := Lib.hid q9; have Q10 := Lib.hid q10; have Q11 := Lib.hid q11; have Q12 := Lib.hid q12; have Q13 := Lib.hid q13; have Q14 := Lib.hid q14; have Q15 := Lib.hid q15; have Q16 := Lib.hid q16; have Q17 := Lib.hid q17; have Q18 := Lib.hid q18
                clear q0 q1 q2 q3 q4 q5 q6 q7 q8 q9 q10 q11 q12 q13 q14 q15 q16 q17 q18
                go_wp2_with ((with_reducible refine (entry_calls te2 (Q5.out hL) (by have := HTP.out; omega) (by have := Q1.out; have := HS6.out; omega) (fun he a ha => by have := hA he a ha; have := Q1.out; have := HS6.out; omega)).mono ?_); rintro ee we ⟨tg2, sg2, rfl, z1, z2, hk, hcur⟩)
                exact HK.out _ _ ⟨⟨tg2, sg2, Pg, Cg, gb⟩, by (simp only [upd, Nat.reduceBEq, cond_true, cond_false, hd, E4, E5, E6, E7, E10]; try rfl), ⟨Q0.out.trans hk, Nat.le_trans Q1.out hk.size, Q2.out.kept hk (by simp; omega), Q3.out.kept hk (by simp; omega), S_keptC kEntry_flat Q4.out hk (fun a ha => by have := (HA2.out a ha).1; omega), fun h => absurd h (by simp [upd]), fun _ => hcur, fun _ => ⟨z1, z2⟩, fun h => absurd (show L 4 = true from h) (by simp [E4]), fun h => ⟨(Q9.out h).1, Nat.lt_of_lt_of_le (Q9.out h).2 hk.size⟩, fun h k => (Q10.out h k).kept hk (by have := (Q9.out h).1; have := HS6.out; simp; omega), fun h => absurd (show L 9 = true from h) (by simp [E9]), fun h => absurd (show L 4 = true from h) (by simp [E4]), Q13.out, Q14.out, Q15.out, fun h => rfl, Q17.out, Q18.out⟩⟩
              · rintro L ⟨tg, sg, Pg, Cg, gb⟩ W hL hd ⟨q0, q1, q2, q3, q4, q5, q6, q7, q8, q9, q10, q11, q12, q13, q14, q15, q16, q17, q18⟩
                try dsimp only at q0 q1 q2 q3 q4 q5 q6 q7 q8 q9 q10 q11 q12 q13 q14 q15 q16 q17 q18
                try simp only [depsT, Region.binds, forall_const, and_true, beq_iff_eq, reduceCtorEq, false_implies, true_and] at hd
                intro K hK; refine do_wanted rfl ?_
                have HK := Lib.hid hK; clear hK
                try simp only [hd, cond_true]
                have E5 : L 5 = false := (by cases h : L 5 with | false => rfl | true => exact absurd (q15 h) (by rw [hL]; simp))
                have E6 : L 6 = false := (by cases h : L 6 with | false => rfl | true => exact absurd (q14 h) (by rw [E5]; simp))
                have E7 : L 7 = false := (by cases h : L 7 with | false => rfl | true => exact absurd (q17 h) (by rw [E5]; simp))
                have E9 : L 9 = false := (by cases h : L 9 with | false => rfl | true => exact absurd ((q13 h).2) (by rw [E6]; simp))
                have E10 : L 10 = false := (by cases h : L 10 with | false => rfl | true => exact absurd (q18 h) (by rw [E7]; simp))
                try simp only [E5, E6, E7, E10, cond_false]
                have Q0 := Lib.hid q0; have Q1 := Lib.hid q1; have Q2 := Lib.hid q2; have Q3 := Lib.hid q3; have Q4 := Lib.hid q4; have Q5 := Lib.hid q5; have Q6 := Lib.hid q6; have Q7 := Lib.hid q7; have Q8 := Lib.hid q8; have Q9 := Lib.hid q9; have Q10 := Lib.hid q10; have Q11 := Lib.hid q11; have Q12 := Lib.hid q12; have Q13 := Lib.hid q13; have Q14 := Lib.hid q14; have Q15 := Lib.hid q15; have Q16 := Lib.hid q16; have Q17 := Lib.hid q17; have Q18 := Lib.hid q18
                clear q0 q1 q2 q3 q4 q5 q6 q7 q8 q9 q10 q11 q12 q13 q14 q15 q16 q17 q18
                go_wp2_with ((with_reducible refine (sAppendWal_calls (⟨f, bf, es⟩ : DWal) (⟨tg, sg⟩ : DEntry) _ _ Q4.out (by have := HL.out; show es.length ≤ _; omega)).mono ?_); rintro ee we ⟨vv, rfl, v2, FF, rfl, hrow, hfb, hnd, hbb⟩)
                obtain ⟨Pn, Cn, e2, _, _⟩ := Rp.Row_K hrow
                subst e2
                have hFF := Rp.Row_flat kEntry_flat hrow
                have HB := Lib.hid hbb
                have hPn : ∀ a, Pn = some a → W.heap.size ≤ a.block ∧ a.block < we.heap.size := fun a ha => by
                      have hm : a.block ∈ FF := by rw [hFF, ha]; simp [Rp.ofOwn, Value.ownBlock]
                      exact ⟨hfb _ hm, Rp.Row_lt hrow _ hm⟩
                exact HK.out _ _ ⟨⟨tg, sg, Pn, Cn, gb⟩, by (simp only [upd, Nat.reduceBEq, cond_true, cond_false, hd, E5, E6, E7, E10]; try rfl), ⟨Q0.out.trans (KeptF.of_below HB.out), Nat.le_trans Q1.out HB.out.size, Q2.out.below HB.out, Q3.out.below HB.out, Rp.S_below Q4.out HB.out, fun h => (Q5.out h).below HB.out, fun h => (Q6.out h).below HB.out, Q7.out, fun _ => ⟨Rp.Row_S hrow, fun a ha => ⟨by have := Q1.out; have := HS6.out; have := (hPn a ha).1; omega, (hPn a ha).2⟩⟩, fun h => ⟨(Q9.out h).1, Nat.lt_of_lt_of_le (Q9.out h).2 HB.out.size⟩, fun h k => (Q10.out h k).below HB.out, fun h => absurd (show L 9 = true from h) (by simp [E9]), fun _ h a ha e => by have h5 := (Q9.out h).2; have h6 := (hPn a ha).1; have h7 : a.block = gb := e; omega, Q13.out, Q14.out, fun h => rfl, fun _ => (show L 3 = true by simp only [hd]), Q17.out, Q18.out⟩⟩
              · rintro L ⟨tg, sg, Pg, Cg, gb⟩ W hL hd ⟨q0, q1, q2, q3, q4, q5, q6, q7, q8, q9, q10, q11, q12, q13, q14, q15, q16, q17, q18⟩
                try dsimp only at q0 q1 q2 q3 q4 q5 q6 q7 q8 q9 q10 q11 q12 q13 q14 q15 q16 q17 q18
                try simp only [depsT, Region.binds, forall_const, and_true, beq_iff_eq, reduceCtorEq, false_implies, true_and] at hd
                intro K hK; refine do_wanted rfl ?_
                have HK := Lib.hid hK; clear hK
                try simp only [hd, cond_true]
                have Q0 := Lib.hid q0; have Q1 := Lib.hid q1; have Q2 := Lib.hid q2; have Q3 := Lib.hid q3; have Q4 := Lib.hid q4; have Q5 := Lib.hid q5; have Q6 := Lib.hid q6; have Q7 := Lib.hid q7; have Q8 := Lib.hid q8; have Q9 := Lib.hid q9; have Q10 := Lib.hid q10; have Q11 := Lib.hid q11; have Q12 := Lib.hid q12; have Q13 := Lib.hid q13; have Q14 := Lib.hid q14; have Q15 := Lib.hid q15; have Q16 := Lib.hid q16; have Q17 := Lib.hid q17; have Q18 := Lib.hid q18
                clear q0 q1 q2 q3 q4 q5 q6 q7 q8 q9 q10 q11 q12 q13 q14 q15 q16 q17 q18
                go_wp2
                exact HK.out _ _ ⟨⟨tg, sg, Pg, Cg, gb⟩, by simp only [upd, Nat.reduceBEq, cond_true, cond_false, hd], ⟨Q0.out, Q1.out, Q2.out, Q3.out, Q4.out, Q5.out, Q6.out, Q7.out, Q8.out, Q9.out, Q10.out, Q11.out, Q12.out, Q13.out, fun h => rfl, fun _ => (show L 4 = true by simp only [hd]), Q16.out, fun h => rfl, Q18.out⟩⟩
              · rintro L ⟨tg, sg, Pg, Cg, gb⟩ W hL hd ⟨q0, q1, q2, q3, q4, q5, q6, q7, q8, q9, q10, q11, q12, q13, q14, q15, q16, q17, q18⟩
                try dsimp only at q0 q1 q2 q3 q4 q5 q6 q7 q8 q9 q10 q11 q12 q13 q14 q15 q16 q17 q18
                try simp only [depsT, Region.binds, forall_const, and_true, beq_iff_eq, reduceCtorEq, false_implies, true_and] at hd
                intro K hK; refine do_wanted rfl ?_
                have HK := Lib.hid hK; clear hK
                try simp only [hd, cond_true]
                have Q0 := Lib.hid q0; have Q1 := Lib.hid q1; have Q2 := Lib.hid q2; have Q3 := Lib.hid q3; have Q4 := Lib.hid q4; have Q5 := Lib.hid q5; have Q6 := Lib.hid q6; have Q7 := Lib.hid q7; have Q8 := Lib.hid q8; have Q9 := Lib.hid q9; have Q10 := Lib.hid q10; have Q11 := Lib.hid q11; have Q12 := Lib.hid q12; have Q13 := Lib.hid q13; have Q14 := Lib.hid q14; have Q15 := Lib.hid q15; have Q16 := Lib.hid q16; have Q17 := Lib.hid q17; have Q18 := Lib.hid q18
                clear q0 q1 q2 q3 q4 q5 q6 q7 q8 q9 q10 q11 q12 q13 q14 q15 q16 q17 q18
                go_wp2
                exact HK.out _ _ ⟨⟨tg, sg, Pg, Cg, gb⟩, by simp only [upd, Nat.reduceBEq, cond_true, cond_false, hd], ⟨Q0.out, Q1.out, Q2.out, Q3.out, Q4.out, Q5.out, Q6.out, Q7.out, Q8.out, Q9.out, Q10.out, Q11.out, Q12.out, fun h => ⟨(Q13.out h).1, rfl⟩, fun _ => (show L 5 = true by simp only [hd]), Q15.out, Q16.out, Q17.out, Q18.out⟩⟩
              · rintro L ⟨tg, sg, Pg, Cg, gb⟩ W hL hd ⟨q0, q1, q2, q3, q4, q5, q6, q7, q8, q9, q10, q11, q12, q13, q14, q15, q16, q17, q18⟩
                try dsimp only at q0 q1 q2 q3 q4 q5 q6 q7 q8 q9 q10 q11 q12 q13 q14 q15 q16 q17 q18
                try simp only [depsT, Region.binds, forall_const, and_true, beq_iff_eq, reduceCtorEq, false_implies, true_and] at hd
                intro K hK; refine do_wanted rfl ?_
                have HK := Lib.hid hK; clear hK
                try simp only [hd, cond_true]
                have Q0 := Lib.hid q0; have Q1 := Lib.hid q1; have Q2 := Lib.hid q2; have Q3 := Lib.hid q3; have Q4 := Lib.hid q4; have Q5 := Lib.hid q5; have Q6 := Lib.hid q6; have Q7 := Lib.hid q7; have Q8 := Lib.hid q8; have Q9 := Lib.hid q9; have Q10 := Lib.hid q10; have Q11 := Lib.hid q11; have Q12 := Lib.hid q12; have Q13 := Lib.hid q13; have Q14 := Lib.hid q14; have Q15 := Lib.hid q15; have Q16 := Lib.hid q16; have Q17 := Lib.hid q17; have Q18 := Lib.hid q18
                clear q0 q1 q2 q3 q4 q5 q6 q7 q8 q9 q10 q11 q12 q13 q14 q15 q16 q17 q18
                go_wp2
                exact HK.out _ _ ⟨⟨tg, sg, Pg, Cg, gb⟩, by simp only [upd, Nat.reduceBEq, cond_true, cond_false, hd], ⟨Q0.out, Q1.out, Q2.out, Q3.out, Q4.out, Q5.out, Q6.out, Q7.out, Q8.out, Q9.out, Q10.out, Q11.out, Q12.out, Q13.out, Q14.out, Q15.out, Q16.out, fun _ => (show L 5 = true by simp only [hd]), fun h => rfl⟩⟩
              · rintro L ⟨tg, sg, Pg, Cg, gb⟩ W hL hd ⟨q0, q1, q2, q3, q4, q5, q6, q7, q8, q9, q10, q11, q12, q13, q14, q15, q16, q17, q18⟩
                try dsimp only at q0 q1 q2 q3 q4 q5 q6 q7 q8 q9 q10 q11 q12 q13 q14 q15 q16 q17 q18
                try simp only [depsT, Region.binds, forall_const, and_true, beq_iff_eq, reduceCtorEq, false_implies, true_and] at hd
                intro K hK; refine do_wanted rfl ?_
                have HK := Lib.hid hK; clear hK
                try simp only [hd, cond_true]
                have E9 : L 9 = false := (by cases h : L 9 with | false => rfl | true => exact absurd ((q13 h).1) (by rw [hL]; simp))
                try simp only [E9, cond_false]
                have Q0 := Lib.hid q0; have Q1 := Lib.hid q1; have Q2 := Lib.hid q2; have Q3 := Lib.hid q3; have Q4 := Lib.hid q4; have Q5 := Lib.hid q5; have Q6 := Lib.hid q6; have Q7 := Lib.hid q7; have Q8 := Lib.hid q8; have Q9 := Lib.hid q9; have Q10 := Lib.hid q10; have Q11 := Lib.hid q11; have Q12 := Lib.hid q12; have Q13 := Lib.hid q13; have Q14 := Lib.hid q14; have Q15 := Lib.hid q15; have Q16 := Lib.hid q16; have Q17 := Lib.hid q17; have Q18 := Lib.hid q18
                clear q0 q1 q2 q3 q4 q5 q6 q7 q8 q9 q10 q11 q12 q13 q14 q15 q16 q17 q18
                go_wp2
                have HB := Lib.hid ((Below.refl W.heap.size W).alloc (Nat.le_refl _) (.cells #[.int .i64 0, .int .i64 0, .slice none 0 0] 25))
                exact HK.out _ _ ⟨⟨tg, sg, Pg, Cg, W.heap.size⟩, by simp only [upd, Nat.reduceBEq, cond_true, cond_false, hd], ⟨Q0.out.trans (KeptF.of_below HB.out), Nat.le_trans Q1.out HB.out.size, Q2.out.below HB.out, Q3.out.below HB.out, Rp.S_below Q4.out HB.out, fun h => (Q5.out h).below HB.out, fun h => (Q6.out h).below HB.out, Q7.out, fun h => ⟨Rp.S_below (Q8.out h).1 HB.out, fun a ha => ⟨((Q8.out h).2 a ha).1, Nat.lt_of_lt_of_le ((Q8.out h).2 a ha).2 HB.out.size⟩⟩, fun _ => ⟨Q1.out, by simp⟩, fun _ _ => Box.new rfl, fun h => absurd (show L 9 = true from h) (by simp [E9]), fun h _ a ha => Nat.ne_of_lt ((Q8.out h).2 a ha).2, fun h => ⟨rfl, (Q13.out h).2⟩, Q14.out, Q15.out, Q16.out, Q17.out, Q18.out⟩⟩
              · rintro L ⟨tg, sg, Pg, Cg, gb⟩ W hL hd ⟨q0, q1, q2, q3, q4, q5, q6, q7, q8, q9, q10, q11, q12, q13, q14, q15, q16, q17, q18⟩
                try dsimp only at q0 q1 q2 q3 q4 q5 q6 q7 q8 q9 q10 q11 q12 q13 q14 q15 q16 q17 q18
                try simp only [depsT, Region.binds, forall_const, and_true, beq_iff_eq, reduceCtorEq, false_implies, true_and] at hd
                intro K hK; refine do_wanted rfl ?_
                have HK := Lib.hid hK; clear hK
                try simp only [hd, cond_true]
                have h8 : L 8 = true := (by simp only [hd])
                have h6 : L 6 = true := (by simp only [hd])
                have h5 := q14 h6
                have h4 := q15 h5
                have hz := q10 h8 hL
                have cz0 := hz.cell 0 (v := .int .i64 0) rfl; have cz1 := hz.cell 1 (v := .int .i64 0) rfl; have cz2 := hz.cell 2 (v := .slice none 0 0) rfl
                have fz := hz.fro
                have HZ := Lib.hid hz; clear hz
                have Q0 := Lib.hid q0; have Q1 := Lib.hid q1; have Q2 := Lib.hid q2; have Q3 := Lib.hid q3; have Q4 := Lib.hid q4; have Q5 := Lib.hid q5; have Q6 := Lib.hid q6; have Q7 := Lib.hid q7; have Q8 := Lib.hid q8; have Q9 := Lib.hid q9; have Q10 := Lib.hid q10; have Q11 := Lib.hid q11; have Q12 := Lib.hid q12; have Q13 := Lib.hid q13; have Q14 := Lib.hid q14; have Q15 := Lib.hid q15; have Q16 := Lib.hid q16; have Q17 := Lib.hid q17; have Q18 := Lib.hid q18
                clear q0 q1 q2 q3 q4 q5 q6 q7 q8 q9 q10 q11 q12 q13 q14 q15 q16 q17 q18
                go_wp2
                change K _ (Rp.setN W gb 0 [.int .i64 (appendW (⟨f, bf, es⟩ : DWal) (⟨tg, sg⟩ : DEntry)).fFirst, .int .i64 (appendW (⟨f, bf, es⟩ : DWal) (⟨tg, sg⟩ : DEntry)).fBefore, .slice Pg (appendW (⟨f, bf, es⟩ : DWal) (⟨tg, sg⟩ : DEntry)).fEntries.length Cg])
                have hs6 := HS6.out
                obtain ⟨hk, hbx⟩ := HZ.out.stored [.int .i64 (appendW (⟨f, bf, es⟩ : DWal) (⟨tg, sg⟩ : DEntry)).fFirst, .int .i64 (appendW (⟨f, bf, es⟩ : DWal) (⟨tg, sg⟩ : DEntry)).fBefore, .slice Pg (appendW (⟨f, bf, es⟩ : DWal) (⟨tg, sg⟩ : DEntry)).fEntries.length Cg] 0
                rw [setA_all (by rfl)] at hbx
                have hg := Q9.out h8
                exact HK.out _ _ ⟨⟨tg, sg, Pg, Cg, gb⟩, by simp only [upd, Nat.reduceBEq, cond_true, cond_false, hd], ⟨KeptF.newer Q0.out (by omega) hk, Nat.le_trans Q1.out hk.size, Box_ne Q2.out hk (by omega), Box_ne Q3.out hk (by omega), S_keptC kEntry_flat Q4.out hk (fun a ha => by have := (HA2.out a ha).2; omega), fun h => (Q5.out h).kept hk (by simp; omega) (fun he a ha => by have := hA he a ha; simp; omega), fun h => (Q6.out h).kept hk (by simp; omega) (fun he a ha => by have := hA he a ha; simp; omega), Q7.out, fun h => ⟨S_keptC kEntry_flat (Q8.out h).1 hk (fun a ha => Q12.out h h8 a ha), fun a ha => ⟨((Q8.out h).2 a ha).1, Nat.lt_of_lt_of_le ((Q8.out h).2 a ha).2 hk.size⟩⟩, fun h => ⟨(Q9.out h).1, Nat.lt_of_lt_of_le (Q9.out h).2 hk.size⟩, fun _ h => absurd h (by simp [upd]), fun _ => hbx, Q12.out, fun _ => ⟨(show L 8 = true by simp only [hd]), (show L 6 = true by simp only [hd])⟩, Q14.out, Q15.out, Q16.out, Q17.out, Q18.out⟩⟩
              · rintro L ⟨tg, sg, Pg, Cg, gb⟩ W hL hd ⟨q0, q1, q2, q3, q4, q5, q6, q7, q8, q9, q10, q11, q12, q13, q14, q15, q16, q17, q18⟩
                try dsimp only at q0 q1 q2 q3 q4 q5 q6 q7 q8 q9 q10 q11 q12 q13 q14 q15 q16 q17 q18
                try simp only [depsT, Region.binds, forall_const, and_true, beq_iff_eq, reduceCtorEq, false_implies, true_and] at hd
                intro K hK; refine do_wanted rfl ?_
                have HK := Lib.hid hK; clear hK
                try simp only [hd, cond_true]
                have Q0 := Lib.hid q0; have Q1 := Lib.hid q1; have Q2 := Lib.hid q2; have Q3 := Lib.hid q3; have Q4 := Lib.hid q4; have Q5 := Lib.hid q5; have Q6 := Lib.hid q6; have Q7 := Lib.hid q7; have Q8 := Lib.hid q8; have Q9 := Lib.hid q9; have Q10 := Lib.hid q10; have Q11 := Lib.hid q11; have Q12 := Lib.hid q12; have Q13 := Lib.hid q13; have Q14 := Lib.hid q14; have Q15 := Lib.hid q15; have Q16 := Lib.hid q16; have Q17 := Lib.hid q17; have Q18 := Lib.hid q18
                clear q0 q1 q2 q3 q4 q5 q6 q7 q8 q9 q10 q11 q12 q13 q14 q15 q16 q17 q18
                go_wp2
                exact HK.out _ _ ⟨⟨tg, sg, Pg, Cg, gb⟩, by simp only [upd, Nat.reduceBEq, cond_true, cond_false, hd], ⟨Q0.out, Q1.out, Q2.out, Q3.out, Q4.out, Q5.out, Q6.out, Q7.out, Q8.out, Q9.out, Q10.out, Q11.out, Q12.out, Q13.out, Q14.out, Q15.out, Q16.out, Q17.out, fun _ => (show L 7 = true by simp only [hd])⟩⟩
            · simp (config := { maxSteps := 4000000 }) only [layT, Nat.reduceAdd, Nat.reduceBEq, cond_true, cond_false]
              rintro L ⟨tg, sg, Pg, Cg, gb⟩ W hd ⟨q0, q1, q2, q3, q4, q5, q6, q7, q8, q9, q10, q11, q12, q13, q14, q15, q16, q17, q18⟩
              simp only [doneT, true_and, List.length_cons, List.length_nil, Nat.reduceAdd] at hd
              obtain ⟨⟨⟨⟨⟨⟨⟨⟨⟨⟨e0, e1⟩, e2⟩, e3⟩, e4⟩, e5⟩, e6⟩, e7⟩, e8⟩, e9⟩, e10⟩ := hd
              try dsimp only at q0 q1 q2 q3 q4 q5 q6 q7 q8 q9 q10 q11 q12 q13 q14 q15 q16 q17 q18
              simp only [e0, e1, e2, e3, e4, e5, e6, e7, e8, e9, e10, cond_true]
              have HK := Lib.hid q0; have SZ := Lib.hid (Nat.le_trans HS6.out q1); have B2 := Lib.hid q2; have B3 := Lib.hid q3; have S3 := Lib.hid q4; have H := Lib.hid (q6 e3); have H8 := Lib.hid (q8 e4); have BG := Lib.hid (q11 e9); have hg := (q9 e8).1
              have HA2 := Lib.hid (fun a ha => ⟨(HA2.out a ha).1, Nat.lt_of_lt_of_le (HA2.out a ha).2 q1⟩ : ∀ a, A2 = some a → w.heap.size + 2 ≤ a.block ∧ a.block < W.heap.size)
              clear q0 q1 q2 q3 q4 q5 q6 q7 q8 q9 q10 q11 q12 q13 q14 q15 q16 q17 q18
              cases hok : appendB (⟨f, bf, es⟩ : DWal) (⟨tg, sg⟩ : DEntry)
              case false =>
                go_wp2
                exact ⟨⟨j - 1, te2, es, A2, c2, by omega, by congr 1; omega, rfl, ht2.1, by omega, hes, B3.out, S3.out, HA2.out, B2.out, HK.out, SZ.out, H.out.mono (by omega)⟩, by simp [intOf]; omega⟩
              case true =>
                have hX : appendW (⟨f, bf, es⟩ : DWal) (⟨tg, sg⟩ : DEntry) = (⟨f, bf, es ++ [(⟨tg, sg⟩ : DEntry)]⟩ : DWal) := by rw [appendW, if_pos hok]; rfl
                rw [hX] at H8 BG ⊢
                have hln : (es ++ [(⟨tg, sg⟩ : DEntry)]).length = es.length + 1 := by simp
                rw [hln] at H8 BG ⊢
                obtain ⟨hl60, htg⟩ := append_facts hok
                have HTW := Lib.hid (termW_snoc f bf es (⟨tg, sg⟩ : DEntry))
                clear hX hok
                have g0 := BG.out.cell 0 (v := .int .i64 f) rfl; have g1 := BG.out.cell 1 (v := .int .i64 bf) rfl; have g2 := BG.out.cell 2 (v := .slice Pg (es.length + 1) Cg) rfl
                have b0 := B3.out.cell 0 (v := .int .i64 f) rfl; have b1 := B3.out.cell 1 (v := .int .i64 bf) rfl; have b2 := B3.out.cell 2 (v := .slice A2 es.length c2) rfl
                have f3 := B3.out.fro
                go_upto_region 17 with fail
                obtain ⟨hk, hbx⟩ := B3.out.stored [.int .i64 f, .int .i64 bf, .slice Pg (es.length + 1) Cg] 0
                rw [setA_all (by rfl)] at hbx
                refine wp_genC (Q := fun V => Box V (w.heap.size + 1) #[.int .i64 f, .int .i64 bf, .slice Pg (es.length + 1) Cg] 25 ∧ kEntry.S V (es ++ [(⟨tg, sg⟩ : DEntry)]) (.slice Pg (es.length + 1) Cg) ∧ (∀ a, Pg = some a → w.heap.size + 2 ≤ a.block ∧ a.block < V.heap.size) ∧ Box V w.heap.size #[.int .i64 0, .int .i64 0, .slice none 0 0] 25 ∧ KeptF [b] w V ∧ w.heap.size + 2 ≤ V.heap.size ∧ Cur V b bs A c (tp + 200)) (Rp.setN W (w.heap.size + 1) 0 [.int .i64 f, .int .i64 bf, .slice Pg (es.length + 1) Cg]) ⟨hbx, S_keptC kEntry_flat H8.out.1 hk (fun a ha => by have := (H8.out.2 a ha).1; omega), fun a ha => ⟨(H8.out.2 a ha).1, Nat.lt_of_lt_of_le (H8.out.2 a ha).2 hk.size⟩, Box_ne B2.out hk (by omega), KeptF.newer HK.out (by omega) hk, Nat.le_trans SZ.out hk.size, H.out.kept hk (by simp; omega) (fun he a ha => by have := hA he a ha; simp; omega)⟩ ?_
                clear g0 g1 g2 b0 b1 b2 f3 hk hbx B3 S3 H8 BG B2 HK SZ H HA2 hg
                rintro V ⟨b3, s3, ha2, b2, hk0, hsz, hc⟩
                have B3 := Lib.hid b3; have B2 := Lib.hid b2; have HK := Lib.hid hk0; have SZ := Lib.hid hsz; have H := Lib.hid hc; have S3 := Lib.hid s3; have HA2 := Lib.hid ha2
                clear b3 s3 ha2 b2 hk0 hsz hc
                have b0 := B3.out.cell 0 (v := .int .i64 f) rfl; have b1 := B3.out.cell 1 (v := .int .i64 bf) rfl; have b2 := B3.out.cell 2 (v := .slice Pg (es.length + 1) Cg) rfl
                have HC := Lib.hid (show Calls Try.prog 17 #[.agg #[.int .i64 f, .int .i64 bf, .slice Pg (es.length + 1) Cg]] V _ from sTerm_calls (⟨f, bf, es ++ [(⟨tg, sg⟩ : DEntry)]⟩ : DWal) _ V S3.out (by show (es ++ [(⟨tg, sg⟩ : DEntry)]).length ≤ _; omega))
                rw [HTW.out] at HC
                go_wp2_with ((with_reducible refine HC.out.mono ?_); rintro e wt ⟨rfl, hb9⟩; have B3 := Lib.hid (B3.out.below hb9); have S3 := Lib.hid (Rp.S_below S3.out hb9); have HA2 := Lib.hid (fun a ha => ⟨(HA2.out a ha).1, Nat.lt_of_lt_of_le (HA2.out a ha).2 hb9.size⟩ : ∀ a, Pg = some a → w.heap.size + 2 ≤ a.block ∧ a.block < wt.heap.size); have B2 := Lib.hid (B2.out.below hb9); have HK := Lib.hid (HK.out.below hb9); have SZ := Lib.hid (Nat.le_trans SZ.out hb9.size); have H := Lib.hid (H.out.below hb9); clear hb9)
                rw [← hln] at B3 S3
                exact ⟨⟨j - 1, tg, es ++ [(⟨tg, sg⟩ : DEntry)], Pg, Cg, by omega, by congr 1; omega, rfl, by omega, by omega, hl60, B3.out, S3.out, HA2.out, B2.out, HK.out, SZ.out, H.out.mono (by omega)⟩, by simp [intOf]; omega⟩
          · obtain rfl : j = 0 := by omega
            clear hj te0 te1
            go_wp2_with fail
            (with_reducible refine (pick_calls 40 H.out (by omega)).mono ?_)
            rintro e w6 ⟨q, rfl, q0, q1, hk, h'⟩
            have S3 := Lib.hid (S_keptC kEntry_flat S3.out hk (fun a ha => by have := (HA2.out a ha).1; omega)); have HA2 := Lib.hid (fun a ha => ⟨(HA2.out a ha).1, Nat.lt_of_lt_of_le (HA2.out a ha).2 hk.size⟩ : ∀ a, A2 = some a → w.heap.size + 2 ≤ a.block ∧ a.block < w6.heap.size); have B2 := Lib.hid (B2.out.kept hk (by simp; omega)); have B3 := Lib.hid (B3.out.kept hk (by simp; omega)); have HK := Lib.hid (HK.out.trans hk); have SZ := Lib.hid (Nat.le_trans SZ.out hk.size); have H := Lib.hid h'; clear hk h'
            by_cases hq0 : q = 0
            · subst hq0
              have hcs : Box (w6.alloc (.cells #[.int .i64 0, .int .i64 1000000, .int .i64 1000001] 3)) w6.heap.size #[.int .i64 0, .int .i64 1000000, .int .i64 1000001] 3 := Box.new rfl
              have hbA := (Below.refl w6.heap.size w6).alloc (Nat.le_refl _) (.cells #[.int .i64 0, .int .i64 1000000, .int .i64 1000001] 3)
              have HC := Lib.hid (show Calls Try.prog 31 #[.pointer (some ⟨b, 0, none⟩), .slice (some ⟨w6.heap.size, 0, none⟩) 3 3] _ _ from among_calls [0, 1000000, 1000001] (H.out.below hbA) (by omega) (S_three hcs) (by decide) (by decide) (fun a ha => by simp at ha; subst ha; have := SZ.out; simp; omega))
              have HBA := Lib.hid hbA
              clear hcs hbA
              go_wp2_with fail
              (with_reducible refine HC.out.mono ?_)
              rintro e w8 ⟨t, rfl, htm, hk, h'⟩
              have htr : 0 ≤ t ∧ t ≤ 1000001 := by simp at htm; omega
              replace hk := (KeptF.of_below (F := [b]) HBA.out).trans hk
              have S3 := Lib.hid (S_keptC kEntry_flat S3.out hk (fun a ha => by have := (HA2.out a ha).1; omega)); have HA2 := Lib.hid (fun a ha => ⟨(HA2.out a ha).1, Nat.lt_of_lt_of_le (HA2.out a ha).2 hk.size⟩ : ∀ a, A2 = some a → w.heap.size + 2 ≤ a.block ∧ a.block < w8.heap.size); have B2 := Lib.hid (B2.out.kept hk (by simp; omega)); have B3 := Lib.hid (B3.out.kept hk (by simp; omega)); have HK := Lib.hid (HK.out.trans hk); have SZ := Lib.hid (Nat.le_trans SZ.out hk.size); have H := Lib.hid h'; clear hk h'
              clear HC HBA htm
              have u0 := B3.out.cell 0 (v := .int .i64 f) rfl
              have f3 := B3.out.fro
              go_upto_region 23 with fail
              refine wp_genC (Q := fun V => Box V (w.heap.size + 1) #[.int .i64 t, .int .i64 bf, .slice A2 es.length c2] 25 ∧ kEntry.S V es (.slice A2 es.length c2) ∧ Box V w.heap.size #[.int .i64 0, .int .i64 0, .slice none 0 0] 25 ∧ KeptF [b] w V ∧ w.heap.size + 2 ≤ V.heap.size ∧ Cur V b bs A c (top + 20000)) _ ⟨B3.out.set 0 _, S_keptC kEntry_flat S3.out (kept_set _ _ _ _) (fun a ha => by have := (HA2.out a ha).1; omega), Box_ne B2.out (kept_set _ _ _ _) (by omega), KeptF.newset HK.out (by omega) _ _, Nat.le_trans SZ.out (kept_set _ _ _ _).size, (H.out.kept (kept_set _ _ _ _) (by simp; omega) (fun he a ha => by have := hA he a ha; simp; omega)).mono (by omega)⟩ ?_
              clear B3 S3 B2 HK SZ H u0 f3
              rintro V ⟨b3, s3, b2, hk0, hsz, hc⟩
              have BX := Lib.hid b2; have HK := Lib.hid hk0; have SZ := Lib.hid hsz; have H := Lib.hid hc; have S3 := Lib.hid s3
              have x0 := b3.cell 0 (v := .int .i64 t) rfl; have x1 := b3.cell 1 (v := .int .i64 bf) rfl; have x2 := b3.cell 2 (v := .slice A2 es.length c2) rfl
              have z0 := b2.cell 0 (v := .int .i64 0) rfl; have z1 := b2.cell 1 (v := .int .i64 0) rfl; have z2 := b2.cell 2 (v := .slice none 0 0) rfl
              have f0 := b2.fro
              clear b3 s3 b2 hk0 hsz hc
              go_wp2
              have hk : KeptF [w.heap.size] V (Rp.setN V w.heap.size 0 [.int .i64 t, .int .i64 bf, .slice A2 es.length c2]) := Rp.setN_kept (by simp) _ _ _ (KeptF.refl _ _)
              have bf_ : Box (Rp.setN V w.heap.size 0 [.int .i64 t, .int .i64 bf, .slice A2 es.length c2]) w.heap.size #[.int .i64 t, .int .i64 bf, .slice A2 es.length c2] 25 := by
                have h := Box.setN [.int .i64 t, .int .i64 bf, .slice A2 es.length c2] BX.out 0
                rw [setA_all (by rfl)] at h
                exact h
              change bodyPost _ _ _ _ _ (Rp.setN V w.heap.size 0 [.int .i64 t, .int .i64 bf, .slice A2 es.length c2])
              have HF := Lib.hid (KeptF.newer HK.out (Nat.le_refl _) hk)
              have HC := Lib.hid (H.out.kept hk (by simp; omega) (fun he a ha => by have := hA he a ha; simp; omega))
              have HS := Lib.hid (S_keptC kEntry_flat S3.out hk (fun a ha => by have := (HA2.out a ha).1; omega))
              clear x0 x1 x2 z0 z1 z2 f0 hk
              generalize Rp.setN V w.heap.size 0 [.int .i64 t, .int .i64 bf, .slice A2 es.length c2] = wf at *
              have d0 := bf_.cell 0 (v := .int .i64 t) rfl; have d1 := bf_.cell 1 (v := .int .i64 bf) rfl; have d2 := bf_.cell 2 (v := .slice A2 es.length c2) rfl
              refine bodyPost_ret (v := .agg #[.int .i64 t, .int .i64 bf, .slice A2 es.length c2]) (by simp [results, Try.results15, go_sem, d0, d1, d2]) rfl ⟨⟨t, bf, es⟩, A2, c2, rfl, HS.out, fun a ha => by have := (HA2.out a ha).1; omega, hes, by show 0 ≤ t; omega, by show t ≤ _; omega, by show 0 ≤ bf; omega, by show bf ≤ _; omega, HF.out, HC.out⟩
            by_cases hq1 : q = 1
            · subst hq1
              go_wp2_with fail
              (with_reducible refine (pick_calls 9 H.out (by omega)).mono ?_)
              rintro e w8 ⟨r, rfl, r0, r1, hk, h'⟩
              have S3 := Lib.hid (S_keptC kEntry_flat S3.out hk (fun a ha => by have := (HA2.out a ha).1; omega)); have HA2 := Lib.hid (fun a ha => ⟨(HA2.out a ha).1, Nat.lt_of_lt_of_le (HA2.out a ha).2 hk.size⟩ : ∀ a, A2 = some a → w.heap.size + 2 ≤ a.block ∧ a.block < w8.heap.size); have B2 := Lib.hid (B2.out.kept hk (by simp; omega)); have B3 := Lib.hid (B3.out.kept hk (by simp; omega)); have HK := Lib.hid (HK.out.trans hk); have SZ := Lib.hid (Nat.le_trans SZ.out hk.size); have H := Lib.hid h'; clear hk h'
              have u1 := B3.out.cell 1 (v := .int .i64 bf) rfl
              have f3 := B3.out.fro
              go_upto_region 23 with fail
              refine wp_genC (Q := fun V => Box V (w.heap.size + 1) #[.int .i64 f, .int .i64 r, .slice A2 es.length c2] 25 ∧ kEntry.S V es (.slice A2 es.length c2) ∧ Box V w.heap.size #[.int .i64 0, .int .i64 0, .slice none 0 0] 25 ∧ KeptF [b] w V ∧ w.heap.size + 2 ≤ V.heap.size ∧ Cur V b bs A c (top + 20000)) _ ⟨B3.out.set 1 _, S_keptC kEntry_flat S3.out (kept_set _ _ _ _) (fun a ha => by have := (HA2.out a ha).1; omega), Box_ne B2.out (kept_set _ _ _ _) (by omega), KeptF.newset HK.out (by omega) _ _, Nat.le_trans SZ.out (kept_set _ _ _ _).size, (H.out.kept (kept_set _ _ _ _) (by simp; omega) (fun he a ha => by have := hA he a ha; simp; omega)).mono (by omega)⟩ ?_
              clear B3 S3 B2 HK SZ H u1 f3
              rintro V ⟨b3, s3, b2, hk0, hsz, hc⟩
              have BX := Lib.hid b2; have HK := Lib.hid hk0; have SZ := Lib.hid hsz; have H := Lib.hid hc; have S3 := Lib.hid s3
              have x0 := b3.cell 0 (v := .int .i64 f) rfl; have x1 := b3.cell 1 (v := .int .i64 r) rfl; have x2 := b3.cell 2 (v := .slice A2 es.length c2) rfl
              have z0 := b2.cell 0 (v := .int .i64 0) rfl; have z1 := b2.cell 1 (v := .int .i64 0) rfl; have z2 := b2.cell 2 (v := .slice none 0 0) rfl
              have f0 := b2.fro
              clear b3 s3 b2 hk0 hsz hc
              go_wp2
              have hk : KeptF [w.heap.size] V (Rp.setN V w.heap.size 0 [.int .i64 f, .int .i64 r, .slice A2 es.length c2]) := Rp.setN_kept (by simp) _ _ _ (KeptF.refl _ _)
              have bf_ : Box (Rp.setN V w.heap.size 0 [.int .i64 f, .int .i64 r, .slice A2 es.length c2]) w.heap.size #[.int .i64 f, .int .i64 r, .slice A2 es.length c2] 25 := by
                have h := Box.setN [.int .i64 f, .int .i64 r, .slice A2 es.length c2] BX.out 0
                rw [setA_all (by rfl)] at h
                exact h
              change bodyPost _ _ _ _ _ (Rp.setN V w.heap.size 0 [.int .i64 f, .int .i64 r, .slice A2 es.length c2])
              have HF := Lib.hid (KeptF.newer HK.out (Nat.le_refl _) hk)
              have HC := Lib.hid (H.out.kept hk (by simp; omega) (fun he a ha => by have := hA he a ha; simp; omega))
              have HS := Lib.hid (S_keptC kEntry_flat S3.out hk (fun a ha => by have := (HA2.out a ha).1; omega))
              clear x0 x1 x2 z0 z1 z2 f0 hk
              generalize Rp.setN V w.heap.size 0 [.int .i64 f, .int .i64 r, .slice A2 es.length c2] = wf at *
              have d0 := bf_.cell 0 (v := .int .i64 f) rfl; have d1 := bf_.cell 1 (v := .int .i64 r) rfl; have d2 := bf_.cell 2 (v := .slice A2 es.length c2) rfl
              refine bodyPost_ret (v := .agg #[.int .i64 f, .int .i64 r, .slice A2 es.length c2]) (by simp [results, Try.results15, go_sem, d0, d1, d2]) rfl ⟨⟨f, r, es⟩, A2, c2, rfl, HS.out, fun a ha => by have := (HA2.out a ha).1; omega, hes, by show 0 ≤ f; omega, by show f ≤ _; omega, by show 0 ≤ r; omega, by show r ≤ _; omega, HF.out, HC.out⟩
            go_upto_region 23 with fail
            refine wp_genC (Q := fun V => Box V (w.heap.size + 1) #[.int .i64 f, .int .i64 bf, .slice A2 es.length c2] 25 ∧ kEntry.S V es (.slice A2 es.length c2) ∧ Box V w.heap.size #[.int .i64 0, .int .i64 0, .slice none 0 0] 25 ∧ KeptF [b] w V ∧ w.heap.size + 2 ≤ V.heap.size ∧ Cur V b bs A c (top + 20000)) _ ⟨B3.out, S3.out, B2.out, HK.out, SZ.out, H.out.mono (by omega)⟩ ?_
            clear B3 S3 B2 HK SZ H
            rintro V ⟨b3, s3, b2, hk0, hsz, hc⟩
            have BX := Lib.hid b2; have HK := Lib.hid hk0; have SZ := Lib.hid hsz; have H := Lib.hid hc; have S3 := Lib.hid s3
            have x0 := b3.cell 0 (v := .int .i64 f) rfl; have x1 := b3.cell 1 (v := .int .i64 bf) rfl; have x2 := b3.cell 2 (v := .slice A2 es.length c2) rfl
            have z0 := b2.cell 0 (v := .int .i64 0) rfl; have z1 := b2.cell 1 (v := .int .i64 0) rfl; have z2 := b2.cell 2 (v := .slice none 0 0) rfl
            have f0 := b2.fro
            clear b3 s3 b2 hk0 hsz hc
            go_wp2
            have hk : KeptF [w.heap.size] V (Rp.setN V w.heap.size 0 [.int .i64 f, .int .i64 bf, .slice A2 es.length c2]) := Rp.setN_kept (by simp) _ _ _ (KeptF.refl _ _)
            have bf_ : Box (Rp.setN V w.heap.size 0 [.int .i64 f, .int .i64 bf, .slice A2 es.length c2]) w.heap.size #[.int .i64 f, .int .i64 bf, .slice A2 es.length c2] 25 := by
              have h := Box.setN [.int .i64 f, .int .i64 bf, .slice A2 es.length c2] BX.out 0
              rw [setA_all (by rfl)] at h
              exact h
            change bodyPost _ _ _ _ _ (Rp.setN V w.heap.size 0 [.int .i64 f, .int .i64 bf, .slice A2 es.length c2])
            have HF := Lib.hid (KeptF.newer HK.out (Nat.le_refl _) hk)
            have HC := Lib.hid (H.out.kept hk (by simp; omega) (fun he a ha => by have := hA he a ha; simp; omega))
            have HS := Lib.hid (S_keptC kEntry_flat S3.out hk (fun a ha => by have := (HA2.out a ha).1; omega))
            clear x0 x1 x2 z0 z1 z2 f0 hk
            generalize Rp.setN V w.heap.size 0 [.int .i64 f, .int .i64 bf, .slice A2 es.length c2] = wf at *
            have d0 := bf_.cell 0 (v := .int .i64 f) rfl; have d1 := bf_.cell 1 (v := .int .i64 bf) rfl; have d2 := bf_.cell 2 (v := .slice A2 es.length c2) rfl
            refine bodyPost_ret (v := .agg #[.int .i64 f, .int .i64 bf, .slice A2 es.length c2]) (by simp [results, Try.results15, go_sem, d0, d1, d2]) rfl ⟨⟨f, bf, es⟩, A2, c2, rfl, HS.out, fun a ha => by have := (HA2.out a ha).1; omega, hes, by show 0 ≤ f; omega, by show f ≤ _; omega, by show 0 ≤ bf; omega, by show bf ≤ _; omega, HF.out, HC.out⟩
end Go.Proofs.Ytjigbmgfjmghcaa
