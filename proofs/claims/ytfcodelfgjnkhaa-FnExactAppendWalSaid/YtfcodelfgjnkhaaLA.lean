/- FnExactAppendWal. -/
import Derived.Test.YtfcodelfgjnkhaaWalD
import Derived.Test.YtfcodelfgjnkhaaKitB
namespace Go.Proofs.Ytfcodelfgjnkhaa
open Go Go.RowKit Go.Sort
set_option linter.unusedVariables false
set_option linter.unusedSimpArgs false

theorem appendW_len (x : DWal) (y : DEntry) : (appendW x y).fEntries.length ≤ x.fEntries.length + 1 := by
  unfold appendW addW zWal
  split <;> simp

theorem mkWal_top (x : DWal) (k : Int) : (mkWal x k).2 ≤ k + 2 * x.fEntries.length := mkL_top (fun _ _ => Int.le_refl _) x.fEntries k

set_option maxHeartbeats 4000000 in
set_option maxRecDepth 100000 in
theorem law_AppendWal (x : DWal) (y : DEntry) (v2 : Value) (w : World) (g2 : kEntry.S w x.fEntries v2) (hw : wfWal x) (hy : wfEntry y) : Calls Try.prog 4 #[.agg #[.int .i64 x.fFirst, .int .i64 x.fBefore, v2], .agg #[.int .i64 y.fTerm, .string y.fData]] w
    fun e w' => e = .returned (.bool true) ∧ Below w.heap.size w w' := by
  have G := Lib.hid g2; clear g2
  by_cases hz : (szNWal x + szNEntry y : Int) ≤ 1048576
  · have hlen : x.fEntries.length ≤ 1048576 := by unfold szNWal szL at hz; omega
    go_enter Try.func4, Try.ntmps4
    go_wp2_with fail
    (with_reducible refine (szWal_calls x v2 _ _ (Rp.S_below G.out (((Below.refl _ _).alloc (Nat.le_refl _) _).alloc (by simp) _)) (by omega) (by omega) hw).mono ?_)
    rintro e w1 ⟨rfl, hb⟩
    rw [szR_yes (by omega)]
    have B0 : Box w1 w.heap.size #[.int .i64 x.fFirst, .int .i64 x.fBefore, v2] 24 := Box.below (Box.alloc (Box.new rfl)) hb
    have B1 : Box w1 (w.heap.size + 1) #[.int .i64 y.fTerm, .string y.fData] 36 := Box.below (Box.new (by simp)) hb
    have HB := Lib.hid (Below.trans (((Below.refl w.heap.size w).alloc (Nat.le_refl _) _).alloc (by simp) _) (hb.mono (by simp <;> omega)))
    have hs : w.heap.size + 1 + 1 ≤ w1.heap.size := by have := hb.size; simpa using this
    clear hb
    have b1_0 := B1.cell 0 (v := .int .i64 y.fTerm) rfl
    have b1_1 := B1.cell 1 (v := .string y.fData) rfl
    have X0 := Lib.hid B0; have X1 := Lib.hid B1
    clear B0 B1
    go_wp2_with fail
    (with_reducible refine (szEntry_calls y _ _ (by omega) (by omega) hy).mono ?_)
    rintro e w2 ⟨rfl, hb⟩
    rw [szR_yes (by omega)]
    have B0 := X0.out.below hb
    have B1 := X1.out.below hb
    have HB2 := Lib.hid (HB.out.trans (hb.mono HB.out.size))
    have hs2 : w.heap.size + 1 + 1 ≤ w2.heap.size := by have := hb.size; omega
    clear hb b1_0 b1_1 X0 X1 HB
    have b0_0 := B0.cell 0 (v := .int .i64 x.fFirst) rfl
    have b0_1 := B0.cell 1 (v := .int .i64 x.fBefore) rfl
    have b0_2 := B0.cell 2 (v := v2) rfl
    have b1_0 := B1.cell 0 (v := .int .i64 y.fTerm) rfl
    have b1_1 := B1.cell 1 (v := .string y.fData) rfl
    have X0 := Lib.hid B0; have X1 := Lib.hid B1
    clear B0 B1
    have cTo : ∀ W, Below w2.heap.size w2 W → Calls Try.prog 14 #[.agg #[.int .i64 x.fFirst, .int .i64 x.fBefore, v2]] W fun e w' => ∃ p F, e = .returned (.agg #[.int .i64 x.fFirst, .int .i64 x.fBefore, p]) ∧ kEntry.Row 39 w' F x.fEntries p ∧ (∀ b ∈ F, W.heap.size ≤ b) ∧ F.Nodup ∧ Below w2.heap.size w2 w' ∧ Below W.heap.size W w' := fun W h =>
      (toWal_calls x v2 W (Rp.S_below G.out (HB2.out.trans (h.mono HB2.out.size))) hlen).mono fun e w' ⟨cs, F, he, hm, h1, h2, h3⟩ => by
        obtain ⟨p, F2, rfl, rfl, hr⟩ := kWal_open hm
        exact ⟨p, _, he, hr, h1, h2, h.trans (h3.mono h.size), h3⟩
    have cTe : ∀ W, Below w2.heap.size w2 W → Calls Try.prog 21 #[.agg #[.int .i64 y.fTerm, .string y.fData]] W fun e w' => e = .returned (.agg #[.int .i64 y.fTerm, .string y.fData]) ∧ Below w2.heap.size w2 w' ∧ Below W.heap.size W w' := fun W h =>
      (toEntry_calls y W).mono fun e w' ⟨he, h3⟩ => ⟨he, h.trans (h3.mono h.size), h3⟩
    have CTo := Lib.hid cTo; have CTe := Lib.hid cTe
    clear cTo cTe
    go_upto_region 8 with fail
    go_cut [6, 7] from 6 to 7 (fun s6 s7 wx => Has kWal 28 (appendW x y) w2.heap.size w2 wx s6 ∧ s7 = .bool (appendB x y))
    case first =>
      have s0 : w.heap.size < w2.heap.size := by omega
      have s1 : w.heap.size + 1 < w2.heap.size := by omega
      go_region_held3 (fun w' => Below w2.heap.size w2 w' ∧ ∀ b j, b < w2.heap.size → w'.cell? ⟨b, j, none⟩ = w2.cell? ⟨b, j, none⟩)
        (first | ((try go_split_ands); refine SBof ?_; repeat (first | assumption | (with_reducible exact Below.refl _ _) | (with_reducible refine below_call ?_ hc) | (with_reducible refine below_call ?_ hb2) | (with_reducible refine Below.drew ?_) | (with_reducible refine below_alloc2 ?_ _) | (with_reducible refine Below.setCell ?_ (by first | (simp; done) | omega | (simp; omega)) _))))
        (first
          | (go_at_call 14; go_loud (refine (CTo.out _ (by repeat (first | assumption | (with_reducible exact Below.refl _ _) | (with_reducible refine Below.drew ?_) | (with_reducible refine below_alloc2 ?_ _)))).mono ?_; rintro e wa ⟨p, F, rfl, ra, rb, rc, hB, hb⟩; obtain ⟨pa, pc, rfl, _, _⟩ := Rp.Row_K ra; have zs := hb.size; (try simp at zs); have la := Rp.Row_lt ra; (try have BG := Box.below (Box.drew (Box.new (T := 28) (cs := #[.int .i64 0, .int .i64 0, .slice none 0 0]) rfl)) hb)))
          | (go_at_call 21; go_loud (refine (CTe.out _ (by repeat (first | assumption | (with_reducible refine below_alloc2 ?_ _)))).mono ?_; rintro e wb ⟨rfl, hB2, hb2⟩; have zs2 := hb2.size; (try simp at zs2); (first | have BG := Box.below BG hb2 | have BG := Box.below (Box.new (T := 28) (cs := #[.int .i64 0, .int .i64 0, .slice none 0 0]) rfl) hb2 | skip)))
          | (go_at_call 20; go_loud (refine (sAppendWal_calls x y _ _ (Rp.Row_S (Rp.Row_below ra (by repeat (first | (with_reducible exact Below.refl _ _) | (with_reducible refine below_call ?_ hb2) | (with_reducible refine below_alloc2 ?_ _))))) (by omega)).mono ?_; rintro e wd ⟨vv, rfl, pd, FD, rfl, rd, rd1, rd2, hc⟩; obtain ⟨da, dc, rfl, _, _⟩ := Rp.Row_K rd; have zs3 := hc.size; (try simp at zs3); (first | have BG := Box.below BG hc | have BG := Box.below (Box.new (T := 28) (cs := #[.int .i64 0, .int .i64 0, .slice none 0 0]) rfl) hc | skip); (try (have g0 := BG.cell 0 (v := .int .i64 0) rfl; have g1 := BG.cell 1 (v := .int .i64 0) rfl; have g2 := BG.cell 2 (v := .slice none 0 0) rfl; have fg := BG.fro)))))
      all_goals (go_wp2_with fail; go_meet; go_light)
      all_goals
        have K : Below w2.heap.size w2 wd := by repeat (first | assumption | (with_reducible refine below_call ?_ hc) | (with_reducible refine below_call ?_ hb2) | (with_reducible refine below_alloc2 ?_ _))
        have L := Rp.Row_lt rd
        first
          | (refine ⟨?_, rfl⟩; with_reducible refine Has.new (d := kWal) (kWal_make rd) rd2 ?_ K (Nat.le_refl _); (intro b hm; have := rd1 b hm; first | omega | (simp at this; omega)))
          | exact ⟨Has.old (d := kWal) (kWal_make rd) rd2 (fun b hm => by have := rd1 b hm; first | omega | (simp at this; omega)) K BG (by first | omega | (simp; omega) | (simp; done)) (Nat.le_refl _) rfl, rfl⟩
    case rest =>
      rename World => wc1
      obtain ⟨⟨g6, F6, _, rfl, K6, M6, N6, D6, L6, HBc⟩, rfl⟩ := hcut
      obtain ⟨p6, F6, rfl, rfl, R6⟩ := kWal_open M6
      clear M6
      have B0 := X0.out.below HBc
      have B1 := X1.out.below HBc
      clear b0_0 b0_1 b0_2 b1_0 b1_1 X0 X1
      have b0_0 := B0.cell 0 (v := .int .i64 x.fFirst) rfl
      have b0_1 := B0.cell 1 (v := .int .i64 x.fBefore) rfl
      have b0_2 := B0.cell 2 (v := v2) rfl
      have X0 := Lib.hid B0; have X1 := Lib.hid B1
      clear B0 B1
      have X6 := Lib.hid K6; have Z6 := Lib.hid R6
      have W6 := Lib.hid (And.intro K6.lt (Rp.Row_lt R6))
      clear K6 R6
      have HB3 := Lib.hid HBc
      go_upto_region 9 with fail
      go_cut [8] from 8 to 8 (fun s8 wx => Has kWal 28 x wc1.heap.size wc1 wx s8)
      case first =>
        go_wp2_with fail
        (with_reducible refine (CTo.out _ HBc).mono ?_)
        rintro e wa ⟨p, F, rfl, ra, rb, rc, hB, hb⟩
        obtain ⟨pa, pc, rfl, _, _⟩ := Rp.Row_K ra
        go_wp2_with fail
        go_meet; go_light
        exact Has.new (d := kWal) (kWal_make ra) rc rb hb (Nat.le_refl _)
      case rest =>
        rename World => wd
        obtain ⟨g8, F8, _, rfl, K8, M8, N8, D8, L8, HBd⟩ := hcut
        obtain ⟨p8, F8, rfl, rfl, R8⟩ := kWal_open M8
        clear M8 HBc b0_0 b0_1 b0_2
        have B0 := X0.out.below HBd
        have B1 := X1.out.below HBd
        have B6 := X6.out.below HBd
        have R6 := Rp.Row_below Z6.out HBd
        clear X0 X1 X6 Z6
        have b1_0 := B1.cell 0 (v := .int .i64 y.fTerm) rfl
        have b1_1 := B1.cell 1 (v := .string y.fData) rfl
        have b8_0 := K8.cell 0 (v := .int .i64 x.fFirst) rfl
        have b8_1 := K8.cell 1 (v := .int .i64 x.fBefore) rfl
        have b8_2 := K8.cell 2 (v := p8) rfl
        have HB4 := Lib.hid (HB3.out.trans (HBd.mono HB3.out.size))
        have q6 := B6.lt
        have q8 := K8.lt
        have X0 := Lib.hid B0; have X1 := Lib.hid B1; have X6 := Lib.hid B6; have Z6 := Lib.hid R6; have X8 := Lib.hid K8; have Z8 := Lib.hid R8
        clear B0 B1 B6 R6 K8 R8
        go_upto_region 10 with fail
        go_cut [9, 10] from 9 to 10 (fun s9 s10 wx => Has kWal 28 (appendW x y) wd.heap.size wd wx s9 ∧ s10 = .bool (appendB x y))
        case first =>
          have s1 : w.heap.size + 1 < wd.heap.size := X1.out.lt
          go_region_held3 (fun w' => Below wd.heap.size wd w' ∧ ∀ b j, b < wd.heap.size → w'.cell? ⟨b, j, none⟩ = wd.cell? ⟨b, j, none⟩)
            (first | ((try go_split_ands); refine SBof ?_; repeat (first | assumption | (with_reducible exact Below.refl _ _) | (with_reducible refine below_call ?_ hc) | (with_reducible refine below_call ?_ hb2) | (with_reducible refine Below.drew ?_) | (with_reducible refine below_alloc2 ?_ _) | (with_reducible refine Below.setCell ?_ (by first | (simp; done) | omega | (simp; omega)) _))))
            (first
              | (go_at_call 21; go_loud (refine (CTe.out _ (HB4.out.trans (Below.mono (by repeat (first | assumption | (with_reducible exact Below.refl _ _) | (with_reducible refine Below.drew ?_) | (with_reducible refine below_alloc2 ?_ _))) HB4.out.size))).mono ?_; rintro e wb ⟨rfl, hB2, hb2⟩; have zs2 := hb2.size; (try simp at zs2); (first | have BG := Box.below (Box.drew (Box.new (T := 28) (cs := #[.int .i64 0, .int .i64 0, .slice none 0 0]) rfl)) hb2 | skip)))
              | (go_at_call 22; go_loud (refine (iAppendWal_calls x y _ _ (Rp.Row_S (Rp.Row_below Z8.out (by repeat (first | assumption | (with_reducible exact Below.refl _ _) | (with_reducible refine below_call ?_ hb2) | (with_reducible refine Below.drew ?_) | (with_reducible refine below_alloc2 ?_ _))))) (by omega)).mono ?_; rintro e wz ⟨vv, rfl, pd, FD, rfl, rd, rd1, rd2, hc⟩; obtain ⟨da, dc, rfl, _, _⟩ := Rp.Row_K rd; have zs3 := hc.size; (try simp at zs3); (first | have BG := Box.below BG hc | have BG := Box.below (Box.new (T := 28) (cs := #[.int .i64 0, .int .i64 0, .slice none 0 0]) rfl) hc | skip); (try (have g0 := BG.cell 0 (v := .int .i64 0) rfl; have g1 := BG.cell 1 (v := .int .i64 0) rfl; have g2 := BG.cell 2 (v := .slice none 0 0) rfl; have fg := BG.fro)))))
          all_goals (go_wp2_with fail; go_meet; go_light)
          all_goals
            have K : Below wd.heap.size wd wz := by repeat (first | assumption | (with_reducible exact Below.refl _ _) | (with_reducible refine below_call ?_ hc) | (with_reducible refine below_call ?_ hb2) | (with_reducible refine Below.drew ?_) | (with_reducible refine below_alloc2 ?_ _))
            first
              | (refine ⟨?_, rfl⟩; with_reducible refine Has.new (d := kWal) (kWal_make rd) rd2 ?_ K (Nat.le_refl _); (intro b hm; have := rd1 b hm; first | omega | (simp at this; omega)))
              | exact ⟨Has.old (d := kWal) (kWal_make rd) rd2 (fun b hm => by have := rd1 b hm; first | omega | (simp at this; omega)) K BG (by first | omega | (simp; omega) | (simp; done)) (Nat.le_refl _) rfl, rfl⟩
        case rest =>
          rename World => we
          obtain ⟨⟨g9, F9, _, rfl, K9, M9, N9, D9, L9, HBe⟩, rfl⟩ := hcut
          obtain ⟨p9, F9, rfl, rfl, R9⟩ := kWal_open M9
          clear M9 b1_0 b1_1 b8_0 b8_1 b8_2
          have e6 : g6 < wc1.heap.size := W6.out.1
          have E6 : ∀ b ∈ F6, b < wc1.heap.size := W6.out.2
          have E8 : ∀ b ∈ F8, b < wd.heap.size := Rp.Row_lt Z8.out
          have B0 := X0.out.below HBe
          have B1 := X1.out.below HBe
          have B6 := X6.out.below HBe
          have R6 := Rp.Row_below Z6.out HBe
          have B8 := X8.out.below HBe
          have R8 := Rp.Row_below Z8.out HBe
          have B9 := K9
          have HB6 := Lib.hid (HB4.out.trans (HBe.mono HB4.out.size))
          clear X0 X1 X6 Z6 X8 Z8 K9 W6
          have q9 := B9.lt
          have q1 : w.heap.size + 1 < w2.heap.size := by omega
          have zc := HB3.out.size
          have zd := HBd.size
          have la := appendW_len x y
          have E9 : ∀ b ∈ F9, b < we.heap.size := Rp.Row_lt R9
          clear HB3 HBd HBe
          have b0_0 := B0.cell 0 (v := .int .i64 x.fFirst) rfl
          have b0_1 := B0.cell 1 (v := .int .i64 x.fBefore) rfl
          have b0_2 := B0.cell 2 (v := v2) rfl
          have b1_0 := B1.cell 0 (v := .int .i64 y.fTerm) rfl
          have b1_1 := B1.cell 1 (v := .string y.fData) rfl
          have b6_0 := B6.cell 0 (v := .int .i64 (appendW x y).fFirst) rfl
          have b6_1 := B6.cell 1 (v := .int .i64 (appendW x y).fBefore) rfl
          have b6_2 := B6.cell 2 (v := p6) rfl
          have b8_0 := B8.cell 0 (v := .int .i64 x.fFirst) rfl
          have b8_1 := B8.cell 1 (v := .int .i64 x.fBefore) rfl
          have b8_2 := B8.cell 2 (v := p8) rfl
          have b9_0 := B9.cell 0 (v := .int .i64 (appendW x y).fFirst) rfl
          have b9_1 := B9.cell 1 (v := .int .i64 (appendW x y).fBefore) rfl
          have b9_2 := B9.cell 2 (v := p9) rfl
          have X0 := Lib.hid B0
          have X1 := Lib.hid B1
          have X6 := Lib.hid B6; have Z6 := Lib.hid R6
          have X8 := Lib.hid B8; have Z8 := Lib.hid R8
          have X9 := Lib.hid B9; have Z9 := Lib.hid R9
          clear B0 B1 B6 R6 B8 R8 B9 R9
          go_wp2_with fail
          (with_reducible refine (eqWal_calls (appendW x y) p9 p6 we (Rp.Row_S Z9.out) (Rp.Row_S Z6.out) (by omega)).mono ?_)
          rintro e wf ⟨rfl, hb⟩
          have B0 := X0.out.below hb
          have B1 := X1.out.below hb
          have B6 := X6.out.below hb
          have R6 := Rp.Row_below Z6.out hb
          have B8 := X8.out.below hb
          have R8 := Rp.Row_below Z8.out hb
          have B9 := X9.out.below hb
          have R9 := Rp.Row_below Z9.out hb
          have HB7 := Lib.hid (HB6.out.trans (hb.mono HB6.out.size))
          clear X0 X1 X6 Z6 X8 Z8 X9 Z9 HB6 hb
          clear b0_0 b0_1 b0_2 b1_0 b1_1 b6_0 b6_1 b6_2 b8_0 b8_1 b8_2 b9_0 b9_1 b9_2
          have b0_0 := B0.cell 0 (v := .int .i64 x.fFirst) rfl
          have b0_1 := B0.cell 1 (v := .int .i64 x.fBefore) rfl
          have b0_2 := B0.cell 2 (v := v2) rfl
          have b1_0 := B1.cell 0 (v := .int .i64 y.fTerm) rfl
          have b1_1 := B1.cell 1 (v := .string y.fData) rfl
          have b6_0 := B6.cell 0 (v := .int .i64 (appendW x y).fFirst) rfl
          have b6_1 := B6.cell 1 (v := .int .i64 (appendW x y).fBefore) rfl
          have b6_2 := B6.cell 2 (v := p6) rfl
          have b8_0 := B8.cell 0 (v := .int .i64 x.fFirst) rfl
          have b8_1 := B8.cell 1 (v := .int .i64 x.fBefore) rfl
          have b8_2 := B8.cell 2 (v := p8) rfl
          have b9_0 := B9.cell 0 (v := .int .i64 (appendW x y).fFirst) rfl
          have b9_1 := B9.cell 1 (v := .int .i64 (appendW x y).fBefore) rfl
          have b9_2 := B9.cell 2 (v := p9) rfl
          have X0 := Lib.hid B0
          have X1 := Lib.hid B1
          have X6 := Lib.hid B6; have Z6 := Lib.hid R6
          have X8 := Lib.hid B8; have Z8 := Lib.hid R8
          have X9 := Lib.hid B9; have Z9 := Lib.hid R9
          clear B0 B1 B6 R6 B8 R8 B9 R9
          go_upto_region 13 with fail
          go_cut [56] from 56 to 56 (fun s wx => s = .bool false ∧ Below wf.heap.size wf wx)
          case first =>
            have s0 : w.heap.size < wf.heap.size := X0.out.lt
            have s8 : g8 < wf.heap.size := X8.out.lt
            go_region_held3 (fun w' => Below wf.heap.size wf w' ∧ ∀ b j, b < wf.heap.size → w'.cell? ⟨b, j, none⟩ = wf.cell? ⟨b, j, none⟩)
              (first | ((try go_split_ands); refine SBof ?_; repeat (first | assumption | (with_reducible exact Below.refl _ _) | (with_reducible refine below_call ?_ hb) | (with_reducible refine below_call ?_ hb2) | (with_reducible refine Below.drew ?_))))
              (first
                | (go_at_call 14; go_loud (refine (CTo.out _ (HB7.out.trans (Below.mono (by repeat (first | assumption | (with_reducible exact Below.refl _ _) | (with_reducible refine Below.drew ?_))) HB7.out.size))).mono ?_; rintro e wa ⟨p, F, rfl, ra, rb, rc, hB, hb⟩; obtain ⟨pa, pc, rfl, _, _⟩ := Rp.Row_K ra; have zs := hb.size; (try simp at zs)))
                | (go_at_call 16; go_loud (refine (eqWal_calls x p8 _ _ (Rp.Row_S (Rp.Row_below Z8.out (by repeat (first | assumption | (with_reducible exact Below.refl _ _) | (with_reducible refine below_call ?_ hb) | (with_reducible refine Below.drew ?_))))) (Rp.Row_S ra) (by omega)).mono ?_; rintro e wb ⟨rfl, hb2⟩; have zs2 := hb2.size; (try simp at zs2))))
            all_goals (go_wp2_with fail; go_meet; go_light)
            all_goals (refine ⟨rfl, ?_⟩; repeat (first | assumption | (with_reducible exact Below.refl _ _) | (with_reducible refine below_call ?_ hb2) | (with_reducible refine below_call ?_ hb) | (with_reducible refine Below.drew ?_)))
          case rest =>
            rename World => wg
            obtain ⟨rfl, hb⟩ := hcut
            have B0 := X0.out.below hb
            have B1 := X1.out.below hb
            have B6 := X6.out.below hb
            have R6 := Rp.Row_below Z6.out hb
            have B8 := X8.out.below hb
            have R8 := Rp.Row_below Z8.out hb
            have B9 := X9.out.below hb
            have R9 := Rp.Row_below Z9.out hb
            have HB8 := Lib.hid (HB7.out.trans (hb.mono HB7.out.size))
            clear X0 X1 X6 Z6 X8 Z8 X9 Z9 HB7 hb
            clear b0_0 b0_1 b0_2 b1_0 b1_1 b6_0 b6_1 b6_2 b8_0 b8_1 b8_2 b9_0 b9_1 b9_2
            have b0_0 := B0.cell 0 (v := .int .i64 x.fFirst) rfl
            have b0_1 := B0.cell 1 (v := .int .i64 x.fBefore) rfl
            have b0_2 := B0.cell 2 (v := v2) rfl
            have b1_0 := B1.cell 0 (v := .int .i64 y.fTerm) rfl
            have b1_1 := B1.cell 1 (v := .string y.fData) rfl
            have b6_0 := B6.cell 0 (v := .int .i64 (appendW x y).fFirst) rfl
            have b6_1 := B6.cell 1 (v := .int .i64 (appendW x y).fBefore) rfl
            have b6_2 := B6.cell 2 (v := p6) rfl
            have b8_0 := B8.cell 0 (v := .int .i64 x.fFirst) rfl
            have b8_1 := B8.cell 1 (v := .int .i64 x.fBefore) rfl
            have b8_2 := B8.cell 2 (v := p8) rfl
            have b9_0 := B9.cell 0 (v := .int .i64 (appendW x y).fFirst) rfl
            have b9_1 := B9.cell 1 (v := .int .i64 (appendW x y).fBefore) rfl
            have b9_2 := B9.cell 2 (v := p9) rfl
            have X0 := Lib.hid B0
            have X1 := Lib.hid B1
            have X6 := Lib.hid B6; have Z6 := Lib.hid R6
            have X8 := Lib.hid B8; have Z8 := Lib.hid R8
            have X9 := Lib.hid B9; have Z9 := Lib.hid R9
            clear B0 B1 B6 R6 B8 R8 B9 R9
            have m8 : (mkWal x 1).2 ≤ 4611686018427387904 := by have := mkWal_top x 1; omega
            have n8 := mkWal_le x 1
            go_wp2_with fail
            (with_reducible refine (markWal_calls x p8 F8 1 wg Z8.out N8 (by omega) m8 (by omega)).mono ?_)
            rintro e wh ⟨rfl, hr, hk⟩
            generalize hkk : (mkWal x 1).2 = kx at n8
            clear m8 hkk hr
            clear b0_0 b0_1 b0_2 b1_0 b1_1 b6_0 b6_1 b6_2 b8_0 b8_1 b8_2 b9_0 b9_1 b9_2
            have B0 := Box.kept X0.out hk (fun hm => by have := D8 _ hm; have := E8 _ hm; omega)
            have B1 := Box.kept X1.out hk (fun hm => by have := D8 _ hm; have := E8 _ hm; omega)
            have B6 := Box.kept X6.out hk (fun hm => by have := D8 _ hm; have := E8 _ hm; omega)
            have R6 := Rp.Row_kept Z6.out hk (fun b hb hm => by have := D8 _ hm; have := E8 _ hm; have := D6 _ hb; have := E6 _ hb; omega)
            have B9 := Box.kept X9.out hk (fun hm => by have := D8 _ hm; have := E8 _ hm; omega)
            have R9 := Rp.Row_kept Z9.out hk (fun b hb hm => by have := D8 _ hm; have := E8 _ hm; have := D9 _ hb; have := E9 _ hb; omega)
            have HB9 := Lib.hid (HB8.out.trans (hk.toBelow HB8.out.size (fun b hb => by have := D8 _ hb; omega)))
            clear X0 X1 X6 Z6 X8 Z8 X9 Z9 HB8
            have b0_0 := B0.cell 0 (v := .int .i64 x.fFirst) rfl
            have b0_1 := B0.cell 1 (v := .int .i64 x.fBefore) rfl
            have b0_2 := B0.cell 2 (v := v2) rfl
            have b1_0 := B1.cell 0 (v := .int .i64 y.fTerm) rfl
            have b1_1 := B1.cell 1 (v := .string y.fData) rfl
            have b6_0 := B6.cell 0 (v := .int .i64 (appendW x y).fFirst) rfl
            have b6_1 := B6.cell 1 (v := .int .i64 (appendW x y).fBefore) rfl
            have b6_2 := B6.cell 2 (v := p6) rfl
            have b9_0 := B9.cell 0 (v := .int .i64 (appendW x y).fFirst) rfl
            have b9_1 := B9.cell 1 (v := .int .i64 (appendW x y).fBefore) rfl
            have b9_2 := B9.cell 2 (v := p9) rfl
            have X0 := Lib.hid B0
            have X1 := Lib.hid B1
            have X6 := Lib.hid B6; have Z6 := Lib.hid R6
            have X9 := Lib.hid B9; have Z9 := Lib.hid R9
            clear B0 B1 B6 R6 B9 R9
            have nz : ¬ kx < 0 := by omega
            clear hk
            go_wp2_with fail
            (with_reducible refine (eqWal_calls (appendW x y) p9 p6 wh (Rp.Row_S Z9.out) (Rp.Row_S Z6.out) (by omega)).mono ?_)
            rintro e wi ⟨rfl, hb⟩
            have B0 := X0.out.below hb
            have B1 := X1.out.below hb
            have B6 := X6.out.below hb
            have R6 := Rp.Row_below Z6.out hb
            have B9 := X9.out.below hb
            have R9 := Rp.Row_below Z9.out hb
            have HB10 := Lib.hid (HB9.out.trans (hb.mono HB9.out.size))
            clear X0 X1 X6 Z6 X9 Z9 HB9 hb
            clear b0_0 b0_1 b0_2 b1_0 b1_1 b6_0 b6_1 b6_2 b9_0 b9_1 b9_2
            have b0_0 := B0.cell 0 (v := .int .i64 x.fFirst) rfl
            have b0_1 := B0.cell 1 (v := .int .i64 x.fBefore) rfl
            have b0_2 := B0.cell 2 (v := v2) rfl
            have b1_0 := B1.cell 0 (v := .int .i64 y.fTerm) rfl
            have b1_1 := B1.cell 1 (v := .string y.fData) rfl
            have b6_0 := B6.cell 0 (v := .int .i64 (appendW x y).fFirst) rfl
            have b6_1 := B6.cell 1 (v := .int .i64 (appendW x y).fBefore) rfl
            have b6_2 := B6.cell 2 (v := p6) rfl
            have b9_0 := B9.cell 0 (v := .int .i64 (appendW x y).fFirst) rfl
            have b9_1 := B9.cell 1 (v := .int .i64 (appendW x y).fBefore) rfl
            have b9_2 := B9.cell 2 (v := p9) rfl
            have X0 := Lib.hid B0
            have X1 := Lib.hid B1
            have X6 := Lib.hid B6; have Z6 := Lib.hid R6
            have X9 := Lib.hid B9; have Z9 := Lib.hid R9
            clear B0 B1 B6 R6 B9 R9
            have m9 : (mkWal (appendW x y) 1).2 ≤ 4611686018427387904 := by have := mkWal_top (appendW x y) 1; omega
            have n9 := mkWal_le (appendW x y) 1
            go_wp2_with fail
            (with_reducible refine (markWal_calls (appendW x y) p9 F9 1 wi Z9.out N9 (by omega) m9 (by omega)).mono ?_)
            rintro e wj ⟨rfl, hr, hk⟩
            have R9 := hr
            clear hr
            clear b0_0 b0_1 b0_2 b1_0 b1_1 b6_0 b6_1 b6_2 b9_0 b9_1 b9_2
            have B0 := Box.kept X0.out hk (fun hm => by have := D9 _ hm; have := E9 _ hm; omega)
            have B1 := Box.kept X1.out hk (fun hm => by have := D9 _ hm; have := E9 _ hm; omega)
            have B6 := Box.kept X6.out hk (fun hm => by have := D9 _ hm; have := E9 _ hm; omega)
            have R6 := Rp.Row_kept Z6.out hk (fun b hb hm => by have := D9 _ hm; have := E9 _ hm; have := D6 _ hb; have := E6 _ hb; omega)
            have B9 := Box.kept X9.out hk (fun hm => by have := D9 _ hm; have := E9 _ hm; omega)
            have HB11 := Lib.hid (HB10.out.trans (hk.toBelow HB10.out.size (fun b hb => by have := D9 _ hb; omega)))
            clear X0 X1 X6 Z6 X9 Z9 HB10
            have b0_0 := B0.cell 0 (v := .int .i64 x.fFirst) rfl
            have b0_1 := B0.cell 1 (v := .int .i64 x.fBefore) rfl
            have b0_2 := B0.cell 2 (v := v2) rfl
            have b1_0 := B1.cell 0 (v := .int .i64 y.fTerm) rfl
            have b1_1 := B1.cell 1 (v := .string y.fData) rfl
            have b6_0 := B6.cell 0 (v := .int .i64 (appendW x y).fFirst) rfl
            have b6_1 := B6.cell 1 (v := .int .i64 (appendW x y).fBefore) rfl
            have b6_2 := B6.cell 2 (v := p6) rfl
            have b9_0 := B9.cell 0 (v := .int .i64 (appendW x y).fFirst) rfl
            have b9_1 := B9.cell 1 (v := .int .i64 (appendW x y).fBefore) rfl
            have b9_2 := B9.cell 2 (v := p9) rfl
            have X0 := Lib.hid B0
            have X1 := Lib.hid B1
            have X6 := Lib.hid B6; have Z6 := Lib.hid R6
            have X9 := Lib.hid B9; have Z9 := Lib.hid R9
            clear B0 B1 B6 R6 B9 R9
            clear hk
            go_wp2_with fail
            (with_reducible refine (heldWal_calls (appendW x y) p9 1 wj (Rp.Row_S Z9.out) (by omega) m9 (by omega)).mono ?_)
            rintro e wk ⟨rfl, hb⟩
            generalize hkk : (mkWal (appendW x y) 1).2 = kg at n9
            have B0 := X0.out.below hb
            have B1 := X1.out.below hb
            have B6 := X6.out.below hb
            have R6 := Rp.Row_below Z6.out hb
            have B9 := X9.out.below hb
            have R9 := Rp.Row_below Z9.out hb
            have HB12 := Lib.hid (HB11.out.trans (hb.mono HB11.out.size))
            clear X0 X1 X6 Z6 X9 Z9 HB11 hb
            clear b0_0 b0_1 b0_2 b1_0 b1_1 b6_0 b6_1 b6_2 b9_0 b9_1 b9_2
            have b0_0 := B0.cell 0 (v := .int .i64 x.fFirst) rfl
            have b0_1 := B0.cell 1 (v := .int .i64 x.fBefore) rfl
            have b0_2 := B0.cell 2 (v := v2) rfl
            have b1_0 := B1.cell 0 (v := .int .i64 y.fTerm) rfl
            have b1_1 := B1.cell 1 (v := .string y.fData) rfl
            have b6_0 := B6.cell 0 (v := .int .i64 (appendW x y).fFirst) rfl
            have b6_1 := B6.cell 1 (v := .int .i64 (appendW x y).fBefore) rfl
            have b6_2 := B6.cell 2 (v := p6) rfl
            have b9_0 := B9.cell 0 (v := .int .i64 (appendW x y).fFirst) rfl
            have b9_1 := B9.cell 1 (v := .int .i64 (appendW x y).fBefore) rfl
            have b9_2 := B9.cell 2 (v := p9) rfl
            have X0 := Lib.hid B0
            have X1 := Lib.hid B1
            have X6 := Lib.hid B6; have Z6 := Lib.hid R6
            have X9 := Lib.hid B9; have Z9 := Lib.hid R9
            clear B0 B1 B6 R6 B9 R9
            have nq : ¬ kg < 0 := by omega
            go_upto_region 27 with fail
            go_cut [14, 15] from 14 to 15 (fun s7 s8 wx => Has kWal 28 (appendW x y) wk.heap.size wk wx s7 ∧ s8 = .bool (appendB x y))
            case first =>
              have s0 : w.heap.size < wk.heap.size := X0.out.lt
              have s1 : w.heap.size + 1 < wk.heap.size := X1.out.lt
              have zk := HB12.out.size
              go_region_held3 (fun w' => Below wk.heap.size wk w' ∧ ∀ b j, b < wk.heap.size → w'.cell? ⟨b, j, none⟩ = wk.cell? ⟨b, j, none⟩)
                (first | ((try go_split_ands); refine SBof ?_; repeat (first | assumption | (with_reducible exact Below.refl _ _) | (with_reducible refine below_call ?_ hc) | (with_reducible refine below_call ?_ hb2) | (with_reducible refine below_call ?_ hb) | (with_reducible refine Below.drew ?_) | (with_reducible refine below_alloc2 ?_ _) | (with_reducible refine Below.setCell ?_ (by first | (simp; done) | omega | (simp; omega)) _))))
                (first
                  | (go_at_call 14; go_loud (refine (CTo.out _ (HB12.out.trans (Below.mono (by repeat (first | assumption | (with_reducible exact Below.refl _ _) | (with_reducible refine below_call ?_ hc) | (with_reducible refine below_call ?_ hb2) | (with_reducible refine below_call ?_ hb) | (with_reducible refine Below.drew ?_) | (with_reducible refine below_alloc2 ?_ _))) HB12.out.size))).mono ?_; rintro e wa ⟨p, F, rfl, ra, rb, rc, hB, hb⟩; obtain ⟨pa, pc, rfl, _, _⟩ := Rp.Row_K ra; have zs := hb.size; (try simp at zs); (try have BG := Box.below (Box.drew (Box.new (T := 28) (cs := #[.int .i64 0, .int .i64 0, .slice none 0 0]) rfl)) hb)))
                  | (go_at_call 21; go_loud (refine (CTe.out _ (HB12.out.trans (Below.mono (by repeat (first | assumption | (with_reducible exact Below.refl _ _) | (with_reducible refine below_call ?_ hc) | (with_reducible refine below_call ?_ hb2) | (with_reducible refine below_call ?_ hb) | (with_reducible refine Below.drew ?_) | (with_reducible refine below_alloc2 ?_ _))) HB12.out.size))).mono ?_; rintro e wb ⟨rfl, hB2, hb2⟩; have zs2 := hb2.size; (try simp at zs2); (first | have BG := Box.below BG hb2 | have BG := Box.below (Box.new (T := 28) (cs := #[.int .i64 0, .int .i64 0, .slice none 0 0]) rfl) hb2 | skip)))
                  | (go_at_call 22; go_loud (refine (iAppendWal_calls x y _ _ (Rp.Row_S (Rp.Row_below ra (by repeat (first | assumption | (with_reducible exact Below.refl _ _) | (with_reducible refine below_call ?_ hc) | (with_reducible refine below_call ?_ hb2) | (with_reducible refine below_call ?_ hb) | (with_reducible refine Below.drew ?_) | (with_reducible refine below_alloc2 ?_ _))))) (by omega)).mono ?_; rintro e wz ⟨vv, rfl, pd, FD, rfl, rd, rd1, rd2, hc⟩; obtain ⟨da, dc, rfl, _, _⟩ := Rp.Row_K rd; have zs3 := hc.size; (try simp at zs3); (first | have BG := Box.below BG hc | have BG := Box.below (Box.new (T := 28) (cs := #[.int .i64 0, .int .i64 0, .slice none 0 0]) rfl) hc | skip); (try (have g0 := BG.cell 0 (v := .int .i64 0) rfl; have g1 := BG.cell 1 (v := .int .i64 0) rfl; have g2 := BG.cell 2 (v := .slice none 0 0) rfl; have fg := BG.fro)))))
              all_goals (go_wp2_with fail; go_meet; go_light)
              all_goals
                have K : Below wk.heap.size wk wz := (by repeat (first | assumption | (with_reducible exact Below.refl _ _) | (with_reducible refine below_call ?_ hc) | (with_reducible refine below_call ?_ hb2) | (with_reducible refine below_call ?_ hb) | (with_reducible refine Below.drew ?_) | (with_reducible refine below_alloc2 ?_ _)))
                first
                  | (refine ⟨?_, rfl⟩; with_reducible refine Has.new (d := kWal) (kWal_make rd) rd2 ?_ K (Nat.le_refl _); (intro b hm; have := rd1 b hm; first | omega | (simp at this; omega)))
                  | exact ⟨Has.old (d := kWal) (kWal_make rd) rd2 (fun b hm => by have := rd1 b hm; first | omega | (simp at this; omega)) K BG (by first | omega | (simp; omega) | (simp; done)) (Nat.le_refl _) rfl, rfl⟩
            case rest =>
              rename World => wl
              obtain ⟨⟨g14, F14, _, rfl, K14, M14, N14, D14, L14, hb⟩, rfl⟩ := hcut
              obtain ⟨p14, F14, rfl, rfl, R14⟩ := kWal_open M14
              clear M14
              have B0 := X0.out.below hb
              have B1 := X1.out.below hb
              have B6 := X6.out.below hb
              have R6 := Rp.Row_below Z6.out hb
              have B9 := X9.out.below hb
              have R9 := Rp.Row_below Z9.out hb
              have HB13 := Lib.hid (HB12.out.trans (hb.mono HB12.out.size))
              clear X0 X1 X6 Z6 X9 Z9 HB12 hb
              clear b0_0 b0_1 b0_2 b1_0 b1_1 b6_0 b6_1 b6_2 b9_0 b9_1 b9_2
              have B14 := K14; clear K14
              have b0_0 := B0.cell 0 (v := .int .i64 x.fFirst) rfl
              have b0_1 := B0.cell 1 (v := .int .i64 x.fBefore) rfl
              have b0_2 := B0.cell 2 (v := v2) rfl
              have b1_0 := B1.cell 0 (v := .int .i64 y.fTerm) rfl
              have b1_1 := B1.cell 1 (v := .string y.fData) rfl
              have b6_0 := B6.cell 0 (v := .int .i64 (appendW x y).fFirst) rfl
              have b6_1 := B6.cell 1 (v := .int .i64 (appendW x y).fBefore) rfl
              have b6_2 := B6.cell 2 (v := p6) rfl
              have b9_0 := B9.cell 0 (v := .int .i64 (appendW x y).fFirst) rfl
              have b9_1 := B9.cell 1 (v := .int .i64 (appendW x y).fBefore) rfl
              have b9_2 := B9.cell 2 (v := p9) rfl
              have b14_0 := B14.cell 0 (v := .int .i64 (appendW x y).fFirst) rfl
              have b14_1 := B14.cell 1 (v := .int .i64 (appendW x y).fBefore) rfl
              have b14_2 := B14.cell 2 (v := p14) rfl
              have X0 := Lib.hid B0
              have X1 := Lib.hid B1
              have X6 := Lib.hid B6; have Z6 := Lib.hid R6
              have X9 := Lib.hid B9; have Z9 := Lib.hid R9
              have X14 := Lib.hid B14; have Z14 := Lib.hid R14
              clear B0 B1 B6 R6 B9 R9 B14 R14
              go_wp2_with fail
              (with_reducible refine (eqWal_calls (appendW x y) p14 p6 wl (Rp.Row_S Z14.out) (Rp.Row_S Z6.out) (by omega)).mono ?_)
              rintro e wm ⟨rfl, hb⟩
              have B0 := X0.out.below hb
              have B1 := X1.out.below hb
              have B6 := X6.out.below hb
              have R6 := Rp.Row_below Z6.out hb
              have B9 := X9.out.below hb
              have R9 := Rp.Row_below Z9.out hb
              have B14 := X14.out.below hb
              have R14 := Rp.Row_below Z14.out hb
              have HB14 := Lib.hid (HB13.out.trans (hb.mono HB13.out.size))
              clear X0 X1 X6 Z6 X9 Z9 X14 Z14 HB13 hb
              clear b0_0 b0_1 b0_2 b1_0 b1_1 b6_0 b6_1 b6_2 b9_0 b9_1 b9_2 b14_0 b14_1 b14_2
              have b0_0 := B0.cell 0 (v := .int .i64 x.fFirst) rfl
              have b0_1 := B0.cell 1 (v := .int .i64 x.fBefore) rfl
              have b0_2 := B0.cell 2 (v := v2) rfl
              have b1_0 := B1.cell 0 (v := .int .i64 y.fTerm) rfl
              have b1_1 := B1.cell 1 (v := .string y.fData) rfl
              have b6_0 := B6.cell 0 (v := .int .i64 (appendW x y).fFirst) rfl
              have b6_1 := B6.cell 1 (v := .int .i64 (appendW x y).fBefore) rfl
              have b6_2 := B6.cell 2 (v := p6) rfl
              have b9_0 := B9.cell 0 (v := .int .i64 (appendW x y).fFirst) rfl
              have b9_1 := B9.cell 1 (v := .int .i64 (appendW x y).fBefore) rfl
              have b9_2 := B9.cell 2 (v := p9) rfl
              have b14_0 := B14.cell 0 (v := .int .i64 (appendW x y).fFirst) rfl
              have b14_1 := B14.cell 1 (v := .int .i64 (appendW x y).fBefore) rfl
              have b14_2 := B14.cell 2 (v := p14) rfl
              have X0 := Lib.hid B0
              have X1 := Lib.hid B1
              have X6 := Lib.hid B6; have Z6 := Lib.hid R6
              have X9 := Lib.hid B9; have Z9 := Lib.hid R9
              have X14 := Lib.hid B14; have Z14 := Lib.hid R14
              clear B0 B1 B6 R6 B9 R9 B14 R14
              go_wp2_with fail
              (with_reducible refine (heldWal_calls (appendW x y) p9 1 wm (Rp.Row_S Z9.out) (by omega) m9 (by omega)).mono ?_)
              rintro e wn ⟨rfl, hb⟩
              rw [hkk]
              have B0 := X0.out.below hb
              have B1 := X1.out.below hb
              have B6 := X6.out.below hb
              have R6 := Rp.Row_below Z6.out hb
              have B9 := X9.out.below hb
              have R9 := Rp.Row_below Z9.out hb
              have B14 := X14.out.below hb
              have R14 := Rp.Row_below Z14.out hb
              have HB15 := Lib.hid (HB14.out.trans (hb.mono HB14.out.size))
              clear X0 X1 X6 Z6 X9 Z9 X14 Z14 HB14 hb
              clear b0_0 b0_1 b0_2 b1_0 b1_1 b6_0 b6_1 b6_2 b9_0 b9_1 b9_2 b14_0 b14_1 b14_2
              have b0_0 := B0.cell 0 (v := .int .i64 x.fFirst) rfl
              have b0_1 := B0.cell 1 (v := .int .i64 x.fBefore) rfl
              have b0_2 := B0.cell 2 (v := v2) rfl
              have b1_0 := B1.cell 0 (v := .int .i64 y.fTerm) rfl
              have b1_1 := B1.cell 1 (v := .string y.fData) rfl
              have b6_0 := B6.cell 0 (v := .int .i64 (appendW x y).fFirst) rfl
              have b6_1 := B6.cell 1 (v := .int .i64 (appendW x y).fBefore) rfl
              have b6_2 := B6.cell 2 (v := p6) rfl
              have b9_0 := B9.cell 0 (v := .int .i64 (appendW x y).fFirst) rfl
              have b9_1 := B9.cell 1 (v := .int .i64 (appendW x y).fBefore) rfl
              have b9_2 := B9.cell 2 (v := p9) rfl
              have b14_0 := B14.cell 0 (v := .int .i64 (appendW x y).fFirst) rfl
              have b14_1 := B14.cell 1 (v := .int .i64 (appendW x y).fBefore) rfl
              have b14_2 := B14.cell 2 (v := p14) rfl
              have X0 := Lib.hid B0
              have X1 := Lib.hid B1
              have X6 := Lib.hid B6; have Z6 := Lib.hid R6
              have X9 := Lib.hid B9; have Z9 := Lib.hid R9
              have X14 := Lib.hid B14; have Z14 := Lib.hid R14
              clear B0 B1 B6 R6 B9 R9 B14 R14
              skip
              go_wp2
              go_ret
              exact ⟨rfl, HB2.out.trans (HB15.out.mono HB2.out.size)⟩
  · by_cases h1 : (szNWal x : Int) ≤ 1048576
    · go_enter Try.func4, Try.ntmps4
      go_wp2_with fail
      (with_reducible refine (szWal_calls x v2 _ _ (Rp.S_below G.out (((Below.refl _ _).alloc (Nat.le_refl _) _).alloc (by simp) _)) (by omega) (by omega) hw).mono ?_)
      rintro e w1 ⟨rfl, hb⟩
      rw [szR_yes (by omega)]
      have B0 : Box w1 w.heap.size #[.int .i64 x.fFirst, .int .i64 x.fBefore, v2] 24 := Box.below (Box.alloc (Box.new rfl)) hb
      have B1 : Box w1 (w.heap.size + 1) #[.int .i64 y.fTerm, .string y.fData] 36 := Box.below (Box.new (by simp)) hb
      have HB := Lib.hid (Below.trans (((Below.refl w.heap.size w).alloc (Nat.le_refl _) _).alloc (by simp) _) (hb.mono (by simp <;> omega)))
      clear hb
      have b1_0 := B1.cell 0 (v := .int .i64 y.fTerm) rfl
      have b1_1 := B1.cell 1 (v := .string y.fData) rfl
      clear B0 B1
      go_wp2_with fail
      (with_reducible refine (szEntry_calls y _ _ (by omega) (by omega) hy).mono ?_)
      rintro e w2 ⟨rfl, hb⟩
      rw [szR_no (by omega)]
      have HB2 := Lib.hid (HB.out.trans (hb.mono HB.out.size))
      clear hb HB
      go_wp2
      go_ret
      exact ⟨rfl, HB2.out⟩
    · go_enter Try.func4, Try.ntmps4
      go_wp2_with fail
      (with_reducible refine (szWal_calls x v2 _ _ (Rp.S_below G.out (((Below.refl _ _).alloc (Nat.le_refl _) _).alloc (by simp) _)) (by omega) (by omega) hw).mono ?_)
      rintro e w1 ⟨rfl, hb⟩
      rw [szR_no (by omega)]
      have HB := Lib.hid (Below.trans (((Below.refl w.heap.size w).alloc (Nat.le_refl _) _).alloc (by simp) _) (hb.mono (by simp <;> omega)))
      clear hb
      go_wp2
      go_ret
      exact ⟨rfl, HB.out⟩
end Go.Proofs.Ytfcodelfgjnkhaa
