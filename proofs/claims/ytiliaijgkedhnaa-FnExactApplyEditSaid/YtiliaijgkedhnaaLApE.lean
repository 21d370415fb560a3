/- Law FnExactApplyEdit: at every input it returns true; what was there stays. -/
import Derived.Test.YtiliaijgkedhnaaApK
namespace Go.Proofs.Ytiliaijgkedhnaa
open Go Go.RowKit Go.Sort
set_option linter.unusedVariables false
set_option linter.unusedSimpArgs false

abbrev HasApplyEdit (a0 : DVersion) (a1 : DEdit) (N : Nat) (w wx : World) (s : Value) : Prop := Has kVersion 32 (apV a0 a1) N w wx s
set_option maxHeartbeats 12000000 in
set_option maxRecDepth 100000 in
theorem law_ApplyEdit (a0 : DVersion) (v0_2 : Value) (a1 : DEdit) (v1_2 v1_3 : Value) (w : World) (g0 : kVersion.K w a0 [.int .i64 a0.fNext, .int .i64 a0.fSeq, v0_2]) (g1 : kEdit.K w a1 [.int .i64 a1.fNext, .int .i64 a1.fSeq, v1_2, v1_3]) (h0 : wfVersion a0) (h1 : wfEdit a1) (y0 : smVersion 1048576 a0 → smEdit 1048576 a1 → smVersion 4194304 (apV a0 a1)) : Calls Try.prog 3 #[.agg #[.int .i64 a0.fNext, .int .i64 a0.fSeq, v0_2], .agg #[.int .i64 a1.fNext, .int .i64 a1.fSeq, v1_2, v1_3]] w
    fun e w' => e = .returned (.bool true) ∧ Below w.heap.size w w' := by
  have G0 := Lib.hid g0; clear g0
  have G1 := Lib.hid g1; clear g1
  go_enter Try.func3, Try.ntmps3
  go_wp2_with fail
  (with_reducible refine (szVersion_k (kVersion.K_below ((by repeat (first | (with_reducible exact Below.refl _ _) | (with_reducible refine Below.alloc ?_ (by first | (with_reducible exact Nat.le_refl _) | (simp; done) | (simp; omega)) _))) : Below w.heap.size w _).block G0.out) (by omega) (by omega) h0).mono ?_)
  rintro e w1 ⟨rfl, hb⟩
  have Ba0 : Box w1 w.heap.size #[.int .i64 a0.fNext, .int .i64 a0.fSeq, v0_2] 24 := Box.below (Box.alloc (Box.new rfl)) hb
  have Ba1 : Box w1 (w.heap.size + 1) #[.int .i64 a1.fNext, .int .i64 a1.fSeq, v1_2, v1_3] 27 := Box.below (Box.new (by simp)) hb
  have HB1 := Lib.hid (Below.trans (by repeat (first | (with_reducible exact Below.refl _ _) | (with_reducible refine Below.alloc ?_ (by first | (with_reducible exact Nat.le_refl _) | (simp; done) | (simp; omega)) _))) (hb.mono (by first | (with_reducible exact Nat.le_refl _) | (simp; done) | (simp; omega))) : Below w.heap.size w w1)
  have sz0 : w.heap.size + 2 ≤ w1.heap.size := by have := hb.size; (try simp at this); omega
  clear hb
  have ba0_0 := Ba0.cell 0 (v := .int .i64 a0.fNext) rfl
  have ba0_1 := Ba0.cell 1 (v := .int .i64 a0.fSeq) rfl
  have ba0_2 := Ba0.cell 2 (v := v0_2) rfl
  have ba1_0 := Ba1.cell 0 (v := .int .i64 a1.fNext) rfl
  have ba1_1 := Ba1.cell 1 (v := .int .i64 a1.fSeq) rfl
  have ba1_2 := Ba1.cell 2 (v := v1_2) rfl
  have ba1_3 := Ba1.cell 3 (v := v1_3) rfl
  have Xa0 := Lib.hid Ba0
  have Xa1 := Lib.hid Ba1
  clear Ba0 Ba1
  by_cases z0 : (szNVersion a0 : Int) ≤ 1048576
  case neg =>
    rw [szR_no z0]
    go_wp2
    go_ret
    exact ⟨rfl, HB1.out⟩
  case pos =>
    rw [szR_yes z0]
    go_wp2_with fail
    (with_reducible refine (szEdit_k (kEdit.K_below HB1.out.block G1.out) (by omega) (by omega) h1).mono ?_)
    rintro e w2 ⟨rfl, hb⟩
    replace sz0 := Nat.le_trans sz0 hb.size
    have Ba0 := Xa0.out.below hb
    have Ba1 := Xa1.out.below hb
    have HB2 := Lib.hid (HB1.out.trans (hb.mono HB1.out.size))
    clear Xa0 Xa1 HB1 hb
    clear ba0_0 ba0_1 ba0_2 ba1_0 ba1_1 ba1_2 ba1_3
    have ba0_0 := Ba0.cell 0 (v := .int .i64 a0.fNext) rfl
    have ba0_1 := Ba0.cell 1 (v := .int .i64 a0.fSeq) rfl
    have ba0_2 := Ba0.cell 2 (v := v0_2) rfl
    have ba1_0 := Ba1.cell 0 (v := .int .i64 a1.fNext) rfl
    have ba1_1 := Ba1.cell 1 (v := .int .i64 a1.fSeq) rfl
    have ba1_2 := Ba1.cell 2 (v := v1_2) rfl
    have ba1_3 := Ba1.cell 3 (v := v1_3) rfl
    have Xa0 := Lib.hid Ba0
    have Xa1 := Lib.hid Ba1
    clear Ba0 Ba1
    by_cases z1 : (szNEdit a1 : Int) ≤ 1048576 - (szNVersion a0 : Int)
    case neg =>
      rw [szR_no z1]
      go_wp2
      go_ret
      exact ⟨rfl, HB2.out⟩
    case pos =>
      rw [szR_yes z1]
      replace y0 := y0 (szVersion_sm (n := 1048576) (x := a0) (by omega)) (szEdit_sm (n := 1048576) (x := a1) (by omega)) 
      go_upto_region 8 with fail
      go_cut [6, 7] from 6 to 7 (fun s6 s7 wx => HasApplyEdit a0 a1 w2.heap.size w2 wx s6 ∧ s7 = .bool (apOk a0 a1))
      case first =>
        have ya0 : w.heap.size < w2.heap.size := Xa0.out.lt
        have ya1 : (w.heap.size + 1) < w2.heap.size := Xa1.out.lt
        have yh := HB2.out.size
        go_region_held3 (fun w' => Below w2.heap.size w2 w' ∧ ∀ b j, b < w2.heap.size → w'.cell? ⟨b, j, none⟩ = w2.cell? ⟨b, j, none⟩)
          (first | ((try go_split_ands); refine SBof ?_; repeat (first | assumption | (with_reducible exact Below.refl _ _) | (with_reducible refine below_call ?_ hc) | (with_reducible refine below_call ?_ hb0) | (with_reducible refine below_call ?_ hb1) | (with_reducible refine below_call ?_ hb) | (with_reducible refine Below.drew ?_) | (with_reducible refine below_alloc2 ?_ _) | (with_reducible refine Below.setCell ?_ (by first | (simp; done) | omega | (simp; omega)) _))))
          (first
            | (go_at_call 7; ((with_reducible refine (toVersion_k (kVersion.K_below (HB2.out.trans (Below.mono (by repeat (first | assumption | (with_reducible exact Below.refl _ _) | (with_reducible refine below_call ?_ hc) | (with_reducible refine below_call ?_ hb0) | (with_reducible refine below_call ?_ hb1) | (with_reducible refine below_call ?_ hb) | (with_reducible refine Below.drew ?_) | (with_reducible refine below_alloc2 ?_ _))) HB2.out.size)).block G0.out) (szVersion_sm (n := 1048576) (x := a0) (by omega))).mono ?_); rintro e wt0 ⟨ds0, F0_, rfl, ra0, rb0, rc0, hb0⟩; have zs0 := hb0.size; (try simp at zs0); (first | have BG0 := Box.below BG0 hb0 | have BG0 := Box.below (Box.drew (Box.new (T := 32) (cs := #[.int .i64 0, .int .i64 0, .slice none 0 0]) rfl)) hb0 | have BG0 := Box.below (Box.new (T := 32) (cs := #[.int .i64 0, .int .i64 0, .slice none 0 0]) rfl) hb0 | skip)))
            | (go_at_call 8; ((with_reducible refine (toEdit_k (kEdit.K_below (HB2.out.trans (Below.mono (by repeat (first | assumption | (with_reducible exact Below.refl _ _) | (with_reducible refine below_call ?_ hc) | (with_reducible refine below_call ?_ hb0) | (with_reducible refine below_call ?_ hb1) | (with_reducible refine below_call ?_ hb) | (with_reducible refine Below.drew ?_) | (with_reducible refine below_alloc2 ?_ _))) HB2.out.size)).block G1.out) (szEdit_sm (n := 1048576) (x := a1) (by omega))).mono ?_); rintro e wt1 ⟨ds1, F1_, rfl, ra1, rb1, rc1, hb1⟩; have zs1 := hb1.size; (try simp at zs1); (first | have BG0 := Box.below BG0 hb1 | have BG0 := Box.below (Box.drew (Box.new (T := 32) (cs := #[.int .i64 0, .int .i64 0, .slice none 0 0]) rfl)) hb1 | have BG0 := Box.below (Box.new (T := 32) (cs := #[.int .i64 0, .int .i64 0, .slice none 0 0]) rfl) hb1 | skip)))
            | (go_at_call 6; ((with_reducible refine (sApplyEdit_k (kVersion.K_below ((by repeat (first | assumption | (with_reducible exact Below.refl _ _) | (with_reducible refine below_call ?_ hc) | (with_reducible refine below_call ?_ hb0) | (with_reducible refine below_call ?_ hb1) | (with_reducible refine below_call ?_ hb) | (with_reducible refine Below.drew ?_) | (with_reducible refine below_alloc2 ?_ _))) : Below _ _ _).block (kVersion.M_K ra0)) h0 (by have := (szVersion_sm (n := 1048576) (x := a0) (by omega)); exact this) (kEdit.K_below ((by repeat (first | assumption | (with_reducible exact Below.refl _ _) | (with_reducible refine below_call ?_ hc) | (with_reducible refine below_call ?_ hb0) | (with_reducible refine below_call ?_ hb1) | (with_reducible refine below_call ?_ hb) | (with_reducible refine Below.drew ?_) | (with_reducible refine below_alloc2 ?_ _))) : Below _ _ _).block (kEdit.M_K ra1)) h1 (by have := (szEdit_sm (n := 1048576) (x := a1) (by omega)); exact this)).mono ?_); rintro e wz ⟨cd0, FD0, rfl, rd0, rd_1, rd_2, hc⟩; have zs_c := hc.size; (try simp at zs_c); obtain ⟨pd0_2, FD0_2, rfl, rfl, pd0_r2⟩ := kVersion_open rd0; obtain ⟨pd0_A2, pd0_C2, rfl, _, _⟩ := Rp.Row_K pd0_r2; (first | have BG0 := Box.below BG0 hc | have BG0 := Box.below (Box.drew (Box.new (T := 32) (cs := #[.int .i64 0, .int .i64 0, .slice none 0 0]) rfl)) hc | have BG0 := Box.below (Box.new (T := 32) (cs := #[.int .i64 0, .int .i64 0, .slice none 0 0]) rfl) hc | skip); (try (have q0_0 := BG0.cell 0 (v := .int .i64 0) rfl; have q0_1 := BG0.cell 1 (v := .int .i64 0) rfl; have q0_2 := BG0.cell 2 (v := .slice none 0 0) rfl; have fg0 := BG0.fro)))))
        all_goals (go_wp2_with fail; go_meet; go_light)
        all_goals
          have K : Below w2.heap.size w2 wz := (by repeat (first | assumption | (with_reducible exact Below.refl _ _) | (with_reducible refine below_call ?_ hc) | (with_reducible refine below_call ?_ hb0) | (with_reducible refine below_call ?_ hb1) | (with_reducible refine below_call ?_ hb) | (with_reducible refine Below.drew ?_) | (with_reducible refine below_alloc2 ?_ _)))
          first
            | (refine ⟨?_, rfl⟩; with_reducible refine Has.new (d := kVersion) (kVersion_make pd0_r2) rd_2 ?_ K (Nat.le_refl _); exact (fun b hm => by have := rd_1 b hm; first | omega | (simp at this; omega)))
            | (refine ⟨?_, rfl⟩; exact Has.old (d := kVersion) (kVersion_make pd0_r2) rd_2 (fun b hm => by have := rd_1 b hm; first | omega | (simp at this; omega)) K BG0 (by first | omega | (simp; omega) | (simp; done)) (Nat.le_refl _) rfl)
      case rest =>
        rename World => w3
        obtain ⟨⟨gw0, Fw0, _, rfl, Bw0, Rw0, Nw0, dw0, ew0, hb⟩, rfl⟩ := hcut
        obtain ⟨pw0_2, Fw0, rfl, rfl, rw0_2⟩ := kVersion_open Rw0
        have Rw0 := kVersion_make rw0_2
        clear rw0_2
        have Dw0 := fun b hb => (dw0 b hb).1; have Nw0_w0 := fun b hb => (dw0 b hb).2; clear dw0
        have ew0 := And.intro ew0 Bw0.lt
        have Ew0 := kVersion.M_lt Rw0
        have zzw0 := hb.size
        have sow0 := sz0
        replace sz0 := Nat.le_trans sz0 hb.size
        have Ba0 := Xa0.out.below hb
        have Ba1 := Xa1.out.below hb
        have HB3 := Lib.hid (HB2.out.trans (hb.mono HB2.out.size))
        clear Xa0 Xa1 HB2 hb
        clear ba0_0 ba0_1 ba0_2 ba1_0 ba1_1 ba1_2 ba1_3
        have ba0_0 := Ba0.cell 0 (v := .int .i64 a0.fNext) rfl
        have ba0_1 := Ba0.cell 1 (v := .int .i64 a0.fSeq) rfl
        have ba0_2 := Ba0.cell 2 (v := v0_2) rfl
        have ba1_0 := Ba1.cell 0 (v := .int .i64 a1.fNext) rfl
        have ba1_1 := Ba1.cell 1 (v := .int .i64 a1.fSeq) rfl
        have ba1_2 := Ba1.cell 2 (v := v1_2) rfl
        have ba1_3 := Ba1.cell 3 (v := v1_3) rfl
        have bw0_0 := Bw0.cell 0 (v := .int .i64 (apV a0 a1).fNext) rfl
        have bw0_1 := Bw0.cell 1 (v := .int .i64 (apV a0 a1).fSeq) rfl
        have bw0_2 := Bw0.cell 2 (v := pw0_2) rfl
        have Xa0 := Lib.hid Ba0
        have Xa1 := Lib.hid Ba1
        have Xw0 := Lib.hid Bw0
        have Zw0 := Lib.hid Rw0
        clear Ba0 Ba1 Bw0 Rw0
        go_upto_region 9 with fail
        go_cut [8] from 8 to 8 (fun s wx => Has kVersion 32 a0 w3.heap.size w3 wx s)
        case first =>
          go_wp2_with fail
          (with_reducible refine (toVersion_k (kVersion.K_below HB3.out.block G0.out) (szVersion_sm (n := 1048576) (x := a0) (by omega))).mono ?_)
          rintro e wa ⟨ds, F, rfl, ra, rb, rc, hb⟩
          obtain ⟨pa2, F_2, rfl, rfl, par2⟩ := kVersion_open ra; obtain ⟨paA2, paC2, rfl, _, _⟩ := Rp.Row_K par2
          go_wp2_with fail
          go_meet
          exact Has.new (d := kVersion) (kVersion_make par2) rc rb hb (Nat.le_refl _)
        case rest =>
          rename World => w4
          obtain ⟨gx0, Fx0, _, rfl, Bx0, Rx0, Nx0, dx0, ex0, hb⟩ := hcut
          obtain ⟨px0_2, Fx0, rfl, rfl, rx0_2⟩ := kVersion_open Rx0
          have Rx0 := kVersion_make rx0_2
          clear rx0_2
          have Dx0 := fun b hb => (dx0 b hb).1; have Nx0_x0 := fun b hb => (dx0 b hb).2; clear dx0
          have ex0 := And.intro ex0 Bx0.lt
          have Ex0 := kVersion.M_lt Rx0
          have zzx0 := hb.size
          have sox0 := sz0
          replace sz0 := Nat.le_trans sz0 hb.size
          have Ba0 := Xa0.out.below hb
          have Ba1 := Xa1.out.below hb
          have Bw0 := Xw0.out.below hb
          have Rw0 := Rp.M_below Zw0.out hb
          have HB4 := Lib.hid (HB3.out.trans (hb.mono HB3.out.size))
          clear Xa0 Xa1 Xw0 Zw0 HB3 hb
          clear ba0_0 ba0_1 ba0_2 ba1_0 ba1_1 ba1_2 ba1_3 bw0_0 bw0_1 bw0_2
          have ba0_0 := Ba0.cell 0 (v := .int .i64 a0.fNext) rfl
          have ba0_1 := Ba0.cell 1 (v := .int .i64 a0.fSeq) rfl
          have ba0_2 := Ba0.cell 2 (v := v0_2) rfl
          have ba1_0 := Ba1.cell 0 (v := .int .i64 a1.fNext) rfl
          have ba1_1 := Ba1.cell 1 (v := .int .i64 a1.fSeq) rfl
          have ba1_2 := Ba1.cell 2 (v := v1_2) rfl
          have ba1_3 := Ba1.cell 3 (v := v1_3) rfl
          have bw0_0 := Bw0.cell 0 (v := .int .i64 (apV a0 a1).fNext) rfl
          have bw0_1 := Bw0.cell 1 (v := .int .i64 (apV a0 a1).fSeq) rfl
          have bw0_2 := Bw0.cell 2 (v := pw0_2) rfl
          have bx0_0 := Bx0.cell 0 (v := .int .i64 a0.fNext) rfl
          have bx0_1 := Bx0.cell 1 (v := .int .i64 a0.fSeq) rfl
          have bx0_2 := Bx0.cell 2 (v := px0_2) rfl
          have Xa0 := Lib.hid Ba0
          have Xa1 := Lib.hid Ba1
          have Xw0 := Lib.hid Bw0
          have Zw0 := Lib.hid Rw0
          have Xx0 := Lib.hid Bx0
          have Zx0 := Lib.hid Rx0
          clear Ba0 Ba1 Bw0 Rw0 Bx0 Rx0
          go_upto_region 10 with fail
          go_cut [9] from 9 to 9 (fun s wx => Has kEdit 37 a1 w4.heap.size w4 wx s)
          case first =>
            go_wp2_with fail
            (with_reducible refine (toEdit_k (kEdit.K_below HB4.out.block G1.out) (szEdit_sm (n := 1048576) (x := a1) (by omega))).mono ?_)
            rintro e wa ⟨ds, F, rfl, ra, rb, rc, hb⟩
            obtain ⟨pa2, pa3, F_2, F_3, rfl, rfl, par2, par3⟩ := kEdit_open ra; obtain ⟨paA2, paC2, rfl, _, _⟩ := Rp.Row_K par2; obtain ⟨paA3, paC3, rfl, _, _⟩ := Rp.Row_K par3
            go_wp2_with fail
            go_meet
            exact Has.new (d := kEdit) (kEdit_make par2 par3) rc rb hb (Nat.le_refl _)
          case rest =>
            rename World => w5
            obtain ⟨gx1, Fx1, _, rfl, Bx1, Rx1, Nx1, dx1, ex1, hb⟩ := hcut
            obtain ⟨px1_2, px1_3, Fx1_2, Fx1_3, rfl, rfl, rx1_2, rx1_3⟩ := kEdit_open Rx1
            have Rx1 := kEdit_make rx1_2 rx1_3
            clear rx1_2 rx1_3
            have Dx1 := fun b hb => (dx1 b hb).1; have Nx1_x1 := fun b hb => (dx1 b hb).2; clear dx1
            have ex1 := And.intro ex1 Bx1.lt
            have Ex1 := kEdit.M_lt Rx1
            have zzx1 := hb.size
            have sox1 := sz0
            replace sz0 := Nat.le_trans sz0 hb.size
            have Ba0 := Xa0.out.below hb
            have Ba1 := Xa1.out.below hb
            have Bw0 := Xw0.out.below hb
            have Rw0 := Rp.M_below Zw0.out hb
            have Bx0 := Xx0.out.below hb
            have Rx0 := Rp.M_below Zx0.out hb
            have HB5 := Lib.hid (HB4.out.trans (hb.mono HB4.out.size))
            clear Xa0 Xa1 Xw0 Zw0 Xx0 Zx0 HB4 hb
            clear ba0_0 ba0_1 ba0_2 ba1_0 ba1_1 ba1_2 ba1_3 bw0_0 bw0_1 bw0_2 bx0_0 bx0_1 bx0_2
            have ba0_0 := Ba0.cell 0 (v := .int .i64 a0.fNext) rfl
            have ba0_1 := Ba0.cell 1 (v := .int .i64 a0.fSeq) rfl
            have ba0_2 := Ba0.cell 2 (v := v0_2) rfl
            have ba1_0 := Ba1.cell 0 (v := .int .i64 a1.fNext) rfl
            have ba1_1 := Ba1.cell 1 (v := .int .i64 a1.fSeq) rfl
            have ba1_2 := Ba1.cell 2 (v := v1_2) rfl
            have ba1_3 := Ba1.cell 3 (v := v1_3) rfl
            have bw0_0 := Bw0.cell 0 (v := .int .i64 (apV a0 a1).fNext) rfl
            have bw0_1 := Bw0.cell 1 (v := .int .i64 (apV a0 a1).fSeq) rfl
            have bw0_2 := Bw0.cell 2 (v := pw0_2) rfl
            have bx0_0 := Bx0.cell 0 (v := .int .i64 a0.fNext) rfl
            have bx0_1 := Bx0.cell 1 (v := .int .i64 a0.fSeq) rfl
            have bx0_2 := Bx0.cell 2 (v := px0_2) rfl
            have bx1_0 := Bx1.cell 0 (v := .int .i64 a1.fNext) rfl
            have bx1_1 := Bx1.cell 1 (v := .int .i64 a1.fSeq) rfl
            have bx1_2 := Bx1.cell 2 (v := px1_2) rfl
            have bx1_3 := Bx1.cell 3 (v := px1_3) rfl
            have Xa0 := Lib.hid Ba0
            have Xa1 := Lib.hid Ba1
            have Xw0 := Lib.hid Bw0
            have Zw0 := Lib.hid Rw0
            have Xx0 := Lib.hid Bx0
            have Zx0 := Lib.hid Rx0
            have Xx1 := Lib.hid Bx1
            have Zx1 := Lib.hid Rx1
            clear Ba0 Ba1 Bw0 Rw0 Bx0 Rx0 Bx1 Rx1
            go_upto_region 11 with fail
            go_cut [10, 11] from 10 to 11 (fun s10 s11 wx => HasApplyEdit a0 a1 w5.heap.size w5 wx s10 ∧ s11 = .bool (apOk a0 a1))
            case first =>
              have ya0 : w.heap.size < w5.heap.size := Xa0.out.lt
              have ya1 : (w.heap.size + 1) < w5.heap.size := Xa1.out.lt
              have yw0 : gw0 < w5.heap.size := Xw0.out.lt
              have yx0 : gx0 < w5.heap.size := Xx0.out.lt
              have yx1 : gx1 < w5.heap.size := Xx1.out.lt
              have yh := HB5.out.size
              go_wp2_with (first
                  | (go_at_call 9; ((with_reducible refine (iApplyEdit_k (kVersion.K_below ((by repeat (first | assumption | (with_reducible exact Below.refl _ _) | (with_reducible refine below_call ?_ hc) | (with_reducible refine below_call ?_ hb0) | (with_reducible refine below_call ?_ hb1) | (with_reducible refine below_call ?_ hb) | (with_reducible refine Below.drew ?_) | (with_reducible refine below_alloc2 ?_ _))) : Below _ _ _).block (kVersion.M_K Zx0.out)) h0 (by have := (szVersion_sm (n := 1048576) (x := a0) (by omega)); exact this) (kEdit.K_below ((by repeat (first | assumption | (with_reducible exact Below.refl _ _) | (with_reducible refine below_call ?_ hc) | (with_reducible refine below_call ?_ hb0) | (with_reducible refine below_call ?_ hb1) | (with_reducible refine below_call ?_ hb) | (with_reducible refine Below.drew ?_) | (with_reducible refine below_alloc2 ?_ _))) : Below _ _ _).block (kEdit.M_K Zx1.out)) h1 (by have := (szEdit_sm (n := 1048576) (x := a1) (by omega)); exact this)).mono ?_); rintro e wz ⟨cd0, FD0, rfl, rd0, rd_1, rd_2, hc⟩; have zs_c := hc.size; (try simp at zs_c); obtain ⟨pd0_2, FD0_2, rfl, rfl, pd0_r2⟩ := kVersion_open rd0; obtain ⟨pd0_A2, pd0_C2, rfl, _, _⟩ := Rp.Row_K pd0_r2; (first | have BG0 := Box.below BG0 hc | have BG0 := Box.below (Box.drew (Box.new (T := 32) (cs := #[.int .i64 0, .int .i64 0, .slice none 0 0]) rfl)) hc | have BG0 := Box.below (Box.new (T := 32) (cs := #[.int .i64 0, .int .i64 0, .slice none 0 0]) rfl) hc | skip); (try (have q0_0 := BG0.cell 0 (v := .int .i64 0) rfl; have q0_1 := BG0.cell 1 (v := .int .i64 0) rfl; have q0_2 := BG0.cell 2 (v := .slice none 0 0) rfl; have fg0 := BG0.fro)))))
              all_goals (go_meet; go_light)
              all_goals
                have K : Below w5.heap.size w5 wz := (by repeat (first | assumption | (with_reducible exact Below.refl _ _) | (with_reducible refine below_call ?_ hc) | (with_reducible refine below_call ?_ hb0) | (with_reducible refine below_call ?_ hb1) | (with_reducible refine below_call ?_ hb) | (with_reducible refine Below.drew ?_) | (with_reducible refine below_alloc2 ?_ _)))
                first
                  | (refine ⟨?_, rfl⟩; with_reducible refine Has.new (d := kVersion) (kVersion_make pd0_r2) rd_2 ?_ K (Nat.le_refl _); exact (fun b hm => by have := rd_1 b hm; first | omega | (simp at this; omega)))
                  | (refine ⟨?_, rfl⟩; exact Has.old (d := kVersion) (kVersion_make pd0_r2) rd_2 (fun b hm => by have := rd_1 b hm; first | omega | (simp at this; omega)) K BG0 (by first | omega | (simp; omega) | (simp; done)) (Nat.le_refl _) rfl)
            case rest =>
              rename World => w6
              obtain ⟨⟨gg0, Fg0, _, rfl, Bg0, Rg0, Ng0, dg0, eg0, hb⟩, rfl⟩ := hcut
              obtain ⟨pg0_2, Fg0, rfl, rfl, rg0_2⟩ := kVersion_open Rg0
              have Rg0 := kVersion_make rg0_2
              clear rg0_2
              have Dg0 := fun b hb => (dg0 b hb).1; have Ng0_g0 := fun b hb => (dg0 b hb).2; clear dg0
              have eg0 := And.intro eg0 Bg0.lt
              have Eg0 := kVersion.M_lt Rg0
              have zzg0 := hb.size
              have sog0 := sz0
              replace sz0 := Nat.le_trans sz0 hb.size
              have Ba0 := Xa0.out.below hb
              have Ba1 := Xa1.out.below hb
              have Bw0 := Xw0.out.below hb
              have Rw0 := Rp.M_below Zw0.out hb
              have Bx0 := Xx0.out.below hb
              have Rx0 := Rp.M_below Zx0.out hb
              have Bx1 := Xx1.out.below hb
              have Rx1 := Rp.M_below Zx1.out hb
              have HB6 := Lib.hid (HB5.out.trans (hb.mono HB5.out.size))
              clear Xa0 Xa1 Xw0 Zw0 Xx0 Zx0 Xx1 Zx1 HB5 hb
              clear ba0_0 ba0_1 ba0_2 ba1_0 ba1_1 ba1_2 ba1_3 bw0_0 bw0_1 bw0_2 bx0_0 bx0_1 bx0_2 bx1_0 bx1_1 bx1_2 bx1_3
              have ba0_0 := Ba0.cell 0 (v := .int .i64 a0.fNext) rfl
              have ba0_1 := Ba0.cell 1 (v := .int .i64 a0.fSeq) rfl
              have ba0_2 := Ba0.cell 2 (v := v0_2) rfl
              have ba1_0 := Ba1.cell 0 (v := .int .i64 a1.fNext) rfl
              have ba1_1 := Ba1.cell 1 (v := .int .i64 a1.fSeq) rfl
              have ba1_2 := Ba1.cell 2 (v := v1_2) rfl
              have ba1_3 := Ba1.cell 3 (v := v1_3) rfl
              have bw0_0 := Bw0.cell 0 (v := .int .i64 (apV a0 a1).fNext) rfl
              have bw0_1 := Bw0.cell 1 (v := .int .i64 (apV a0 a1).fSeq) rfl
              have bw0_2 := Bw0.cell 2 (v := pw0_2) rfl
              have bx0_0 := Bx0.cell 0 (v := .int .i64 a0.fNext) rfl
              have bx0_1 := Bx0.cell 1 (v := .int .i64 a0.fSeq) rfl
              have bx0_2 := Bx0.cell 2 (v := px0_2) rfl
              have bx1_0 := Bx1.cell 0 (v := .int .i64 a1.fNext) rfl
              have bx1_1 := Bx1.cell 1 (v := .int .i64 a1.fSeq) rfl
              have bx1_2 := Bx1.cell 2 (v := px1_2) rfl
              have bx1_3 := Bx1.cell 3 (v := px1_3) rfl
              have bg0_0 := Bg0.cell 0 (v := .int .i64 (apV a0 a1).fNext) rfl
              have bg0_1 := Bg0.cell 1 (v := .int .i64 (apV a0 a1).fSeq) rfl
              have bg0_2 := Bg0.cell 2 (v := pg0_2) rfl
              have Xa0 := Lib.hid Ba0
              have Xa1 := Lib.hid Ba1
              have Xw0 := Lib.hid Bw0
              have Zw0 := Lib.hid Rw0
              have Xx0 := Lib.hid Bx0
              have Zx0 := Lib.hid Rx0
              have Xx1 := Lib.hid Bx1
              have Zx1 := Lib.hid Rx1
              have Xg0 := Lib.hid Bg0
              have Zg0 := Lib.hid Rg0
              clear Ba0 Ba1 Bw0 Rw0 Bx0 Rx0 Bx1 Rx1 Bg0 Rg0
              go_wp2_with fail
              (with_reducible refine (eqVersion_k (kVersion.M_K Zg0.out) (kVersion.M_K Zw0.out) (smVersion_le y0 (by decide))).mono ?_)
              rintro e w7 ⟨rfl, hb⟩
              replace sz0 := Nat.le_trans sz0 hb.size
              have Ba0 := Xa0.out.below hb
              have Ba1 := Xa1.out.below hb
              have Bw0 := Xw0.out.below hb
              have Rw0 := Rp.M_below Zw0.out hb
              have Bx0 := Xx0.out.below hb
              have Rx0 := Rp.M_below Zx0.out hb
              have Bx1 := Xx1.out.below hb
              have Rx1 := Rp.M_below Zx1.out hb
              have Bg0 := Xg0.out.below hb
              have Rg0 := Rp.M_below Zg0.out hb
              have HB7 := Lib.hid (HB6.out.trans (hb.mono HB6.out.size))
              clear Xa0 Xa1 Xw0 Zw0 Xx0 Zx0 Xx1 Zx1 Xg0 Zg0 HB6 hb
              clear ba0_0 ba0_1 ba0_2 ba1_0 ba1_1 ba1_2 ba1_3 bw0_0 bw0_1 bw0_2 bx0_0 bx0_1 bx0_2 bx1_0 bx1_1 bx1_2 bx1_3 bg0_0 bg0_1 bg0_2
              have ba0_0 := Ba0.cell 0 (v := .int .i64 a0.fNext) rfl
              have ba0_1 := Ba0.cell 1 (v := .int .i64 a0.fSeq) rfl
              have ba0_2 := Ba0.cell 2 (v := v0_2) rfl
              have ba1_0 := Ba1.cell 0 (v := .int .i64 a1.fNext) rfl
              have ba1_1 := Ba1.cell 1 (v := .int .i64 a1.fSeq) rfl
              have ba1_2 := Ba1.cell 2 (v := v1_2) rfl
              have ba1_3 := Ba1.cell 3 (v := v1_3) rfl
              have bw0_0 := Bw0.cell 0 (v := .int .i64 (apV a0 a1).fNext) rfl
              have bw0_1 := Bw0.cell 1 (v := .int .i64 (apV a0 a1).fSeq) rfl
              have bw0_2 := Bw0.cell 2 (v := pw0_2) rfl
              have bx0_0 := Bx0.cell 0 (v := .int .i64 a0.fNext) rfl
              have bx0_1 := Bx0.cell 1 (v := .int .i64 a0.fSeq) rfl
              have bx0_2 := Bx0.cell 2 (v := px0_2) rfl
              have bx1_0 := Bx1.cell 0 (v := .int .i64 a1.fNext) rfl
              have bx1_1 := Bx1.cell 1 (v := .int .i64 a1.fSeq) rfl
              have bx1_2 := Bx1.cell 2 (v := px1_2) rfl
              have bx1_3 := Bx1.cell 3 (v := px1_3) rfl
              have bg0_0 := Bg0.cell 0 (v := .int .i64 (apV a0 a1).fNext) rfl
              have bg0_1 := Bg0.cell 1 (v := .int .i64 (apV a0 a1).fSeq) rfl
              have bg0_2 := Bg0.cell 2 (v := pg0_2) rfl
              have Xa0 := Lib.hid Ba0
              have Xa1 := Lib.hid Ba1
              have Xw0 := Lib.hid Bw0
              have Zw0 := Lib.hid Rw0
              have Xx0 := Lib.hid Bx0
              have Zx0 := Lib.hid Rx0
              have Xx1 := Lib.hid Bx1
              have Zx1 := Lib.hid Rx1
              have Xg0 := Lib.hid Bg0
              have Zg0 := Lib.hid Rg0
              clear Ba0 Ba1 Bw0 Rw0 Bx0 Rx0 Bx1 Rx1 Bg0 Rg0
              go_upto_region 14 with fail
              have ya0 : w.heap.size < w7.heap.size := Xa0.out.lt
              have ya1 : (w.heap.size + 1) < w7.heap.size := Xa1.out.lt
              have yw0 : gw0 < w7.heap.size := Xw0.out.lt
              have yx0 : gx0 < w7.heap.size := Xx0.out.lt
              have yx1 : gx1 < w7.heap.size := Xx1.out.lt
              have yg0 : gg0 < w7.heap.size := Xg0.out.lt
              have yh := HB7.out.size
              go_region_held3 (fun w' => Below w7.heap.size w7 w' ∧ ∀ b j, b < w7.heap.size → w'.cell? ⟨b, j, none⟩ = w7.cell? ⟨b, j, none⟩)
                (first | ((try go_split_ands); refine SBof ?_; repeat (first | assumption | (with_reducible exact Below.refl _ _) | (with_reducible refine below_call ?_ hc) | (with_reducible refine below_call ?_ hb0) | (with_reducible refine below_call ?_ hb1) | (with_reducible refine below_call ?_ hb) | (with_reducible refine Below.drew ?_) | (with_reducible refine below_alloc2 ?_ _) | (with_reducible refine Below.setCell ?_ (by first | (simp; done) | omega | (simp; omega)) _))))
                (first
                  | (go_at_call 7; (refine (toVersion_k (kVersion.K_below (HB7.out.trans (Below.mono (by repeat (first | assumption | (with_reducible exact Below.refl _ _) | (with_reducible refine below_call ?_ hc) | (with_reducible refine below_call ?_ hb0) | (with_reducible refine below_call ?_ hb1)  | (with_reducible refine Below.drew ?_) | (with_reducible refine below_alloc2 ?_ _))) HB7.out.size)).block G0.out) (szVersion_sm (n := 1048576) (x := a0) (by omega))).mono ?_; rintro e wa ⟨ds, F, rfl, ra, rb, rc, hb0⟩; have zs := hb0.size; (try simp at zs)))
                  | (go_at_call 10; (refine (eqVersion_k (kVersion.K_below ((by repeat (first | assumption | (with_reducible exact Below.refl _ _) | (with_reducible refine below_call ?_ hc) | (with_reducible refine below_call ?_ hb0) | (with_reducible refine below_call ?_ hb1)  | (with_reducible refine Below.drew ?_) | (with_reducible refine below_alloc2 ?_ _))) : Below _ _ _).block (kVersion.M_K Zx0.out)) (kVersion.M_K ra) (szVersion_sm (n := 140737488355328) (x := a0) (by omega))).mono ?_; rintro e w8 ⟨rfl, hb⟩; have zs2 := hb.size; (try simp at zs2))))
              have hbx : Below w7.heap.size w7 w8 := (by repeat (first | assumption | (with_reducible exact Below.refl _ _) | (with_reducible refine below_call ?_ hc) | (with_reducible refine below_call ?_ hb0) | (with_reducible refine below_call ?_ hb1) | (with_reducible refine below_call ?_ hb) | (with_reducible refine Below.drew ?_) | (with_reducible refine below_alloc2 ?_ _)))
              clear hb hb0 ra rb rc zs zs2 yh ya0 ya1 yw0 yx0 yx1 yg0
              replace sz0 := Nat.le_trans sz0 hbx.size
              have Ba0 := Xa0.out.below hbx
              have Ba1 := Xa1.out.below hbx
              have Bw0 := Xw0.out.below hbx
              have Rw0 := Rp.M_below Zw0.out hbx
              have Bx0 := Xx0.out.below hbx
              have Rx0 := Rp.M_below Zx0.out hbx
              have Bx1 := Xx1.out.below hbx
              have Rx1 := Rp.M_below Zx1.out hbx
              have Bg0 := Xg0.out.below hbx
              have Rg0 := Rp.M_below Zg0.out hbx
              have HB8 := Lib.hid (HB7.out.trans (hbx.mono HB7.out.size))
              clear Xa0 Xa1 Xw0 Zw0 Xx0 Zx0 Xx1 Zx1 Xg0 Zg0 HB7 hbx
              clear ba0_0 ba0_1 ba0_2 ba1_0 ba1_1 ba1_2 ba1_3 bw0_0 bw0_1 bw0_2 bx0_0 bx0_1 bx0_2 bx1_0 bx1_1 bx1_2 bx1_3 bg0_0 bg0_1 bg0_2
              have ba0_0 := Ba0.cell 0 (v := .int .i64 a0.fNext) rfl
              have ba0_1 := Ba0.cell 1 (v := .int .i64 a0.fSeq) rfl
              have ba0_2 := Ba0.cell 2 (v := v0_2) rfl
              have ba1_0 := Ba1.cell 0 (v := .int .i64 a1.fNext) rfl
              have ba1_1 := Ba1.cell 1 (v := .int .i64 a1.fSeq) rfl
              have ba1_2 := Ba1.cell 2 (v := v1_2) rfl
              have ba1_3 := Ba1.cell 3 (v := v1_3) rfl
              have bw0_0 := Bw0.cell 0 (v := .int .i64 (apV a0 a1).fNext) rfl
              have bw0_1 := Bw0.cell 1 (v := .int .i64 (apV a0 a1).fSeq) rfl
              have bw0_2 := Bw0.cell 2 (v := pw0_2) rfl
              have bx0_0 := Bx0.cell 0 (v := .int .i64 a0.fNext) rfl
              have bx0_1 := Bx0.cell 1 (v := .int .i64 a0.fSeq) rfl
              have bx0_2 := Bx0.cell 2 (v := px0_2) rfl
              have bx1_0 := Bx1.cell 0 (v := .int .i64 a1.fNext) rfl
              have bx1_1 := Bx1.cell 1 (v := .int .i64 a1.fSeq) rfl
              have bx1_2 := Bx1.cell 2 (v := px1_2) rfl
              have bx1_3 := Bx1.cell 3 (v := px1_3) rfl
              have bg0_0 := Bg0.cell 0 (v := .int .i64 (apV a0 a1).fNext) rfl
              have bg0_1 := Bg0.cell 1 (v := .int .i64 (apV a0 a1).fSeq) rfl
              have bg0_2 := Bg0.cell 2 (v := pg0_2) rfl
              have Xa0 := Lib.hid Ba0
              have Xa1 := Lib.hid Ba1
              have Xw0 := Lib.hid Bw0
              have Zw0 := Lib.hid Rw0
              have Xx0 := Lib.hid Bx0
              have Zx0 := Lib.hid Rx0
              have Xx1 := Lib.hid Bx1
              have Zx1 := Lib.hid Rx1
              have Xg0 := Lib.hid Bg0
              have Zg0 := Lib.hid Rg0
              clear Ba0 Ba1 Bw0 Rw0 Bx0 Rx0 Bx1 Rx1 Bg0 Rg0
              go_upto_region 16 with fail
              have ya0 : w.heap.size < w8.heap.size := Xa0.out.lt
              have ya1 : (w.heap.size + 1) < w8.heap.size := Xa1.out.lt
              have yw0 : gw0 < w8.heap.size := Xw0.out.lt
              have yx0 : gx0 < w8.heap.size := Xx0.out.lt
              have yx1 : gx1 < w8.heap.size := Xx1.out.lt
              have yg0 : gg0 < w8.heap.size := Xg0.out.lt
              have yh := HB8.out.size
              go_region_held3 (fun w' => Below w8.heap.size w8 w' ∧ ∀ b j, b < w8.heap.size → w'.cell? ⟨b, j, none⟩ = w8.cell? ⟨b, j, none⟩)
                (first | ((try go_split_ands); refine SBof ?_; repeat (first | assumption | (with_reducible exact Below.refl _ _) | (with_reducible refine below_call ?_ hc) | (with_reducible refine below_call ?_ hb0) | (with_reducible refine below_call ?_ hb1) | (with_reducible refine below_call ?_ hb) | (with_reducible refine Below.drew ?_) | (with_reducible refine below_alloc2 ?_ _) | (with_reducible refine Below.setCell ?_ (by first | (simp; done) | omega | (simp; omega)) _))))
                (first
                  | (go_at_call 8; (refine (toEdit_k (kEdit.K_below (HB8.out.trans (Below.mono (by repeat (first | assumption | (with_reducible exact Below.refl _ _) | (with_reducible refine below_call ?_ hc) | (with_reducible refine below_call ?_ hb0) | (with_reducible refine below_call ?_ hb1)  | (with_reducible refine Below.drew ?_) | (with_reducible refine below_alloc2 ?_ _))) HB8.out.size)).block G1.out) (szEdit_sm (n := 1048576) (x := a1) (by omega))).mono ?_; rintro e wa ⟨ds, F, rfl, ra, rb, rc, hb0⟩; have zs := hb0.size; (try simp at zs)))
                  | (go_at_call 11; (refine (eqEdit_k (kEdit.K_below ((by repeat (first | assumption | (with_reducible exact Below.refl _ _) | (with_reducible refine below_call ?_ hc) | (with_reducible refine below_call ?_ hb0) | (with_reducible refine below_call ?_ hb1)  | (with_reducible refine Below.drew ?_) | (with_reducible refine below_alloc2 ?_ _))) : Below _ _ _).block (kEdit.M_K Zx1.out)) (kEdit.M_K ra) (szEdit_sm (n := 140737488355328) (x := a1) (by omega))).mono ?_; rintro e w9 ⟨rfl, hb⟩; have zs2 := hb.size; (try simp at zs2))))
              have hbx : Below w8.heap.size w8 w9 := (by repeat (first | assumption | (with_reducible exact Below.refl _ _) | (with_reducible refine below_call ?_ hc) | (with_reducible refine below_call ?_ hb0) | (with_reducible refine below_call ?_ hb1) | (with_reducible refine below_call ?_ hb) | (with_reducible refine Below.drew ?_) | (with_reducible refine below_alloc2 ?_ _)))
              clear hb hb0 ra rb rc zs zs2 yh ya0 ya1 yw0 yx0 yx1 yg0
              replace sz0 := Nat.le_trans sz0 hbx.size
              have Ba0 := Xa0.out.below hbx
              have Ba1 := Xa1.out.below hbx
              have Bw0 := Xw0.out.below hbx
              have Rw0 := Rp.M_below Zw0.out hbx
              have Bx0 := Xx0.out.below hbx
              have Rx0 := Rp.M_below Zx0.out hbx
              have Bx1 := Xx1.out.below hbx
              have Rx1 := Rp.M_below Zx1.out hbx
              have Bg0 := Xg0.out.below hbx
              have Rg0 := Rp.M_below Zg0.out hbx
              have HB9 := Lib.hid (HB8.out.trans (hbx.mono HB8.out.size))
              clear Xa0 Xa1 Xw0 Zw0 Xx0 Zx0 Xx1 Zx1 Xg0 Zg0 HB8 hbx
              clear ba0_0 ba0_1 ba0_2 ba1_0 ba1_1 ba1_2 ba1_3 bw0_0 bw0_1 bw0_2 bx0_0 bx0_1 bx0_2 bx1_0 bx1_1 bx1_2 bx1_3 bg0_0 bg0_1 bg0_2
              have ba0_0 := Ba0.cell 0 (v := .int .i64 a0.fNext) rfl
              have ba0_1 := Ba0.cell 1 (v := .int .i64 a0.fSeq) rfl
              have ba0_2 := Ba0.cell 2 (v := v0_2) rfl
              have ba1_0 := Ba1.cell 0 (v := .int .i64 a1.fNext) rfl
              have ba1_1 := Ba1.cell 1 (v := .int .i64 a1.fSeq) rfl
              have ba1_2 := Ba1.cell 2 (v := v1_2) rfl
              have ba1_3 := Ba1.cell 3 (v := v1_3) rfl
              have bw0_0 := Bw0.cell 0 (v := .int .i64 (apV a0 a1).fNext) rfl
              have bw0_1 := Bw0.cell 1 (v := .int .i64 (apV a0 a1).fSeq) rfl
              have bw0_2 := Bw0.cell 2 (v := pw0_2) rfl
              have bx0_0 := Bx0.cell 0 (v := .int .i64 a0.fNext) rfl
              have bx0_1 := Bx0.cell 1 (v := .int .i64 a0.fSeq) rfl
              have bx0_2 := Bx0.cell 2 (v := px0_2) rfl
              have bx1_0 := Bx1.cell 0 (v := .int .i64 a1.fNext) rfl
              have bx1_1 := Bx1.cell 1 (v := .int .i64 a1.fSeq) rfl
              have bx1_2 := Bx1.cell 2 (v := px1_2) rfl
              have bx1_3 := Bx1.cell 3 (v := px1_3) rfl
              have bg0_0 := Bg0.cell 0 (v := .int .i64 (apV a0 a1).fNext) rfl
              have bg0_1 := Bg0.cell 1 (v := .int .i64 (apV a0 a1).fSeq) rfl
              have bg0_2 := Bg0.cell 2 (v := pg0_2) rfl
              have Xa0 := Lib.hid Ba0
              have Xa1 := Lib.hid Ba1
              have Xw0 := Lib.hid Bw0
              have Zw0 := Lib.hid Rw0
              have Xx0 := Lib.hid Bx0
              have Zx0 := Lib.hid Rx0
              have Xx1 := Lib.hid Bx1
              have Zx1 := Lib.hid Rx1
              have Xg0 := Lib.hid Bg0
              have Zg0 := Lib.hid Rg0
              clear Ba0 Ba1 Bw0 Rw0 Bx0 Rx0 Bx1 Rx1 Bg0 Rg0
              have m1 := mkVersion_sm (k := 1) (szVersion_sm (n := 1048576) (x := a0) (by omega))
              have n1 := mkVersion_le (a0) 1
              have l1 : (mkVersion (a0) 1).2 ≤ 4611686018427387904 := by omega
              go_wp2_with fail
              (with_reducible refine (markVersion_k Zx0.out Nx0 (by omega) l1 (szVersion_sm (n := 140737488355328) (x := a0) (by omega))).mono ?_)
              rintro e w10 ⟨rfl, hr, hk⟩
              clear hr
              generalize (mkVersion (a0) 1).2 = k1_ at *
              clear ba0_0 ba0_1 ba0_2 ba1_0 ba1_1 ba1_2 ba1_3 bw0_0 bw0_1 bw0_2 bx0_0 bx0_1 bx0_2 bx1_0 bx1_1 bx1_2 bx1_3 bg0_0 bg0_1 bg0_2
              replace sz0 := Nat.le_trans sz0 hk.size
              have Ba0 := Box.kept Xa0.out hk (fun hm => by have := Dx0 _ hm; have := Ex0 _ hm; have := sox0; omega)
              have Ba1 := Box.kept Xa1.out hk (fun hm => by have := Dx0 _ hm; have := Ex0 _ hm; have := sox0; omega)
              have Bw0 := Box.kept Xw0.out hk (fun hm => by have := Dx0 _ hm; have := Ex0 _ hm; have := ew0; omega)
              have Rw0 := kVersion.M_move (fun b hb => hk.block b (kVersion.M_lt Zw0.out b hb) (fun hm => by have := Dx0 _ hm; have := Ex0 _ hm; have := Dw0 _ hb; have := Ew0 _ hb; omega)) Zw0.out
              have Bx1 := Box.kept Xx1.out hk (fun hm => by have := Dx0 _ hm; have := Ex0 _ hm; have := ex1; omega)
              have Rx1 := kEdit.M_move (fun b hb => hk.block b (kEdit.M_lt Zx1.out b hb) (fun hm => by have := Dx0 _ hm; have := Ex0 _ hm; have := Dx1 _ hb; have := Ex1 _ hb; omega)) Zx1.out
              have Bg0 := Box.kept Xg0.out hk (fun hm => by have := Dx0 _ hm; have := Ex0 _ hm; have := eg0; omega)
              have Rg0 := kVersion.M_move (fun b hb => hk.block b (kVersion.M_lt Zg0.out b hb) (fun hm => by have := Dx0 _ hm; have := Ex0 _ hm; have := Dg0 _ hb; have := Eg0 _ hb; omega)) Zg0.out
              have HB10 := Lib.hid (HB9.out.trans (hk.toBelow HB9.out.size (fun b hb => by have := Dx0 _ hb; omega)))
              clear Xa0 Xa1 Xw0 Zw0 Xx0 Zx0 Xx1 Zx1 Xg0 Zg0 HB9 hk
              have ba0_0 := Ba0.cell 0 (v := .int .i64 a0.fNext) rfl
              have ba0_1 := Ba0.cell 1 (v := .int .i64 a0.fSeq) rfl
              have ba0_2 := Ba0.cell 2 (v := v0_2) rfl
              have ba1_0 := Ba1.cell 0 (v := .int .i64 a1.fNext) rfl
              have ba1_1 := Ba1.cell 1 (v := .int .i64 a1.fSeq) rfl
              have ba1_2 := Ba1.cell 2 (v := v1_2) rfl
              have ba1_3 := Ba1.cell 3 (v := v1_3) rfl
              have bw0_0 := Bw0.cell 0 (v := .int .i64 (apV a0 a1).fNext) rfl
              have bw0_1 := Bw0.cell 1 (v := .int .i64 (apV a0 a1).fSeq) rfl
              have bw0_2 := Bw0.cell 2 (v := pw0_2) rfl
              have bx1_0 := Bx1.cell 0 (v := .int .i64 a1.fNext) rfl
              have bx1_1 := Bx1.cell 1 (v := .int .i64 a1.fSeq) rfl
              have bx1_2 := Bx1.cell 2 (v := px1_2) rfl
              have bx1_3 := Bx1.cell 3 (v := px1_3) rfl
              have bg0_0 := Bg0.cell 0 (v := .int .i64 (apV a0 a1).fNext) rfl
              have bg0_1 := Bg0.cell 1 (v := .int .i64 (apV a0 a1).fSeq) rfl
              have bg0_2 := Bg0.cell 2 (v := pg0_2) rfl
              have Xa0 := Lib.hid Ba0
              have Xa1 := Lib.hid Ba1
              have Xw0 := Lib.hid Bw0
              have Zw0 := Lib.hid Rw0
              have Xx1 := Lib.hid Bx1
              have Zx1 := Lib.hid Rx1
              have Xg0 := Lib.hid Bg0
              have Zg0 := Lib.hid Rg0
              clear Ba0 Ba1 Bw0 Rw0 Bx1 Rx1 Bg0 Rg0
              have m2 := mkEdit_sm (k := k1_) (szEdit_sm (n := 1048576) (x := a1) (by omega))
              have n2 := mkEdit_le (a1) k1_
              have l2 : (mkEdit (a1) k1_).2 ≤ 4611686018427387904 := by omega
              go_wp2_with fail
              (with_reducible refine (markEdit_k Zx1.out Nx1 (by omega) l2 (szEdit_sm (n := 140737488355328) (x := a1) (by omega))).mono ?_)
              rintro e w11 ⟨rfl, hr, hk⟩
              clear hr
              generalize (mkEdit (a1) k1_).2 = k2_ at *
              clear ba0_0 ba0_1 ba0_2 ba1_0 ba1_1 ba1_2 ba1_3 bw0_0 bw0_1 bw0_2 bx1_0 bx1_1 bx1_2 bx1_3 bg0_0 bg0_1 bg0_2
              replace sz0 := Nat.le_trans sz0 hk.size
              have Ba0 := Box.kept Xa0.out hk (fun hm => by have := Dx1 _ hm; have := Ex1 _ hm; have := sox1; omega)
              have Ba1 := Box.kept Xa1.out hk (fun hm => by have := Dx1 _ hm; have := Ex1 _ hm; have := sox1; omega)
              have Bw0 := Box.kept Xw0.out hk (fun hm => by have := Dx1 _ hm; have := Ex1 _ hm; have := ew0; omega)
              have Rw0 := kVersion.M_move (fun b hb => hk.block b (kVersion.M_lt Zw0.out b hb) (fun hm => by have := Dx1 _ hm; have := Ex1 _ hm; have := Dw0 _ hb; have := Ew0 _ hb; omega)) Zw0.out
              have Bg0 := Box.kept Xg0.out hk (fun hm => by have := Dx1 _ hm; have := Ex1 _ hm; have := eg0; omega)
              have Rg0 := kVersion.M_move (fun b hb => hk.block b (kVersion.M_lt Zg0.out b hb) (fun hm => by have := Dx1 _ hm; have := Ex1 _ hm; have := Dg0 _ hb; have := Eg0 _ hb; omega)) Zg0.out
              have HB11 := Lib.hid (HB10.out.trans (hk.toBelow HB10.out.size (fun b hb => by have := Dx1 _ hb; omega)))
              clear Xa0 Xa1 Xw0 Zw0 Xx1 Zx1 Xg0 Zg0 HB10 hk
              have ba0_0 := Ba0.cell 0 (v := .int .i64 a0.fNext) rfl
              have ba0_1 := Ba0.cell 1 (v := .int .i64 a0.fSeq) rfl
              have ba0_2 := Ba0.cell 2 (v := v0_2) rfl
              have ba1_0 := Ba1.cell 0 (v := .int .i64 a1.fNext) rfl
              have ba1_1 := Ba1.cell 1 (v := .int .i64 a1.fSeq) rfl
              have ba1_2 := Ba1.cell 2 (v := v1_2) rfl
              have ba1_3 := Ba1.cell 3 (v := v1_3) rfl
              have bw0_0 := Bw0.cell 0 (v := .int .i64 (apV a0 a1).fNext) rfl
              have bw0_1 := Bw0.cell 1 (v := .int .i64 (apV a0 a1).fSeq) rfl
              have bw0_2 := Bw0.cell 2 (v := pw0_2) rfl
              have bg0_0 := Bg0.cell 0 (v := .int .i64 (apV a0 a1).fNext) rfl
              have bg0_1 := Bg0.cell 1 (v := .int .i64 (apV a0 a1).fSeq) rfl
              have bg0_2 := Bg0.cell 2 (v := pg0_2) rfl
              have Xa0 := Lib.hid Ba0
              have Xa1 := Lib.hid Ba1
              have Xw0 := Lib.hid Bw0
              have Zw0 := Lib.hid Rw0
              have Xg0 := Lib.hid Bg0
              have Zg0 := Lib.hid Rg0
              clear Ba0 Ba1 Bw0 Rw0 Bg0 Rg0
              go_wp2_with fail
              (with_reducible refine (eqVersion_k (kVersion.M_K Zg0.out) (kVersion.M_K Zw0.out) (smVersion_le y0 (by decide))).mono ?_)
              rintro e w12 ⟨rfl, hb⟩
              replace sz0 := Nat.le_trans sz0 hb.size
              have Ba0 := Xa0.out.below hb
              have Ba1 := Xa1.out.below hb
              have Bw0 := Xw0.out.below hb
              have Rw0 := Rp.M_below Zw0.out hb
              have Bg0 := Xg0.out.below hb
              have Rg0 := Rp.M_below Zg0.out hb
              have HB12 := Lib.hid (HB11.out.trans (hb.mono HB11.out.size))
              clear Xa0 Xa1 Xw0 Zw0 Xg0 Zg0 HB11 hb
              clear ba0_0 ba0_1 ba0_2 ba1_0 ba1_1 ba1_2 ba1_3 bw0_0 bw0_1 bw0_2 bg0_0 bg0_1 bg0_2
              have ba0_0 := Ba0.cell 0 (v := .int .i64 a0.fNext) rfl
              have ba0_1 := Ba0.cell 1 (v := .int .i64 a0.fSeq) rfl
              have ba0_2 := Ba0.cell 2 (v := v0_2) rfl
              have ba1_0 := Ba1.cell 0 (v := .int .i64 a1.fNext) rfl
              have ba1_1 := Ba1.cell 1 (v := .int .i64 a1.fSeq) rfl
              have ba1_2 := Ba1.cell 2 (v := v1_2) rfl
              have ba1_3 := Ba1.cell 3 (v := v1_3) rfl
              have bw0_0 := Bw0.cell 0 (v := .int .i64 (apV a0 a1).fNext) rfl
              have bw0_1 := Bw0.cell 1 (v := .int .i64 (apV a0 a1).fSeq) rfl
              have bw0_2 := Bw0.cell 2 (v := pw0_2) rfl
              have bg0_0 := Bg0.cell 0 (v := .int .i64 (apV a0 a1).fNext) rfl
              have bg0_1 := Bg0.cell 1 (v := .int .i64 (apV a0 a1).fSeq) rfl
              have bg0_2 := Bg0.cell 2 (v := pg0_2) rfl
              have Xa0 := Lib.hid Ba0
              have Xa1 := Lib.hid Ba1
              have Xw0 := Lib.hid Bw0
              have Zw0 := Lib.hid Rw0
              have Xg0 := Lib.hid Bg0
              have Zg0 := Lib.hid Rg0
              clear Ba0 Ba1 Bw0 Rw0 Bg0 Rg0
              have m3 := mkVersion_sm (k := 1) y0
              have n3 := mkVersion_le (apV a0 a1) 1
              have l3 : (mkVersion (apV a0 a1) 1).2 ≤ 4611686018427387904 := by omega
              go_wp2_with fail
              (with_reducible refine (markVersion_k Zg0.out Ng0 (by omega) l3 (smVersion_le y0 (by decide))).mono ?_)
              rintro e w13 ⟨rfl, hr, hk⟩
              have Rg0 := hr; clear hr
              clear ba0_0 ba0_1 ba0_2 ba1_0 ba1_1 ba1_2 ba1_3 bw0_0 bw0_1 bw0_2 bg0_0 bg0_1 bg0_2
              replace sz0 := Nat.le_trans sz0 hk.size
              have Ba0 := Box.kept Xa0.out hk (fun hm => by have := Dg0 _ hm; have := Eg0 _ hm; have := sog0; omega)
              have Ba1 := Box.kept Xa1.out hk (fun hm => by have := Dg0 _ hm; have := Eg0 _ hm; have := sog0; omega)
              have Bw0 := Box.kept Xw0.out hk (fun hm => by have := Dg0 _ hm; have := Eg0 _ hm; have := ew0; omega)
              have Rw0 := kVersion.M_move (fun b hb => hk.block b (kVersion.M_lt Zw0.out b hb) (fun hm => by have := Dg0 _ hm; have := Eg0 _ hm; have := Dw0 _ hb; have := Ew0 _ hb; omega)) Zw0.out
              have Bg0 := Box.kept Xg0.out hk (fun hm => by exact (Ng0_g0 _ hm) rfl)
              have HB13 := Lib.hid (HB12.out.trans (hk.toBelow HB12.out.size (fun b hb => by have := Dg0 _ hb; omega)))
              clear Xa0 Xa1 Xw0 Zw0 Xg0 Zg0 HB12 hk
              have ba0_0 := Ba0.cell 0 (v := .int .i64 a0.fNext) rfl
              have ba0_1 := Ba0.cell 1 (v := .int .i64 a0.fSeq) rfl
              have ba0_2 := Ba0.cell 2 (v := v0_2) rfl
              have ba1_0 := Ba1.cell 0 (v := .int .i64 a1.fNext) rfl
              have ba1_1 := Ba1.cell 1 (v := .int .i64 a1.fSeq) rfl
              have ba1_2 := Ba1.cell 2 (v := v1_2) rfl
              have ba1_3 := Ba1.cell 3 (v := v1_3) rfl
              have bw0_0 := Bw0.cell 0 (v := .int .i64 (apV a0 a1).fNext) rfl
              have bw0_1 := Bw0.cell 1 (v := .int .i64 (apV a0 a1).fSeq) rfl
              have bw0_2 := Bw0.cell 2 (v := pw0_2) rfl
              have bg0_0 := Bg0.cell 0 (v := .int .i64 (apV a0 a1).fNext) rfl
              have bg0_1 := Bg0.cell 1 (v := .int .i64 (apV a0 a1).fSeq) rfl
              have bg0_2 := Bg0.cell 2 (v := pg0_2) rfl
              have Xa0 := Lib.hid Ba0
              have Xa1 := Lib.hid Ba1
              have Xw0 := Lib.hid Bw0
              have Zw0 := Lib.hid Rw0
              have Xg0 := Lib.hid Bg0
              have Zg0 := Lib.hid Rg0
              clear Ba0 Ba1 Bw0 Rw0 Bg0 Rg0
              generalize hk3 : (mkVersion (apV a0 a1) 1).2 = k3_ at n3 m3 l3 ⊢
              go_wp2_with fail
              (with_reducible refine (heldVersion_k (kVersion.M_K Zg0.out) (by omega) (by rw [hk3]; omega) (smVersion_le y0 (by decide))).mono ?_)
              rintro e w14 ⟨rfl, hb⟩
              rw [hk3]
              replace sz0 := Nat.le_trans sz0 hb.size
              have Ba0 := Xa0.out.below hb
              have Ba1 := Xa1.out.below hb
              have Bw0 := Xw0.out.below hb
              have Rw0 := Rp.M_below Zw0.out hb
              have Bg0 := Xg0.out.below hb
              have Rg0 := Rp.M_below Zg0.out hb
              have HB14 := Lib.hid (HB13.out.trans (hb.mono HB13.out.size))
              clear Xa0 Xa1 Xw0 Zw0 Xg0 Zg0 HB13 hb
              clear ba0_0 ba0_1 ba0_2 ba1_0 ba1_1 ba1_2 ba1_3 bw0_0 bw0_1 bw0_2 bg0_0 bg0_1 bg0_2
              have ba0_0 := Ba0.cell 0 (v := .int .i64 a0.fNext) rfl
              have ba0_1 := Ba0.cell 1 (v := .int .i64 a0.fSeq) rfl
              have ba0_2 := Ba0.cell 2 (v := v0_2) rfl
              have ba1_0 := Ba1.cell 0 (v := .int .i64 a1.fNext) rfl
              have ba1_1 := Ba1.cell 1 (v := .int .i64 a1.fSeq) rfl
              have ba1_2 := Ba1.cell 2 (v := v1_2) rfl
              have ba1_3 := Ba1.cell 3 (v := v1_3) rfl
              have bw0_0 := Bw0.cell 0 (v := .int .i64 (apV a0 a1).fNext) rfl
              have bw0_1 := Bw0.cell 1 (v := .int .i64 (apV a0 a1).fSeq) rfl
              have bw0_2 := Bw0.cell 2 (v := pw0_2) rfl
              have bg0_0 := Bg0.cell 0 (v := .int .i64 (apV a0 a1).fNext) rfl
              have bg0_1 := Bg0.cell 1 (v := .int .i64 (apV a0 a1).fSeq) rfl
              have bg0_2 := Bg0.cell 2 (v := pg0_2) rfl
              have Xa0 := Lib.hid Ba0
              have Xa1 := Lib.hid Ba1
              have Xw0 := Lib.hid Bw0
              have Zw0 := Lib.hid Rw0
              have Xg0 := Lib.hid Bg0
              have Zg0 := Lib.hid Rg0
              clear Ba0 Ba1 Bw0 Rw0 Bg0 Rg0
              have nk35 : ¬ k3_ < 0 := by omega
              go_upto_region 31 with fail
              go_cut [15, 16] from 15 to 16 (fun s15 s16 wx => HasApplyEdit a0 a1 w14.heap.size w14 wx s15 ∧ s16 = .bool (apOk a0 a1))
              case first =>
                have ya0 : w.heap.size < w14.heap.size := Xa0.out.lt
                have ya1 : (w.heap.size + 1) < w14.heap.size := Xa1.out.lt
                have yw0 : gw0 < w14.heap.size := Xw0.out.lt
                have yg0 : gg0 < w14.heap.size := Xg0.out.lt
                have yh := HB14.out.size
                go_region_held3 (fun w' => Below w14.heap.size w14 w' ∧ ∀ b j, b < w14.heap.size → w'.cell? ⟨b, j, none⟩ = w14.cell? ⟨b, j, none⟩)
                  (first | ((try go_split_ands); refine SBof ?_; repeat (first | assumption | (with_reducible exact Below.refl _ _) | (with_reducible refine below_call ?_ hc) | (with_reducible refine below_call ?_ hb0) | (with_reducible refine below_call ?_ hb1) | (with_reducible refine below_call ?_ hb) | (with_reducible refine Below.drew ?_) | (with_reducible refine below_alloc2 ?_ _) | (with_reducible refine Below.setCell ?_ (by first | (simp; done) | omega | (simp; omega)) _))))
                  (first
                    | (go_at_call 7; ((with_reducible refine (toVersion_k (kVersion.K_below (HB14.out.trans (Below.mono (by repeat (first | assumption | (with_reducible exact Below.refl _ _) | (with_reducible refine below_call ?_ hc) | (with_reducible refine below_call ?_ hb0) | (with_reducible refine below_call ?_ hb1) | (with_reducible refine below_call ?_ hb) | (with_reducible refine Below.drew ?_) | (with_reducible refine below_alloc2 ?_ _))) HB14.out.size)).block G0.out) (szVersion_sm (n := 1048576) (x := a0) (by omega))).mono ?_); rintro e wt0 ⟨ds0, F0_, rfl, ra0, rb0, rc0, hb0⟩; have zs0 := hb0.size; (try simp at zs0); (first | have BG0 := Box.below BG0 hb0 | have BG0 := Box.below (Box.drew (Box.new (T := 32) (cs := #[.int .i64 0, .int .i64 0, .slice none 0 0]) rfl)) hb0 | have BG0 := Box.below (Box.new (T := 32) (cs := #[.int .i64 0, .int .i64 0, .slice none 0 0]) rfl) hb0 | skip)))
                    | (go_at_call 8; ((with_reducible refine (toEdit_k (kEdit.K_below (HB14.out.trans (Below.mono (by repeat (first | assumption | (with_reducible exact Below.refl _ _) | (with_reducible refine below_call ?_ hc) | (with_reducible refine below_call ?_ hb0) | (with_reducible refine below_call ?_ hb1) | (with_reducible refine below_call ?_ hb) | (with_reducible refine Below.drew ?_) | (with_reducible refine below_alloc2 ?_ _))) HB14.out.size)).block G1.out) (szEdit_sm (n := 1048576) (x := a1) (by omega))).mono ?_); rintro e wt1 ⟨ds1, F1_, rfl, ra1, rb1, rc1, hb1⟩; have zs1 := hb1.size; (try simp at zs1); (first | have BG0 := Box.below BG0 hb1 | have BG0 := Box.below (Box.drew (Box.new (T := 32) (cs := #[.int .i64 0, .int .i64 0, .slice none 0 0]) rfl)) hb1 | have BG0 := Box.below (Box.new (T := 32) (cs := #[.int .i64 0, .int .i64 0, .slice none 0 0]) rfl) hb1 | skip)))
                    | (go_at_call 9; ((with_reducible refine (iApplyEdit_k (kVersion.K_below ((by repeat (first | assumption | (with_reducible exact Below.refl _ _) | (with_reducible refine below_call ?_ hc) | (with_reducible refine below_call ?_ hb0) | (with_reducible refine below_call ?_ hb1) | (with_reducible refine below_call ?_ hb) | (with_reducible refine Below.drew ?_) | (with_reducible refine below_alloc2 ?_ _))) : Below _ _ _).block (kVersion.M_K ra0)) h0 (by have := (szVersion_sm (n := 1048576) (x := a0) (by omega)); exact this) (kEdit.K_below ((by repeat (first | assumption | (with_reducible exact Below.refl _ _) | (with_reducible refine below_call ?_ hc) | (with_reducible refine below_call ?_ hb0) | (with_reducible refine below_call ?_ hb1) | (with_reducible refine below_call ?_ hb) | (with_reducible refine Below.drew ?_) | (with_reducible refine below_alloc2 ?_ _))) : Below _ _ _).block (kEdit.M_K ra1)) h1 (by have := (szEdit_sm (n := 1048576) (x := a1) (by omega)); exact this)).mono ?_); rintro e wz ⟨cd0, FD0, rfl, rd0, rd_1, rd_2, hc⟩; have zs_c := hc.size; (try simp at zs_c); obtain ⟨pd0_2, FD0_2, rfl, rfl, pd0_r2⟩ := kVersion_open rd0; obtain ⟨pd0_A2, pd0_C2, rfl, _, _⟩ := Rp.Row_K pd0_r2; (first | have BG0 := Box.below BG0 hc | have BG0 := Box.below (Box.drew (Box.new (T := 32) (cs := #[.int .i64 0, .int .i64 0, .slice none 0 0]) rfl)) hc | have BG0 := Box.below (Box.new (T := 32) (cs := #[.int .i64 0, .int .i64 0, .slice none 0 0]) rfl) hc | skip); (try (have q0_0 := BG0.cell 0 (v := .int .i64 0) rfl; have q0_1 := BG0.cell 1 (v := .int .i64 0) rfl; have q0_2 := BG0.cell 2 (v := .slice none 0 0) rfl; have fg0 := BG0.fro)))))
                all_goals (go_wp2_with fail; go_meet; go_light)
                all_goals
                  have K : Below w14.heap.size w14 wz := (by repeat (first | assumption | (with_reducible exact Below.refl _ _) | (with_reducible refine below_call ?_ hc) | (with_reducible refine below_call ?_ hb0) | (with_reducible refine below_call ?_ hb1) | (with_reducible refine below_call ?_ hb) | (with_reducible refine Below.drew ?_) | (with_reducible refine below_alloc2 ?_ _)))
                  first
                    | (refine ⟨?_, rfl⟩; with_reducible refine Has.new (d := kVersion) (kVersion_make pd0_r2) rd_2 ?_ K (Nat.le_refl _); exact (fun b hm => by have := rd_1 b hm; first | omega | (simp at this; omega)))
                    | (refine ⟨?_, rfl⟩; exact Has.old (d := kVersion) (kVersion_make pd0_r2) rd_2 (fun b hm => by have := rd_1 b hm; first | omega | (simp at this; omega)) K BG0 (by first | omega | (simp; omega) | (simp; done)) (Nat.le_refl _) rfl)
              case rest =>
                rename World => w15
                obtain ⟨⟨gh0, Fh0, _, rfl, Bh0, Rh0, Nh0, dh0, eh0, hb⟩, rfl⟩ := hcut
                obtain ⟨ph0_2, Fh0, rfl, rfl, rh0_2⟩ := kVersion_open Rh0
                have Rh0 := kVersion_make rh0_2
                clear rh0_2
                have Dh0 := fun b hb => (dh0 b hb).1; have Nh0_h0 := fun b hb => (dh0 b hb).2; clear dh0
                have eh0 := And.intro eh0 Bh0.lt
                have Eh0 := kVersion.M_lt Rh0
                have zzh0 := hb.size
                have soh0 := sz0
                replace sz0 := Nat.le_trans sz0 hb.size
                have Ba0 := Xa0.out.below hb
                have Ba1 := Xa1.out.below hb
                have Bw0 := Xw0.out.below hb
                have Rw0 := Rp.M_below Zw0.out hb
                have Bg0 := Xg0.out.below hb
                have Rg0 := Rp.M_below Zg0.out hb
                have HB15 := Lib.hid (HB14.out.trans (hb.mono HB14.out.size))
                clear Xa0 Xa1 Xw0 Zw0 Xg0 Zg0 HB14 hb
                clear ba0_0 ba0_1 ba0_2 ba1_0 ba1_1 ba1_2 ba1_3 bw0_0 bw0_1 bw0_2 bg0_0 bg0_1 bg0_2
                have ba0_0 := Ba0.cell 0 (v := .int .i64 a0.fNext) rfl
                have ba0_1 := Ba0.cell 1 (v := .int .i64 a0.fSeq) rfl
                have ba0_2 := Ba0.cell 2 (v := v0_2) rfl
                have ba1_0 := Ba1.cell 0 (v := .int .i64 a1.fNext) rfl
                have ba1_1 := Ba1.cell 1 (v := .int .i64 a1.fSeq) rfl
                have ba1_2 := Ba1.cell 2 (v := v1_2) rfl
                have ba1_3 := Ba1.cell 3 (v := v1_3) rfl
                have bw0_0 := Bw0.cell 0 (v := .int .i64 (apV a0 a1).fNext) rfl
                have bw0_1 := Bw0.cell 1 (v := .int .i64 (apV a0 a1).fSeq) rfl
                have bw0_2 := Bw0.cell 2 (v := pw0_2) rfl
                have bg0_0 := Bg0.cell 0 (v := .int .i64 (apV a0 a1).fNext) rfl
                have bg0_1 := Bg0.cell 1 (v := .int .i64 (apV a0 a1).fSeq) rfl
                have bg0_2 := Bg0.cell 2 (v := pg0_2) rfl
                have bh0_0 := Bh0.cell 0 (v := .int .i64 (apV a0 a1).fNext) rfl
                have bh0_1 := Bh0.cell 1 (v := .int .i64 (apV a0 a1).fSeq) rfl
                have bh0_2 := Bh0.cell 2 (v := ph0_2) rfl
                have Xa0 := Lib.hid Ba0
                have Xa1 := Lib.hid Ba1
                have Xw0 := Lib.hid Bw0
                have Zw0 := Lib.hid Rw0
                have Xg0 := Lib.hid Bg0
                have Zg0 := Lib.hid Rg0
                have Xh0 := Lib.hid Bh0
                have Zh0 := Lib.hid Rh0
                clear Ba0 Ba1 Bw0 Rw0 Bg0 Rg0 Bh0 Rh0
                go_wp2_with fail
                (with_reducible refine (eqVersion_k (kVersion.M_K Zh0.out) (kVersion.M_K Zw0.out) (smVersion_le y0 (by decide))).mono ?_)
                rintro e w16 ⟨rfl, hb⟩
                replace sz0 := Nat.le_trans sz0 hb.size
                have Ba0 := Xa0.out.below hb
                have Ba1 := Xa1.out.below hb
                have Bw0 := Xw0.out.below hb
                have Rw0 := Rp.M_below Zw0.out hb
                have Bg0 := Xg0.out.below hb
                have Rg0 := Rp.M_below Zg0.out hb
                have Bh0 := Xh0.out.below hb
                have Rh0 := Rp.M_below Zh0.out hb
                have HB16 := Lib.hid (HB15.out.trans (hb.mono HB15.out.size))
                clear Xa0 Xa1 Xw0 Zw0 Xg0 Zg0 Xh0 Zh0 HB15 hb
                clear ba0_0 ba0_1 ba0_2 ba1_0 ba1_1 ba1_2 ba1_3 bw0_0 bw0_1 bw0_2 bg0_0 bg0_1 bg0_2 bh0_0 bh0_1 bh0_2
                have ba0_0 := Ba0.cell 0 (v := .int .i64 a0.fNext) rfl
                have ba0_1 := Ba0.cell 1 (v := .int .i64 a0.fSeq) rfl
                have ba0_2 := Ba0.cell 2 (v := v0_2) rfl
                have ba1_0 := Ba1.cell 0 (v := .int .i64 a1.fNext) rfl
                have ba1_1 := Ba1.cell 1 (v := .int .i64 a1.fSeq) rfl
                have ba1_2 := Ba1.cell 2 (v := v1_2) rfl
                have ba1_3 := Ba1.cell 3 (v := v1_3) rfl
                have bw0_0 := Bw0.cell 0 (v := .int .i64 (apV a0 a1).fNext) rfl
                have bw0_1 := Bw0.cell 1 (v := .int .i64 (apV a0 a1).fSeq) rfl
                have bw0_2 := Bw0.cell 2 (v := pw0_2) rfl
                have bg0_0 := Bg0.cell 0 (v := .int .i64 (apV a0 a1).fNext) rfl
                have bg0_1 := Bg0.cell 1 (v := .int .i64 (apV a0 a1).fSeq) rfl
                have bg0_2 := Bg0.cell 2 (v := pg0_2) rfl
                have bh0_0 := Bh0.cell 0 (v := .int .i64 (apV a0 a1).fNext) rfl
                have bh0_1 := Bh0.cell 1 (v := .int .i64 (apV a0 a1).fSeq) rfl
                have bh0_2 := Bh0.cell 2 (v := ph0_2) rfl
                have Xa0 := Lib.hid Ba0
                have Xa1 := Lib.hid Ba1
                have Xw0 := Lib.hid Bw0
                have Zw0 := Lib.hid Rw0
                have Xg0 := Lib.hid Bg0
                have Zg0 := Lib.hid Rg0
                have Xh0 := Lib.hid Bh0
                have Zh0 := Lib.hid Rh0
                clear Ba0 Ba1 Bw0 Rw0 Bg0 Rg0 Bh0 Rh0
                go_wp2_with fail
                (with_reducible refine (heldVersion_k (kVersion.M_K Zg0.out) (by omega) (by rw [hk3]; omega) (smVersion_le y0 (by decide))).mono ?_)
                rintro e w17 ⟨rfl, hb⟩
                rw [hk3]
                replace sz0 := Nat.le_trans sz0 hb.size
                have Ba0 := Xa0.out.below hb
                have Ba1 := Xa1.out.below hb
                have Bw0 := Xw0.out.below hb
                have Rw0 := Rp.M_below Zw0.out hb
                have Bg0 := Xg0.out.below hb
                have Rg0 := Rp.M_below Zg0.out hb
                have Bh0 := Xh0.out.below hb
                have Rh0 := Rp.M_below Zh0.out hb
                have HB17 := Lib.hid (HB16.out.trans (hb.mono HB16.out.size))
                clear Xa0 Xa1 Xw0 Zw0 Xg0 Zg0 Xh0 Zh0 HB16 hb
                clear ba0_0 ba0_1 ba0_2 ba1_0 ba1_1 ba1_2 ba1_3 bw0_0 bw0_1 bw0_2 bg0_0 bg0_1 bg0_2 bh0_0 bh0_1 bh0_2
                have ba0_0 := Ba0.cell 0 (v := .int .i64 a0.fNext) rfl
                have ba0_1 := Ba0.cell 1 (v := .int .i64 a0.fSeq) rfl
                have ba0_2 := Ba0.cell 2 (v := v0_2) rfl
                have ba1_0 := Ba1.cell 0 (v := .int .i64 a1.fNext) rfl
                have ba1_1 := Ba1.cell 1 (v := .int .i64 a1.fSeq) rfl
                have ba1_2 := Ba1.cell 2 (v := v1_2) rfl
                have ba1_3 := Ba1.cell 3 (v := v1_3) rfl
                have bw0_0 := Bw0.cell 0 (v := .int .i64 (apV a0 a1).fNext) rfl
                have bw0_1 := Bw0.cell 1 (v := .int .i64 (apV a0 a1).fSeq) rfl
                have bw0_2 := Bw0.cell 2 (v := pw0_2) rfl
                have bg0_0 := Bg0.cell 0 (v := .int .i64 (apV a0 a1).fNext) rfl
                have bg0_1 := Bg0.cell 1 (v := .int .i64 (apV a0 a1).fSeq) rfl
                have bg0_2 := Bg0.cell 2 (v := pg0_2) rfl
                have bh0_0 := Bh0.cell 0 (v := .int .i64 (apV a0 a1).fNext) rfl
                have bh0_1 := Bh0.cell 1 (v := .int .i64 (apV a0 a1).fSeq) rfl
                have bh0_2 := Bh0.cell 2 (v := ph0_2) rfl
                have Xa0 := Lib.hid Ba0
                have Xa1 := Lib.hid Ba1
                have Xw0 := Lib.hid Bw0
                have Zw0 := Lib.hid Rw0
                have Xg0 := Lib.hid Bg0
                have Zg0 := Lib.hid Rg0
                have Xh0 := Lib.hid Bh0
                have Zh0 := Lib.hid Rh0
                clear Ba0 Ba1 Bw0 Rw0 Bg0 Rg0 Bh0 Rh0
                have nk36 : ¬ k3_ < 0 := by omega
                go_wp2
                go_ret
                exact ⟨rfl, HB17.out⟩
end Go.Proofs.Ytiliaijgkedhnaa
