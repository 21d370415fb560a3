/- Law FnExactTakeChunk: at every input it returns true; what was there stays. -/
import Derived.Test.YtioelmhikablcaaTkF
namespace Go.Proofs.Ytioelmhikablcaa
open Go Go.RowKit Go.Sort
set_option linter.unusedVariables false
set_option linter.unusedSimpArgs false

abbrev HasTakeChunk (a0 : DTaking) (a1 : DChunk) (N : Nat) (w wx : World) (s : Value) : Prop := Has kTaking 33 (tcX a0.fWant a0.fGot a1) N w wx s
set_option maxHeartbeats 4000000 in
set_option maxRecDepth 100000 in
theorem law_TakeChunk (a0 : DTaking) (v0_0 v0_1 : Value) (a1 : DChunk) (w : World) (g0 : kTaking.K w a0 [v0_0, v0_1]) (g1 : kChunk.K w a1 [.int .i64 a1.fFile, .int .i64 a1.fAt, .string a1.fData, .int .u32 a1.fSum]) (h0 : wfTaking a0) (h1 : wfChunk a1) (y0 : smTaking 1048576 a0 → smTaking 4194304 (tcX a0.fWant a0.fGot a1)) : Calls Try.prog 4 #[.agg #[v0_0, v0_1], .agg #[.int .i64 a1.fFile, .int .i64 a1.fAt, .string a1.fData, .int .u32 a1.fSum]] w
    fun e w' => e = .returned (.bool true) ∧ Below w.heap.size w w' := by
  have G0 := Lib.hid g0; clear g0
  have G1 := Lib.hid g1; clear g1
  go_enter Try.func4, Try.ntmps4
  go_wp2_with fail
  (with_reducible refine (szTaking_k (kTaking.K_below ((by repeat (first | (with_reducible exact Below.refl _ _) | (with_reducible refine Below.alloc ?_ (by first | (with_reducible exact Nat.le_refl _) | (simp; done) | (simp; omega)) _))) : Below w.heap.size w _).block G0.out) (by omega) (by omega) h0).mono ?_)
  rintro e w1 ⟨rfl, hb⟩
  have Ba0 : Box w1 w.heap.size #[v0_0, v0_1] 25 := Box.below (Box.alloc (Box.new rfl)) hb
  have Ba1 : Box w1 (w.heap.size + 1) #[.int .i64 a1.fFile, .int .i64 a1.fAt, .string a1.fData, .int .u32 a1.fSum] 42 := Box.below (Box.new (by simp)) hb
  have HB1 := Lib.hid (Below.trans (by repeat (first | (with_reducible exact Below.refl _ _) | (with_reducible refine Below.alloc ?_ (by first | (with_reducible exact Nat.le_refl _) | (simp; done) | (simp; omega)) _))) (hb.mono (by first | (with_reducible exact Nat.le_refl _) | (simp; done) | (simp; omega))) : Below w.heap.size w w1)
  have sz0 : w.heap.size + 2 ≤ w1.heap.size := by have := hb.size; (try simp at this); omega
  clear hb
  have ba0_0 := Ba0.cell 0 (v := v0_0) rfl
  have ba0_1 := Ba0.cell 1 (v := v0_1) rfl
  have ba1_0 := Ba1.cell 0 (v := .int .i64 a1.fFile) rfl
  have ba1_1 := Ba1.cell 1 (v := .int .i64 a1.fAt) rfl
  have ba1_2 := Ba1.cell 2 (v := .string a1.fData) rfl
  have ba1_3 := Ba1.cell 3 (v := .int .u32 a1.fSum) rfl
  have Xa0 := Lib.hid Ba0
  have Xa1 := Lib.hid Ba1
  clear Ba0 Ba1
  by_cases z0 : (szNTaking a0 : Int) ≤ 1048576
  case neg =>
    rw [szR_no z0]
    go_wp2
    go_ret
    exact ⟨rfl, HB1.out⟩
  case pos =>
    rw [szR_yes z0]
    go_wp2_with fail
    (with_reducible refine (szChunk_k (kChunk.K_below HB1.out.block G1.out) (by omega) (by omega) h1).mono ?_)
    rintro e w2 ⟨rfl, hb⟩
    replace sz0 := Nat.le_trans sz0 hb.size
    have Ba0 := Xa0.out.below hb
    have Ba1 := Xa1.out.below hb
    have HB2 := Lib.hid (HB1.out.trans (hb.mono HB1.out.size))
    clear Xa0 Xa1 HB1 hb
    clear ba0_0 ba0_1 ba1_0 ba1_1 ba1_2 ba1_3
    have ba0_0 := Ba0.cell 0 (v := v0_0) rfl
    have ba0_1 := Ba0.cell 1 (v := v0_1) rfl
    have ba1_0 := Ba1.cell 0 (v := .int .i64 a1.fFile) rfl
    have ba1_1 := Ba1.cell 1 (v := .int .i64 a1.fAt) rfl
    have ba1_2 := Ba1.cell 2 (v := .string a1.fData) rfl
    have ba1_3 := Ba1.cell 3 (v := .int .u32 a1.fSum) rfl
    have Xa0 := Lib.hid Ba0
    have Xa1 := Lib.hid Ba1
    clear Ba0 Ba1
    by_cases z1 : (szNChunk a1 : Int) ≤ 1048576 - (szNTaking a0 : Int)
    case neg =>
      rw [szR_no z1]
      go_wp2
      go_ret
      exact ⟨rfl, HB2.out⟩
    case pos =>
      rw [szR_yes z1]
      replace y0 := y0 (szTaking_sm (n := 1048576) (x := a0) (by omega)) 
      go_upto_region 8 with fail
      go_cut [6, 7] from 6 to 7 (fun s6 s7 wx => HasTakeChunk a0 a1 w2.heap.size w2 wx s6 ∧ s7 = .bool (tcB a0.fWant a0.fGot a1))
      case first =>
        have ya0 : w.heap.size < w2.heap.size := Xa0.out.lt
        have ya1 : (w.heap.size + 1) < w2.heap.size := Xa1.out.lt
        have yh := HB2.out.size
        go_region_held3 (fun w' => Below w2.heap.size w2 w' ∧ ∀ b j, b < w2.heap.size → w'.cell? ⟨b, j, none⟩ = w2.cell? ⟨b, j, none⟩)
          (first | ((try go_split_ands); refine SBof ?_; repeat (first | assumption | (with_reducible exact Below.refl _ _) | (with_reducible refine below_call ?_ hc) | (with_reducible refine below_call ?_ hb0) | (with_reducible refine below_call ?_ hb1) | (with_reducible refine below_call ?_ hb) | (with_reducible refine Below.drew ?_) | (with_reducible refine below_alloc2 ?_ _) | (with_reducible refine Below.setCell ?_ (by first | (simp; done) | omega | (simp; omega)) _))))
          (first
            | (go_at_call 15; (refine (toTaking_k (kTaking.K_below (HB2.out.trans (Below.mono (by repeat (first | assumption | (with_reducible exact Below.refl _ _) | (with_reducible refine below_call ?_ hc) | (with_reducible refine below_call ?_ hb0) | (with_reducible refine below_call ?_ hb1) | (with_reducible refine below_call ?_ hb) | (with_reducible refine Below.drew ?_) | (with_reducible refine below_alloc2 ?_ _))) HB2.out.size)).block G0.out) (szTaking_sm (n := 1048576) (x := a0) (by omega))).mono ?_; rintro e wt0 ⟨ds0, F0_, rfl, ra0, rb0, rc0, hb0⟩; have zs0 := hb0.size; (try simp at zs0); (first | have BG0 := Box.below BG0 hb0 | have BG0 := Box.below (Box.drew (Box.new (T := 33) (cs := #[.slice none 0 0, .slice none 0 0]) rfl)) hb0 | have BG0 := Box.below (Box.new (T := 33) (cs := #[.slice none 0 0, .slice none 0 0]) rfl) hb0 | skip)))
            | (go_at_call 24; (refine (toChunk_k (kChunk.K_below (HB2.out.trans (Below.mono (by repeat (first | assumption | (with_reducible exact Below.refl _ _) | (with_reducible refine below_call ?_ hc) | (with_reducible refine below_call ?_ hb0) | (with_reducible refine below_call ?_ hb1) | (with_reducible refine below_call ?_ hb) | (with_reducible refine Below.drew ?_) | (with_reducible refine below_alloc2 ?_ _))) HB2.out.size)).block G1.out) trivial).mono ?_; rintro e wt1 ⟨ds1, F1_, rfl, ra1, rb1, rc1, hb1⟩; have zs1 := hb1.size; (try simp at zs1); (first | have BG0 := Box.below BG0 hb1 | have BG0 := Box.below (Box.drew (Box.new (T := 33) (cs := #[.slice none 0 0, .slice none 0 0]) rfl)) hb1 | have BG0 := Box.below (Box.new (T := 33) (cs := #[.slice none 0 0, .slice none 0 0]) rfl) hb1 | skip)))
            | (go_at_call 23; (refine (sTakeChunk_k (kTaking.K_below ((by repeat (first | assumption | (with_reducible exact Below.refl _ _) | (with_reducible refine below_call ?_ hc) | (with_reducible refine below_call ?_ hb0) | (with_reducible refine below_call ?_ hb1) | (with_reducible refine below_call ?_ hb) | (with_reducible refine Below.drew ?_) | (with_reducible refine below_alloc2 ?_ _))) : Below _ _ _).block (kTaking.M_K ra0)) h0 (by have := (szTaking_sm (n := 1048576) (x := a0) (by omega)); exact this) (kChunk.K_below ((by repeat (first | assumption | (with_reducible exact Below.refl _ _) | (with_reducible refine below_call ?_ hc) | (with_reducible refine below_call ?_ hb0) | (with_reducible refine below_call ?_ hb1) | (with_reducible refine below_call ?_ hb) | (with_reducible refine Below.drew ?_) | (with_reducible refine below_alloc2 ?_ _))) : Below _ _ _).block (kChunk.M_K ra1)) h1 (by have := trivial; exact this)).mono ?_; rintro e wz ⟨cd0, FD0, rfl, rd0, rd_1, rd_2, hc⟩; have zs_c := hc.size; (try simp at zs_c); obtain ⟨pd0_0, pd0_1, FD0_0, FD0_1, rfl, rfl, pd0_r0, pd0_r1⟩ := kTaking_open rd0; obtain ⟨pd0_A0, pd0_C0, rfl, _, _⟩ := Rp.Row_K pd0_r0; obtain ⟨pd0_A1, pd0_C1, rfl, _, _⟩ := Rp.Row_K pd0_r1; (first | have BG0 := Box.below BG0 hc | have BG0 := Box.below (Box.drew (Box.new (T := 33) (cs := #[.slice none 0 0, .slice none 0 0]) rfl)) hc | have BG0 := Box.below (Box.new (T := 33) (cs := #[.slice none 0 0, .slice none 0 0]) rfl) hc | skip); (try (have q0_0 := BG0.cell 0 (v := .slice none 0 0) rfl; have q0_1 := BG0.cell 1 (v := .slice none 0 0) rfl; have fg0 := BG0.fro)))))
        all_goals (go_wp2_with fail; go_meet; go_light)
        all_goals
          have K : Below w2.heap.size w2 wz := (by repeat (first | assumption | (with_reducible exact Below.refl _ _) | (with_reducible refine below_call ?_ hc) | (with_reducible refine below_call ?_ hb0) | (with_reducible refine below_call ?_ hb1) | (with_reducible refine below_call ?_ hb) | (with_reducible refine Below.drew ?_) | (with_reducible refine below_alloc2 ?_ _)))
          first
            | (refine ⟨?_, rfl⟩; with_reducible refine Has.new (d := kTaking) (kTaking_make pd0_r0 pd0_r1) rd_2 ?_ K (Nat.le_refl _); exact (fun b hm => by have := rd_1 b hm; first | omega | (simp at this; omega)))
            | (refine ⟨?_, rfl⟩; exact Has.old (d := kTaking) (kTaking_make pd0_r0 pd0_r1) rd_2 (fun b hm => by have := rd_1 b hm; first | omega | (simp at this; omega)) K BG0 (by first | omega | (simp; omega) | (simp; done)) (Nat.le_refl _) rfl)
      case rest =>
        rename World => w3
        obtain ⟨⟨gw0, Fw0, _, rfl, Bw0, Rw0, Nw0, dw0, ew0, hb⟩, rfl⟩ := hcut
        obtain ⟨pw0_0, pw0_1, Fw0_0, Fw0_1, rfl, rfl, rw0_0, rw0_1⟩ := kTaking_open Rw0
        have Rw0 := kTaking_make rw0_0 rw0_1
        clear rw0_0 rw0_1
        have Dw0 := fun b hb => (dw0 b hb).1; have Nw0_w0 := fun b hb => (dw0 b hb).2; clear dw0
        have ew0 := And.intro ew0 Bw0.lt
        have Ew0 := kTaking.M_lt Rw0
        have zzw0 := hb.size
        have sow0 := sz0
        replace sz0 := Nat.le_trans sz0 hb.size
        have Ba0 := Xa0.out.below hb
        have Ba1 := Xa1.out.below hb
        have HB3 := Lib.hid (HB2.out.trans (hb.mono HB2.out.size))
        clear Xa0 Xa1 HB2 hb
        clear ba0_0 ba0_1 ba1_0 ba1_1 ba1_2 ba1_3
        have ba0_0 := Ba0.cell 0 (v := v0_0) rfl
        have ba0_1 := Ba0.cell 1 (v := v0_1) rfl
        have ba1_0 := Ba1.cell 0 (v := .int .i64 a1.fFile) rfl
        have ba1_1 := Ba1.cell 1 (v := .int .i64 a1.fAt) rfl
        have ba1_2 := Ba1.cell 2 (v := .string a1.fData) rfl
        have ba1_3 := Ba1.cell 3 (v := .int .u32 a1.fSum) rfl
        have bw0_0 := Bw0.cell 0 (v := pw0_0) rfl
        have bw0_1 := Bw0.cell 1 (v := pw0_1) rfl
        have Xa0 := Lib.hid Ba0
        have Xa1 := Lib.hid Ba1
        have Xw0 := Lib.hid Bw0
        have Zw0 := Lib.hid Rw0
        clear Ba0 Ba1 Bw0 Rw0
        go_upto_region 9 with fail
        go_cut [8] from 8 to 8 (fun s wx => Has kTaking 33 a0 w3.heap.size w3 wx s)
        case first =>
          go_wp2_with fail
          (with_reducible refine (toTaking_k (kTaking.K_below HB3.out.block G0.out) (szTaking_sm (n := 1048576) (x := a0) (by omega))).mono ?_)
          rintro e wa ⟨ds, F, rfl, ra, rb, rc, hb⟩
          obtain ⟨pa0, pa1, F_0, F_1, rfl, rfl, par0, par1⟩ := kTaking_open ra; obtain ⟨paA0, paC0, rfl, _, _⟩ := Rp.Row_K par0; obtain ⟨paA1, paC1, rfl, _, _⟩ := Rp.Row_K par1
          go_wp2_with fail
          go_meet
          exact Has.new (d := kTaking) (kTaking_make par0 par1) rc rb hb (Nat.le_refl _)
        case rest =>
          rename World => w4
          obtain ⟨gx0, Fx0, _, rfl, Bx0, Rx0, Nx0, dx0, ex0, hb⟩ := hcut
          obtain ⟨px0_0, px0_1, Fx0_0, Fx0_1, rfl, rfl, rx0_0, rx0_1⟩ := kTaking_open Rx0
          have Rx0 := kTaking_make rx0_0 rx0_1
          clear rx0_0 rx0_1
          have Dx0 := fun b hb => (dx0 b hb).1; have Nx0_x0 := fun b hb => (dx0 b hb).2; clear dx0
          have ex0 := And.intro ex0 Bx0.lt
          have Ex0 := kTaking.M_lt Rx0
          have zzx0 := hb.size
          have sox0 := sz0
          replace sz0 := Nat.le_trans sz0 hb.size
          have Ba0 := Xa0.out.below hb
          have Ba1 := Xa1.out.below hb
          have Bw0 := Xw0.out.below hb
          have Rw0 := Rp.M_below Zw0.out hb
          have HB4 := Lib.hid (HB3.out.trans (hb.mono HB3.out.size))
          clear Xa0 Xa1 Xw0 Zw0 HB3 hb
          clear ba0_0 ba0_1 ba1_0 ba1_1 ba1_2 ba1_3 bw0_0 bw0_1
          have ba0_0 := Ba0.cell 0 (v := v0_0) rfl
          have ba0_1 := Ba0.cell 1 (v := v0_1) rfl
          have ba1_0 := Ba1.cell 0 (v := .int .i64 a1.fFile) rfl
          have ba1_1 := Ba1.cell 1 (v := .int .i64 a1.fAt) rfl
          have ba1_2 := Ba1.cell 2 (v := .string a1.fData) rfl
          have ba1_3 := Ba1.cell 3 (v := .int .u32 a1.fSum) rfl
          have bw0_0 := Bw0.cell 0 (v := pw0_0) rfl
          have bw0_1 := Bw0.cell 1 (v := pw0_1) rfl
          have bx0_0 := Bx0.cell 0 (v := px0_0) rfl
          have bx0_1 := Bx0.cell 1 (v := px0_1) rfl
          have Xa0 := Lib.hid Ba0
          have Xa1 := Lib.hid Ba1
          have Xw0 := Lib.hid Bw0
          have Zw0 := Lib.hid Rw0
          have Xx0 := Lib.hid Bx0
          have Zx0 := Lib.hid Rx0
          clear Ba0 Ba1 Bw0 Rw0 Bx0 Rx0
          go_upto_region 10 with fail
          go_cut [9, 10] from 9 to 10 (fun s9 s10 wx => HasTakeChunk a0 a1 w4.heap.size w4 wx s9 ∧ s10 = .bool (tcB a0.fWant a0.fGot a1))
          case first =>
            have ya0 : w.heap.size < w4.heap.size := Xa0.out.lt
            have ya1 : (w.heap.size + 1) < w4.heap.size := Xa1.out.lt
            have yw0 : gw0 < w4.heap.size := Xw0.out.lt
            have yx0 : gx0 < w4.heap.size := Xx0.out.lt
            have yh := HB4.out.size
            go_region_held3 (fun w' => Below w4.heap.size w4 w' ∧ ∀ b j, b < w4.heap.size → w'.cell? ⟨b, j, none⟩ = w4.cell? ⟨b, j, none⟩)
              (first | ((try go_split_ands); refine SBof ?_; repeat (first | assumption | (with_reducible exact Below.refl _ _) | (with_reducible refine below_call ?_ hc) | (with_reducible refine below_call ?_ hb0) | (with_reducible refine below_call ?_ hb1) | (with_reducible refine below_call ?_ hb) | (with_reducible refine Below.drew ?_) | (with_reducible refine below_alloc2 ?_ _) | (with_reducible refine Below.setCell ?_ (by first | (simp; done) | omega | (simp; omega)) _))))
              (first
                | (go_at_call 24; (refine (toChunk_k (kChunk.K_below (HB4.out.trans (Below.mono (by repeat (first | assumption | (with_reducible exact Below.refl _ _) | (with_reducible refine below_call ?_ hc) | (with_reducible refine below_call ?_ hb0) | (with_reducible refine below_call ?_ hb1) | (with_reducible refine below_call ?_ hb) | (with_reducible refine Below.drew ?_) | (with_reducible refine below_alloc2 ?_ _))) HB4.out.size)).block G1.out) trivial).mono ?_; rintro e wt1 ⟨ds1, F1_, rfl, ra1, rb1, rc1, hb1⟩; have zs1 := hb1.size; (try simp at zs1); (first | have BG0 := Box.below BG0 hb1 | have BG0 := Box.below (Box.drew (Box.new (T := 33) (cs := #[.slice none 0 0, .slice none 0 0]) rfl)) hb1 | have BG0 := Box.below (Box.new (T := 33) (cs := #[.slice none 0 0, .slice none 0 0]) rfl) hb1 | skip)))
                | (go_at_call 25; (refine (iTakeChunk_k (kTaking.K_below ((by repeat (first | assumption | (with_reducible exact Below.refl _ _) | (with_reducible refine below_call ?_ hc) | (with_reducible refine below_call ?_ hb0) | (with_reducible refine below_call ?_ hb1) | (with_reducible refine below_call ?_ hb) | (with_reducible refine Below.drew ?_) | (with_reducible refine below_alloc2 ?_ _))) : Below _ _ _).block (kTaking.M_K Zx0.out)) h0 (by have := (szTaking_sm (n := 1048576) (x := a0) (by omega)); exact this) (kChunk.K_below ((by repeat (first | assumption | (with_reducible exact Below.refl _ _) | (with_reducible refine below_call ?_ hc) | (with_reducible refine below_call ?_ hb0) | (with_reducible refine below_call ?_ hb1) | (with_reducible refine below_call ?_ hb) | (with_reducible refine Below.drew ?_) | (with_reducible refine below_alloc2 ?_ _))) : Below _ _ _).block (kChunk.M_K ra1)) h1 (by have := trivial; exact this)).mono ?_; rintro e wz ⟨cd0, FD0, rfl, rd0, rd_1, rd_2, hc⟩; have zs_c := hc.size; (try simp at zs_c); obtain ⟨pd0_0, pd0_1, FD0_0, FD0_1, rfl, rfl, pd0_r0, pd0_r1⟩ := kTaking_open rd0; obtain ⟨pd0_A0, pd0_C0, rfl, _, _⟩ := Rp.Row_K pd0_r0; obtain ⟨pd0_A1, pd0_C1, rfl, _, _⟩ := Rp.Row_K pd0_r1; (first | have BG0 := Box.below BG0 hc | have BG0 := Box.below (Box.drew (Box.new (T := 33) (cs := #[.slice none 0 0, .slice none 0 0]) rfl)) hc | have BG0 := Box.below (Box.new (T := 33) (cs := #[.slice none 0 0, .slice none 0 0]) rfl) hc | skip); (try (have q0_0 := BG0.cell 0 (v := .slice none 0 0) rfl; have q0_1 := BG0.cell 1 (v := .slice none 0 0) rfl; have fg0 := BG0.fro)))))
            all_goals (go_wp2_with fail; go_meet; go_light)
            all_goals
              have K : Below w4.heap.size w4 wz := (by repeat (first | assumption | (with_reducible exact Below.refl _ _) | (with_reducible refine below_call ?_ hc) | (with_reducible refine below_call ?_ hb0) | (with_reducible refine below_call ?_ hb1) | (with_reducible refine below_call ?_ hb) | (with_reducible refine Below.drew ?_) | (with_reducible refine below_alloc2 ?_ _)))
              first
                | (refine ⟨?_, rfl⟩; with_reducible refine Has.new (d := kTaking) (kTaking_make pd0_r0 pd0_r1) rd_2 ?_ K (Nat.le_refl _); exact (fun b hm => by have := rd_1 b hm; first | omega | (simp at this; omega)))
                | (refine ⟨?_, rfl⟩; exact Has.old (d := kTaking) (kTaking_make pd0_r0 pd0_r1) rd_2 (fun b hm => by have := rd_1 b hm; first | omega | (simp at this; omega)) K BG0 (by first | omega | (simp; omega) | (simp; done)) (Nat.le_refl _) rfl)
          case rest =>
            rename World => w5
            obtain ⟨⟨gg0, Fg0, _, rfl, Bg0, Rg0, Ng0, dg0, eg0, hb⟩, rfl⟩ := hcut
            obtain ⟨pg0_0, pg0_1, Fg0_0, Fg0_1, rfl, rfl, rg0_0, rg0_1⟩ := kTaking_open Rg0
            have Rg0 := kTaking_make rg0_0 rg0_1
            clear rg0_0 rg0_1
            have Dg0 := fun b hb => (dg0 b hb).1; have Ng0_g0 := fun b hb => (dg0 b hb).2; clear dg0
            have eg0 := And.intro eg0 Bg0.lt
            have Eg0 := kTaking.M_lt Rg0
            have zzg0 := hb.size
            have sog0 := sz0
            replace sz0 := Nat.le_trans sz0 hb.size
            have Ba0 := Xa0.out.below hb
            have Ba1 := Xa1.out.below hb
            have Bw0 := Xw0.out.below hb
            have Rw0 := Rp.M_below Zw0.out hb
            have Bx0 := Xx0.out.below hb
            have Rx0 := Rp.M_below Zx0.out hb
            have HB5 := Lib.hid (HB4.out.trans (hb.mono HB4.out.size))
            clear Xa0 Xa1 Xw0 Zw0 Xx0 Zx0 HB4 hb
            clear ba0_0 ba0_1 ba1_0 ba1_1 ba1_2 ba1_3 bw0_0 bw0_1 bx0_0 bx0_1
            have ba0_0 := Ba0.cell 0 (v := v0_0) rfl
            have ba0_1 := Ba0.cell 1 (v := v0_1) rfl
            have ba1_0 := Ba1.cell 0 (v := .int .i64 a1.fFile) rfl
            have ba1_1 := Ba1.cell 1 (v := .int .i64 a1.fAt) rfl
            have ba1_2 := Ba1.cell 2 (v := .string a1.fData) rfl
            have ba1_3 := Ba1.cell 3 (v := .int .u32 a1.fSum) rfl
            have bw0_0 := Bw0.cell 0 (v := pw0_0) rfl
            have bw0_1 := Bw0.cell 1 (v := pw0_1) rfl
            have bx0_0 := Bx0.cell 0 (v := px0_0) rfl
            have bx0_1 := Bx0.cell 1 (v := px0_1) rfl
            have bg0_0 := Bg0.cell 0 (v := pg0_0) rfl
            have bg0_1 := Bg0.cell 1 (v := pg0_1) rfl
            have Xa0 := Lib.hid Ba0
            have Xa1 := Lib.hid Ba1
            have Xw0 := Lib.hid Bw0
            have Zw0 := Lib.hid Rw0
            have Xx0 := Lib.hid Bx0
            have Zx0 := Lib.hid Rx0
            have Xg0 := Lib.hid Bg0
            have Zg0 := Lib.hid Rg0
            clear Ba0 Ba1 Bw0 Rw0 Bx0 Rx0 Bg0 Rg0
            go_wp2_with fail
            (with_reducible refine (eqTaking_k (kTaking.M_K Zg0.out) (kTaking.M_K Zw0.out) (smTaking_le y0 (by decide))).mono ?_)
            rintro e w6 ⟨rfl, hb⟩
            replace sz0 := Nat.le_trans sz0 hb.size
            have Ba0 := Xa0.out.below hb
            have Ba1 := Xa1.out.below hb
            have Bw0 := Xw0.out.below hb
            have Rw0 := Rp.M_below Zw0.out hb
            have Bx0 := Xx0.out.below hb
            have Rx0 := Rp.M_below Zx0.out hb
            have Bg0 := Xg0.out.below hb
            have Rg0 := Rp.M_below Zg0.out hb
            have HB6 := Lib.hid (HB5.out.trans (hb.mono HB5.out.size))
            clear Xa0 Xa1 Xw0 Zw0 Xx0 Zx0 Xg0 Zg0 HB5 hb
            clear ba0_0 ba0_1 ba1_0 ba1_1 ba1_2 ba1_3 bw0_0 bw0_1 bx0_0 bx0_1 bg0_0 bg0_1
            have ba0_0 := Ba0.cell 0 (v := v0_0) rfl
            have ba0_1 := Ba0.cell 1 (v := v0_1) rfl
            have ba1_0 := Ba1.cell 0 (v := .int .i64 a1.fFile) rfl
            have ba1_1 := Ba1.cell 1 (v := .int .i64 a1.fAt) rfl
            have ba1_2 := Ba1.cell 2 (v := .string a1.fData) rfl
            have ba1_3 := Ba1.cell 3 (v := .int .u32 a1.fSum) rfl
            have bw0_0 := Bw0.cell 0 (v := pw0_0) rfl
            have bw0_1 := Bw0.cell 1 (v := pw0_1) rfl
            have bx0_0 := Bx0.cell 0 (v := px0_0) rfl
            have bx0_1 := Bx0.cell 1 (v := px0_1) rfl
            have bg0_0 := Bg0.cell 0 (v := pg0_0) rfl
            have bg0_1 := Bg0.cell 1 (v := pg0_1) rfl
            have Xa0 := Lib.hid Ba0
            have Xa1 := Lib.hid Ba1
            have Xw0 := Lib.hid Bw0
            have Zw0 := Lib.hid Rw0
            have Xx0 := Lib.hid Bx0
            have Zx0 := Lib.hid Rx0
            have Xg0 := Lib.hid Bg0
            have Zg0 := Lib.hid Rg0
            clear Ba0 Ba1 Bw0 Rw0 Bx0 Rx0 Bg0 Rg0
            go_upto_region 13 with fail
            have ya0 : w.heap.size < w6.heap.size := Xa0.out.lt
            have ya1 : (w.heap.size + 1) < w6.heap.size := Xa1.out.lt
            have yw0 : gw0 < w6.heap.size := Xw0.out.lt
            have yx0 : gx0 < w6.heap.size := Xx0.out.lt
            have yg0 : gg0 < w6.heap.size := Xg0.out.lt
            have yh := HB6.out.size
            go_region_held3 (fun w' => Below w6.heap.size w6 w' ∧ ∀ b j, b < w6.heap.size → w'.cell? ⟨b, j, none⟩ = w6.cell? ⟨b, j, none⟩)
              (first | ((try go_split_ands); refine SBof ?_; repeat (first | assumption | (with_reducible exact Below.refl _ _) | (with_reducible refine below_call ?_ hc) | (with_reducible refine below_call ?_ hb0) | (with_reducible refine below_call ?_ hb1) | (with_reducible refine below_call ?_ hb) | (with_reducible refine Below.drew ?_) | (with_reducible refine below_alloc2 ?_ _) | (with_reducible refine Below.setCell ?_ (by first | (simp; done) | omega | (simp; omega)) _))))
              (first
                | (go_at_call 15; (refine (toTaking_k (kTaking.K_below (HB6.out.trans (Below.mono (by repeat (first | assumption | (with_reducible exact Below.refl _ _) | (with_reducible refine below_call ?_ hc) | (with_reducible refine below_call ?_ hb0) | (with_reducible refine below_call ?_ hb1)  | (with_reducible refine Below.drew ?_) | (with_reducible refine below_alloc2 ?_ _))) HB6.out.size)).block G0.out) (szTaking_sm (n := 1048576) (x := a0) (by omega))).mono ?_; rintro e wa ⟨ds, F, rfl, ra, rb, rc, hb0⟩; have zs := hb0.size; (try simp at zs)))
                | (go_at_call 18; (refine (eqTaking_k (kTaking.K_below ((by repeat (first | assumption | (with_reducible exact Below.refl _ _) | (with_reducible refine below_call ?_ hc) | (with_reducible refine below_call ?_ hb0) | (with_reducible refine below_call ?_ hb1)  | (with_reducible refine Below.drew ?_) | (with_reducible refine below_alloc2 ?_ _))) : Below _ _ _).block (kTaking.M_K Zx0.out)) (kTaking.M_K ra) (szTaking_sm (n := 140737488355328) (x := a0) (by omega))).mono ?_; rintro e w7 ⟨rfl, hb⟩; have zs2 := hb.size; (try simp at zs2))))
            have hbx : Below w6.heap.size w6 w7 := (by repeat (first | assumption | (with_reducible exact Below.refl _ _) | (with_reducible refine below_call ?_ hc) | (with_reducible refine below_call ?_ hb0) | (with_reducible refine below_call ?_ hb1) | (with_reducible refine below_call ?_ hb) | (with_reducible refine Below.drew ?_) | (with_reducible refine below_alloc2 ?_ _)))
            clear hb hb0 ra rb rc zs zs2 yh ya0 ya1 yw0 yx0 yg0
            replace sz0 := Nat.le_trans sz0 hbx.size
            have Ba0 := Xa0.out.below hbx
            have Ba1 := Xa1.out.below hbx
            have Bw0 := Xw0.out.below hbx
            have Rw0 := Rp.M_below Zw0.out hbx
            have Bx0 := Xx0.out.below hbx
            have Rx0 := Rp.M_below Zx0.out hbx
            have Bg0 := Xg0.out.below hbx
            have Rg0 := Rp.M_below Zg0.out hbx
            have HB7 := Lib.hid (HB6.out.trans (hbx.mono HB6.out.size))
            clear Xa0 Xa1 Xw0 Zw0 Xx0 Zx0 Xg0 Zg0 HB6 hbx
            clear ba0_0 ba0_1 ba1_0 ba1_1 ba1_2 ba1_3 bw0_0 bw0_1 bx0_0 bx0_1 bg0_0 bg0_1
            have ba0_0 := Ba0.cell 0 (v := v0_0) rfl
            have ba0_1 := Ba0.cell 1 (v := v0_1) rfl
            have ba1_0 := Ba1.cell 0 (v := .int .i64 a1.fFile) rfl
            have ba1_1 := Ba1.cell 1 (v := .int .i64 a1.fAt) rfl
            have ba1_2 := Ba1.cell 2 (v := .string a1.fData) rfl
            have ba1_3 := Ba1.cell 3 (v := .int .u32 a1.fSum) rfl
            have bw0_0 := Bw0.cell 0 (v := pw0_0) rfl
            have bw0_1 := Bw0.cell 1 (v := pw0_1) rfl
            have bx0_0 := Bx0.cell 0 (v := px0_0) rfl
            have bx0_1 := Bx0.cell 1 (v := px0_1) rfl
            have bg0_0 := Bg0.cell 0 (v := pg0_0) rfl
            have bg0_1 := Bg0.cell 1 (v := pg0_1) rfl
            have Xa0 := Lib.hid Ba0
            have Xa1 := Lib.hid Ba1
            have Xw0 := Lib.hid Bw0
            have Zw0 := Lib.hid Rw0
            have Xx0 := Lib.hid Bx0
            have Zx0 := Lib.hid Rx0
            have Xg0 := Lib.hid Bg0
            have Zg0 := Lib.hid Rg0
            clear Ba0 Ba1 Bw0 Rw0 Bx0 Rx0 Bg0 Rg0
            have m1 := mkTaking_sm (k := 1) (szTaking_sm (n := 1048576) (x := a0) (by omega))
            have n1 := mkTaking_le (a0) 1
            have l1 : (mkTaking (a0) 1).2 ≤ 4611686018427387904 := by omega
            go_wp2_with fail
            (with_reducible refine (markTaking_k Zx0.out Nx0 (by omega) l1 (szTaking_sm (n := 140737488355328) (x := a0) (by omega))).mono ?_)
            rintro e w8 ⟨rfl, hr, hk⟩
            clear hr
            generalize (mkTaking (a0) 1).2 = k1_ at *
            clear ba0_0 ba0_1 ba1_0 ba1_1 ba1_2 ba1_3 bw0_0 bw0_1 bx0_0 bx0_1 bg0_0 bg0_1
            replace sz0 := Nat.le_trans sz0 hk.size
            have Ba0 := Box.kept Xa0.out hk (fun hm => by have := Dx0 _ hm; have := Ex0 _ hm; have := sox0; omega)
            have Ba1 := Box.kept Xa1.out hk (fun hm => by have := Dx0 _ hm; have := Ex0 _ hm; have := sox0; omega)
            have Bw0 := Box.kept Xw0.out hk (fun hm => by have := Dx0 _ hm; have := Ex0 _ hm; have := ew0; omega)
            have Rw0 := kTaking.M_move (fun b hb => hk.block b (kTaking.M_lt Zw0.out b hb) (fun hm => by have := Dx0 _ hm; have := Ex0 _ hm; have := Dw0 _ hb; have := Ew0 _ hb; omega)) Zw0.out
            have Bg0 := Box.kept Xg0.out hk (fun hm => by have := Dx0 _ hm; have := Ex0 _ hm; have := eg0; omega)
            have Rg0 := kTaking.M_move (fun b hb => hk.block b (kTaking.M_lt Zg0.out b hb) (fun hm => by have := Dx0 _ hm; have := Ex0 _ hm; have := Dg0 _ hb; have := Eg0 _ hb; omega)) Zg0.out
            have HB8 := Lib.hid (HB7.out.trans (hk.toBelow HB7.out.size (fun b hb => by have := Dx0 _ hb; omega)))
            clear Xa0 Xa1 Xw0 Zw0 Xx0 Zx0 Xg0 Zg0 HB7 hk
            have ba0_0 := Ba0.cell 0 (v := v0_0) rfl
            have ba0_1 := Ba0.cell 1 (v := v0_1) rfl
            have ba1_0 := Ba1.cell 0 (v := .int .i64 a1.fFile) rfl
            have ba1_1 := Ba1.cell 1 (v := .int .i64 a1.fAt) rfl
            have ba1_2 := Ba1.cell 2 (v := .string a1.fData) rfl
            have ba1_3 := Ba1.cell 3 (v := .int .u32 a1.fSum) rfl
            have bw0_0 := Bw0.cell 0 (v := pw0_0) rfl
            have bw0_1 := Bw0.cell 1 (v := pw0_1) rfl
            have bg0_0 := Bg0.cell 0 (v := pg0_0) rfl
            have bg0_1 := Bg0.cell 1 (v := pg0_1) rfl
            have Xa0 := Lib.hid Ba0
            have Xa1 := Lib.hid Ba1
            have Xw0 := Lib.hid Bw0
            have Zw0 := Lib.hid Rw0
            have Xg0 := Lib.hid Bg0
            have Zg0 := Lib.hid Rg0
            clear Ba0 Ba1 Bw0 Rw0 Bg0 Rg0
            go_wp2_with fail
            (with_reducible refine (eqTaking_k (kTaking.M_K Zg0.out) (kTaking.M_K Zw0.out) (smTaking_le y0 (by decide))).mono ?_)
            rintro e w9 ⟨rfl, hb⟩
            replace sz0 := Nat.le_trans sz0 hb.size
            have Ba0 := Xa0.out.below hb
            have Ba1 := Xa1.out.below hb
            have Bw0 := Xw0.out.below hb
            have Rw0 := Rp.M_below Zw0.out hb
            have Bg0 := Xg0.out.below hb
            have Rg0 := Rp.M_below Zg0.out hb
            have HB9 := Lib.hid (HB8.out.trans (hb.mono HB8.out.size))
            clear Xa0 Xa1 Xw0 Zw0 Xg0 Zg0 HB8 hb
            clear ba0_0 ba0_1 ba1_0 ba1_1 ba1_2 ba1_3 bw0_0 bw0_1 bg0_0 bg0_1
            have ba0_0 := Ba0.cell 0 (v := v0_0) rfl
            have ba0_1 := Ba0.cell 1 (v := v0_1) rfl
            have ba1_0 := Ba1.cell 0 (v := .int .i64 a1.fFile) rfl
            have ba1_1 := Ba1.cell 1 (v := .int .i64 a1.fAt) rfl
            have ba1_2 := Ba1.cell 2 (v := .string a1.fData) rfl
            have ba1_3 := Ba1.cell 3 (v := .int .u32 a1.fSum) rfl
            have bw0_0 := Bw0.cell 0 (v := pw0_0) rfl
            have bw0_1 := Bw0.cell 1 (v := pw0_1) rfl
            have bg0_0 := Bg0.cell 0 (v := pg0_0) rfl
            have bg0_1 := Bg0.cell 1 (v := pg0_1) rfl
            have Xa0 := Lib.hid Ba0
            have Xa1 := Lib.hid Ba1
            have Xw0 := Lib.hid Bw0
            have Zw0 := Lib.hid Rw0
            have Xg0 := Lib.hid Bg0
            have Zg0 := Lib.hid Rg0
            clear Ba0 Ba1 Bw0 Rw0 Bg0 Rg0
            have m2 := mkTaking_sm (k := 1) y0
            have n2 := mkTaking_le (tcX a0.fWant a0.fGot a1) 1
            have l2 : (mkTaking (tcX a0.fWant a0.fGot a1) 1).2 ≤ 4611686018427387904 := by omega
            go_wp2_with fail
            (with_reducible refine (markTaking_k Zg0.out Ng0 (by omega) l2 (smTaking_le y0 (by decide))).mono ?_)
            rintro e w10 ⟨rfl, hr, hk⟩
            have Rg0 := hr; clear hr
            clear ba0_0 ba0_1 ba1_0 ba1_1 ba1_2 ba1_3 bw0_0 bw0_1 bg0_0 bg0_1
            replace sz0 := Nat.le_trans sz0 hk.size
            have Ba0 := Box.kept Xa0.out hk (fun hm => by have := Dg0 _ hm; have := Eg0 _ hm; have := sog0; omega)
            have Ba1 := Box.kept Xa1.out hk (fun hm => by have := Dg0 _ hm; have := Eg0 _ hm; have := sog0; omega)
            have Bw0 := Box.kept Xw0.out hk (fun hm => by have := Dg0 _ hm; have := Eg0 _ hm; have := ew0; omega)
            have Rw0 := kTaking.M_move (fun b hb => hk.block b (kTaking.M_lt Zw0.out b hb) (fun hm => by have := Dg0 _ hm; have := Eg0 _ hm; have := Dw0 _ hb; have := Ew0 _ hb; omega)) Zw0.out
            have Bg0 := Box.kept Xg0.out hk (fun hm => by exact (Ng0_g0 _ hm) rfl)
            have HB10 := Lib.hid (HB9.out.trans (hk.toBelow HB9.out.size (fun b hb => by have := Dg0 _ hb; omega)))
            clear Xa0 Xa1 Xw0 Zw0 Xg0 Zg0 HB9 hk
            have ba0_0 := Ba0.cell 0 (v := v0_0) rfl
            have ba0_1 := Ba0.cell 1 (v := v0_1) rfl
            have ba1_0 := Ba1.cell 0 (v := .int .i64 a1.fFile) rfl
            have ba1_1 := Ba1.cell 1 (v := .int .i64 a1.fAt) rfl
            have ba1_2 := Ba1.cell 2 (v := .string a1.fData) rfl
            have ba1_3 := Ba1.cell 3 (v := .int .u32 a1.fSum) rfl
            have bw0_0 := Bw0.cell 0 (v := pw0_0) rfl
            have bw0_1 := Bw0.cell 1 (v := pw0_1) rfl
            have bg0_0 := Bg0.cell 0 (v := pg0_0) rfl
            have bg0_1 := Bg0.cell 1 (v := pg0_1) rfl
            have Xa0 := Lib.hid Ba0
            have Xa1 := Lib.hid Ba1
            have Xw0 := Lib.hid Bw0
            have Zw0 := Lib.hid Rw0
            have Xg0 := Lib.hid Bg0
            have Zg0 := Lib.hid Rg0
            clear Ba0 Ba1 Bw0 Rw0 Bg0 Rg0
            generalize hk2 : (mkTaking (tcX a0.fWant a0.fGot a1) 1).2 = k2_ at n2 m2 l2 ⊢
            go_wp2_with fail
            (with_reducible refine (heldTaking_k (kTaking.M_K Zg0.out) (by omega) (by rw [hk2]; omega) (smTaking_le y0 (by decide))).mono ?_)
            rintro e w11 ⟨rfl, hb⟩
            rw [hk2]
            replace sz0 := Nat.le_trans sz0 hb.size
            have Ba0 := Xa0.out.below hb
            have Ba1 := Xa1.out.below hb
            have Bw0 := Xw0.out.below hb
            have Rw0 := Rp.M_below Zw0.out hb
            have Bg0 := Xg0.out.below hb
            have Rg0 := Rp.M_below Zg0.out hb
            have HB11 := Lib.hid (HB10.out.trans (hb.mono HB10.out.size))
            clear Xa0 Xa1 Xw0 Zw0 Xg0 Zg0 HB10 hb
            clear ba0_0 ba0_1 ba1_0 ba1_1 ba1_2 ba1_3 bw0_0 bw0_1 bg0_0 bg0_1
            have ba0_0 := Ba0.cell 0 (v := v0_0) rfl
            have ba0_1 := Ba0.cell 1 (v := v0_1) rfl
            have ba1_0 := Ba1.cell 0 (v := .int .i64 a1.fFile) rfl
            have ba1_1 := Ba1.cell 1 (v := .int .i64 a1.fAt) rfl
            have ba1_2 := Ba1.cell 2 (v := .string a1.fData) rfl
            have ba1_3 := Ba1.cell 3 (v := .int .u32 a1.fSum) rfl
            have bw0_0 := Bw0.cell 0 (v := pw0_0) rfl
            have bw0_1 := Bw0.cell 1 (v := pw0_1) rfl
            have bg0_0 := Bg0.cell 0 (v := pg0_0) rfl
            have bg0_1 := Bg0.cell 1 (v := pg0_1) rfl
            have Xa0 := Lib.hid Ba0
            have Xa1 := Lib.hid Ba1
            have Xw0 := Lib.hid Bw0
            have Zw0 := Lib.hid Rw0
            have Xg0 := Lib.hid Bg0
            have Zg0 := Lib.hid Rg0
            clear Ba0 Ba1 Bw0 Rw0 Bg0 Rg0
            have nk25 : ¬ k2_ < 0 := by omega
            go_upto_region 27 with fail
            go_cut [14, 15] from 14 to 15 (fun s14 s15 wx => HasTakeChunk a0 a1 w11.heap.size w11 wx s14 ∧ s15 = .bool (tcB a0.fWant a0.fGot a1))
            case first =>
              have ya0 : w.heap.size < w11.heap.size := Xa0.out.lt
              have ya1 : (w.heap.size + 1) < w11.heap.size := Xa1.out.lt
              have yw0 : gw0 < w11.heap.size := Xw0.out.lt
              have yg0 : gg0 < w11.heap.size := Xg0.out.lt
              have yh := HB11.out.size
              go_region_held3 (fun w' => Below w11.heap.size w11 w' ∧ ∀ b j, b < w11.heap.size → w'.cell? ⟨b, j, none⟩ = w11.cell? ⟨b, j, none⟩)
                (first | ((try go_split_ands); refine SBof ?_; repeat (first | assumption | (with_reducible exact Below.refl _ _) | (with_reducible refine below_call ?_ hc) | (with_reducible refine below_call ?_ hb0) | (with_reducible refine below_call ?_ hb1) | (with_reducible refine below_call ?_ hb) | (with_reducible refine Below.drew ?_) | (with_reducible refine below_alloc2 ?_ _) | (with_reducible refine Below.setCell ?_ (by first | (simp; done) | omega | (simp; omega)) _))))
                (first
                  | (go_at_call 15; (refine (toTaking_k (kTaking.K_below (HB11.out.trans (Below.mono (by repeat (first | assumption | (with_reducible exact Below.refl _ _) | (with_reducible refine below_call ?_ hc) | (with_reducible refine below_call ?_ hb0) | (with_reducible refine below_call ?_ hb1) | (with_reducible refine below_call ?_ hb) | (with_reducible refine Below.drew ?_) | (with_reducible refine below_alloc2 ?_ _))) HB11.out.size)).block G0.out) (szTaking_sm (n := 1048576) (x := a0) (by omega))).mono ?_; rintro e wt0 ⟨ds0, F0_, rfl, ra0, rb0, rc0, hb0⟩; have zs0 := hb0.size; (try simp at zs0); (first | have BG0 := Box.below BG0 hb0 | have BG0 := Box.below (Box.drew (Box.new (T := 33) (cs := #[.slice none 0 0, .slice none 0 0]) rfl)) hb0 | have BG0 := Box.below (Box.new (T := 33) (cs := #[.slice none 0 0, .slice none 0 0]) rfl) hb0 | skip)))
                  | (go_at_call 24; (refine (toChunk_k (kChunk.K_below (HB11.out.trans (Below.mono (by repeat (first | assumption | (with_reducible exact Below.refl _ _) | (with_reducible refine below_call ?_ hc) | (with_reducible refine below_call ?_ hb0) | (with_reducible refine below_call ?_ hb1) | (with_reducible refine below_call ?_ hb) | (with_reducible refine Below.drew ?_) | (with_reducible refine below_alloc2 ?_ _))) HB11.out.size)).block G1.out) trivial).mono ?_; rintro e wt1 ⟨ds1, F1_, rfl, ra1, rb1, rc1, hb1⟩; have zs1 := hb1.size; (try simp at zs1); (first | have BG0 := Box.below BG0 hb1 | have BG0 := Box.below (Box.drew (Box.new (T := 33) (cs := #[.slice none 0 0, .slice none 0 0]) rfl)) hb1 | have BG0 := Box.below (Box.new (T := 33) (cs := #[.slice none 0 0, .slice none 0 0]) rfl) hb1 | skip)))
                  | (go_at_call 25; (refine (iTakeChunk_k (kTaking.K_below ((by repeat (first | assumption | (with_reducible exact Below.refl _ _) | (with_reducible refine below_call ?_ hc) | (with_reducible refine below_call ?_ hb0) | (with_reducible refine below_call ?_ hb1) | (with_reducible refine below_call ?_ hb) | (with_reducible refine Below.drew ?_) | (with_reducible refine below_alloc2 ?_ _))) : Below _ _ _).block (kTaking.M_K ra0)) h0 (by have := (szTaking_sm (n := 1048576) (x := a0) (by omega)); exact this) (kChunk.K_below ((by repeat (first | assumption | (with_reducible exact Below.refl _ _) | (with_reducible refine below_call ?_ hc) | (with_reducible refine below_call ?_ hb0) | (with_reducible refine below_call ?_ hb1) | (with_reducible refine below_call ?_ hb) | (with_reducible refine Below.drew ?_) | (with_reducible refine below_alloc2 ?_ _))) : Below _ _ _).block (kChunk.M_K ra1)) h1 (by have := trivial; exact this)).mono ?_; rintro e wz ⟨cd0, FD0, rfl, rd0, rd_1, rd_2, hc⟩; have zs_c := hc.size; (try simp at zs_c); obtain ⟨pd0_0, pd0_1, FD0_0, FD0_1, rfl, rfl, pd0_r0, pd0_r1⟩ := kTaking_open rd0; obtain ⟨pd0_A0, pd0_C0, rfl, _, _⟩ := Rp.Row_K pd0_r0; obtain ⟨pd0_A1, pd0_C1, rfl, _, _⟩ := Rp.Row_K pd0_r1; (first | have BG0 := Box.below BG0 hc | have BG0 := Box.below (Box.drew (Box.new (T := 33) (cs := #[.slice none 0 0, .slice none 0 0]) rfl)) hc | have BG0 := Box.below (Box.new (T := 33) (cs := #[.slice none 0 0, .slice none 0 0]) rfl) hc | skip); (try (have q0_0 := BG0.cell 0 (v := .slice none 0 0) rfl; have q0_1 := BG0.cell 1 (v := .slice none 0 0) rfl; have fg0 := BG0.fro)))))
              all_goals (go_wp2_with fail; go_meet; go_light)
              all_goals
                have K : Below w11.heap.size w11 wz := (by repeat (first | assumption | (with_reducible exact Below.refl _ _) | (with_reducible refine below_call ?_ hc) | (with_reducible refine below_call ?_ hb0) | (with_reducible refine below_call ?_ hb1) | (with_reducible refine below_call ?_ hb) | (with_reducible refine Below.drew ?_) | (with_reducible refine below_alloc2 ?_ _)))
                first
                  | (refine ⟨?_, rfl⟩; with_reducible refine Has.new (d := kTaking) (kTaking_make pd0_r0 pd0_r1) rd_2 ?_ K (Nat.le_refl _); exact (fun b hm => by have := rd_1 b hm; first | omega | (simp at this; omega)))
                  | (refine ⟨?_, rfl⟩; exact Has.old (d := kTaking) (kTaking_make pd0_r0 pd0_r1) rd_2 (fun b hm => by have := rd_1 b hm; first | omega | (simp at this; omega)) K BG0 (by first | omega | (simp; omega) | (simp; done)) (Nat.le_refl _) rfl)
            case rest =>
              rename World => w12
              obtain ⟨⟨gh0, Fh0, _, rfl, Bh0, Rh0, Nh0, dh0, eh0, hb⟩, rfl⟩ := hcut
              obtain ⟨ph0_0, ph0_1, Fh0_0, Fh0_1, rfl, rfl, rh0_0, rh0_1⟩ := kTaking_open Rh0
              have Rh0 := kTaking_make rh0_0 rh0_1
              clear rh0_0 rh0_1
              have Dh0 := fun b hb => (dh0 b hb).1; have Nh0_h0 := fun b hb => (dh0 b hb).2; clear dh0
              have eh0 := And.intro eh0 Bh0.lt
              have Eh0 := kTaking.M_lt Rh0
              have zzh0 := hb.size
              have soh0 := sz0
              replace sz0 := Nat.le_trans sz0 hb.size
              have Ba0 := Xa0.out.below hb
              have Ba1 := Xa1.out.below hb
              have Bw0 := Xw0.out.below hb
              have Rw0 := Rp.M_below Zw0.out hb
              have Bg0 := Xg0.out.below hb
              have Rg0 := Rp.M_below Zg0.out hb
              have HB12 := Lib.hid (HB11.out.trans (hb.mono HB11.out.size))
              clear Xa0 Xa1 Xw0 Zw0 Xg0 Zg0 HB11 hb
              clear ba0_0 ba0_1 ba1_0 ba1_1 ba1_2 ba1_3 bw0_0 bw0_1 bg0_0 bg0_1
              have ba0_0 := Ba0.cell 0 (v := v0_0) rfl
              have ba0_1 := Ba0.cell 1 (v := v0_1) rfl
              have ba1_0 := Ba1.cell 0 (v := .int .i64 a1.fFile) rfl
              have ba1_1 := Ba1.cell 1 (v := .int .i64 a1.fAt) rfl
              have ba1_2 := Ba1.cell 2 (v := .string a1.fData) rfl
              have ba1_3 := Ba1.cell 3 (v := .int .u32 a1.fSum) rfl
              have bw0_0 := Bw0.cell 0 (v := pw0_0) rfl
              have bw0_1 := Bw0.cell 1 (v := pw0_1) rfl
              have bg0_0 := Bg0.cell 0 (v := pg0_0) rfl
              have bg0_1 := Bg0.cell 1 (v := pg0_1) rfl
              have bh0_0 := Bh0.cell 0 (v := ph0_0) rfl
              have bh0_1 := Bh0.cell 1 (v := ph0_1) rfl
              have Xa0 := Lib.hid Ba0
              have Xa1 := Lib.hid Ba1
              have Xw0 := Lib.hid Bw0
              have Zw0 := Lib.hid Rw0
              have Xg0 := Lib.hid Bg0
              have Zg0 := Lib.hid Rg0
              have Xh0 := Lib.hid Bh0
              have Zh0 := Lib.hid Rh0
              clear Ba0 Ba1 Bw0 Rw0 Bg0 Rg0 Bh0 Rh0
              go_wp2_with fail
              (with_reducible refine (eqTaking_k (kTaking.M_K Zh0.out) (kTaking.M_K Zw0.out) (smTaking_le y0 (by decide))).mono ?_)
              rintro e w13 ⟨rfl, hb⟩
              replace sz0 := Nat.le_trans sz0 hb.size
              have Ba0 := Xa0.out.below hb
              have Ba1 := Xa1.out.below hb
              have Bw0 := Xw0.out.below hb
              have Rw0 := Rp.M_below Zw0.out hb
              have Bg0 := Xg0.out.below hb
              have Rg0 := Rp.M_below Zg0.out hb
              have Bh0 := Xh0.out.below hb
              have Rh0 := Rp.M_below Zh0.out hb
              have HB13 := Lib.hid (HB12.out.trans (hb.mono HB12.out.size))
              clear Xa0 Xa1 Xw0 Zw0 Xg0 Zg0 Xh0 Zh0 HB12 hb
              clear ba0_0 ba0_1 ba1_0 ba1_1 ba1_2 ba1_3 bw0_0 bw0_1 bg0_0 bg0_1 bh0_0 bh0_1
              have ba0_0 := Ba0.cell 0 (v := v0_0) rfl
              have ba0_1 := Ba0.cell 1 (v := v0_1) rfl
              have ba1_0 := Ba1.cell 0 (v := .int .i64 a1.fFile) rfl
              have ba1_1 := Ba1.cell 1 (v := .int .i64 a1.fAt) rfl
              have ba1_2 := Ba1.cell 2 (v := .string a1.fData) rfl
              have ba1_3 := Ba1.cell 3 (v := .int .u32 a1.fSum) rfl
              have bw0_0 := Bw0.cell 0 (v := pw0_0) rfl
              have bw0_1 := Bw0.cell 1 (v := pw0_1) rfl
              have bg0_0 := Bg0.cell 0 (v := pg0_0) rfl
              have bg0_1 := Bg0.cell 1 (v := pg0_1) rfl
              have bh0_0 := Bh0.cell 0 (v := ph0_0) rfl
              have bh0_1 := Bh0.cell 1 (v := ph0_1) rfl
              have Xa0 := Lib.hid Ba0
              have Xa1 := Lib.hid Ba1
              have Xw0 := Lib.hid Bw0
              have Zw0 := Lib.hid Rw0
              have Xg0 := Lib.hid Bg0
              have Zg0 := Lib.hid Rg0
              have Xh0 := Lib.hid Bh0
              have Zh0 := Lib.hid Rh0
              clear Ba0 Ba1 Bw0 Rw0 Bg0 Rg0 Bh0 Rh0
              go_wp2_with fail
              (with_reducible refine (heldTaking_k (kTaking.M_K Zg0.out) (by omega) (by rw [hk2]; omega) (smTaking_le y0 (by decide))).mono ?_)
              rintro e w14 ⟨rfl, hb⟩
              rw [hk2]
              replace sz0 := Nat.le_trans sz0 hb.size
              have Ba0 := Xa0.out.below hb
              have Ba1 := Xa1.out.below hb
              have Bw0 := Xw0.out.below hb
              have Rw0 := Rp.M_below Zw0.out hb
              have Bg0 := Xg0.out.below hb
              have Rg0 := Rp.M_below Zg0.out hb
              have Bh0 := Xh0.out.below hb
              have Rh0 := Rp.M_below Zh0.out hb
              have HB14 := Lib.hid (HB13.out.trans (hb.mono HB13.out.size))
              clear Xa0 Xa1 Xw0 Zw0 Xg0 Zg0 Xh0 Zh0 HB13 hb
              clear ba0_0 ba0_1 ba1_0 ba1_1 ba1_2 ba1_3 bw0_0 bw0_1 bg0_0 bg0_1 bh0_0 bh0_1
              have ba0_0 := Ba0.cell 0 (v := v0_0) rfl
              have ba0_1 := Ba0.cell 1 (v := v0_1) rfl
              have ba1_0 := Ba1.cell 0 (v := .int .i64 a1.fFile) rfl
              have ba1_1 := Ba1.cell 1 (v := .int .i64 a1.fAt) rfl
              have ba1_2 := Ba1.cell 2 (v := .string a1.fData) rfl
              have ba1_3 := Ba1.cell 3 (v := .int .u32 a1.fSum) rfl
              have bw0_0 := Bw0.cell 0 (v := pw0_0) rfl
              have bw0_1 := Bw0.cell 1 (v := pw0_1) rfl
              have bg0_0 := Bg0.cell 0 (v := pg0_0) rfl
              have bg0_1 := Bg0.cell 1 (v := pg0_1) rfl
              have bh0_0 := Bh0.cell 0 (v := ph0_0) rfl
              have bh0_1 := Bh0.cell 1 (v := ph0_1) rfl
              have Xa0 := Lib.hid Ba0
              have Xa1 := Lib.hid Ba1
              have Xw0 := Lib.hid Bw0
              have Zw0 := Lib.hid Rw0
              have Xg0 := Lib.hid Bg0
              have Zg0 := Lib.hid Rg0
              have Xh0 := Lib.hid Bh0
              have Zh0 := Lib.hid Rh0
              clear Ba0 Ba1 Bw0 Rw0 Bg0 Rg0 Bh0 Rh0
              have nk21 : ¬ k2_ < 0 := by omega
              go_wp2
              go_ret
              exact ⟨rfl, HB14.out⟩
end Go.Proofs.Ytioelmhikablcaa
