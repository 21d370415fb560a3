/- Law FnExactSessionOf: at every input it returns true; what was there stays. -/
import Derived.Test.YtfcodelfgjnkhaaCell4
namespace Go.Proofs.Ytfcodelfgjnkhaa
open Go Go.RowKit Go.Sort
set_option linter.unusedVariables false
set_option linter.unusedSimpArgs false

theorem smk_SessionOf_Session (n : Nat) (x : DSession) : smSession n x := trivial
abbrev HasSessionOf (a0 : DKvState) (a1 : Int) (N : Nat) (w wx : World) (s : Value) : Prop := Has kSession 80 (sesV a0 a1) N w wx s
set_option maxHeartbeats 4000000 in
set_option maxRecDepth 100000 in
theorem law_SessionOf (a0 : DKvState) (v0_0 v0_1 : Value) (a1 : Int) (w : World) (g0 : kKvState.K w a0 [v0_0, v0_1]) (h0 : wfKvState a0) (h1 : (Lit.int .i64 a1).wf = true) : Calls Try.prog 11 #[.agg #[v0_0, v0_1], .int .i64 a1] w
    fun e w' => e = .returned (.bool true) ∧ Below w.heap.size w w' := by
  have G0 := Lib.hid g0; clear g0
  go_enter Try.func11, Try.ntmps11
  go_wp2_with fail
  (with_reducible refine (szKvState_k (kKvState.K_below ((by repeat (first | (with_reducible exact Below.refl _ _) | (with_reducible refine Below.alloc ?_ (by first | (with_reducible exact Nat.le_refl _) | (simp; done) | (simp; omega)) _))) : Below w.heap.size w _).block G0.out) (by omega) (by omega) h0).mono ?_)
  rintro e w1 ⟨rfl, hb⟩
  have Ba0 : Box w1 w.heap.size #[v0_0, v0_1] 65 := Box.below (Box.new rfl) hb
  have HB1 := Lib.hid (Below.trans (by repeat (first | (with_reducible exact Below.refl _ _) | (with_reducible refine Below.alloc ?_ (by first | (with_reducible exact Nat.le_refl _) | (simp; done) | (simp; omega)) _))) (hb.mono (by first | (with_reducible exact Nat.le_refl _) | (simp; done) | (simp; omega))) : Below w.heap.size w w1)
  have sz0 : w.heap.size + 1 ≤ w1.heap.size := by have := hb.size; simp at this; omega
  clear hb
  have ba0_0 := Ba0.cell 0 (v := v0_0) rfl
  have ba0_1 := Ba0.cell 1 (v := v0_1) rfl
  have Xa0 := Lib.hid Ba0
  clear Ba0
  by_cases z0 : (szNKvState a0 : Int) ≤ 1048576
  case neg =>
    rw [szR_no z0]
    go_wp2
    go_ret
    exact ⟨rfl, HB1.out⟩
  case pos =>
    rw [szR_yes z0]
    go_upto_region 5 with fail
    go_cut [6, 7] from 6 to 7 (fun s6 s7 wx => HasSessionOf a0 a1 w1.heap.size w1 wx s6 ∧ s7 = .bool (sesB a0 a1))
    case first =>
      have ya0 : w.heap.size < w1.heap.size := Xa0.out.lt
      have yh := HB1.out.size
      go_wp2_with (first
          | (go_at_call 39; (refine (toKvState_k (kKvState.K_below (HB1.out.trans (Below.mono (by repeat (first | assumption | (with_reducible exact Below.refl _ _) | (with_reducible refine below_call ?_ hc) | (with_reducible refine below_call ?_ hb0) | (with_reducible refine below_call ?_ hb1) | (with_reducible refine below_call ?_ hb) | (with_reducible refine Below.drew ?_) | (with_reducible refine below_alloc2 ?_ _))) HB1.out.size)).block G0.out) (szKvState_sm (n := 1048576) (x := a0) (by omega))).mono ?_; rintro e wt0 ⟨ds0, F0_, rfl, ra0, rb0, rc0, hb0⟩; have zs0 := hb0.size; (try simp at zs0); (first | have BG0 := Box.below BG0 hb0 | have BG0 := Box.below (Box.drew (Box.new (T := 80) (cs := #[.int .i64 0, .int .i64 0, .int .i64 0, .string ⟨#[]⟩]) rfl)) hb0 | have BG0 := Box.below (Box.new (T := 80) (cs := #[.int .i64 0, .int .i64 0, .int .i64 0, .string ⟨#[]⟩]) rfl) hb0 | skip)))
          | (go_at_call 44; (refine (sSessionOf_k (kKvState.K_below ((by repeat (first | assumption | (with_reducible exact Below.refl _ _) | (with_reducible refine below_call ?_ hc) | (with_reducible refine below_call ?_ hb0) | (with_reducible refine below_call ?_ hb1) | (with_reducible refine below_call ?_ hb) | (with_reducible refine Below.drew ?_) | (with_reducible refine below_alloc2 ?_ _))) : Below _ _ _).block (kKvState.M_K ra0)) h0 (by have := (szKvState_sm (n := 1048576) (x := a0) (by omega)); exact this) h1).mono ?_; rintro e wz ⟨cd0, FD0, rfl, rd0, rd_1, rd_2, hc⟩; have zs_c := hc.size; (try simp at zs_c); obtain ⟨rfl, rfl⟩ := kSession_M rd0; (first | have BG0 := Box.below BG0 hc | have BG0 := Box.below (Box.drew (Box.new (T := 80) (cs := #[.int .i64 0, .int .i64 0, .int .i64 0, .string ⟨#[]⟩]) rfl)) hc | have BG0 := Box.below (Box.new (T := 80) (cs := #[.int .i64 0, .int .i64 0, .int .i64 0, .string ⟨#[]⟩]) rfl) hc | skip); (try (have q0_0 := BG0.cell 0 (v := .int .i64 0) rfl; have q0_1 := BG0.cell 1 (v := .int .i64 0) rfl; have q0_2 := BG0.cell 2 (v := .int .i64 0) rfl; have q0_3 := BG0.cell 3 (v := .string ⟨#[]⟩) rfl; have fg0 := BG0.fro)))))
      all_goals (go_meet; go_light)
      all_goals
        have K : Below w1.heap.size w1 wz := (by repeat (first | assumption | (with_reducible exact Below.refl _ _) | (with_reducible refine below_call ?_ hc) | (with_reducible refine below_call ?_ hb0) | (with_reducible refine below_call ?_ hb1) | (with_reducible refine below_call ?_ hb) | (with_reducible refine Below.drew ?_) | (with_reducible refine below_alloc2 ?_ _)))
        first
          | (refine ⟨?_, rfl⟩; with_reducible refine Has.new (d := kSession) (kSession_mk _ _) rd_2 ?_ K (Nat.le_refl _); exact (fun b hm => by have := rd_1 b hm; first | omega | (simp at this; omega)))
          | (refine ⟨?_, rfl⟩; exact Has.old (d := kSession) (kSession_mk _ _) rd_2 (fun b hm => by have := rd_1 b hm; first | omega | (simp at this; omega)) K BG0 (by first | omega | (simp; omega) | (simp; done)) (Nat.le_refl _) rfl)
    case rest =>
      rename World => w2
      obtain ⟨⟨gw0, Fw0, _, rfl, Bw0, Rw0, Nw0, dw0, ew0, hb⟩, rfl⟩ := hcut
      obtain ⟨rfl, rfl⟩ := kSession_M Rw0
      have Rw0 := kSession_mk w2 (sesV a0 a1)
      have Dw0 := fun b hb => (dw0 b hb).1; have Nw0_w0 := fun b hb => (dw0 b hb).2; clear dw0
      have ew0 := And.intro ew0 Bw0.lt
      have Ew0 := kSession.M_lt Rw0
      have zzw0 := hb.size
      have sow0 := sz0
      replace sz0 := Nat.le_trans sz0 hb.size
      have Ba0 := Xa0.out.below hb
      have HB2 := Lib.hid (HB1.out.trans (hb.mono HB1.out.size))
      clear Xa0 HB1 hb
      clear ba0_0 ba0_1
      have ba0_0 := Ba0.cell 0 (v := v0_0) rfl
      have ba0_1 := Ba0.cell 1 (v := v0_1) rfl
      have bw0_0 := Bw0.cell 0 (v := .int .i64 (sesV a0 a1).fId) rfl
      have bw0_1 := Bw0.cell 1 (v := .int .i64 (sesV a0 a1).fLast) rfl
      have bw0_2 := Bw0.cell 2 (v := .int .i64 (sesV a0 a1).fReply.fCode) rfl
      have bw0_3 := Bw0.cell 3 (v := .string (sesV a0 a1).fReply.fValue) rfl
      have Xa0 := Lib.hid Ba0
      have Xw0 := Lib.hid Bw0
      have Zw0 := Lib.hid Rw0
      clear Ba0 Bw0 Rw0
      go_upto_region 6 with fail
      go_cut [8] from 8 to 8 (fun s wx => Has kKvState 71 a0 w2.heap.size w2 wx s)
      case first =>
        go_wp2_with fail
        (with_reducible refine (toKvState_k (kKvState.K_below HB2.out.block G0.out) (szKvState_sm (n := 1048576) (x := a0) (by omega))).mono ?_)
        rintro e wa ⟨ds, F, rfl, ra, rb, rc, hb⟩
        obtain ⟨pa0, pa1, F_0, F_1, rfl, rfl, par0, par1⟩ := kKvState_open ra; obtain ⟨paA0, paC0, rfl, _, _⟩ := Rp.Row_K par0; obtain ⟨paA1, paC1, rfl, _, _⟩ := Rp.Row_K par1
        go_wp2_with fail
        go_meet
        exact Has.new (d := kKvState) (kKvState_make par0 par1) rc rb hb (Nat.le_refl _)
      case rest =>
        rename World => w3
        obtain ⟨gx0, Fx0, _, rfl, Bx0, Rx0, Nx0, dx0, ex0, hb⟩ := hcut
        obtain ⟨px0_0, px0_1, Fx0_0, Fx0_1, rfl, rfl, rx0_0, rx0_1⟩ := kKvState_open Rx0
        have Rx0 := kKvState_make rx0_0 rx0_1
        clear rx0_0 rx0_1
        have Dx0 := fun b hb => (dx0 b hb).1; have Nx0_x0 := fun b hb => (dx0 b hb).2; clear dx0
        have ex0 := And.intro ex0 Bx0.lt
        have Ex0 := kKvState.M_lt Rx0
        have zzx0 := hb.size
        have sox0 := sz0
        replace sz0 := Nat.le_trans sz0 hb.size
        have Ba0 := Xa0.out.below hb
        have Bw0 := Xw0.out.below hb
        have Rw0 := Rp.M_below Zw0.out hb
        have HB3 := Lib.hid (HB2.out.trans (hb.mono HB2.out.size))
        clear Xa0 Xw0 Zw0 HB2 hb
        clear ba0_0 ba0_1 bw0_0 bw0_1 bw0_2 bw0_3
        have ba0_0 := Ba0.cell 0 (v := v0_0) rfl
        have ba0_1 := Ba0.cell 1 (v := v0_1) rfl
        have bw0_0 := Bw0.cell 0 (v := .int .i64 (sesV a0 a1).fId) rfl
        have bw0_1 := Bw0.cell 1 (v := .int .i64 (sesV a0 a1).fLast) rfl
        have bw0_2 := Bw0.cell 2 (v := .int .i64 (sesV a0 a1).fReply.fCode) rfl
        have bw0_3 := Bw0.cell 3 (v := .string (sesV a0 a1).fReply.fValue) rfl
        have bx0_0 := Bx0.cell 0 (v := px0_0) rfl
        have bx0_1 := Bx0.cell 1 (v := px0_1) rfl
        have Xa0 := Lib.hid Ba0
        have Xw0 := Lib.hid Bw0
        have Zw0 := Lib.hid Rw0
        have Xx0 := Lib.hid Bx0
        have Zx0 := Lib.hid Rx0
        clear Ba0 Bw0 Rw0 Bx0 Rx0
        go_upto_region 7 with fail
        go_cut [9, 10] from 9 to 10 (fun s9 s10 wx => HasSessionOf a0 a1 w3.heap.size w3 wx s9 ∧ s10 = .bool (sesB a0 a1))
        case first =>
          have ya0 : w.heap.size < w3.heap.size := Xa0.out.lt
          have yw0 : gw0 < w3.heap.size := Xw0.out.lt
          have yx0 : gx0 < w3.heap.size := Xx0.out.lt
          have yh := HB3.out.size
          go_wp2_with (first
              | (go_at_call 45; (refine (iSessionOf_k (kKvState.K_below ((by repeat (first | assumption | (with_reducible exact Below.refl _ _) | (with_reducible refine below_call ?_ hc) | (with_reducible refine below_call ?_ hb0) | (with_reducible refine below_call ?_ hb1) | (with_reducible refine below_call ?_ hb) | (with_reducible refine Below.drew ?_) | (with_reducible refine below_alloc2 ?_ _))) : Below _ _ _).block (kKvState.M_K Zx0.out)) h0 (by have := (szKvState_sm (n := 1048576) (x := a0) (by omega)); exact this) h1).mono ?_; rintro e wz ⟨cd0, FD0, rfl, rd0, rd_1, rd_2, hc⟩; have zs_c := hc.size; (try simp at zs_c); obtain ⟨rfl, rfl⟩ := kSession_M rd0; (first | have BG0 := Box.below BG0 hc | have BG0 := Box.below (Box.drew (Box.new (T := 80) (cs := #[.int .i64 0, .int .i64 0, .int .i64 0, .string ⟨#[]⟩]) rfl)) hc | have BG0 := Box.below (Box.new (T := 80) (cs := #[.int .i64 0, .int .i64 0, .int .i64 0, .string ⟨#[]⟩]) rfl) hc | skip); (try (have q0_0 := BG0.cell 0 (v := .int .i64 0) rfl; have q0_1 := BG0.cell 1 (v := .int .i64 0) rfl; have q0_2 := BG0.cell 2 (v := .int .i64 0) rfl; have q0_3 := BG0.cell 3 (v := .string ⟨#[]⟩) rfl; have fg0 := BG0.fro)))))
          all_goals (go_meet; go_light)
          all_goals
            have K : Below w3.heap.size w3 wz := (by repeat (first | assumption | (with_reducible exact Below.refl _ _) | (with_reducible refine below_call ?_ hc) | (with_reducible refine below_call ?_ hb0) | (with_reducible refine below_call ?_ hb1) | (with_reducible refine below_call ?_ hb) | (with_reducible refine Below.drew ?_) | (with_reducible refine below_alloc2 ?_ _)))
            first
              | (refine ⟨?_, rfl⟩; with_reducible refine Has.new (d := kSession) (kSession_mk _ _) rd_2 ?_ K (Nat.le_refl _); exact (fun b hm => by have := rd_1 b hm; first | omega | (simp at this; omega)))
              | (refine ⟨?_, rfl⟩; exact Has.old (d := kSession) (kSession_mk _ _) rd_2 (fun b hm => by have := rd_1 b hm; first | omega | (simp at this; omega)) K BG0 (by first | omega | (simp; omega) | (simp; done)) (Nat.le_refl _) rfl)
        case rest =>
          rename World => w4
          obtain ⟨⟨gg0, Fg0, _, rfl, Bg0, Rg0, Ng0, dg0, eg0, hb⟩, rfl⟩ := hcut
          obtain ⟨rfl, rfl⟩ := kSession_M Rg0
          have Rg0 := kSession_mk w4 (sesV a0 a1)
          have Dg0 := fun b hb => (dg0 b hb).1; have Ng0_g0 := fun b hb => (dg0 b hb).2; clear dg0
          have eg0 := And.intro eg0 Bg0.lt
          have Eg0 := kSession.M_lt Rg0
          have zzg0 := hb.size
          have sog0 := sz0
          replace sz0 := Nat.le_trans sz0 hb.size
          have Ba0 := Xa0.out.below hb
          have Bw0 := Xw0.out.below hb
          have Rw0 := Rp.M_below Zw0.out hb
          have Bx0 := Xx0.out.below hb
          have Rx0 := Rp.M_below Zx0.out hb
          have HB4 := Lib.hid (HB3.out.trans (hb.mono HB3.out.size))
          clear Xa0 Xw0 Zw0 Xx0 Zx0 HB3 hb
          clear ba0_0 ba0_1 bw0_0 bw0_1 bw0_2 bw0_3 bx0_0 bx0_1
          have ba0_0 := Ba0.cell 0 (v := v0_0) rfl
          have ba0_1 := Ba0.cell 1 (v := v0_1) rfl
          have bw0_0 := Bw0.cell 0 (v := .int .i64 (sesV a0 a1).fId) rfl
          have bw0_1 := Bw0.cell 1 (v := .int .i64 (sesV a0 a1).fLast) rfl
          have bw0_2 := Bw0.cell 2 (v := .int .i64 (sesV a0 a1).fReply.fCode) rfl
          have bw0_3 := Bw0.cell 3 (v := .string (sesV a0 a1).fReply.fValue) rfl
          have bx0_0 := Bx0.cell 0 (v := px0_0) rfl
          have bx0_1 := Bx0.cell 1 (v := px0_1) rfl
          have bg0_0 := Bg0.cell 0 (v := .int .i64 (sesV a0 a1).fId) rfl
          have bg0_1 := Bg0.cell 1 (v := .int .i64 (sesV a0 a1).fLast) rfl
          have bg0_2 := Bg0.cell 2 (v := .int .i64 (sesV a0 a1).fReply.fCode) rfl
          have bg0_3 := Bg0.cell 3 (v := .string (sesV a0 a1).fReply.fValue) rfl
          have Xa0 := Lib.hid Ba0
          have Xw0 := Lib.hid Bw0
          have Zw0 := Lib.hid Rw0
          have Xx0 := Lib.hid Bx0
          have Zx0 := Lib.hid Rx0
          have Xg0 := Lib.hid Bg0
          have Zg0 := Lib.hid Rg0
          clear Ba0 Bw0 Rw0 Bx0 Rx0 Bg0 Rg0
          go_wp2_with fail
          (with_reducible refine (eqSession_k (kSession.M_K Zg0.out) (kSession.M_K Zw0.out) (smk_SessionOf_Session _ _)).mono ?_)
          rintro e w5 ⟨rfl, hb⟩
          replace sz0 := Nat.le_trans sz0 hb.size
          have Ba0 := Xa0.out.below hb
          have Bw0 := Xw0.out.below hb
          have Rw0 := Rp.M_below Zw0.out hb
          have Bx0 := Xx0.out.below hb
          have Rx0 := Rp.M_below Zx0.out hb
          have Bg0 := Xg0.out.below hb
          have Rg0 := Rp.M_below Zg0.out hb
          have HB5 := Lib.hid (HB4.out.trans (hb.mono HB4.out.size))
          clear Xa0 Xw0 Zw0 Xx0 Zx0 Xg0 Zg0 HB4 hb
          clear ba0_0 ba0_1 bw0_0 bw0_1 bw0_2 bw0_3 bx0_0 bx0_1 bg0_0 bg0_1 bg0_2 bg0_3
          have ba0_0 := Ba0.cell 0 (v := v0_0) rfl
          have ba0_1 := Ba0.cell 1 (v := v0_1) rfl
          have bw0_0 := Bw0.cell 0 (v := .int .i64 (sesV a0 a1).fId) rfl
          have bw0_1 := Bw0.cell 1 (v := .int .i64 (sesV a0 a1).fLast) rfl
          have bw0_2 := Bw0.cell 2 (v := .int .i64 (sesV a0 a1).fReply.fCode) rfl
          have bw0_3 := Bw0.cell 3 (v := .string (sesV a0 a1).fReply.fValue) rfl
          have bx0_0 := Bx0.cell 0 (v := px0_0) rfl
          have bx0_1 := Bx0.cell 1 (v := px0_1) rfl
          have bg0_0 := Bg0.cell 0 (v := .int .i64 (sesV a0 a1).fId) rfl
          have bg0_1 := Bg0.cell 1 (v := .int .i64 (sesV a0 a1).fLast) rfl
          have bg0_2 := Bg0.cell 2 (v := .int .i64 (sesV a0 a1).fReply.fCode) rfl
          have bg0_3 := Bg0.cell 3 (v := .string (sesV a0 a1).fReply.fValue) rfl
          have Xa0 := Lib.hid Ba0
          have Xw0 := Lib.hid Bw0
          have Zw0 := Lib.hid Rw0
          have Xx0 := Lib.hid Bx0
          have Zx0 := Lib.hid Rx0
          have Xg0 := Lib.hid Bg0
          have Zg0 := Lib.hid Rg0
          clear Ba0 Bw0 Rw0 Bx0 Rx0 Bg0 Rg0
          go_upto_region 10 with fail
          have ya0 : w.heap.size < w5.heap.size := Xa0.out.lt
          have yw0 : gw0 < w5.heap.size := Xw0.out.lt
          have yx0 : gx0 < w5.heap.size := Xx0.out.lt
          have yg0 : gg0 < w5.heap.size := Xg0.out.lt
          have yh := HB5.out.size
          go_region_held3 (fun w' => Below w5.heap.size w5 w' ∧ ∀ b j, b < w5.heap.size → w'.cell? ⟨b, j, none⟩ = w5.cell? ⟨b, j, none⟩)
            (first | ((try go_split_ands); refine SBof ?_; repeat (first | assumption | (with_reducible exact Below.refl _ _) | (with_reducible refine below_call ?_ hc) | (with_reducible refine below_call ?_ hb0) | (with_reducible refine below_call ?_ hb1) | (with_reducible refine below_call ?_ hb) | (with_reducible refine Below.drew ?_) | (with_reducible refine below_alloc2 ?_ _) | (with_reducible refine Below.setCell ?_ (by first | (simp; done) | omega | (simp; omega)) _))))
            (first
              | (go_at_call 39; (refine (toKvState_k (kKvState.K_below (HB5.out.trans (Below.mono (by repeat (first | assumption | (with_reducible exact Below.refl _ _) | (with_reducible refine below_call ?_ hc) | (with_reducible refine below_call ?_ hb0) | (with_reducible refine below_call ?_ hb1)  | (with_reducible refine Below.drew ?_) | (with_reducible refine below_alloc2 ?_ _))) HB5.out.size)).block G0.out) (szKvState_sm (n := 1048576) (x := a0) (by omega))).mono ?_; rintro e wa ⟨ds, F, rfl, ra, rb, rc, hb0⟩; have zs := hb0.size; (try simp at zs)))
              | (go_at_call 41; (refine (eqKvState_k (kKvState.K_below ((by repeat (first | assumption | (with_reducible exact Below.refl _ _) | (with_reducible refine below_call ?_ hc) | (with_reducible refine below_call ?_ hb0) | (with_reducible refine below_call ?_ hb1)  | (with_reducible refine Below.drew ?_) | (with_reducible refine below_alloc2 ?_ _))) : Below _ _ _).block (kKvState.M_K Zx0.out)) (kKvState.M_K ra) (szKvState_sm (n := 140737488355328) (x := a0) (by omega))).mono ?_; rintro e w6 ⟨rfl, hb⟩; have zs2 := hb.size; (try simp at zs2))))
          have hbx : Below w5.heap.size w5 w6 := (by repeat (first | assumption | (with_reducible exact Below.refl _ _) | (with_reducible refine below_call ?_ hc) | (with_reducible refine below_call ?_ hb0) | (with_reducible refine below_call ?_ hb1) | (with_reducible refine below_call ?_ hb) | (with_reducible refine Below.drew ?_) | (with_reducible refine below_alloc2 ?_ _)))
          clear hb hb0 ra rb rc zs zs2 yh ya0 yw0 yx0 yg0
          replace sz0 := Nat.le_trans sz0 hbx.size
          have Ba0 := Xa0.out.below hbx
          have Bw0 := Xw0.out.below hbx
          have Rw0 := Rp.M_below Zw0.out hbx
          have Bx0 := Xx0.out.below hbx
          have Rx0 := Rp.M_below Zx0.out hbx
          have Bg0 := Xg0.out.below hbx
          have Rg0 := Rp.M_below Zg0.out hbx
          have HB6 := Lib.hid (HB5.out.trans (hbx.mono HB5.out.size))
          clear Xa0 Xw0 Zw0 Xx0 Zx0 Xg0 Zg0 HB5 hbx
          clear ba0_0 ba0_1 bw0_0 bw0_1 bw0_2 bw0_3 bx0_0 bx0_1 bg0_0 bg0_1 bg0_2 bg0_3
          have ba0_0 := Ba0.cell 0 (v := v0_0) rfl
          have ba0_1 := Ba0.cell 1 (v := v0_1) rfl
          have bw0_0 := Bw0.cell 0 (v := .int .i64 (sesV a0 a1).fId) rfl
          have bw0_1 := Bw0.cell 1 (v := .int .i64 (sesV a0 a1).fLast) rfl
          have bw0_2 := Bw0.cell 2 (v := .int .i64 (sesV a0 a1).fReply.fCode) rfl
          have bw0_3 := Bw0.cell 3 (v := .string (sesV a0 a1).fReply.fValue) rfl
          have bx0_0 := Bx0.cell 0 (v := px0_0) rfl
          have bx0_1 := Bx0.cell 1 (v := px0_1) rfl
          have bg0_0 := Bg0.cell 0 (v := .int .i64 (sesV a0 a1).fId) rfl
          have bg0_1 := Bg0.cell 1 (v := .int .i64 (sesV a0 a1).fLast) rfl
          have bg0_2 := Bg0.cell 2 (v := .int .i64 (sesV a0 a1).fReply.fCode) rfl
          have bg0_3 := Bg0.cell 3 (v := .string (sesV a0 a1).fReply.fValue) rfl
          have Xa0 := Lib.hid Ba0
          have Xw0 := Lib.hid Bw0
          have Zw0 := Lib.hid Rw0
          have Xx0 := Lib.hid Bx0
          have Zx0 := Lib.hid Rx0
          have Xg0 := Lib.hid Bg0
          have Zg0 := Lib.hid Rg0
          clear Ba0 Bw0 Rw0 Bx0 Rx0 Bg0 Rg0
          go_wp2
          go_ret
          exact ⟨rfl, HB6.out⟩
end Go.Proofs.Ytfcodelfgjnkhaa
