/- Law FnExactPlayTaking: at every input it returns true; what was there stays. -/
import Derived.Test.YtioelmhikablcaaPlE
namespace Go.Proofs.Ytioelmhikablcaa
open Go Go.RowKit Go.Sort
set_option linter.unusedVariables false
set_option linter.unusedSimpArgs false

def HasPlayTaking (a0 : List (ByteArray)) (a1 : List (Int)) (a2 : List (Int)) (N : Nat) (w wx : World) (s : Value) : Prop := ∃ v F, s = v ∧ kStringS.M wx F (plV a0 a1 a2) [v] ∧ (∀ b ∈ F, N ≤ b) ∧ F.Nodup ∧ Below N w wx
set_option maxHeartbeats 4000000 in
set_option maxRecDepth 100000 in
theorem law_PlayTaking (a0 : List (ByteArray)) (v0_ : Value) (a1 : List (Int)) (v1_ : Value) (a2 : List (Int)) (v2_ : Value) (w : World) (g0 : kStringS.K w a0 [v0_]) (g1 : kIntS.K w a1 [v1_]) (g2 : kIntS.K w a2 [v2_]) (h0 : wfStringS a0) (h1 : wfIntS a1) (h2 : wfIntS a2) (y0 : smStringS 1048576 a0 → smIntS 1048576 a1 → smIntS 1048576 a2 → smStringS 4194304 (plV a0 a1 a2)) : Calls Try.prog 5 #[v0_, v1_, v2_] w
    fun e w' => e = .returned (.bool true) ∧ Below w.heap.size w w' := by
  have G0 := Lib.hid g0; clear g0
  have G1 := Lib.hid g1; clear g1
  have G2 := Lib.hid g2; clear g2
  obtain ⟨la1, lc1, le1, _, _⟩ := G1.out
  obtain rfl := (List.cons.inj le1).1
  clear le1
  obtain ⟨la2, lc2, le2, _, _⟩ := G2.out
  obtain rfl := (List.cons.inj le2).1
  clear le2
  by_cases s1 : a1.length ≤ 1048576
  case neg =>
    go_enter Try.func5, Try.ntmps5
    go_wp2
    go_ret
    exact ⟨rfl, (by repeat (first | (with_reducible exact Below.refl _ _) | (with_reducible refine Below.alloc ?_ (by first | (with_reducible exact Nat.le_refl _) | (simp; done) | (simp; omega)) _)))⟩
  case pos =>
    have t1 : smIntS 1048576 a1 := s1
    by_cases s2 : a2.length ≤ 1048576
    case neg =>
      go_enter Try.func5, Try.ntmps5
      go_wp2
      go_ret
      exact ⟨rfl, (by repeat (first | (with_reducible exact Below.refl _ _) | (with_reducible refine Below.alloc ?_ (by first | (with_reducible exact Nat.le_refl _) | (simp; done) | (simp; omega)) _)))⟩
    case pos =>
      have t2 : smIntS 1048576 a2 := s2
      go_enter Try.func5, Try.ntmps5
      go_wp2_with fail
      (with_reducible refine (szStringS_k (kStringS.K_below ((by repeat (first | (with_reducible exact Below.refl _ _) | (with_reducible refine Below.alloc ?_ (by first | (with_reducible exact Nat.le_refl _) | (simp; done) | (simp; omega)) _))) : Below w.heap.size w _).block G0.out) (by omega) (by omega) h0).mono ?_)
      rintro e w1 ⟨rfl, hb⟩
      have HB1 := Lib.hid (Below.trans (by repeat (first | (with_reducible exact Below.refl _ _) | (with_reducible refine Below.alloc ?_ (by first | (with_reducible exact Nat.le_refl _) | (simp; done) | (simp; omega)) _))) (hb.mono (by first | (with_reducible exact Nat.le_refl _) | (simp; done) | (simp; omega))) : Below w.heap.size w w1)
      have sz0 : w.heap.size ≤ w1.heap.size := by have := hb.size; (try simp at this); omega
      clear hb
      by_cases z0 : (szNStringS a0 : Int) ≤ 1048576
      case neg =>
        rw [szR_no z0]
        go_wp2
        go_ret
        exact ⟨rfl, HB1.out⟩
      case pos =>
        rw [szR_yes z0]
        replace y0 := y0 (szStringS_sm (n := 1048576) (x := a0) (by omega)) (smIntS_le (n := 1048576) (m := 1048576) t1 (by decide)) (smIntS_le (n := 1048576) (m := 1048576) t2 (by decide)) 
        go_upto_region 9 with fail
        go_cut [8, 9, 10] from 8 to 10 (fun s8 s9 s10 wx => HasPlayTaking a0 a1 a2 w1.heap.size w1 wx s8 ∧ s9 = .int .i64 (plM a0 a1 a2) ∧ s10 = .bool (plOk a0 a1 a2))
        case first =>
          have yh := HB1.out.size
          go_wp2_with (first
              | (go_at_call 29; ((with_reducible refine (toStringS_k (kStringS.K_below (HB1.out.trans (Below.mono (by repeat (first | assumption | (with_reducible exact Below.refl _ _) | (with_reducible refine below_call ?_ hc) | (with_reducible refine below_call ?_ hb0) | (with_reducible refine below_call ?_ hb1) | (with_reducible refine below_call ?_ hb2) | (with_reducible refine below_call ?_ hb) | (with_reducible refine Below.drew ?_) | (with_reducible refine below_alloc2 ?_ _))) HB1.out.size)).block G0.out) (szStringS_sm (n := 1048576) (x := a0) (by omega))).mono ?_); rintro e wt0 ⟨ds0, F0_, rfl, ra0, rb0, rc0, hb0⟩; have zs0 := hb0.size; (try simp at zs0)))
              | (go_at_call 30; ((with_reducible refine (toIntS_k (kIntS.K_below (HB1.out.trans (Below.mono (by repeat (first | assumption | (with_reducible exact Below.refl _ _) | (with_reducible refine below_call ?_ hc) | (with_reducible refine below_call ?_ hb0) | (with_reducible refine below_call ?_ hb1) | (with_reducible refine below_call ?_ hb2) | (with_reducible refine below_call ?_ hb) | (with_reducible refine Below.drew ?_) | (with_reducible refine below_alloc2 ?_ _))) HB1.out.size)).block G1.out) (smIntS_le (n := 1048576) (m := 1048576) t1 (by decide))).mono ?_); rintro e wt1 ⟨ds1, F1_, rfl, ra1, rb1, rc1, hb1⟩; have zs1 := hb1.size; (try simp at zs1)))
              | (go_at_call 30; ((with_reducible refine (toIntS_k (kIntS.K_below (HB1.out.trans (Below.mono (by repeat (first | assumption | (with_reducible exact Below.refl _ _) | (with_reducible refine below_call ?_ hc) | (with_reducible refine below_call ?_ hb0) | (with_reducible refine below_call ?_ hb1) | (with_reducible refine below_call ?_ hb2) | (with_reducible refine below_call ?_ hb) | (with_reducible refine Below.drew ?_) | (with_reducible refine below_alloc2 ?_ _))) HB1.out.size)).block G2.out) (smIntS_le (n := 1048576) (m := 1048576) t2 (by decide))).mono ?_); rintro e wt2 ⟨ds2, F2_, rfl, ra2, rb2, rc2, hb2⟩; have zs2 := hb2.size; (try simp at zs2)))
              | (go_at_call 28; ((with_reducible refine (sPlayTaking_k (kStringS.K_below ((by repeat (first | assumption | (with_reducible exact Below.refl _ _) | (with_reducible refine below_call ?_ hc) | (with_reducible refine below_call ?_ hb0) | (with_reducible refine below_call ?_ hb1) | (with_reducible refine below_call ?_ hb2) | (with_reducible refine below_call ?_ hb) | (with_reducible refine Below.drew ?_) | (with_reducible refine below_alloc2 ?_ _))) : Below _ _ _).block (kStringS.M_K ra0)) h0 (by have := (szStringS_sm (n := 1048576) (x := a0) (by omega)); exact this) (kIntS.K_below ((by repeat (first | assumption | (with_reducible exact Below.refl _ _) | (with_reducible refine below_call ?_ hc) | (with_reducible refine below_call ?_ hb0) | (with_reducible refine below_call ?_ hb1) | (with_reducible refine below_call ?_ hb2) | (with_reducible refine below_call ?_ hb) | (with_reducible refine Below.drew ?_) | (with_reducible refine below_alloc2 ?_ _))) : Below _ _ _).block (kIntS.M_K ra1)) h1 (by have := (smIntS_le (n := 1048576) (m := 1048576) t1 (by decide)); exact this) (kIntS.K_below ((by repeat (first | assumption | (with_reducible exact Below.refl _ _) | (with_reducible refine below_call ?_ hc) | (with_reducible refine below_call ?_ hb0) | (with_reducible refine below_call ?_ hb1) | (with_reducible refine below_call ?_ hb2) | (with_reducible refine below_call ?_ hb) | (with_reducible refine Below.drew ?_) | (with_reducible refine below_alloc2 ?_ _))) : Below _ _ _).block (kIntS.M_K ra2)) h2 (by have := (smIntS_le (n := 1048576) (m := 1048576) t2 (by decide)); exact this)).mono ?_); rintro e wz ⟨cd0, FD0, rfl, rd0, rd_1, rd_2, hc⟩; have zs_c := hc.size; (try simp at zs_c))))
          all_goals (go_meet; go_light)
          all_goals
            have K : Below w1.heap.size w1 wz := (by repeat (first | assumption | (with_reducible exact Below.refl _ _) | (with_reducible refine below_call ?_ hc) | (with_reducible refine below_call ?_ hb0) | (with_reducible refine below_call ?_ hb1) | (with_reducible refine below_call ?_ hb2) | (with_reducible refine below_call ?_ hb) | (with_reducible refine Below.drew ?_) | (with_reducible refine below_alloc2 ?_ _)))
            (refine ⟨?_, rfl, rfl⟩; exact ⟨_, _, rfl, rd0, (fun b hm => by have := rd_1 b hm; first | omega | (simp at this; omega)), rd_2, K⟩)
        case rest =>
          rename World => w2
          obtain ⟨⟨pw0_, Fw0, rfl, Rw0, Dw0, Nw0, hb⟩, rfl, rfl⟩ := hcut
          have Ew0 := kStringS.M_lt Rw0
          have zzw0 := hb.size
          have sow0 := sz0
          replace sz0 := Nat.le_trans sz0 hb.size
          have HB2 := Lib.hid (HB1.out.trans (hb.mono HB1.out.size))
          clear HB1 hb
          have Zw0 := Lib.hid Rw0
          clear Rw0
          go_wp2_with fail
          (with_reducible refine (toStringS_k (kStringS.K_below HB2.out.block G0.out) (szStringS_sm (n := 1048576) (x := a0) (by omega))).mono ?_)
          rintro e w3 ⟨px0_, Fx0, rfl, Rx0, Dx0, Nx0, hb⟩
          have Ex0 := kStringS.M_lt Rx0
          have zzx0 := hb.size
          have sox0 := sz0
          replace sz0 := Nat.le_trans sz0 hb.size
          have Rw0 := Rp.M_below Zw0.out hb
          have HB3 := Lib.hid (HB2.out.trans (hb.mono HB2.out.size))
          clear Zw0 HB2 hb
          have Zw0 := Lib.hid Rw0
          have Zx0 := Lib.hid Rx0
          clear Rw0 Rx0
          go_wp2_with fail
          (with_reducible refine (toIntS_k (kIntS.K_below HB3.out.block G1.out) (smIntS_le (n := 1048576) (m := 1048576) t1 (by decide))).mono ?_)
          rintro e w4 ⟨px1_, Fx1, rfl, Rx1, Dx1, Nx1, hb⟩
          have Ex1 := kIntS.M_lt Rx1
          have zzx1 := hb.size
          have sox1 := sz0
          replace sz0 := Nat.le_trans sz0 hb.size
          have Rw0 := Rp.M_below Zw0.out hb
          have Rx0 := Rp.M_below Zx0.out hb
          have HB4 := Lib.hid (HB3.out.trans (hb.mono HB3.out.size))
          clear Zw0 Zx0 HB3 hb
          have Zw0 := Lib.hid Rw0
          have Zx0 := Lib.hid Rx0
          have Zx1 := Lib.hid Rx1
          clear Rw0 Rx0 Rx1
          go_wp2_with fail
          (with_reducible refine (toIntS_k (kIntS.K_below HB4.out.block G2.out) (smIntS_le (n := 1048576) (m := 1048576) t2 (by decide))).mono ?_)
          rintro e w5 ⟨px2_, Fx2, rfl, Rx2, Dx2, Nx2, hb⟩
          have Ex2 := kIntS.M_lt Rx2
          have zzx2 := hb.size
          have sox2 := sz0
          replace sz0 := Nat.le_trans sz0 hb.size
          have Rw0 := Rp.M_below Zw0.out hb
          have Rx0 := Rp.M_below Zx0.out hb
          have Rx1 := Rp.M_below Zx1.out hb
          have HB5 := Lib.hid (HB4.out.trans (hb.mono HB4.out.size))
          clear Zw0 Zx0 Zx1 HB4 hb
          have Zw0 := Lib.hid Rw0
          have Zx0 := Lib.hid Rx0
          have Zx1 := Lib.hid Rx1
          have Zx2 := Lib.hid Rx2
          clear Rw0 Rx0 Rx1 Rx2
          go_upto_region 13 with fail
          go_cut [14, 15, 16] from 14 to 16 (fun s14 s15 s16 wx => HasPlayTaking a0 a1 a2 w5.heap.size w5 wx s14 ∧ s15 = .int .i64 (plM a0 a1 a2) ∧ s16 = .bool (plOk a0 a1 a2))
          case first =>
            have yh := HB5.out.size
            go_wp2_with (first
                | (go_at_call 31; ((with_reducible refine (iPlayTaking_k (kStringS.K_below ((by repeat (first | assumption | (with_reducible exact Below.refl _ _) | (with_reducible refine below_call ?_ hc) | (with_reducible refine below_call ?_ hb0) | (with_reducible refine below_call ?_ hb1) | (with_reducible refine below_call ?_ hb2) | (with_reducible refine below_call ?_ hb) | (with_reducible refine Below.drew ?_) | (with_reducible refine below_alloc2 ?_ _))) : Below _ _ _).block (kStringS.M_K Zx0.out)) h0 (by have := (szStringS_sm (n := 1048576) (x := a0) (by omega)); exact this) (kIntS.K_below ((by repeat (first | assumption | (with_reducible exact Below.refl _ _) | (with_reducible refine below_call ?_ hc) | (with_reducible refine below_call ?_ hb0) | (with_reducible refine below_call ?_ hb1) | (with_reducible refine below_call ?_ hb2) | (with_reducible refine below_call ?_ hb) | (with_reducible refine Below.drew ?_) | (with_reducible refine below_alloc2 ?_ _))) : Below _ _ _).block (kIntS.M_K Zx1.out)) h1 (by have := (smIntS_le (n := 1048576) (m := 1048576) t1 (by decide)); exact this) (kIntS.K_below ((by repeat (first | assumption | (with_reducible exact Below.refl _ _) | (with_reducible refine below_call ?_ hc) | (with_reducible refine below_call ?_ hb0) | (with_reducible refine below_call ?_ hb1) | (with_reducible refine below_call ?_ hb2) | (with_reducible refine below_call ?_ hb) | (with_reducible refine Below.drew ?_) | (with_reducible refine below_alloc2 ?_ _))) : Below _ _ _).block (kIntS.M_K Zx2.out)) h2 (by have := (smIntS_le (n := 1048576) (m := 1048576) t2 (by decide)); exact this)).mono ?_); rintro e wz ⟨cd0, FD0, rfl, rd0, rd_1, rd_2, hc⟩; have zs_c := hc.size; (try simp at zs_c))))
            all_goals (go_meet; go_light)
            all_goals
              have K : Below w5.heap.size w5 wz := (by repeat (first | assumption | (with_reducible exact Below.refl _ _) | (with_reducible refine below_call ?_ hc) | (with_reducible refine below_call ?_ hb0) | (with_reducible refine below_call ?_ hb1) | (with_reducible refine below_call ?_ hb2) | (with_reducible refine below_call ?_ hb) | (with_reducible refine Below.drew ?_) | (with_reducible refine below_alloc2 ?_ _)))
              (refine ⟨?_, rfl, rfl⟩; exact ⟨_, _, rfl, rd0, (fun b hm => by have := rd_1 b hm; first | omega | (simp at this; omega)), rd_2, K⟩)
          case rest =>
            rename World => w6
            obtain ⟨⟨pg0_, Fg0, rfl, Rg0, Dg0, Ng0, hb⟩, rfl, rfl⟩ := hcut
            have Eg0 := kStringS.M_lt Rg0
            have zzg0 := hb.size
            have sog0 := sz0
            replace sz0 := Nat.le_trans sz0 hb.size
            have Rw0 := Rp.M_below Zw0.out hb
            have Rx0 := Rp.M_below Zx0.out hb
            have Rx1 := Rp.M_below Zx1.out hb
            have Rx2 := Rp.M_below Zx2.out hb
            have HB6 := Lib.hid (HB5.out.trans (hb.mono HB5.out.size))
            clear Zw0 Zx0 Zx1 Zx2 HB5 hb
            have Zw0 := Lib.hid Rw0
            have Zx0 := Lib.hid Rx0
            have Zx1 := Lib.hid Rx1
            have Zx2 := Lib.hid Rx2
            have Zg0 := Lib.hid Rg0
            clear Rw0 Rx0 Rx1 Rx2 Rg0
            go_wp2_with fail
            (with_reducible refine (eqStringS_k (kStringS.M_K Zg0.out) (kStringS.M_K Zw0.out) (smStringS_le y0 (by decide))).mono ?_)
            rintro e w7 ⟨rfl, hb⟩
            replace sz0 := Nat.le_trans sz0 hb.size
            have Rw0 := Rp.M_below Zw0.out hb
            have Rx0 := Rp.M_below Zx0.out hb
            have Rx1 := Rp.M_below Zx1.out hb
            have Rx2 := Rp.M_below Zx2.out hb
            have Rg0 := Rp.M_below Zg0.out hb
            have HB7 := Lib.hid (HB6.out.trans (hb.mono HB6.out.size))
            clear Zw0 Zx0 Zx1 Zx2 Zg0 HB6 hb
            have Zw0 := Lib.hid Rw0
            have Zx0 := Lib.hid Rx0
            have Zx1 := Lib.hid Rx1
            have Zx2 := Lib.hid Rx2
            have Zg0 := Lib.hid Rg0
            clear Rw0 Rx0 Rx1 Rx2 Rg0
            go_wp2_with fail
            (with_reducible refine (toStringS_k (kStringS.K_below HB7.out.block G0.out) (szStringS_sm (n := 1048576) (x := a0) (by omega))).mono ?_)
            rintro e w8 ⟨pt, Ft, rfl, Rt, _, _, hb⟩
            replace sz0 := Nat.le_trans sz0 hb.size
            have Rw0 := Rp.M_below Zw0.out hb
            have Rx0 := Rp.M_below Zx0.out hb
            have Rx1 := Rp.M_below Zx1.out hb
            have Rx2 := Rp.M_below Zx2.out hb
            have Rg0 := Rp.M_below Zg0.out hb
            have HB8 := Lib.hid (HB7.out.trans (hb.mono HB7.out.size))
            clear Zw0 Zx0 Zx1 Zx2 Zg0 HB7 hb
            have Zw0 := Lib.hid Rw0
            have Zx0 := Lib.hid Rx0
            have Zx1 := Lib.hid Rx1
            have Zx2 := Lib.hid Rx2
            have Zg0 := Lib.hid Rg0
            clear Rw0 Rx0 Rx1 Rx2 Rg0
            go_wp2_with fail
            (with_reducible refine (eqStringS_k (kStringS.M_K Zx0.out) (kStringS.M_K Rt) (szStringS_sm (n := 140737488355328) (x := a0) (by omega))).mono ?_)
            rintro e w9 ⟨rfl, hb⟩
            clear Rt
            replace sz0 := Nat.le_trans sz0 hb.size
            have Rw0 := Rp.M_below Zw0.out hb
            have Rx0 := Rp.M_below Zx0.out hb
            have Rx1 := Rp.M_below Zx1.out hb
            have Rx2 := Rp.M_below Zx2.out hb
            have Rg0 := Rp.M_below Zg0.out hb
            have HB9 := Lib.hid (HB8.out.trans (hb.mono HB8.out.size))
            clear Zw0 Zx0 Zx1 Zx2 Zg0 HB8 hb
            have Zw0 := Lib.hid Rw0
            have Zx0 := Lib.hid Rx0
            have Zx1 := Lib.hid Rx1
            have Zx2 := Lib.hid Rx2
            have Zg0 := Lib.hid Rg0
            clear Rw0 Rx0 Rx1 Rx2 Rg0
            go_wp2_with fail
            (with_reducible refine (toIntS_k (kIntS.K_below HB9.out.block G1.out) (smIntS_le (n := 1048576) (m := 1048576) t1 (by decide))).mono ?_)
            rintro e w10 ⟨pt, Ft, rfl, Rt, _, _, hb⟩
            replace sz0 := Nat.le_trans sz0 hb.size
            have Rw0 := Rp.M_below Zw0.out hb
            have Rx0 := Rp.M_below Zx0.out hb
            have Rx1 := Rp.M_below Zx1.out hb
            have Rx2 := Rp.M_below Zx2.out hb
            have Rg0 := Rp.M_below Zg0.out hb
            have HB10 := Lib.hid (HB9.out.trans (hb.mono HB9.out.size))
            clear Zw0 Zx0 Zx1 Zx2 Zg0 HB9 hb
            have Zw0 := Lib.hid Rw0
            have Zx0 := Lib.hid Rx0
            have Zx1 := Lib.hid Rx1
            have Zx2 := Lib.hid Rx2
            have Zg0 := Lib.hid Rg0
            clear Rw0 Rx0 Rx1 Rx2 Rg0
            go_wp2_with fail
            (with_reducible refine (eqIntS_k (kIntS.M_K Zx1.out) (kIntS.M_K Rt) (smIntS_le (n := 1048576) (m := 140737488355328) t1 (by decide))).mono ?_)
            rintro e w11 ⟨rfl, hb⟩
            clear Rt
            replace sz0 := Nat.le_trans sz0 hb.size
            have Rw0 := Rp.M_below Zw0.out hb
            have Rx0 := Rp.M_below Zx0.out hb
            have Rx1 := Rp.M_below Zx1.out hb
            have Rx2 := Rp.M_below Zx2.out hb
            have Rg0 := Rp.M_below Zg0.out hb
            have HB11 := Lib.hid (HB10.out.trans (hb.mono HB10.out.size))
            clear Zw0 Zx0 Zx1 Zx2 Zg0 HB10 hb
            have Zw0 := Lib.hid Rw0
            have Zx0 := Lib.hid Rx0
            have Zx1 := Lib.hid Rx1
            have Zx2 := Lib.hid Rx2
            have Zg0 := Lib.hid Rg0
            clear Rw0 Rx0 Rx1 Rx2 Rg0
            go_wp2_with fail
            (with_reducible refine (toIntS_k (kIntS.K_below HB11.out.block G2.out) (smIntS_le (n := 1048576) (m := 1048576) t2 (by decide))).mono ?_)
            rintro e w12 ⟨pt, Ft, rfl, Rt, _, _, hb⟩
            replace sz0 := Nat.le_trans sz0 hb.size
            have Rw0 := Rp.M_below Zw0.out hb
            have Rx0 := Rp.M_below Zx0.out hb
            have Rx1 := Rp.M_below Zx1.out hb
            have Rx2 := Rp.M_below Zx2.out hb
            have Rg0 := Rp.M_below Zg0.out hb
            have HB12 := Lib.hid (HB11.out.trans (hb.mono HB11.out.size))
            clear Zw0 Zx0 Zx1 Zx2 Zg0 HB11 hb
            have Zw0 := Lib.hid Rw0
            have Zx0 := Lib.hid Rx0
            have Zx1 := Lib.hid Rx1
            have Zx2 := Lib.hid Rx2
            have Zg0 := Lib.hid Rg0
            clear Rw0 Rx0 Rx1 Rx2 Rg0
            go_wp2_with fail
            (with_reducible refine (eqIntS_k (kIntS.M_K Zx2.out) (kIntS.M_K Rt) (smIntS_le (n := 1048576) (m := 140737488355328) t2 (by decide))).mono ?_)
            rintro e w13 ⟨rfl, hb⟩
            clear Rt
            replace sz0 := Nat.le_trans sz0 hb.size
            have Rw0 := Rp.M_below Zw0.out hb
            have Rx0 := Rp.M_below Zx0.out hb
            have Rx1 := Rp.M_below Zx1.out hb
            have Rx2 := Rp.M_below Zx2.out hb
            have Rg0 := Rp.M_below Zg0.out hb
            have HB13 := Lib.hid (HB12.out.trans (hb.mono HB12.out.size))
            clear Zw0 Zx0 Zx1 Zx2 Zg0 HB12 hb
            have Zw0 := Lib.hid Rw0
            have Zx0 := Lib.hid Rx0
            have Zx1 := Lib.hid Rx1
            have Zx2 := Lib.hid Rx2
            have Zg0 := Lib.hid Rg0
            clear Rw0 Rx0 Rx1 Rx2 Rg0
            have m1 := mkStringS_sm (k := 1) (szStringS_sm (n := 1048576) (x := a0) (by omega))
            have n1 := mkStringS_le (a0) 1
            have l1 : (mkStringS (a0) 1).2 ≤ 4611686018427387904 := by omega
            go_wp2_with fail
            (with_reducible refine (markStringS_k Zx0.out Nx0 (by omega) l1 (szStringS_sm (n := 140737488355328) (x := a0) (by omega))).mono ?_)
            rintro e w14 ⟨rfl, hr, hk⟩
            clear hr
            generalize (mkStringS (a0) 1).2 = k1_ at *
            replace sz0 := Nat.le_trans sz0 hk.size
            have Rw0 := kStringS.M_move (fun b hb => hk.block b (kStringS.M_lt Zw0.out b hb) (fun hm => by have := Dx0 _ hm; have := Ex0 _ hm; have := Dw0 _ hb; have := Ew0 _ hb; omega)) Zw0.out
            have Rx1 := kIntS.M_move (fun b hb => hk.block b (kIntS.M_lt Zx1.out b hb) (fun hm => by have := Dx0 _ hm; have := Ex0 _ hm; have := Dx1 _ hb; have := Ex1 _ hb; omega)) Zx1.out
            have Rx2 := kIntS.M_move (fun b hb => hk.block b (kIntS.M_lt Zx2.out b hb) (fun hm => by have := Dx0 _ hm; have := Ex0 _ hm; have := Dx2 _ hb; have := Ex2 _ hb; omega)) Zx2.out
            have Rg0 := kStringS.M_move (fun b hb => hk.block b (kStringS.M_lt Zg0.out b hb) (fun hm => by have := Dx0 _ hm; have := Ex0 _ hm; have := Dg0 _ hb; have := Eg0 _ hb; omega)) Zg0.out
            have HB14 := Lib.hid (HB13.out.trans (hk.toBelow HB13.out.size (fun b hb => by have := Dx0 _ hb; omega)))
            clear Zw0 Zx0 Zx1 Zx2 Zg0 HB13 hk
            have Zw0 := Lib.hid Rw0
            have Zx1 := Lib.hid Rx1
            have Zx2 := Lib.hid Rx2
            have Zg0 := Lib.hid Rg0
            clear Rw0 Rx1 Rx2 Rg0
            have m2 := mkIntS_sm (k := k1_) (smIntS_le (n := 1048576) (m := 1048576) t1 (by decide))
            have n2 := mkIntS_le (a1) k1_
            have l2 : (mkIntS (a1) k1_).2 ≤ 4611686018427387904 := by omega
            go_wp2_with fail
            (with_reducible refine (markIntS_k Zx1.out Nx1 (by omega) l2 (smIntS_le (n := 1048576) (m := 140737488355328) t1 (by decide))).mono ?_)
            rintro e w15 ⟨rfl, hr, hk⟩
            clear hr
            generalize (mkIntS (a1) k1_).2 = k2_ at *
            replace sz0 := Nat.le_trans sz0 hk.size
            have Rw0 := kStringS.M_move (fun b hb => hk.block b (kStringS.M_lt Zw0.out b hb) (fun hm => by have := Dx1 _ hm; have := Ex1 _ hm; have := Dw0 _ hb; have := Ew0 _ hb; omega)) Zw0.out
            have Rx2 := kIntS.M_move (fun b hb => hk.block b (kIntS.M_lt Zx2.out b hb) (fun hm => by have := Dx1 _ hm; have := Ex1 _ hm; have := Dx2 _ hb; have := Ex2 _ hb; omega)) Zx2.out
            have Rg0 := kStringS.M_move (fun b hb => hk.block b (kStringS.M_lt Zg0.out b hb) (fun hm => by have := Dx1 _ hm; have := Ex1 _ hm; have := Dg0 _ hb; have := Eg0 _ hb; omega)) Zg0.out
            have HB15 := Lib.hid (HB14.out.trans (hk.toBelow HB14.out.size (fun b hb => by have := Dx1 _ hb; omega)))
            clear Zw0 Zx1 Zx2 Zg0 HB14 hk
            have Zw0 := Lib.hid Rw0
            have Zx2 := Lib.hid Rx2
            have Zg0 := Lib.hid Rg0
            clear Rw0 Rx2 Rg0
            have m3 := mkIntS_sm (k := k2_) (smIntS_le (n := 1048576) (m := 1048576) t2 (by decide))
            have n3 := mkIntS_le (a2) k2_
            have l3 : (mkIntS (a2) k2_).2 ≤ 4611686018427387904 := by omega
            go_wp2_with fail
            (with_reducible refine (markIntS_k Zx2.out Nx2 (by omega) l3 (smIntS_le (n := 1048576) (m := 140737488355328) t2 (by decide))).mono ?_)
            rintro e w16 ⟨rfl, hr, hk⟩
            clear hr
            generalize (mkIntS (a2) k2_).2 = k3_ at *
            replace sz0 := Nat.le_trans sz0 hk.size
            have Rw0 := kStringS.M_move (fun b hb => hk.block b (kStringS.M_lt Zw0.out b hb) (fun hm => by have := Dx2 _ hm; have := Ex2 _ hm; have := Dw0 _ hb; have := Ew0 _ hb; omega)) Zw0.out
            have Rg0 := kStringS.M_move (fun b hb => hk.block b (kStringS.M_lt Zg0.out b hb) (fun hm => by have := Dx2 _ hm; have := Ex2 _ hm; have := Dg0 _ hb; have := Eg0 _ hb; omega)) Zg0.out
            have HB16 := Lib.hid (HB15.out.trans (hk.toBelow HB15.out.size (fun b hb => by have := Dx2 _ hb; omega)))
            clear Zw0 Zx2 Zg0 HB15 hk
            have Zw0 := Lib.hid Rw0
            have Zg0 := Lib.hid Rg0
            clear Rw0 Rg0
            go_wp2_with fail
            (with_reducible refine (eqStringS_k (kStringS.M_K Zg0.out) (kStringS.M_K Zw0.out) (smStringS_le y0 (by decide))).mono ?_)
            rintro e w17 ⟨rfl, hb⟩
            replace sz0 := Nat.le_trans sz0 hb.size
            have Rw0 := Rp.M_below Zw0.out hb
            have Rg0 := Rp.M_below Zg0.out hb
            have HB17 := Lib.hid (HB16.out.trans (hb.mono HB16.out.size))
            clear Zw0 Zg0 HB16 hb
            have Zw0 := Lib.hid Rw0
            have Zg0 := Lib.hid Rg0
            clear Rw0 Rg0
            have m4 := mkStringS_sm (k := 1) y0
            have n4 := mkStringS_le (plV a0 a1 a2) 1
            have l4 : (mkStringS (plV a0 a1 a2) 1).2 ≤ 4611686018427387904 := by omega
            go_wp2_with fail
            (with_reducible refine (markStringS_k Zg0.out Ng0 (by omega) l4 (smStringS_le y0 (by decide))).mono ?_)
            rintro e w18 ⟨rfl, hr, hk⟩
            have Rg0 := hr; clear hr
            replace sz0 := Nat.le_trans sz0 hk.size
            have Rw0 := kStringS.M_move (fun b hb => hk.block b (kStringS.M_lt Zw0.out b hb) (fun hm => by have := Dg0 _ hm; have := Eg0 _ hm; have := Dw0 _ hb; have := Ew0 _ hb; omega)) Zw0.out
            have HB18 := Lib.hid (HB17.out.trans (hk.toBelow HB17.out.size (fun b hb => by have := Dg0 _ hb; omega)))
            clear Zw0 Zg0 HB17 hk
            have Zw0 := Lib.hid Rw0
            have Zg0 := Lib.hid Rg0
            clear Rw0 Rg0
            generalize hk4 : (mkStringS (plV a0 a1 a2) 1).2 = k4_ at n4 m4 l4 ⊢
            go_wp2_with fail
            (with_reducible refine (heldStringS_k (kStringS.M_K Zg0.out) (by omega) (by rw [hk4]; omega) (smStringS_le y0 (by decide))).mono ?_)
            rintro e w19 ⟨rfl, hb⟩
            rw [hk4]
            replace sz0 := Nat.le_trans sz0 hb.size
            have Rw0 := Rp.M_below Zw0.out hb
            have Rg0 := Rp.M_below Zg0.out hb
            have HB19 := Lib.hid (HB18.out.trans (hb.mono HB18.out.size))
            clear Zw0 Zg0 HB18 hb
            have Zw0 := Lib.hid Rw0
            have Zg0 := Lib.hid Rg0
            clear Rw0 Rg0
            have nk45 : ¬ k4_ < 0 := by omega
            go_upto_region 36 with fail
            go_cut [20, 21, 22] from 20 to 22 (fun s20 s21 s22 wx => HasPlayTaking a0 a1 a2 w19.heap.size w19 wx s20 ∧ s21 = .int .i64 (plM a0 a1 a2) ∧ s22 = .bool (plOk a0 a1 a2))
            case first =>
              have yh := HB19.out.size
              go_wp2_with (first
                  | (go_at_call 29; ((with_reducible refine (toStringS_k (kStringS.K_below (HB19.out.trans (Below.mono (by repeat (first | assumption | (with_reducible exact Below.refl _ _) | (with_reducible refine below_call ?_ hc) | (with_reducible refine below_call ?_ hb0) | (with_reducible refine below_call ?_ hb1) | (with_reducible refine below_call ?_ hb2) | (with_reducible refine below_call ?_ hb) | (with_reducible refine Below.drew ?_) | (with_reducible refine below_alloc2 ?_ _))) HB19.out.size)).block G0.out) (szStringS_sm (n := 1048576) (x := a0) (by omega))).mono ?_); rintro e wt0 ⟨ds0, F0_, rfl, ra0, rb0, rc0, hb0⟩; have zs0 := hb0.size; (try simp at zs0)))
                  | (go_at_call 30; ((with_reducible refine (toIntS_k (kIntS.K_below (HB19.out.trans (Below.mono (by repeat (first | assumption | (with_reducible exact Below.refl _ _) | (with_reducible refine below_call ?_ hc) | (with_reducible refine below_call ?_ hb0) | (with_reducible refine below_call ?_ hb1) | (with_reducible refine below_call ?_ hb2) | (with_reducible refine below_call ?_ hb) | (with_reducible refine Below.drew ?_) | (with_reducible refine below_alloc2 ?_ _))) HB19.out.size)).block G1.out) (smIntS_le (n := 1048576) (m := 1048576) t1 (by decide))).mono ?_); rintro e wt1 ⟨ds1, F1_, rfl, ra1, rb1, rc1, hb1⟩; have zs1 := hb1.size; (try simp at zs1)))
                  | (go_at_call 30; ((with_reducible refine (toIntS_k (kIntS.K_below (HB19.out.trans (Below.mono (by repeat (first | assumption | (with_reducible exact Below.refl _ _) | (with_reducible refine below_call ?_ hc) | (with_reducible refine below_call ?_ hb0) | (with_reducible refine below_call ?_ hb1) | (with_reducible refine below_call ?_ hb2) | (with_reducible refine below_call ?_ hb) | (with_reducible refine Below.drew ?_) | (with_reducible refine below_alloc2 ?_ _))) HB19.out.size)).block G2.out) (smIntS_le (n := 1048576) (m := 1048576) t2 (by decide))).mono ?_); rintro e wt2 ⟨ds2, F2_, rfl, ra2, rb2, rc2, hb2⟩; have zs2 := hb2.size; (try simp at zs2)))
                  | (go_at_call 31; ((with_reducible refine (iPlayTaking_k (kStringS.K_below ((by repeat (first | assumption | (with_reducible exact Below.refl _ _) | (with_reducible refine below_call ?_ hc) | (with_reducible refine below_call ?_ hb0) | (with_reducible refine below_call ?_ hb1) | (with_reducible refine below_call ?_ hb2) | (with_reducible refine below_call ?_ hb) | (with_reducible refine Below.drew ?_) | (with_reducible refine below_alloc2 ?_ _))) : Below _ _ _).block (kStringS.M_K ra0)) h0 (by have := (szStringS_sm (n := 1048576) (x := a0) (by omega)); exact this) (kIntS.K_below ((by repeat (first | assumption | (with_reducible exact Below.refl _ _) | (with_reducible refine below_call ?_ hc) | (with_reducible refine below_call ?_ hb0) | (with_reducible refine below_call ?_ hb1) | (with_reducible refine below_call ?_ hb2) | (with_reducible refine below_call ?_ hb) | (with_reducible refine Below.drew ?_) | (with_reducible refine below_alloc2 ?_ _))) : Below _ _ _).block (kIntS.M_K ra1)) h1 (by have := (smIntS_le (n := 1048576) (m := 1048576) t1 (by decide)); exact this) (kIntS.K_below ((by repeat (first | assumption | (with_reducible exact Below.refl _ _) | (with_reducible refine below_call ?_ hc) | (with_reducible refine below_call ?_ hb0) | (with_reducible refine below_call ?_ hb1) | (with_reducible refine below_call ?_ hb2) | (with_reducible refine below_call ?_ hb) | (with_reducible refine Below.drew ?_) | (with_reducible refine below_alloc2 ?_ _))) : Below _ _ _).block (kIntS.M_K ra2)) h2 (by have := (smIntS_le (n := 1048576) (m := 1048576) t2 (by decide)); exact this)).mono ?_); rintro e wz ⟨cd0, FD0, rfl, rd0, rd_1, rd_2, hc⟩; have zs_c := hc.size; (try simp at zs_c))))
              all_goals (go_meet; go_light)
              all_goals
                have K : Below w19.heap.size w19 wz := (by repeat (first | assumption | (with_reducible exact Below.refl _ _) | (with_reducible refine below_call ?_ hc) | (with_reducible refine below_call ?_ hb0) | (with_reducible refine below_call ?_ hb1) | (with_reducible refine below_call ?_ hb2) | (with_reducible refine below_call ?_ hb) | (with_reducible refine Below.drew ?_) | (with_reducible refine below_alloc2 ?_ _)))
                (refine ⟨?_, rfl, rfl⟩; exact ⟨_, _, rfl, rd0, (fun b hm => by have := rd_1 b hm; first | omega | (simp at this; omega)), rd_2, K⟩)
            case rest =>
              rename World => w20
              obtain ⟨⟨ph0_, Fh0, rfl, Rh0, Dh0, Nh0, hb⟩, rfl, rfl⟩ := hcut
              have Eh0 := kStringS.M_lt Rh0
              have zzh0 := hb.size
              have soh0 := sz0
              replace sz0 := Nat.le_trans sz0 hb.size
              have Rw0 := Rp.M_below Zw0.out hb
              have Rg0 := Rp.M_below Zg0.out hb
              have HB20 := Lib.hid (HB19.out.trans (hb.mono HB19.out.size))
              clear Zw0 Zg0 HB19 hb
              have Zw0 := Lib.hid Rw0
              have Zg0 := Lib.hid Rg0
              have Zh0 := Lib.hid Rh0
              clear Rw0 Rg0 Rh0
              go_wp2_with fail
              (with_reducible refine (eqStringS_k (kStringS.M_K Zh0.out) (kStringS.M_K Zw0.out) (smStringS_le y0 (by decide))).mono ?_)
              rintro e w21 ⟨rfl, hb⟩
              replace sz0 := Nat.le_trans sz0 hb.size
              have Rw0 := Rp.M_below Zw0.out hb
              have Rg0 := Rp.M_below Zg0.out hb
              have Rh0 := Rp.M_below Zh0.out hb
              have HB21 := Lib.hid (HB20.out.trans (hb.mono HB20.out.size))
              clear Zw0 Zg0 Zh0 HB20 hb
              have Zw0 := Lib.hid Rw0
              have Zg0 := Lib.hid Rg0
              have Zh0 := Lib.hid Rh0
              clear Rw0 Rg0 Rh0
              go_wp2_with fail
              (with_reducible refine (heldStringS_k (kStringS.M_K Zg0.out) (by omega) (by rw [hk4]; omega) (smStringS_le y0 (by decide))).mono ?_)
              rintro e w22 ⟨rfl, hb⟩
              rw [hk4]
              replace sz0 := Nat.le_trans sz0 hb.size
              have Rw0 := Rp.M_below Zw0.out hb
              have Rg0 := Rp.M_below Zg0.out hb
              have Rh0 := Rp.M_below Zh0.out hb
              have HB22 := Lib.hid (HB21.out.trans (hb.mono HB21.out.size))
              clear Zw0 Zg0 Zh0 HB21 hb
              have Zw0 := Lib.hid Rw0
              have Zg0 := Lib.hid Rg0
              have Zh0 := Lib.hid Rh0
              clear Rw0 Rg0 Rh0
              have nk45 : ¬ k4_ < 0 := by omega
              go_wp2
              go_ret
              exact ⟨rfl, HB22.out⟩
end Go.Proofs.Ytioelmhikablcaa
