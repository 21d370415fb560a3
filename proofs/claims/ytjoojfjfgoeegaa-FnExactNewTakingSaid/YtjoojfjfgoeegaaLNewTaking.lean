/- Law FnExactNewTaking: at every input it returns true; what was there stays. -/
import Derived.Test.YtjoojfjfgoeegaaTkA
namespace Go.Proofs.Ytjoojfjfgoeegaa
open Go Go.RowKit Go.Sort
set_option linter.unusedVariables false
set_option linter.unusedSimpArgs false

abbrev HasNewTaking (a0 : List DWanted) (N : Nat) (w wx : World) (s : Value) : Prop := Has kTaking 39 (newT a0) N w wx s
set_option maxHeartbeats 4000000 in
set_option maxRecDepth 100000 in
theorem law_NewTaking (a0 : List DWanted) (v0_ : Value) (w : World) (g0 : kWantedS.K w a0 [v0_]) (h0 : wfWantedS a0) (y0 : smWantedS 1048576 a0 → smTaking 4194304 (newT a0)) : Calls Try.prog 5 #[v0_] w
    fun e w' => e = .returned (.bool true) ∧ Below w.heap.size w w' := by
  have G0 := Lib.hid g0; clear g0
  go_enter Try.func5, Try.ntmps5
  go_wp2_with fail
  (with_reducible refine (szWantedS_k (kWantedS.K_below ((by repeat (first | (with_reducible exact Below.refl _ _) | (with_reducible refine Below.alloc ?_ (by first | (with_reducible exact Nat.le_refl _) | (simp; done) | (simp; omega)) _))) : Below w.heap.size w _).block G0.out) (by omega) (by omega) h0).mono ?_)
  rintro e w1 ⟨rfl, hb⟩
  have HB1 := Lib.hid (Below.trans (by repeat (first | (with_reducible exact Below.refl _ _) | (with_reducible refine Below.alloc ?_ (by first | (with_reducible exact Nat.le_refl _) | (simp; done) | (simp; omega)) _))) (hb.mono (by first | (with_reducible exact Nat.le_refl _) | (simp; done) | (simp; omega))) : Below w.heap.size w w1)
  have sz0 : w.heap.size ≤ w1.heap.size := by have := hb.size; (try simp at this); omega
  clear hb
  by_cases z0 : (szNWantedS a0 : Int) ≤ 1048576
  case neg =>
    rw [szR_no z0]
    go_wp2
    go_ret
    exact ⟨rfl, HB1.out⟩
  case pos =>
    rw [szR_yes z0]
    replace y0 := y0 (szWantedS_sm (n := 1048576) (x := a0) (by omega)) 
    go_upto_region 5 with fail
    go_cut [4, 5] from 4 to 5 (fun s4 s5 wx => HasNewTaking a0 w1.heap.size w1 wx s4 ∧ s5 = .bool (wantOk a0))
    case first =>
      have yh := HB1.out.size
      go_wp2_with (first
          | (go_at_call 25; (refine (toWantedS_k (kWantedS.K_below (HB1.out.trans (Below.mono (by repeat (first | assumption | (with_reducible exact Below.refl _ _) | (with_reducible refine below_call ?_ hc) | (with_reducible refine below_call ?_ hb0) | (with_reducible refine below_call ?_ hb) | (with_reducible refine Below.drew ?_) | (with_reducible refine below_alloc2 ?_ _))) HB1.out.size)).block G0.out) (szWantedS_sm (n := 1048576) (x := a0) (by omega))).mono ?_; rintro e wt0 ⟨ds0, F0_, rfl, ra0, rb0, rc0, hb0⟩; have zs0 := hb0.size; (try simp at zs0); (first | have BG0 := Box.below BG0 hb0 | have BG0 := Box.below (Box.drew (Box.new (T := 39) (cs := #[.slice none 0 0, .slice none 0 0]) rfl)) hb0 | have BG0 := Box.below (Box.new (T := 39) (cs := #[.slice none 0 0, .slice none 0 0]) rfl) hb0 | skip)))
          | (go_at_call 24; (refine (sNewTaking_k (kWantedS.K_below ((by repeat (first | assumption | (with_reducible exact Below.refl _ _) | (with_reducible refine below_call ?_ hc) | (with_reducible refine below_call ?_ hb0) | (with_reducible refine below_call ?_ hb) | (with_reducible refine Below.drew ?_) | (with_reducible refine below_alloc2 ?_ _))) : Below _ _ _).block (kWantedS.M_K ra0)) h0 (by have := (szWantedS_sm (n := 1048576) (x := a0) (by omega)); exact this)).mono ?_; rintro e wz ⟨cd0, FD0, rfl, rd0, rd_1, rd_2, hc⟩; have zs_c := hc.size; (try simp at zs_c); obtain ⟨pd0_0, pd0_1, FD0_0, FD0_1, rfl, rfl, pd0_r0, pd0_r1⟩ := kTaking_open rd0; obtain ⟨pd0_A0, pd0_C0, rfl, _, _⟩ := Rp.Row_K pd0_r0; obtain ⟨pd0_A1, pd0_C1, rfl, _, _⟩ := Rp.Row_K pd0_r1; (first | have BG0 := Box.below BG0 hc | have BG0 := Box.below (Box.drew (Box.new (T := 39) (cs := #[.slice none 0 0, .slice none 0 0]) rfl)) hc | have BG0 := Box.below (Box.new (T := 39) (cs := #[.slice none 0 0, .slice none 0 0]) rfl) hc | skip); (try (have q0_0 := BG0.cell 0 (v := .slice none 0 0) rfl; have q0_1 := BG0.cell 1 (v := .slice none 0 0) rfl; have fg0 := BG0.fro)))))
      all_goals (go_meet; go_light)
      all_goals
        have K : Below w1.heap.size w1 wz := (by repeat (first | assumption | (with_reducible exact Below.refl _ _) | (with_reducible refine below_call ?_ hc) | (with_reducible refine below_call ?_ hb0) | (with_reducible refine below_call ?_ hb) | (with_reducible refine Below.drew ?_) | (with_reducible refine below_alloc2 ?_ _)))
        first
          | (refine ⟨?_, rfl⟩; with_reducible refine Has.new (d := kTaking) (kTaking_make pd0_r0 pd0_r1) rd_2 ?_ K (Nat.le_refl _); exact (fun b hm => by have := rd_1 b hm; first | omega | (simp at this; omega)))
          | (refine ⟨?_, rfl⟩; exact Has.old (d := kTaking) (kTaking_make pd0_r0 pd0_r1) rd_2 (fun b hm => by have := rd_1 b hm; first | omega | (simp at this; omega)) K BG0 (by first | omega | (simp; omega) | (simp; done)) (Nat.le_refl _) rfl)
    case rest =>
      rename World => w2
      obtain ⟨⟨gw0, Fw0, _, rfl, Bw0, Rw0, Nw0, dw0, ew0, hb⟩, rfl⟩ := hcut
      obtain ⟨pw0_0, pw0_1, Fw0_0, Fw0_1, rfl, rfl, rw0_0, rw0_1⟩ := kTaking_open Rw0
      have Rw0 := kTaking_make rw0_0 rw0_1
      clear rw0_0 rw0_1
      have Dw0 := fun b hb => (dw0 b hb).1; have Nw0_w0 := fun b hb => (dw0 b hb).2; clear dw0
      have ew0 := And.intro ew0 Bw0.lt
      have Ew0 := kTaking.M_lt Rw0
      have zzw0 := hb.size
      have sow0 := sz0
      replace sz0 := Nat.le_trans sz0 hb.size
      have HB2 := Lib.hid (HB1.out.trans (hb.mono HB1.out.size))
      clear HB1 hb
      have bw0_0 := Bw0.cell 0 (v := pw0_0) rfl
      have bw0_1 := Bw0.cell 1 (v := pw0_1) rfl
      have Xw0 := Lib.hid Bw0
      have Zw0 := Lib.hid Rw0
      clear Bw0 Rw0
      go_wp2_with fail
      (with_reducible refine (toWantedS_k (kWantedS.K_below HB2.out.block G0.out) (szWantedS_sm (n := 1048576) (x := a0) (by omega))).mono ?_)
      rintro e w3 ⟨px0_, Fx0, rfl, Rx0, Dx0, Nx0, hb⟩
      have Ex0 := kWantedS.M_lt Rx0
      have zzx0 := hb.size
      have sox0 := sz0
      replace sz0 := Nat.le_trans sz0 hb.size
      have Bw0 := Xw0.out.below hb
      have Rw0 := Rp.M_below Zw0.out hb
      have HB3 := Lib.hid (HB2.out.trans (hb.mono HB2.out.size))
      clear Xw0 Zw0 HB2 hb
      clear bw0_0 bw0_1
      have bw0_0 := Bw0.cell 0 (v := pw0_0) rfl
      have bw0_1 := Bw0.cell 1 (v := pw0_1) rfl
      have Xw0 := Lib.hid Bw0
      have Zw0 := Lib.hid Rw0
      have Zx0 := Lib.hid Rx0
      clear Bw0 Rw0 Rx0
      go_upto_region 7 with fail
      go_cut [7, 8] from 7 to 8 (fun s7 s8 wx => HasNewTaking a0 w3.heap.size w3 wx s7 ∧ s8 = .bool (wantOk a0))
      case first =>
        have yw0 : gw0 < w3.heap.size := Xw0.out.lt
        have yh := HB3.out.size
        go_wp2_with (first
            | (go_at_call 26; (refine (iNewTaking_k (kWantedS.K_below ((by repeat (first | assumption | (with_reducible exact Below.refl _ _) | (with_reducible refine below_call ?_ hc) | (with_reducible refine below_call ?_ hb0) | (with_reducible refine below_call ?_ hb) | (with_reducible refine Below.drew ?_) | (with_reducible refine below_alloc2 ?_ _))) : Below _ _ _).block (kWantedS.M_K Zx0.out)) h0 (by have := (szWantedS_sm (n := 1048576) (x := a0) (by omega)); exact this)).mono ?_; rintro e wz ⟨cd0, FD0, rfl, rd0, rd_1, rd_2, hc⟩; have zs_c := hc.size; (try simp at zs_c); obtain ⟨pd0_0, pd0_1, FD0_0, FD0_1, rfl, rfl, pd0_r0, pd0_r1⟩ := kTaking_open rd0; obtain ⟨pd0_A0, pd0_C0, rfl, _, _⟩ := Rp.Row_K pd0_r0; obtain ⟨pd0_A1, pd0_C1, rfl, _, _⟩ := Rp.Row_K pd0_r1; (first | have BG0 := Box.below BG0 hc | have BG0 := Box.below (Box.drew (Box.new (T := 39) (cs := #[.slice none 0 0, .slice none 0 0]) rfl)) hc | have BG0 := Box.below (Box.new (T := 39) (cs := #[.slice none 0 0, .slice none 0 0]) rfl) hc | skip); (try (have q0_0 := BG0.cell 0 (v := .slice none 0 0) rfl; have q0_1 := BG0.cell 1 (v := .slice none 0 0) rfl; have fg0 := BG0.fro)))))
        all_goals (go_meet; go_light)
        all_goals
          have K : Below w3.heap.size w3 wz := (by repeat (first | assumption | (with_reducible exact Below.refl _ _) | (with_reducible refine below_call ?_ hc) | (with_reducible refine below_call ?_ hb0) | (with_reducible refine below_call ?_ hb) | (with_reducible refine Below.drew ?_) | (with_reducible refine below_alloc2 ?_ _)))
          first
            | (refine ⟨?_, rfl⟩; with_reducible refine Has.new (d := kTaking) (kTaking_make pd0_r0 pd0_r1) rd_2 ?_ K (Nat.le_refl _); exact (fun b hm => by have := rd_1 b hm; first | omega | (simp at this; omega)))
            | (refine ⟨?_, rfl⟩; exact Has.old (d := kTaking) (kTaking_make pd0_r0 pd0_r1) rd_2 (fun b hm => by have := rd_1 b hm; first | omega | (simp at this; omega)) K BG0 (by first | omega | (simp; omega) | (simp; done)) (Nat.le_refl _) rfl)
      case rest =>
        rename World => w4
        obtain ⟨⟨gg0, Fg0, _, rfl, Bg0, Rg0, Ng0, dg0, eg0, hb⟩, rfl⟩ := hcut
        obtain ⟨pg0_0, pg0_1, Fg0_0, Fg0_1, rfl, rfl, rg0_0, rg0_1⟩ := kTaking_open Rg0
        have Rg0 := kTaking_make rg0_0 rg0_1
        clear rg0_0 rg0_1
        have Dg0 := fun b hb => (dg0 b hb).1; have Ng0_g0 := fun b hb => (dg0 b hb).2; clear dg0
        have eg0 := And.intro eg0 Bg0.lt
        have Eg0 := kTaking.M_lt Rg0
        have zzg0 := hb.size
        have sog0 := sz0
        replace sz0 := Nat.le_trans sz0 hb.size
        have Bw0 := Xw0.out.below hb
        have Rw0 := Rp.M_below Zw0.out hb
        have Rx0 := Rp.M_below Zx0.out hb
        have HB4 := Lib.hid (HB3.out.trans (hb.mono HB3.out.size))
        clear Xw0 Zw0 Zx0 HB3 hb
        clear bw0_0 bw0_1
        have bw0_0 := Bw0.cell 0 (v := pw0_0) rfl
        have bw0_1 := Bw0.cell 1 (v := pw0_1) rfl
        have bg0_0 := Bg0.cell 0 (v := pg0_0) rfl
        have bg0_1 := Bg0.cell 1 (v := pg0_1) rfl
        have Xw0 := Lib.hid Bw0
        have Zw0 := Lib.hid Rw0
        have Zx0 := Lib.hid Rx0
        have Xg0 := Lib.hid Bg0
        have Zg0 := Lib.hid Rg0
        clear Bw0 Rw0 Rx0 Bg0 Rg0
        go_wp2_with fail
        (with_reducible refine (eqTaking_k (kTaking.M_K Zg0.out) (kTaking.M_K Zw0.out) (smTaking_le y0 (by decide))).mono ?_)
        rintro e w5 ⟨rfl, hb⟩
        replace sz0 := Nat.le_trans sz0 hb.size
        have Bw0 := Xw0.out.below hb
        have Rw0 := Rp.M_below Zw0.out hb
        have Rx0 := Rp.M_below Zx0.out hb
        have Bg0 := Xg0.out.below hb
        have Rg0 := Rp.M_below Zg0.out hb
        have HB5 := Lib.hid (HB4.out.trans (hb.mono HB4.out.size))
        clear Xw0 Zw0 Zx0 Xg0 Zg0 HB4 hb
        clear bw0_0 bw0_1 bg0_0 bg0_1
        have bw0_0 := Bw0.cell 0 (v := pw0_0) rfl
        have bw0_1 := Bw0.cell 1 (v := pw0_1) rfl
        have bg0_0 := Bg0.cell 0 (v := pg0_0) rfl
        have bg0_1 := Bg0.cell 1 (v := pg0_1) rfl
        have Xw0 := Lib.hid Bw0
        have Zw0 := Lib.hid Rw0
        have Zx0 := Lib.hid Rx0
        have Xg0 := Lib.hid Bg0
        have Zg0 := Lib.hid Rg0
        clear Bw0 Rw0 Rx0 Bg0 Rg0
        go_wp2_with fail
        (with_reducible refine (toWantedS_k (kWantedS.K_below HB5.out.block G0.out) (szWantedS_sm (n := 1048576) (x := a0) (by omega))).mono ?_)
        rintro e w6 ⟨pt, Ft, rfl, Rt, _, _, hb⟩
        replace sz0 := Nat.le_trans sz0 hb.size
        have Bw0 := Xw0.out.below hb
        have Rw0 := Rp.M_below Zw0.out hb
        have Rx0 := Rp.M_below Zx0.out hb
        have Bg0 := Xg0.out.below hb
        have Rg0 := Rp.M_below Zg0.out hb
        have HB6 := Lib.hid (HB5.out.trans (hb.mono HB5.out.size))
        clear Xw0 Zw0 Zx0 Xg0 Zg0 HB5 hb
        clear bw0_0 bw0_1 bg0_0 bg0_1
        have bw0_0 := Bw0.cell 0 (v := pw0_0) rfl
        have bw0_1 := Bw0.cell 1 (v := pw0_1) rfl
        have bg0_0 := Bg0.cell 0 (v := pg0_0) rfl
        have bg0_1 := Bg0.cell 1 (v := pg0_1) rfl
        have Xw0 := Lib.hid Bw0
        have Zw0 := Lib.hid Rw0
        have Zx0 := Lib.hid Rx0
        have Xg0 := Lib.hid Bg0
        have Zg0 := Lib.hid Rg0
        clear Bw0 Rw0 Rx0 Bg0 Rg0
        go_wp2_with fail
        (with_reducible refine (eqWantedS_k (kWantedS.M_K Zx0.out) (kWantedS.M_K Rt) (szWantedS_sm (n := 140737488355328) (x := a0) (by omega))).mono ?_)
        rintro e w7 ⟨rfl, hb⟩
        clear Rt
        replace sz0 := Nat.le_trans sz0 hb.size
        have Bw0 := Xw0.out.below hb
        have Rw0 := Rp.M_below Zw0.out hb
        have Rx0 := Rp.M_below Zx0.out hb
        have Bg0 := Xg0.out.below hb
        have Rg0 := Rp.M_below Zg0.out hb
        have HB7 := Lib.hid (HB6.out.trans (hb.mono HB6.out.size))
        clear Xw0 Zw0 Zx0 Xg0 Zg0 HB6 hb
        clear bw0_0 bw0_1 bg0_0 bg0_1
        have bw0_0 := Bw0.cell 0 (v := pw0_0) rfl
        have bw0_1 := Bw0.cell 1 (v := pw0_1) rfl
        have bg0_0 := Bg0.cell 0 (v := pg0_0) rfl
        have bg0_1 := Bg0.cell 1 (v := pg0_1) rfl
        have Xw0 := Lib.hid Bw0
        have Zw0 := Lib.hid Rw0
        have Zx0 := Lib.hid Rx0
        have Xg0 := Lib.hid Bg0
        have Zg0 := Lib.hid Rg0
        clear Bw0 Rw0 Rx0 Bg0 Rg0
        have m1 := mkWantedS_sm (k := 1) (szWantedS_sm (n := 1048576) (x := a0) (by omega))
        have n1 := mkWantedS_le (a0) 1
        have l1 : (mkWantedS (a0) 1).2 ≤ 4611686018427387904 := by omega
        go_wp2_with fail
        (with_reducible refine (markWantedS_k Zx0.out Nx0 (by omega) l1 (szWantedS_sm (n := 140737488355328) (x := a0) (by omega))).mono ?_)
        rintro e w8 ⟨rfl, hr, hk⟩
        clear hr
        generalize (mkWantedS (a0) 1).2 = k1_ at *
        clear bw0_0 bw0_1 bg0_0 bg0_1
        replace sz0 := Nat.le_trans sz0 hk.size
        have Bw0 := Box.kept Xw0.out hk (fun hm => by have := Dx0 _ hm; have := Ex0 _ hm; have := ew0; omega)
        have Rw0 := kTaking.M_move (fun b hb => hk.block b (kTaking.M_lt Zw0.out b hb) (fun hm => by have := Dx0 _ hm; have := Ex0 _ hm; have := Dw0 _ hb; have := Ew0 _ hb; omega)) Zw0.out
        have Bg0 := Box.kept Xg0.out hk (fun hm => by have := Dx0 _ hm; have := Ex0 _ hm; have := eg0; omega)
        have Rg0 := kTaking.M_move (fun b hb => hk.block b (kTaking.M_lt Zg0.out b hb) (fun hm => by have := Dx0 _ hm; have := Ex0 _ hm; have := Dg0 _ hb; have := Eg0 _ hb; omega)) Zg0.out
        have HB8 := Lib.hid (HB7.out.trans (hk.toBelow HB7.out.size (fun b hb => by have := Dx0 _ hb; omega)))
        clear Xw0 Zw0 Zx0 Xg0 Zg0 HB7 hk
        have bw0_0 := Bw0.cell 0 (v := pw0_0) rfl
        have bw0_1 := Bw0.cell 1 (v := pw0_1) rfl
        have bg0_0 := Bg0.cell 0 (v := pg0_0) rfl
        have bg0_1 := Bg0.cell 1 (v := pg0_1) rfl
        have Xw0 := Lib.hid Bw0
        have Zw0 := Lib.hid Rw0
        have Xg0 := Lib.hid Bg0
        have Zg0 := Lib.hid Rg0
        clear Bw0 Rw0 Bg0 Rg0
        go_wp2_with fail
        (with_reducible refine (eqTaking_k (kTaking.M_K Zg0.out) (kTaking.M_K Zw0.out) (smTaking_le y0 (by decide))).mono ?_)
        rintro e w9 ⟨rfl, hb⟩
        replace sz0 := Nat.le_trans sz0 hb.size
        have Bw0 := Xw0.out.below hb
        have Rw0 := Rp.M_below Zw0.out hb
        have Bg0 := Xg0.out.below hb
        have Rg0 := Rp.M_below Zg0.out hb
        have HB9 := Lib.hid (HB8.out.trans (hb.mono HB8.out.size))
        clear Xw0 Zw0 Xg0 Zg0 HB8 hb
        clear bw0_0 bw0_1 bg0_0 bg0_1
        have bw0_0 := Bw0.cell 0 (v := pw0_0) rfl
        have bw0_1 := Bw0.cell 1 (v := pw0_1) rfl
        have bg0_0 := Bg0.cell 0 (v := pg0_0) rfl
        have bg0_1 := Bg0.cell 1 (v := pg0_1) rfl
        have Xw0 := Lib.hid Bw0
        have Zw0 := Lib.hid Rw0
        have Xg0 := Lib.hid Bg0
        have Zg0 := Lib.hid Rg0
        clear Bw0 Rw0 Bg0 Rg0
        have m2 := mkTaking_sm (k := 1) y0
        have n2 := mkTaking_le (newT a0) 1
        have l2 : (mkTaking (newT a0) 1).2 ≤ 4611686018427387904 := by omega
        go_wp2_with fail
        (with_reducible refine (markTaking_k Zg0.out Ng0 (by omega) l2 (smTaking_le y0 (by decide))).mono ?_)
        rintro e w10 ⟨rfl, hr, hk⟩
        have Rg0 := hr; clear hr
        clear bw0_0 bw0_1 bg0_0 bg0_1
        replace sz0 := Nat.le_trans sz0 hk.size
        have Bw0 := Box.kept Xw0.out hk (fun hm => by have := Dg0 _ hm; have := Eg0 _ hm; have := ew0; omega)
        have Rw0 := kTaking.M_move (fun b hb => hk.block b (kTaking.M_lt Zw0.out b hb) (fun hm => by have := Dg0 _ hm; have := Eg0 _ hm; have := Dw0 _ hb; have := Ew0 _ hb; omega)) Zw0.out
        have Bg0 := Box.kept Xg0.out hk (fun hm => by exact (Ng0_g0 _ hm) rfl)
        have HB10 := Lib.hid (HB9.out.trans (hk.toBelow HB9.out.size (fun b hb => by have := Dg0 _ hb; omega)))
        clear Xw0 Zw0 Xg0 Zg0 HB9 hk
        have bw0_0 := Bw0.cell 0 (v := pw0_0) rfl
        have bw0_1 := Bw0.cell 1 (v := pw0_1) rfl
        have bg0_0 := Bg0.cell 0 (v := pg0_0) rfl
        have bg0_1 := Bg0.cell 1 (v := pg0_1) rfl
        have Xw0 := Lib.hid Bw0
        have Zw0 := Lib.hid Rw0
        have Xg0 := Lib.hid Bg0
        have Zg0 := Lib.hid Rg0
        clear Bw0 Rw0 Bg0 Rg0
        generalize hk2 : (mkTaking (newT a0) 1).2 = k2_ at n2 m2 l2 ⊢
        go_wp2_with fail
        (with_reducible refine (heldTaking_k (kTaking.M_K Zg0.out) (by omega) (by rw [hk2]; omega) (smTaking_le y0 (by decide))).mono ?_)
        rintro e w11 ⟨rfl, hb⟩
        rw [hk2]
        replace sz0 := Nat.le_trans sz0 hb.size
        have Bw0 := Xw0.out.below hb
        have Rw0 := Rp.M_below Zw0.out hb
        have Bg0 := Xg0.out.below hb
        have Rg0 := Rp.M_below Zg0.out hb
        have HB11 := Lib.hid (HB10.out.trans (hb.mono HB10.out.size))
        clear Xw0 Zw0 Xg0 Zg0 HB10 hb
        clear bw0_0 bw0_1 bg0_0 bg0_1
        have bw0_0 := Bw0.cell 0 (v := pw0_0) rfl
        have bw0_1 := Bw0.cell 1 (v := pw0_1) rfl
        have bg0_0 := Bg0.cell 0 (v := pg0_0) rfl
        have bg0_1 := Bg0.cell 1 (v := pg0_1) rfl
        have Xw0 := Lib.hid Bw0
        have Zw0 := Lib.hid Rw0
        have Xg0 := Lib.hid Bg0
        have Zg0 := Lib.hid Rg0
        clear Bw0 Rw0 Bg0 Rg0
        have nk21 : ¬ k2_ < 0 := by omega
        go_upto_region 24 with fail
        go_cut [12, 13] from 12 to 13 (fun s12 s13 wx => HasNewTaking a0 w11.heap.size w11 wx s12 ∧ s13 = .bool (wantOk a0))
        case first =>
          have yw0 : gw0 < w11.heap.size := Xw0.out.lt
          have yg0 : gg0 < w11.heap.size := Xg0.out.lt
          have yh := HB11.out.size
          go_wp2_with (first
              | (go_at_call 25; (refine (toWantedS_k (kWantedS.K_below (HB11.out.trans (Below.mono (by repeat (first | assumption | (with_reducible exact Below.refl _ _) | (with_reducible refine below_call ?_ hc) | (with_reducible refine below_call ?_ hb0) | (with_reducible refine below_call ?_ hb) | (with_reducible refine Below.drew ?_) | (with_reducible refine below_alloc2 ?_ _))) HB11.out.size)).block G0.out) (szWantedS_sm (n := 1048576) (x := a0) (by omega))).mono ?_; rintro e wt0 ⟨ds0, F0_, rfl, ra0, rb0, rc0, hb0⟩; have zs0 := hb0.size; (try simp at zs0); (first | have BG0 := Box.below BG0 hb0 | have BG0 := Box.below (Box.drew (Box.new (T := 39) (cs := #[.slice none 0 0, .slice none 0 0]) rfl)) hb0 | have BG0 := Box.below (Box.new (T := 39) (cs := #[.slice none 0 0, .slice none 0 0]) rfl) hb0 | skip)))
              | (go_at_call 26; (refine (iNewTaking_k (kWantedS.K_below ((by repeat (first | assumption | (with_reducible exact Below.refl _ _) | (with_reducible refine below_call ?_ hc) | (with_reducible refine below_call ?_ hb0) | (with_reducible refine below_call ?_ hb) | (with_reducible refine Below.drew ?_) | (with_reducible refine below_alloc2 ?_ _))) : Below _ _ _).block (kWantedS.M_K ra0)) h0 (by have := (szWantedS_sm (n := 1048576) (x := a0) (by omega)); exact this)).mono ?_; rintro e wz ⟨cd0, FD0, rfl, rd0, rd_1, rd_2, hc⟩; have zs_c := hc.size; (try simp at zs_c); obtain ⟨pd0_0, pd0_1, FD0_0, FD0_1, rfl, rfl, pd0_r0, pd0_r1⟩ := kTaking_open rd0; obtain ⟨pd0_A0, pd0_C0, rfl, _, _⟩ := Rp.Row_K pd0_r0; obtain ⟨pd0_A1, pd0_C1, rfl, _, _⟩ := Rp.Row_K pd0_r1; (first | have BG0 := Box.below BG0 hc | have BG0 := Box.below (Box.drew (Box.new (T := 39) (cs := #[.slice none 0 0, .slice none 0 0]) rfl)) hc | have BG0 := Box.below (Box.new (T := 39) (cs := #[.slice none 0 0, .slice none 0 0]) rfl) hc | skip); (try (have q0_0 := BG0.cell 0 (v := .slice none 0 0) rfl; have q0_1 := BG0.cell 1 (v := .slice none 0 0) rfl; have fg0 := BG0.fro)))))
          all_goals (go_meet; go_light)
          all_goals
            have K : Below w11.heap.size w11 wz := (by repeat (first | assumption | (with_reducible exact Below.refl _ _) | (with_reducible refine below_call ?_ hc) | (with_reducible refine below_call ?_ hb0) | (with_reducible refine below_call ?_ hb) | (with_reducible refine Below.drew ?_) | (with_reducible refine below_alloc2 ?_ _)))
            first
              | (refine ⟨?_, rfl⟩; with_reducible refine Has.new (d := kTaking) (kTaking_make pd0_r0 pd0_r1) rd_2 ?_ K (Nat.le_refl _); exact (fun b hm => by have := rd_1 b hm; first | omega | (simp at this; omega)))
              | (refine ⟨?_, rfl⟩; exact Has.old (d := kTaking) (kTaking_make pd0_r0 pd0_r1) rd_2 (fun b hm => by have := rd_1 b hm; first | omega | (simp at this; omega)) K BG0 (by first | omega | (simp; omega) | (simp; done)) (Nat.le_refl _) rfl)
        case rest =>
          rename World => w12
          obtain ⟨⟨gh0, Fh0, _, rfl, Bh0, Rh0, Nh0, dh0, eh0, hb⟩, rfl⟩ := hcut
          obtain ⟨ph0_0, ph0_1, Fh0_0, Fh0_1, rfl, rfl, rh0_0, rh0_1⟩ := kTaking_open Rh0
          have Rh0 := kTaking_make rh0_0 rh0_1
          clear rh0_0 rh0_1
          have Dh0 := fun b hb => (dh0 b hb).1; have Nh0_h0 := fun b hb => (dh0 b hb).2; clear dh0
          have eh0 := And.intro eh0 Bh0.lt
          have Eh0 := kTaking.M_lt Rh0
          have zzh0 := hb.size
          have soh0 := sz0
          replace sz0 := Nat.le_trans sz0 hb.size
          have Bw0 := Xw0.out.below hb
          have Rw0 := Rp.M_below Zw0.out hb
          have Bg0 := Xg0.out.below hb
          have Rg0 := Rp.M_below Zg0.out hb
          have HB12 := Lib.hid (HB11.out.trans (hb.mono HB11.out.size))
          clear Xw0 Zw0 Xg0 Zg0 HB11 hb
          clear bw0_0 bw0_1 bg0_0 bg0_1
          have bw0_0 := Bw0.cell 0 (v := pw0_0) rfl
          have bw0_1 := Bw0.cell 1 (v := pw0_1) rfl
          have bg0_0 := Bg0.cell 0 (v := pg0_0) rfl
          have bg0_1 := Bg0.cell 1 (v := pg0_1) rfl
          have bh0_0 := Bh0.cell 0 (v := ph0_0) rfl
          have bh0_1 := Bh0.cell 1 (v := ph0_1) rfl
          have Xw0 := Lib.hid Bw0
          have Zw0 := Lib.hid Rw0
          have Xg0 := Lib.hid Bg0
          have Zg0 := Lib.hid Rg0
          have Xh0 := Lib.hid Bh0
          have Zh0 := Lib.hid Rh0
          clear Bw0 Rw0 Bg0 Rg0 Bh0 Rh0
          go_wp2_with fail
          (with_reducible refine (eqTaking_k (kTaking.M_K Zh0.out) (kTaking.M_K Zw0.out) (smTaking_le y0 (by decide))).mono ?_)
          rintro e w13 ⟨rfl, hb⟩
          replace sz0 := Nat.le_trans sz0 hb.size
          have Bw0 := Xw0.out.below hb
          have Rw0 := Rp.M_below Zw0.out hb
          have Bg0 := Xg0.out.below hb
          have Rg0 := Rp.M_below Zg0.out hb
          have Bh0 := Xh0.out.below hb
          have Rh0 := Rp.M_below Zh0.out hb
          have HB13 := Lib.hid (HB12.out.trans (hb.mono HB12.out.size))
          clear Xw0 Zw0 Xg0 Zg0 Xh0 Zh0 HB12 hb
          clear bw0_0 bw0_1 bg0_0 bg0_1 bh0_0 bh0_1
          have bw0_0 := Bw0.cell 0 (v := pw0_0) rfl
          have bw0_1 := Bw0.cell 1 (v := pw0_1) rfl
          have bg0_0 := Bg0.cell 0 (v := pg0_0) rfl
          have bg0_1 := Bg0.cell 1 (v := pg0_1) rfl
          have bh0_0 := Bh0.cell 0 (v := ph0_0) rfl
          have bh0_1 := Bh0.cell 1 (v := ph0_1) rfl
          have Xw0 := Lib.hid Bw0
          have Zw0 := Lib.hid Rw0
          have Xg0 := Lib.hid Bg0
          have Zg0 := Lib.hid Rg0
          have Xh0 := Lib.hid Bh0
          have Zh0 := Lib.hid Rh0
          clear Bw0 Rw0 Bg0 Rg0 Bh0 Rh0
          go_wp2_with fail
          (with_reducible refine (heldTaking_k (kTaking.M_K Zg0.out) (by omega) (by rw [hk2]; omega) (smTaking_le y0 (by decide))).mono ?_)
          rintro e w14 ⟨rfl, hb⟩
          rw [hk2]
          replace sz0 := Nat.le_trans sz0 hb.size
          have Bw0 := Xw0.out.below hb
          have Rw0 := Rp.M_below Zw0.out hb
          have Bg0 := Xg0.out.below hb
          have Rg0 := Rp.M_below Zg0.out hb
          have Bh0 := Xh0.out.below hb
          have Rh0 := Rp.M_below Zh0.out hb
          have HB14 := Lib.hid (HB13.out.trans (hb.mono HB13.out.size))
          clear Xw0 Zw0 Xg0 Zg0 Xh0 Zh0 HB13 hb
          clear bw0_0 bw0_1 bg0_0 bg0_1 bh0_0 bh0_1
          have bw0_0 := Bw0.cell 0 (v := pw0_0) rfl
          have bw0_1 := Bw0.cell 1 (v := pw0_1) rfl
          have bg0_0 := Bg0.cell 0 (v := pg0_0) rfl
          have bg0_1 := Bg0.cell 1 (v := pg0_1) rfl
          have bh0_0 := Bh0.cell 0 (v := ph0_0) rfl
          have bh0_1 := Bh0.cell 1 (v := ph0_1) rfl
          have Xw0 := Lib.hid Bw0
          have Zw0 := Lib.hid Rw0
          have Xg0 := Lib.hid Bg0
          have Zg0 := Lib.hid Rg0
          have Xh0 := Lib.hid Bh0
          have Zh0 := Lib.hid Rh0
          clear Bw0 Rw0 Bg0 Rg0 Bh0 Rh0
          have nk24 : ¬ k2_ < 0 := by omega
          go_wp2
          go_ret
          exact ⟨rfl, HB14.out⟩
end Go.Proofs.Ytjoojfjfgoeegaa
