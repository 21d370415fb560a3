/- Law FnExactNewCluster: at every input it returns true; what was there stays. -/
import Derived.Test.YthnjcolbdoaabaaNcB
import Derived.Test.YthnjcolbdoaabaaMkE
namespace Go.Proofs.Ythnjcolbdoaabaa
open Go Go.RowKit Go.Sort
set_option linter.unusedVariables false
set_option linter.unusedSimpArgs false

abbrev HasNewCluster (a0 : Int) (N : Nat) (w wx : World) (s : Value) : Prop := Has kCluster 68 (ncV a0) N w wx s
set_option maxHeartbeats 4000000 in
set_option maxRecDepth 100000 in
theorem law_NewCluster (a0 : Int) (w : World) (h0 : (Lit.int .i64 a0).wf = true) (y0 : smCluster 1048576 (ncV a0)) : Calls Try.prog 6 #[.int .i64 a0] w
    fun e w' => e = .returned (.bool true) ∧ Below w.heap.size w w' := by
  go_enter Try.func6, Try.ntmps6
  have HB0 := Lib.hid (Below.refl w.heap.size w)
  have sz0 : w.heap.size ≤ w.heap.size := Nat.le_refl _
  go_upto_region 1 with fail
  go_cut [3, 4] from 3 to 4 (fun s3 s4 wx => HasNewCluster a0 w.heap.size w wx s3 ∧ s4 = .bool (inR a0 1 7))
  case first =>
    have yh := HB0.out.size
    go_wp2_with (first
        | (go_at_call 42; ((with_reducible refine (sNewCluster_k h0).mono ?_); rintro e wz ⟨cd0, FD0, rfl, rd0, rd_1, rd_2, hc⟩; have zs_c := hc.size; (try simp at zs_c); obtain ⟨pd0_0, pd0_1, pd0_2, FD0_0, FD0_1, FD0_2, rfl, rfl, pd0_r0, pd0_r1, pd0_r2⟩ := kCluster_open rd0; obtain ⟨pd0_A0, pd0_C0, rfl, _, _⟩ := Rp.Row_K pd0_r0; obtain ⟨pd0_A1, pd0_C1, rfl, _, _⟩ := Rp.Row_K pd0_r1; obtain ⟨pd0_A2, pd0_C2, rfl, _, _⟩ := Rp.Row_K pd0_r2; (first | have BG0 := Box.below BG0 hc | have BG0 := Box.below (Box.drew (Box.new (T := 68) (cs := #[.slice none 0 0, .slice none 0 0, .slice none 0 0]) rfl)) hc | have BG0 := Box.below (Box.new (T := 68) (cs := #[.slice none 0 0, .slice none 0 0, .slice none 0 0]) rfl) hc | skip); (try (have q0_0 := BG0.cell 0 (v := .slice none 0 0) rfl; have q0_1 := BG0.cell 1 (v := .slice none 0 0) rfl; have q0_2 := BG0.cell 2 (v := .slice none 0 0) rfl; have fg0 := BG0.fro)))))
    all_goals (go_meet; go_light)
    all_goals
      have K : Below w.heap.size w wz := (by repeat (first | assumption | (with_reducible exact Below.refl _ _) | (with_reducible refine below_call ?_ hc) | (with_reducible refine below_call ?_ hb0) | (with_reducible refine below_call ?_ hb) | (with_reducible refine Below.drew ?_) | (with_reducible refine below_alloc2 ?_ _)))
      first
        | (refine ⟨?_, rfl⟩; with_reducible refine Has.new (d := kCluster) (kCluster_make pd0_r0 pd0_r1 pd0_r2) rd_2 ?_ K (Nat.le_refl _); exact (fun b hm => by have := rd_1 b hm; first | omega | (simp at this; omega)))
        | (refine ⟨?_, rfl⟩; exact Has.old (d := kCluster) (kCluster_make pd0_r0 pd0_r1 pd0_r2) rd_2 (fun b hm => by have := rd_1 b hm; first | omega | (simp at this; omega)) K BG0 (by first | omega | (simp; omega) | (simp; done)) (Nat.le_refl _) rfl)
  case rest =>
    rename World => w1
    obtain ⟨⟨gw0, Fw0, _, rfl, Bw0, Rw0, Nw0, dw0, ew0, hb⟩, rfl⟩ := hcut
    obtain ⟨pw0_0, pw0_1, pw0_2, Fw0_0, Fw0_1, Fw0_2, rfl, rfl, rw0_0, rw0_1, rw0_2⟩ := kCluster_open Rw0
    have Rw0 := kCluster_make rw0_0 rw0_1 rw0_2
    clear rw0_0 rw0_1 rw0_2
    have Dw0 := fun b hb => (dw0 b hb).1; have Nw0_w0 := fun b hb => (dw0 b hb).2; clear dw0
    have ew0 := And.intro ew0 Bw0.lt
    have Ew0 := kCluster.M_lt Rw0
    have zzw0 := hb.size
    have sow0 := sz0
    replace sz0 := Nat.le_trans sz0 hb.size
    have HB1 := Lib.hid (HB0.out.trans (hb.mono HB0.out.size))
    clear HB0 hb
    have bw0_0 := Bw0.cell 0 (v := pw0_0) rfl
    have bw0_1 := Bw0.cell 1 (v := pw0_1) rfl
    have bw0_2 := Bw0.cell 2 (v := pw0_2) rfl
    have Xw0 := Lib.hid Bw0
    have Zw0 := Lib.hid Rw0
    clear Bw0 Rw0
    go_upto_region 2 with fail
    go_cut [5, 6] from 5 to 6 (fun s5 s6 wx => HasNewCluster a0 w1.heap.size w1 wx s5 ∧ s6 = .bool (inR a0 1 7))
    case first =>
      have yw0 : gw0 < w1.heap.size := Xw0.out.lt
      have yh := HB1.out.size
      go_wp2_with (first
          | (go_at_call 43; ((with_reducible refine (iNewCluster_k h0).mono ?_); rintro e wz ⟨cd0, FD0, rfl, rd0, rd_1, rd_2, hc⟩; have zs_c := hc.size; (try simp at zs_c); obtain ⟨pd0_0, pd0_1, pd0_2, FD0_0, FD0_1, FD0_2, rfl, rfl, pd0_r0, pd0_r1, pd0_r2⟩ := kCluster_open rd0; obtain ⟨pd0_A0, pd0_C0, rfl, _, _⟩ := Rp.Row_K pd0_r0; obtain ⟨pd0_A1, pd0_C1, rfl, _, _⟩ := Rp.Row_K pd0_r1; obtain ⟨pd0_A2, pd0_C2, rfl, _, _⟩ := Rp.Row_K pd0_r2; (first | have BG0 := Box.below BG0 hc | have BG0 := Box.below (Box.drew (Box.new (T := 68) (cs := #[.slice none 0 0, .slice none 0 0, .slice none 0 0]) rfl)) hc | have BG0 := Box.below (Box.new (T := 68) (cs := #[.slice none 0 0, .slice none 0 0, .slice none 0 0]) rfl) hc | skip); (try (have q0_0 := BG0.cell 0 (v := .slice none 0 0) rfl; have q0_1 := BG0.cell 1 (v := .slice none 0 0) rfl; have q0_2 := BG0.cell 2 (v := .slice none 0 0) rfl; have fg0 := BG0.fro)))))
      all_goals (go_meet; go_light)
      all_goals
        have K : Below w1.heap.size w1 wz := (by repeat (first | assumption | (with_reducible exact Below.refl _ _) | (with_reducible refine below_call ?_ hc) | (with_reducible refine below_call ?_ hb0) | (with_reducible refine below_call ?_ hb) | (with_reducible refine Below.drew ?_) | (with_reducible refine below_alloc2 ?_ _)))
        first
          | (refine ⟨?_, rfl⟩; with_reducible refine Has.new (d := kCluster) (kCluster_make pd0_r0 pd0_r1 pd0_r2) rd_2 ?_ K (Nat.le_refl _); exact (fun b hm => by have := rd_1 b hm; first | omega | (simp at this; omega)))
          | (refine ⟨?_, rfl⟩; exact Has.old (d := kCluster) (kCluster_make pd0_r0 pd0_r1 pd0_r2) rd_2 (fun b hm => by have := rd_1 b hm; first | omega | (simp at this; omega)) K BG0 (by first | omega | (simp; omega) | (simp; done)) (Nat.le_refl _) rfl)
    case rest =>
      rename World => w2
      obtain ⟨⟨gg0, Fg0, _, rfl, Bg0, Rg0, Ng0, dg0, eg0, hb⟩, rfl⟩ := hcut
      obtain ⟨pg0_0, pg0_1, pg0_2, Fg0_0, Fg0_1, Fg0_2, rfl, rfl, rg0_0, rg0_1, rg0_2⟩ := kCluster_open Rg0
      have Rg0 := kCluster_make rg0_0 rg0_1 rg0_2
      clear rg0_0 rg0_1 rg0_2
      have Dg0 := fun b hb => (dg0 b hb).1; have Ng0_g0 := fun b hb => (dg0 b hb).2; clear dg0
      have eg0 := And.intro eg0 Bg0.lt
      have Eg0 := kCluster.M_lt Rg0
      have zzg0 := hb.size
      have sog0 := sz0
      replace sz0 := Nat.le_trans sz0 hb.size
      have Bw0 := Xw0.out.below hb
      have Rw0 := Rp.M_below Zw0.out hb
      have HB2 := Lib.hid (HB1.out.trans (hb.mono HB1.out.size))
      clear Xw0 Zw0 HB1 hb
      clear bw0_0 bw0_1 bw0_2
      have bw0_0 := Bw0.cell 0 (v := pw0_0) rfl
      have bw0_1 := Bw0.cell 1 (v := pw0_1) rfl
      have bw0_2 := Bw0.cell 2 (v := pw0_2) rfl
      have bg0_0 := Bg0.cell 0 (v := pg0_0) rfl
      have bg0_1 := Bg0.cell 1 (v := pg0_1) rfl
      have bg0_2 := Bg0.cell 2 (v := pg0_2) rfl
      have Xw0 := Lib.hid Bw0
      have Zw0 := Lib.hid Rw0
      have Xg0 := Lib.hid Bg0
      have Zg0 := Lib.hid Rg0
      clear Bw0 Rw0 Bg0 Rg0
      go_wp2_with fail
      (with_reducible refine (eqCluster_k (kCluster.M_K Zg0.out) (kCluster.M_K Zw0.out) (smCluster_le y0 (by decide))).mono ?_)
      rintro e w3 ⟨rfl, hb⟩
      replace sz0 := Nat.le_trans sz0 hb.size
      have Bw0 := Xw0.out.below hb
      have Rw0 := Rp.M_below Zw0.out hb
      have Bg0 := Xg0.out.below hb
      have Rg0 := Rp.M_below Zg0.out hb
      have HB3 := Lib.hid (HB2.out.trans (hb.mono HB2.out.size))
      clear Xw0 Zw0 Xg0 Zg0 HB2 hb
      clear bw0_0 bw0_1 bw0_2 bg0_0 bg0_1 bg0_2
      have bw0_0 := Bw0.cell 0 (v := pw0_0) rfl
      have bw0_1 := Bw0.cell 1 (v := pw0_1) rfl
      have bw0_2 := Bw0.cell 2 (v := pw0_2) rfl
      have bg0_0 := Bg0.cell 0 (v := pg0_0) rfl
      have bg0_1 := Bg0.cell 1 (v := pg0_1) rfl
      have bg0_2 := Bg0.cell 2 (v := pg0_2) rfl
      have Xw0 := Lib.hid Bw0
      have Zw0 := Lib.hid Rw0
      have Xg0 := Lib.hid Bg0
      have Zg0 := Lib.hid Rg0
      clear Bw0 Rw0 Bg0 Rg0
      have m1 := mkCluster_sm (k := 1) y0
      have n1 := mkCluster_le (ncV a0) 1
      have l1 : (mkCluster (ncV a0) 1).2 ≤ 4611686018427387904 := by omega
      go_wp2_with fail
      (with_reducible refine (markCluster_k Zg0.out Ng0 (by omega) l1 (smCluster_le y0 (by decide))).mono ?_)
      rintro e w4 ⟨rfl, hr, hk⟩
      have Rg0 := hr; clear hr
      clear bw0_0 bw0_1 bw0_2 bg0_0 bg0_1 bg0_2
      replace sz0 := Nat.le_trans sz0 hk.size
      have Bw0 := Box.kept Xw0.out hk (fun hm => by have := Dg0 _ hm; have := Eg0 _ hm; have := ew0; omega)
      have Rw0 := kCluster.M_move (fun b hb => hk.block b (kCluster.M_lt Zw0.out b hb) (fun hm => by have := Dg0 _ hm; have := Eg0 _ hm; have := Dw0 _ hb; have := Ew0 _ hb; omega)) Zw0.out
      have Bg0 := Box.kept Xg0.out hk (fun hm => by exact (Ng0_g0 _ hm) rfl)
      have HB4 := Lib.hid (HB3.out.trans (hk.toBelow HB3.out.size (fun b hb => by have := Dg0 _ hb; omega)))
      clear Xw0 Zw0 Xg0 Zg0 HB3 hk
      have bw0_0 := Bw0.cell 0 (v := pw0_0) rfl
      have bw0_1 := Bw0.cell 1 (v := pw0_1) rfl
      have bw0_2 := Bw0.cell 2 (v := pw0_2) rfl
      have bg0_0 := Bg0.cell 0 (v := pg0_0) rfl
      have bg0_1 := Bg0.cell 1 (v := pg0_1) rfl
      have bg0_2 := Bg0.cell 2 (v := pg0_2) rfl
      have Xw0 := Lib.hid Bw0
      have Zw0 := Lib.hid Rw0
      have Xg0 := Lib.hid Bg0
      have Zg0 := Lib.hid Rg0
      clear Bw0 Rw0 Bg0 Rg0
      generalize hk1 : (mkCluster (ncV a0) 1).2 = k1_ at n1 m1 l1 ⊢
      go_wp2_with fail
      (with_reducible refine (heldCluster_k (kCluster.M_K Zg0.out) (by omega) (by rw [hk1]; omega) (smCluster_le y0 (by decide))).mono ?_)
      rintro e w5 ⟨rfl, hb⟩
      rw [hk1]
      replace sz0 := Nat.le_trans sz0 hb.size
      have Bw0 := Xw0.out.below hb
      have Rw0 := Rp.M_below Zw0.out hb
      have Bg0 := Xg0.out.below hb
      have Rg0 := Rp.M_below Zg0.out hb
      have HB5 := Lib.hid (HB4.out.trans (hb.mono HB4.out.size))
      clear Xw0 Zw0 Xg0 Zg0 HB4 hb
      clear bw0_0 bw0_1 bw0_2 bg0_0 bg0_1 bg0_2
      have bw0_0 := Bw0.cell 0 (v := pw0_0) rfl
      have bw0_1 := Bw0.cell 1 (v := pw0_1) rfl
      have bw0_2 := Bw0.cell 2 (v := pw0_2) rfl
      have bg0_0 := Bg0.cell 0 (v := pg0_0) rfl
      have bg0_1 := Bg0.cell 1 (v := pg0_1) rfl
      have bg0_2 := Bg0.cell 2 (v := pg0_2) rfl
      have Xw0 := Lib.hid Bw0
      have Zw0 := Lib.hid Rw0
      have Xg0 := Lib.hid Bg0
      have Zg0 := Lib.hid Rg0
      clear Bw0 Rw0 Bg0 Rg0
      have nk12 : ¬ k1_ < 0 := by omega
      go_upto_region 13 with fail
      go_cut [9, 10] from 9 to 10 (fun s9 s10 wx => HasNewCluster a0 w5.heap.size w5 wx s9 ∧ s10 = .bool (inR a0 1 7))
      case first =>
        have yw0 : gw0 < w5.heap.size := Xw0.out.lt
        have yg0 : gg0 < w5.heap.size := Xg0.out.lt
        have yh := HB5.out.size
        go_wp2_with (first
            | (go_at_call 43; ((with_reducible refine (iNewCluster_k h0).mono ?_); rintro e wz ⟨cd0, FD0, rfl, rd0, rd_1, rd_2, hc⟩; have zs_c := hc.size; (try simp at zs_c); obtain ⟨pd0_0, pd0_1, pd0_2, FD0_0, FD0_1, FD0_2, rfl, rfl, pd0_r0, pd0_r1, pd0_r2⟩ := kCluster_open rd0; obtain ⟨pd0_A0, pd0_C0, rfl, _, _⟩ := Rp.Row_K pd0_r0; obtain ⟨pd0_A1, pd0_C1, rfl, _, _⟩ := Rp.Row_K pd0_r1; obtain ⟨pd0_A2, pd0_C2, rfl, _, _⟩ := Rp.Row_K pd0_r2; (first | have BG0 := Box.below BG0 hc | have BG0 := Box.below (Box.drew (Box.new (T := 68) (cs := #[.slice none 0 0, .slice none 0 0, .slice none 0 0]) rfl)) hc | have BG0 := Box.below (Box.new (T := 68) (cs := #[.slice none 0 0, .slice none 0 0, .slice none 0 0]) rfl) hc | skip); (try (have q0_0 := BG0.cell 0 (v := .slice none 0 0) rfl; have q0_1 := BG0.cell 1 (v := .slice none 0 0) rfl; have q0_2 := BG0.cell 2 (v := .slice none 0 0) rfl; have fg0 := BG0.fro)))))
        all_goals (go_meet; go_light)
        all_goals
          have K : Below w5.heap.size w5 wz := (by repeat (first | assumption | (with_reducible exact Below.refl _ _) | (with_reducible refine below_call ?_ hc) | (with_reducible refine below_call ?_ hb0) | (with_reducible refine below_call ?_ hb) | (with_reducible refine Below.drew ?_) | (with_reducible refine below_alloc2 ?_ _)))
          first
            | (refine ⟨?_, rfl⟩; with_reducible refine Has.new (d := kCluster) (kCluster_make pd0_r0 pd0_r1 pd0_r2) rd_2 ?_ K (Nat.le_refl _); exact (fun b hm => by have := rd_1 b hm; first | omega | (simp at this; omega)))
            | (refine ⟨?_, rfl⟩; exact Has.old (d := kCluster) (kCluster_make pd0_r0 pd0_r1 pd0_r2) rd_2 (fun b hm => by have := rd_1 b hm; first | omega | (simp at this; omega)) K BG0 (by first | omega | (simp; omega) | (simp; done)) (Nat.le_refl _) rfl)
      case rest =>
        rename World => w6
        obtain ⟨⟨gh0, Fh0, _, rfl, Bh0, Rh0, Nh0, dh0, eh0, hb⟩, rfl⟩ := hcut
        obtain ⟨ph0_0, ph0_1, ph0_2, Fh0_0, Fh0_1, Fh0_2, rfl, rfl, rh0_0, rh0_1, rh0_2⟩ := kCluster_open Rh0
        have Rh0 := kCluster_make rh0_0 rh0_1 rh0_2
        clear rh0_0 rh0_1 rh0_2
        have Dh0 := fun b hb => (dh0 b hb).1; have Nh0_h0 := fun b hb => (dh0 b hb).2; clear dh0
        have eh0 := And.intro eh0 Bh0.lt
        have Eh0 := kCluster.M_lt Rh0
        have zzh0 := hb.size
        have soh0 := sz0
        replace sz0 := Nat.le_trans sz0 hb.size
        have Bw0 := Xw0.out.below hb
        have Rw0 := Rp.M_below Zw0.out hb
        have Bg0 := Xg0.out.below hb
        have Rg0 := Rp.M_below Zg0.out hb
        have HB6 := Lib.hid (HB5.out.trans (hb.mono HB5.out.size))
        clear Xw0 Zw0 Xg0 Zg0 HB5 hb
        clear bw0_0 bw0_1 bw0_2 bg0_0 bg0_1 bg0_2
        have bw0_0 := Bw0.cell 0 (v := pw0_0) rfl
        have bw0_1 := Bw0.cell 1 (v := pw0_1) rfl
        have bw0_2 := Bw0.cell 2 (v := pw0_2) rfl
        have bg0_0 := Bg0.cell 0 (v := pg0_0) rfl
        have bg0_1 := Bg0.cell 1 (v := pg0_1) rfl
        have bg0_2 := Bg0.cell 2 (v := pg0_2) rfl
        have bh0_0 := Bh0.cell 0 (v := ph0_0) rfl
        have bh0_1 := Bh0.cell 1 (v := ph0_1) rfl
        have bh0_2 := Bh0.cell 2 (v := ph0_2) rfl
        have Xw0 := Lib.hid Bw0
        have Zw0 := Lib.hid Rw0
        have Xg0 := Lib.hid Bg0
        have Zg0 := Lib.hid Rg0
        have Xh0 := Lib.hid Bh0
        have Zh0 := Lib.hid Rh0
        clear Bw0 Rw0 Bg0 Rg0 Bh0 Rh0
        go_wp2_with fail
        (with_reducible refine (eqCluster_k (kCluster.M_K Zh0.out) (kCluster.M_K Zw0.out) (smCluster_le y0 (by decide))).mono ?_)
        rintro e w7 ⟨rfl, hb⟩
        replace sz0 := Nat.le_trans sz0 hb.size
        have Bw0 := Xw0.out.below hb
        have Rw0 := Rp.M_below Zw0.out hb
        have Bg0 := Xg0.out.below hb
        have Rg0 := Rp.M_below Zg0.out hb
        have Bh0 := Xh0.out.below hb
        have Rh0 := Rp.M_below Zh0.out hb
        have HB7 := Lib.hid (HB6.out.trans (hb.mono HB6.out.size))
        clear Xw0 Zw0 Xg0 Zg0 Xh0 Zh0 HB6 hb
        clear bw0_0 bw0_1 bw0_2 bg0_0 bg0_1 bg0_2 bh0_0 bh0_1 bh0_2
        have bw0_0 := Bw0.cell 0 (v := pw0_0) rfl
        have bw0_1 := Bw0.cell 1 (v := pw0_1) rfl
        have bw0_2 := Bw0.cell 2 (v := pw0_2) rfl
        have bg0_0 := Bg0.cell 0 (v := pg0_0) rfl
        have bg0_1 := Bg0.cell 1 (v := pg0_1) rfl
        have bg0_2 := Bg0.cell 2 (v := pg0_2) rfl
        have bh0_0 := Bh0.cell 0 (v := ph0_0) rfl
        have bh0_1 := Bh0.cell 1 (v := ph0_1) rfl
        have bh0_2 := Bh0.cell 2 (v := ph0_2) rfl
        have Xw0 := Lib.hid Bw0
        have Zw0 := Lib.hid Rw0
        have Xg0 := Lib.hid Bg0
        have Zg0 := Lib.hid Rg0
        have Xh0 := Lib.hid Bh0
        have Zh0 := Lib.hid Rh0
        clear Bw0 Rw0 Bg0 Rg0 Bh0 Rh0
        go_wp2_with fail
        (with_reducible refine (heldCluster_k (kCluster.M_K Zg0.out) (by omega) (by rw [hk1]; omega) (smCluster_le y0 (by decide))).mono ?_)
        rintro e w8 ⟨rfl, hb⟩
        rw [hk1]
        replace sz0 := Nat.le_trans sz0 hb.size
        have Bw0 := Xw0.out.below hb
        have Rw0 := Rp.M_below Zw0.out hb
        have Bg0 := Xg0.out.below hb
        have Rg0 := Rp.M_below Zg0.out hb
        have Bh0 := Xh0.out.below hb
        have Rh0 := Rp.M_below Zh0.out hb
        have HB8 := Lib.hid (HB7.out.trans (hb.mono HB7.out.size))
        clear Xw0 Zw0 Xg0 Zg0 Xh0 Zh0 HB7 hb
        clear bw0_0 bw0_1 bw0_2 bg0_0 bg0_1 bg0_2 bh0_0 bh0_1 bh0_2
        have bw0_0 := Bw0.cell 0 (v := pw0_0) rfl
        have bw0_1 := Bw0.cell 1 (v := pw0_1) rfl
        have bw0_2 := Bw0.cell 2 (v := pw0_2) rfl
        have bg0_0 := Bg0.cell 0 (v := pg0_0) rfl
        have bg0_1 := Bg0.cell 1 (v := pg0_1) rfl
        have bg0_2 := Bg0.cell 2 (v := pg0_2) rfl
        have bh0_0 := Bh0.cell 0 (v := ph0_0) rfl
        have bh0_1 := Bh0.cell 1 (v := ph0_1) rfl
        have bh0_2 := Bh0.cell 2 (v := ph0_2) rfl
        have Xw0 := Lib.hid Bw0
        have Zw0 := Lib.hid Rw0
        have Xg0 := Lib.hid Bg0
        have Zg0 := Lib.hid Rg0
        have Xh0 := Lib.hid Bh0
        have Zh0 := Lib.hid Rh0
        clear Bw0 Rw0 Bg0 Rg0 Bh0 Rh0
        have nk16 : ¬ k1_ < 0 := by omega
        go_wp2
        go_ret
        exact ⟨rfl, HB8.out⟩
end Go.Proofs.Ythnjcolbdoaabaa
