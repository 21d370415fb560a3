/- Law FnExactChunksOf: at every input it returns true; what was there stays. -/
import Derived.Test.YtjoojfjfgoeegaaChk
namespace Go.Proofs.Ytjoojfjfgoeegaa
open Go Go.RowKit Go.Sort
set_option linter.unusedVariables false
set_option linter.unusedSimpArgs false

def HasChunksOf (a0 : List (ByteArray)) (N : Nat) (w wx : World) (s : Value) : Prop := ∃ v F, s = v ∧ kChunkS.M wx F (chV a0) [v] ∧ (∀ b ∈ F, N ≤ b) ∧ F.Nodup ∧ Below N w wx
set_option maxHeartbeats 4000000 in
set_option maxRecDepth 100000 in
theorem law_ChunksOf (a0 : List (ByteArray)) (v0_ : Value) (w : World) (g0 : kStringS.K w a0 [v0_]) (h0 : wfStringS a0) (y0 : smStringS 1048576 a0 → smChunkS 4194304 (chV a0)) : Calls Try.prog 6 #[v0_] w
    fun e w' => e = .returned (.bool true) ∧ Below w.heap.size w w' := by
  have G0 := Lib.hid g0; clear g0
  go_enter Try.func6, Try.ntmps6
  go_wp2_with fail
  (with_reducible refine (szStringS_k (kStringS.K_below ((by repeat (first | (with_reducible exact Below.refl _ _) | (with_reducible refine Below.alloc ?_ (by first | (with_reducible exact Nat.le_refl _) | (simp; done) | (simp; omega)) _))) : Below w.heap.size w _).block G0.out) (by omega) (by omega) h0).mono ?_)
  rintro e w1 ⟨rfl, hb⟩
  have HB1 := Lib.hid (Below.trans (by repeat (first | (with_reducible exact Below.refl _ _) | (with_reducible refine Below.alloc ?_ (by first | (with_reducible exact Nat.le_refl _) | (simp; done) | (simp; omega)) _))) (hb.mono (by first | (with_reducible exact Nat.le_refl _) | (simp; done) | (simp; omega))) : Below w.heap.size w w1)
  have sz0 : w.heap.size ≤ w1.heap.size := by have := hb.size; (try simp at this); omega
  clear hb
  by_cases z0 : (szNStringS a0 : Int) ≤ 1048576
  case neg =>
    rw [szR_no z0]
    go_wp2
    go_ret
    exact ⟨rfl, HB1.out⟩
  case pos =>
    rw [szR_yes z0]
    replace y0 := y0 (szStringS_sm (n := 1048576) (x := a0) (by omega)) 
    go_upto_region 5 with fail
    go_cut [4, 5] from 4 to 5 (fun s4 s5 wx => HasChunksOf a0 w1.heap.size w1 wx s4 ∧ s5 = .bool (chOk a0))
    case first =>
      have yh := HB1.out.size
      go_wp2_with (first
          | (go_at_call 16; (refine (toStringS_k (kStringS.K_below (HB1.out.trans (Below.mono (by repeat (first | assumption | (with_reducible exact Below.refl _ _) | (with_reducible refine below_call ?_ hc) | (with_reducible refine below_call ?_ hb0) | (with_reducible refine below_call ?_ hb) | (with_reducible refine Below.drew ?_) | (with_reducible refine below_alloc2 ?_ _))) HB1.out.size)).block G0.out) (szStringS_sm (n := 1048576) (x := a0) (by omega))).mono ?_; rintro e wt0 ⟨ds0, F0_, rfl, ra0, rb0, rc0, hb0⟩; have zs0 := hb0.size; (try simp at zs0)))
          | (go_at_call 30; (refine (sChunksOf_k (kStringS.K_below ((by repeat (first | assumption | (with_reducible exact Below.refl _ _) | (with_reducible refine below_call ?_ hc) | (with_reducible refine below_call ?_ hb0) | (with_reducible refine below_call ?_ hb) | (with_reducible refine Below.drew ?_) | (with_reducible refine below_alloc2 ?_ _))) : Below _ _ _).block (kStringS.M_K ra0)) h0 (by have := (szStringS_sm (n := 1048576) (x := a0) (by omega)); exact this)).mono ?_; rintro e wz ⟨cd0, FD0, rfl, rd0, rd_1, rd_2, hc⟩; have zs_c := hc.size; (try simp at zs_c))))
      all_goals (go_meet; go_light)
      all_goals
        have K : Below w1.heap.size w1 wz := (by repeat (first | assumption | (with_reducible exact Below.refl _ _) | (with_reducible refine below_call ?_ hc) | (with_reducible refine below_call ?_ hb0) | (with_reducible refine below_call ?_ hb) | (with_reducible refine Below.drew ?_) | (with_reducible refine below_alloc2 ?_ _)))
        (refine ⟨?_, rfl⟩; exact ⟨_, _, rfl, rd0, (fun b hm => by have := rd_1 b hm; first | omega | (simp at this; omega)), rd_2, K⟩)
    case rest =>
      rename World => w2
      obtain ⟨⟨pw0_, Fw0, rfl, Rw0, Dw0, Nw0, hb⟩, rfl⟩ := hcut
      have Ew0 := kChunkS.M_lt Rw0
      have zzw0 := hb.size
      have sow0 := sz0
      replace sz0 := Nat.le_trans sz0 hb.size
      have HB2 := Lib.hid (HB1.out.trans (hb.mono HB1.out.size))
      clear HB1 hb
      have Zw0 := Lib.hid Rw0
      clear Rw0
      go_wp2_with fail
      (with_reducible refine (toStringS_k (kStringS.K_below HB2.out.block G0.out) (szStringS_sm (n := 1048576) (x := a0) (by omega))).mono ?_)
      rintro e w3 ⟨px0_, Fx0, rfl, Rx0, Dx0, Nx0, hb⟩
      have Ex0 := kStringS.M_lt Rx0
      have zzx0 := hb.size
      have sox0 := sz0
      replace sz0 := Nat.le_trans sz0 hb.size
      have Rw0 := Rp.M_below Zw0.out hb
      have HB3 := Lib.hid (HB2.out.trans (hb.mono HB2.out.size))
      clear Zw0 HB2 hb
      have Zw0 := Lib.hid Rw0
      have Zx0 := Lib.hid Rx0
      clear Rw0 Rx0
      go_upto_region 7 with fail
      go_cut [7, 8] from 7 to 8 (fun s7 s8 wx => HasChunksOf a0 w3.heap.size w3 wx s7 ∧ s8 = .bool (chOk a0))
      case first =>
        have yh := HB3.out.size
        go_wp2_with (first
            | (go_at_call 31; (refine (iChunksOf_k (kStringS.K_below ((by repeat (first | assumption | (with_reducible exact Below.refl _ _) | (with_reducible refine below_call ?_ hc) | (with_reducible refine below_call ?_ hb0) | (with_reducible refine below_call ?_ hb) | (with_reducible refine Below.drew ?_) | (with_reducible refine below_alloc2 ?_ _))) : Below _ _ _).block (kStringS.M_K Zx0.out)) h0 (by have := (szStringS_sm (n := 1048576) (x := a0) (by omega)); exact this)).mono ?_; rintro e wz ⟨cd0, FD0, rfl, rd0, rd_1, rd_2, hc⟩; have zs_c := hc.size; (try simp at zs_c))))
        all_goals (go_meet; go_light)
        all_goals
          have K : Below w3.heap.size w3 wz := (by repeat (first | assumption | (with_reducible exact Below.refl _ _) | (with_reducible refine below_call ?_ hc) | (with_reducible refine below_call ?_ hb0) | (with_reducible refine below_call ?_ hb) | (with_reducible refine Below.drew ?_) | (with_reducible refine below_alloc2 ?_ _)))
          (refine ⟨?_, rfl⟩; exact ⟨_, _, rfl, rd0, (fun b hm => by have := rd_1 b hm; first | omega | (simp at this; omega)), rd_2, K⟩)
      case rest =>
        rename World => w4
        obtain ⟨⟨pg0_, Fg0, rfl, Rg0, Dg0, Ng0, hb⟩, rfl⟩ := hcut
        have Eg0 := kChunkS.M_lt Rg0
        have zzg0 := hb.size
        have sog0 := sz0
        replace sz0 := Nat.le_trans sz0 hb.size
        have Rw0 := Rp.M_below Zw0.out hb
        have Rx0 := Rp.M_below Zx0.out hb
        have HB4 := Lib.hid (HB3.out.trans (hb.mono HB3.out.size))
        clear Zw0 Zx0 HB3 hb
        have Zw0 := Lib.hid Rw0
        have Zx0 := Lib.hid Rx0
        have Zg0 := Lib.hid Rg0
        clear Rw0 Rx0 Rg0
        go_wp2_with fail
        (with_reducible refine (eqChunkS_k (kChunkS.M_K Zg0.out) (kChunkS.M_K Zw0.out) (smChunkS_le y0 (by decide))).mono ?_)
        rintro e w5 ⟨rfl, hb⟩
        replace sz0 := Nat.le_trans sz0 hb.size
        have Rw0 := Rp.M_below Zw0.out hb
        have Rx0 := Rp.M_below Zx0.out hb
        have Rg0 := Rp.M_below Zg0.out hb
        have HB5 := Lib.hid (HB4.out.trans (hb.mono HB4.out.size))
        clear Zw0 Zx0 Zg0 HB4 hb
        have Zw0 := Lib.hid Rw0
        have Zx0 := Lib.hid Rx0
        have Zg0 := Lib.hid Rg0
        clear Rw0 Rx0 Rg0
        go_wp2_with fail
        (with_reducible refine (toStringS_k (kStringS.K_below HB5.out.block G0.out) (szStringS_sm (n := 1048576) (x := a0) (by omega))).mono ?_)
        rintro e w6 ⟨pt, Ft, rfl, Rt, _, _, hb⟩
        replace sz0 := Nat.le_trans sz0 hb.size
        have Rw0 := Rp.M_below Zw0.out hb
        have Rx0 := Rp.M_below Zx0.out hb
        have Rg0 := Rp.M_below Zg0.out hb
        have HB6 := Lib.hid (HB5.out.trans (hb.mono HB5.out.size))
        clear Zw0 Zx0 Zg0 HB5 hb
        have Zw0 := Lib.hid Rw0
        have Zx0 := Lib.hid Rx0
        have Zg0 := Lib.hid Rg0
        clear Rw0 Rx0 Rg0
        go_wp2_with fail
        (with_reducible refine (eqStringS_k (kStringS.M_K Zx0.out) (kStringS.M_K Rt) (szStringS_sm (n := 140737488355328) (x := a0) (by omega))).mono ?_)
        rintro e w7 ⟨rfl, hb⟩
        clear Rt
        replace sz0 := Nat.le_trans sz0 hb.size
        have Rw0 := Rp.M_below Zw0.out hb
        have Rx0 := Rp.M_below Zx0.out hb
        have Rg0 := Rp.M_below Zg0.out hb
        have HB7 := Lib.hid (HB6.out.trans (hb.mono HB6.out.size))
        clear Zw0 Zx0 Zg0 HB6 hb
        have Zw0 := Lib.hid Rw0
        have Zx0 := Lib.hid Rx0
        have Zg0 := Lib.hid Rg0
        clear Rw0 Rx0 Rg0
        have m1 := mkStringS_sm (k := 1) (szStringS_sm (n := 1048576) (x := a0) (by omega))
        have n1 := mkStringS_le (a0) 1
        have l1 : (mkStringS (a0) 1).2 ≤ 4611686018427387904 := by omega
        go_wp2_with fail
        (with_reducible refine (markStringS_k Zx0.out Nx0 (by omega) l1 (szStringS_sm (n := 140737488355328) (x := a0) (by omega))).mono ?_)
        rintro e w8 ⟨rfl, hr, hk⟩
        clear hr
        generalize (mkStringS (a0) 1).2 = k1_ at *
        replace sz0 := Nat.le_trans sz0 hk.size
        have Rw0 := kChunkS.M_move (fun b hb => hk.block b (kChunkS.M_lt Zw0.out b hb) (fun hm => by have := Dx0 _ hm; have := Ex0 _ hm; have := Dw0 _ hb; have := Ew0 _ hb; omega)) Zw0.out
        have Rg0 := kChunkS.M_move (fun b hb => hk.block b (kChunkS.M_lt Zg0.out b hb) (fun hm => by have := Dx0 _ hm; have := Ex0 _ hm; have := Dg0 _ hb; have := Eg0 _ hb; omega)) Zg0.out
        have HB8 := Lib.hid (HB7.out.trans (hk.toBelow HB7.out.size (fun b hb => by have := Dx0 _ hb; omega)))
        clear Zw0 Zx0 Zg0 HB7 hk
        have Zw0 := Lib.hid Rw0
        have Zg0 := Lib.hid Rg0
        clear Rw0 Rg0
        go_wp2_with fail
        (with_reducible refine (eqChunkS_k (kChunkS.M_K Zg0.out) (kChunkS.M_K Zw0.out) (smChunkS_le y0 (by decide))).mono ?_)
        rintro e w9 ⟨rfl, hb⟩
        replace sz0 := Nat.le_trans sz0 hb.size
        have Rw0 := Rp.M_below Zw0.out hb
        have Rg0 := Rp.M_below Zg0.out hb
        have HB9 := Lib.hid (HB8.out.trans (hb.mono HB8.out.size))
        clear Zw0 Zg0 HB8 hb
        have Zw0 := Lib.hid Rw0
        have Zg0 := Lib.hid Rg0
        clear Rw0 Rg0
        have m2 := mkChunkS_sm (k := 1) y0
        have n2 := mkChunkS_le (chV a0) 1
        have l2 : (mkChunkS (chV a0) 1).2 ≤ 4611686018427387904 := by omega
        go_wp2_with fail
        (with_reducible refine (markChunkS_k Zg0.out Ng0 (by omega) l2 (smChunkS_le y0 (by decide))).mono ?_)
        rintro e w10 ⟨rfl, hr, hk⟩
        have Rg0 := hr; clear hr
        replace sz0 := Nat.le_trans sz0 hk.size
        have Rw0 := kChunkS.M_move (fun b hb => hk.block b (kChunkS.M_lt Zw0.out b hb) (fun hm => by have := Dg0 _ hm; have := Eg0 _ hm; have := Dw0 _ hb; have := Ew0 _ hb; omega)) Zw0.out
        have HB10 := Lib.hid (HB9.out.trans (hk.toBelow HB9.out.size (fun b hb => by have := Dg0 _ hb; omega)))
        clear Zw0 Zg0 HB9 hk
        have Zw0 := Lib.hid Rw0
        have Zg0 := Lib.hid Rg0
        clear Rw0 Rg0
        generalize hk2 : (mkChunkS (chV a0) 1).2 = k2_ at n2 m2 l2 ⊢
        go_wp2_with fail
        (with_reducible refine (heldChunkS_k (kChunkS.M_K Zg0.out) (by omega) (by rw [hk2]; omega) (smChunkS_le y0 (by decide))).mono ?_)
        rintro e w11 ⟨rfl, hb⟩
        rw [hk2]
        replace sz0 := Nat.le_trans sz0 hb.size
        have Rw0 := Rp.M_below Zw0.out hb
        have Rg0 := Rp.M_below Zg0.out hb
        have HB11 := Lib.hid (HB10.out.trans (hb.mono HB10.out.size))
        clear Zw0 Zg0 HB10 hb
        have Zw0 := Lib.hid Rw0
        have Zg0 := Lib.hid Rg0
        clear Rw0 Rg0
        have nk25 : ¬ k2_ < 0 := by omega
        go_upto_region 24 with fail
        go_cut [12, 13] from 12 to 13 (fun s12 s13 wx => HasChunksOf a0 w11.heap.size w11 wx s12 ∧ s13 = .bool (chOk a0))
        case first =>
          have yh := HB11.out.size
          go_wp2_with (first
              | (go_at_call 16; (refine (toStringS_k (kStringS.K_below (HB11.out.trans (Below.mono (by repeat (first | assumption | (with_reducible exact Below.refl _ _) | (with_reducible refine below_call ?_ hc) | (with_reducible refine below_call ?_ hb0) | (with_reducible refine below_call ?_ hb) | (with_reducible refine Below.drew ?_) | (with_reducible refine below_alloc2 ?_ _))) HB11.out.size)).block G0.out) (szStringS_sm (n := 1048576) (x := a0) (by omega))).mono ?_; rintro e wt0 ⟨ds0, F0_, rfl, ra0, rb0, rc0, hb0⟩; have zs0 := hb0.size; (try simp at zs0)))
              | (go_at_call 31; (refine (iChunksOf_k (kStringS.K_below ((by repeat (first | assumption | (with_reducible exact Below.refl _ _) | (with_reducible refine below_call ?_ hc) | (with_reducible refine below_call ?_ hb0) | (with_reducible refine below_call ?_ hb) | (with_reducible refine Below.drew ?_) | (with_reducible refine below_alloc2 ?_ _))) : Below _ _ _).block (kStringS.M_K ra0)) h0 (by have := (szStringS_sm (n := 1048576) (x := a0) (by omega)); exact this)).mono ?_; rintro e wz ⟨cd0, FD0, rfl, rd0, rd_1, rd_2, hc⟩; have zs_c := hc.size; (try simp at zs_c))))
          all_goals (go_meet; go_light)
          all_goals
            have K : Below w11.heap.size w11 wz := (by repeat (first | assumption | (with_reducible exact Below.refl _ _) | (with_reducible refine below_call ?_ hc) | (with_reducible refine below_call ?_ hb0) | (with_reducible refine below_call ?_ hb) | (with_reducible refine Below.drew ?_) | (with_reducible refine below_alloc2 ?_ _)))
            (refine ⟨?_, rfl⟩; exact ⟨_, _, rfl, rd0, (fun b hm => by have := rd_1 b hm; first | omega | (simp at this; omega)), rd_2, K⟩)
        case rest =>
          rename World => w12
          obtain ⟨⟨ph0_, Fh0, rfl, Rh0, Dh0, Nh0, hb⟩, rfl⟩ := hcut
          have Eh0 := kChunkS.M_lt Rh0
          have zzh0 := hb.size
          have soh0 := sz0
          replace sz0 := Nat.le_trans sz0 hb.size
          have Rw0 := Rp.M_below Zw0.out hb
          have Rg0 := Rp.M_below Zg0.out hb
          have HB12 := Lib.hid (HB11.out.trans (hb.mono HB11.out.size))
          clear Zw0 Zg0 HB11 hb
          have Zw0 := Lib.hid Rw0
          have Zg0 := Lib.hid Rg0
          have Zh0 := Lib.hid Rh0
          clear Rw0 Rg0 Rh0
          go_wp2_with fail
          (with_reducible refine (eqChunkS_k (kChunkS.M_K Zh0.out) (kChunkS.M_K Zw0.out) (smChunkS_le y0 (by decide))).mono ?_)
          rintro e w13 ⟨rfl, hb⟩
          replace sz0 := Nat.le_trans sz0 hb.size
          have Rw0 := Rp.M_below Zw0.out hb
          have Rg0 := Rp.M_below Zg0.out hb
          have Rh0 := Rp.M_below Zh0.out hb
          have HB13 := Lib.hid (HB12.out.trans (hb.mono HB12.out.size))
          clear Zw0 Zg0 Zh0 HB12 hb
          have Zw0 := Lib.hid Rw0
          have Zg0 := Lib.hid Rg0
          have Zh0 := Lib.hid Rh0
          clear Rw0 Rg0 Rh0
          go_wp2_with fail
          (with_reducible refine (heldChunkS_k (kChunkS.M_K Zg0.out) (by omega) (by rw [hk2]; omega) (smChunkS_le y0 (by decide))).mono ?_)
          rintro e w14 ⟨rfl, hb⟩
          rw [hk2]
          replace sz0 := Nat.le_trans sz0 hb.size
          have Rw0 := Rp.M_below Zw0.out hb
          have Rg0 := Rp.M_below Zg0.out hb
          have Rh0 := Rp.M_below Zh0.out hb
          have HB14 := Lib.hid (HB13.out.trans (hb.mono HB13.out.size))
          clear Zw0 Zg0 Zh0 HB13 hb
          have Zw0 := Lib.hid Rw0
          have Zg0 := Lib.hid Rg0
          have Zh0 := Lib.hid Rh0
          clear Rw0 Rg0 Rh0
          have nk23 : ¬ k2_ < 0 := by omega
          go_wp2
          go_ret
          exact ⟨rfl, HB14.out⟩
end Go.Proofs.Ytjoojfjfgoeegaa
