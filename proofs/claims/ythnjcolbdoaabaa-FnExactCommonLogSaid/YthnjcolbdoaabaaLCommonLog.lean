/- Law FnExactCommonLog: at every input it returns true; what was there stays. -/
import Derived.Test.YthnjcolbdoaabaaCoK
import Derived.Test.YthnjcolbdoaabaaMkE
namespace Go.Proofs.Ythnjcolbdoaabaa
open Go Go.RowKit Go.Sort
set_option linter.unusedVariables false
set_option linter.unusedSimpArgs false

def HasCommonLog (a0 : DCluster) (N : Nat) (w wx : World) (s : Value) : Prop := ∃ v F, s = v ∧ kEntryS.M wx F (clV a0) [v] ∧ (∀ b ∈ F, N ≤ b) ∧ F.Nodup ∧ Below N w wx
set_option maxHeartbeats 4000000 in
set_option maxRecDepth 100000 in
theorem law_CommonLog (a0 : DCluster) (v0_0 v0_1 v0_2 : Value) (w : World) (g0 : kCluster.K w a0 [v0_0, v0_1, v0_2]) (h0 : wfCluster a0) (y0 : smCluster 1048576 a0 → smEntryS 4194304 (clV a0)) : Calls Try.prog 9 #[.agg #[v0_0, v0_1, v0_2]] w
    fun e w' => e = .returned (.bool true) ∧ Below w.heap.size w w' := by
  have G0 := Lib.hid g0; clear g0
  go_enter Try.func9, Try.ntmps9
  go_wp2_with fail
  (with_reducible refine (szCluster_k (kCluster.K_below ((by repeat (first | (with_reducible exact Below.refl _ _) | (with_reducible refine Below.alloc ?_ (by first | (with_reducible exact Nat.le_refl _) | (simp; done) | (simp; omega)) _))) : Below w.heap.size w _).block G0.out) (by omega) (by omega) h0).mono ?_)
  rintro e w1 ⟨rfl, hb⟩
  have Ba0 : Box w1 w.heap.size #[v0_0, v0_1, v0_2] 61 := Box.below (Box.new rfl) hb
  have HB1 := Lib.hid (Below.trans (by repeat (first | (with_reducible exact Below.refl _ _) | (with_reducible refine Below.alloc ?_ (by first | (with_reducible exact Nat.le_refl _) | (simp; done) | (simp; omega)) _))) (hb.mono (by first | (with_reducible exact Nat.le_refl _) | (simp; done) | (simp; omega))) : Below w.heap.size w w1)
  have sz0 : w.heap.size + 1 ≤ w1.heap.size := by have := hb.size; (try simp at this); omega
  clear hb
  have ba0_0 := Ba0.cell 0 (v := v0_0) rfl
  have ba0_1 := Ba0.cell 1 (v := v0_1) rfl
  have ba0_2 := Ba0.cell 2 (v := v0_2) rfl
  have Xa0 := Lib.hid Ba0
  clear Ba0
  by_cases z0 : (szNCluster a0 : Int) ≤ 1048576
  case neg =>
    rw [szR_no z0]
    go_wp2
    go_ret
    exact ⟨rfl, HB1.out⟩
  case pos =>
    rw [szR_yes z0]
    replace y0 := y0 (szCluster_sm (n := 1048576) (x := a0) (by omega)) 
    go_upto_region 5 with fail
    go_cut [4, 5] from 4 to 5 (fun s4 s5 wx => HasCommonLog a0 w1.heap.size w1 wx s4 ∧ s5 = .bool (cluOk a0))
    case first =>
      have ya0 : w.heap.size < w1.heap.size := Xa0.out.lt
      have yh := HB1.out.size
      go_wp2_with (first
          | (go_at_call 35; ((with_reducible refine (toCluster_k (kCluster.K_below (HB1.out.trans (Below.mono (by repeat (first | assumption | (with_reducible exact Below.refl _ _) | (with_reducible refine below_call ?_ hc) | (with_reducible refine below_call ?_ hb0) | (with_reducible refine below_call ?_ hb) | (with_reducible refine Below.drew ?_) | (with_reducible refine below_alloc2 ?_ _))) HB1.out.size)).block G0.out) (szCluster_sm (n := 1048576) (x := a0) (by omega))).mono ?_); rintro e wt0 ⟨ds0, F0_, rfl, ra0, rb0, rc0, hb0⟩; have zs0 := hb0.size; (try simp at zs0)))
          | (go_at_call 49; ((with_reducible refine (sCommonLog_k (kCluster.K_below ((by repeat (first | assumption | (with_reducible exact Below.refl _ _) | (with_reducible refine below_call ?_ hc) | (with_reducible refine below_call ?_ hb0) | (with_reducible refine below_call ?_ hb) | (with_reducible refine Below.drew ?_) | (with_reducible refine below_alloc2 ?_ _))) : Below _ _ _).block (kCluster.M_K ra0)) h0 (by have := (szCluster_sm (n := 1048576) (x := a0) (by omega)); exact this)).mono ?_); rintro e wz ⟨cd0, FD0, rfl, rd0, rd_1, rd_2, hc⟩; have zs_c := hc.size; (try simp at zs_c))))
      all_goals (go_meet; go_light)
      all_goals
        have K : Below w1.heap.size w1 wz := (by repeat (first | assumption | (with_reducible exact Below.refl _ _) | (with_reducible refine below_call ?_ hc) | (with_reducible refine below_call ?_ hb0) | (with_reducible refine below_call ?_ hb) | (with_reducible refine Below.drew ?_) | (with_reducible refine below_alloc2 ?_ _)))
        (refine ⟨?_, rfl⟩; exact ⟨_, _, rfl, rd0, (fun b hm => by have := rd_1 b hm; first | omega | (simp at this; omega)), rd_2, K⟩)
    case rest =>
      rename World => w2
      obtain ⟨⟨pw0_, Fw0, rfl, Rw0, Dw0, Nw0, hb⟩, rfl⟩ := hcut
      have Ew0 := kEntryS.M_lt Rw0
      have zzw0 := hb.size
      have sow0 := sz0
      replace sz0 := Nat.le_trans sz0 hb.size
      have Ba0 := Xa0.out.below hb
      have HB2 := Lib.hid (HB1.out.trans (hb.mono HB1.out.size))
      clear Xa0 HB1 hb
      clear ba0_0 ba0_1 ba0_2
      have ba0_0 := Ba0.cell 0 (v := v0_0) rfl
      have ba0_1 := Ba0.cell 1 (v := v0_1) rfl
      have ba0_2 := Ba0.cell 2 (v := v0_2) rfl
      have Xa0 := Lib.hid Ba0
      have Zw0 := Lib.hid Rw0
      clear Ba0 Rw0
      go_upto_region 6 with fail
      go_cut [6] from 6 to 6 (fun s wx => Has kCluster 68 a0 w2.heap.size w2 wx s)
      case first =>
        go_wp2_with fail
        (with_reducible refine (toCluster_k (kCluster.K_below HB2.out.block G0.out) (szCluster_sm (n := 1048576) (x := a0) (by omega))).mono ?_)
        rintro e wa ⟨ds, F, rfl, ra, rb, rc, hb⟩
        obtain ⟨pa0, pa1, pa2, F_0, F_1, F_2, rfl, rfl, par0, par1, par2⟩ := kCluster_open ra; obtain ⟨paA0, paC0, rfl, _, _⟩ := Rp.Row_K par0; obtain ⟨paA1, paC1, rfl, _, _⟩ := Rp.Row_K par1; obtain ⟨paA2, paC2, rfl, _, _⟩ := Rp.Row_K par2
        go_wp2_with fail
        go_meet
        exact Has.new (d := kCluster) (kCluster_make par0 par1 par2) rc rb hb (Nat.le_refl _)
      case rest =>
        rename World => w3
        obtain ⟨gx0, Fx0, _, rfl, Bx0, Rx0, Nx0, dx0, ex0, hb⟩ := hcut
        obtain ⟨px0_0, px0_1, px0_2, Fx0_0, Fx0_1, Fx0_2, rfl, rfl, rx0_0, rx0_1, rx0_2⟩ := kCluster_open Rx0
        have Rx0 := kCluster_make rx0_0 rx0_1 rx0_2
        clear rx0_0 rx0_1 rx0_2
        have Dx0 := fun b hb => (dx0 b hb).1; have Nx0_x0 := fun b hb => (dx0 b hb).2; clear dx0
        have ex0 := And.intro ex0 Bx0.lt
        have Ex0 := kCluster.M_lt Rx0
        have zzx0 := hb.size
        have sox0 := sz0
        replace sz0 := Nat.le_trans sz0 hb.size
        have Ba0 := Xa0.out.below hb
        have Rw0 := Rp.M_below Zw0.out hb
        have HB3 := Lib.hid (HB2.out.trans (hb.mono HB2.out.size))
        clear Xa0 Zw0 HB2 hb
        clear ba0_0 ba0_1 ba0_2
        have ba0_0 := Ba0.cell 0 (v := v0_0) rfl
        have ba0_1 := Ba0.cell 1 (v := v0_1) rfl
        have ba0_2 := Ba0.cell 2 (v := v0_2) rfl
        have bx0_0 := Bx0.cell 0 (v := px0_0) rfl
        have bx0_1 := Bx0.cell 1 (v := px0_1) rfl
        have bx0_2 := Bx0.cell 2 (v := px0_2) rfl
        have Xa0 := Lib.hid Ba0
        have Zw0 := Lib.hid Rw0
        have Xx0 := Lib.hid Bx0
        have Zx0 := Lib.hid Rx0
        clear Ba0 Rw0 Bx0 Rx0
        go_upto_region 7 with fail
        go_cut [7, 8] from 7 to 8 (fun s7 s8 wx => HasCommonLog a0 w3.heap.size w3 wx s7 ∧ s8 = .bool (cluOk a0))
        case first =>
          have ya0 : w.heap.size < w3.heap.size := Xa0.out.lt
          have yx0 : gx0 < w3.heap.size := Xx0.out.lt
          have yh := HB3.out.size
          go_wp2_with (first
              | (go_at_call 50; ((with_reducible refine (iCommonLog_k (kCluster.K_below ((by repeat (first | assumption | (with_reducible exact Below.refl _ _) | (with_reducible refine below_call ?_ hc) | (with_reducible refine below_call ?_ hb0) | (with_reducible refine below_call ?_ hb) | (with_reducible refine Below.drew ?_) | (with_reducible refine below_alloc2 ?_ _))) : Below _ _ _).block (kCluster.M_K Zx0.out)) h0 (by have := (szCluster_sm (n := 1048576) (x := a0) (by omega)); exact this)).mono ?_); rintro e wz ⟨cd0, FD0, rfl, rd0, rd_1, rd_2, hc⟩; have zs_c := hc.size; (try simp at zs_c))))
          all_goals (go_meet; go_light)
          all_goals
            have K : Below w3.heap.size w3 wz := (by repeat (first | assumption | (with_reducible exact Below.refl _ _) | (with_reducible refine below_call ?_ hc) | (with_reducible refine below_call ?_ hb0) | (with_reducible refine below_call ?_ hb) | (with_reducible refine Below.drew ?_) | (with_reducible refine below_alloc2 ?_ _)))
            (refine ⟨?_, rfl⟩; exact ⟨_, _, rfl, rd0, (fun b hm => by have := rd_1 b hm; first | omega | (simp at this; omega)), rd_2, K⟩)
        case rest =>
          rename World => w4
          obtain ⟨⟨pg0_, Fg0, rfl, Rg0, Dg0, Ng0, hb⟩, rfl⟩ := hcut
          have Eg0 := kEntryS.M_lt Rg0
          have zzg0 := hb.size
          have sog0 := sz0
          replace sz0 := Nat.le_trans sz0 hb.size
          have Ba0 := Xa0.out.below hb
          have Rw0 := Rp.M_below Zw0.out hb
          have Bx0 := Xx0.out.below hb
          have Rx0 := Rp.M_below Zx0.out hb
          have HB4 := Lib.hid (HB3.out.trans (hb.mono HB3.out.size))
          clear Xa0 Zw0 Xx0 Zx0 HB3 hb
          clear ba0_0 ba0_1 ba0_2 bx0_0 bx0_1 bx0_2
          have ba0_0 := Ba0.cell 0 (v := v0_0) rfl
          have ba0_1 := Ba0.cell 1 (v := v0_1) rfl
          have ba0_2 := Ba0.cell 2 (v := v0_2) rfl
          have bx0_0 := Bx0.cell 0 (v := px0_0) rfl
          have bx0_1 := Bx0.cell 1 (v := px0_1) rfl
          have bx0_2 := Bx0.cell 2 (v := px0_2) rfl
          have Xa0 := Lib.hid Ba0
          have Zw0 := Lib.hid Rw0
          have Xx0 := Lib.hid Bx0
          have Zx0 := Lib.hid Rx0
          have Zg0 := Lib.hid Rg0
          clear Ba0 Rw0 Bx0 Rx0 Rg0
          go_wp2_with fail
          (with_reducible refine (eqEntryS_k (kEntryS.M_K Zg0.out) (kEntryS.M_K Zw0.out) (smEntryS_le y0 (by decide))).mono ?_)
          rintro e w5 ⟨rfl, hb⟩
          replace sz0 := Nat.le_trans sz0 hb.size
          have Ba0 := Xa0.out.below hb
          have Rw0 := Rp.M_below Zw0.out hb
          have Bx0 := Xx0.out.below hb
          have Rx0 := Rp.M_below Zx0.out hb
          have Rg0 := Rp.M_below Zg0.out hb
          have HB5 := Lib.hid (HB4.out.trans (hb.mono HB4.out.size))
          clear Xa0 Zw0 Xx0 Zx0 Zg0 HB4 hb
          clear ba0_0 ba0_1 ba0_2 bx0_0 bx0_1 bx0_2
          have ba0_0 := Ba0.cell 0 (v := v0_0) rfl
          have ba0_1 := Ba0.cell 1 (v := v0_1) rfl
          have ba0_2 := Ba0.cell 2 (v := v0_2) rfl
          have bx0_0 := Bx0.cell 0 (v := px0_0) rfl
          have bx0_1 := Bx0.cell 1 (v := px0_1) rfl
          have bx0_2 := Bx0.cell 2 (v := px0_2) rfl
          have Xa0 := Lib.hid Ba0
          have Zw0 := Lib.hid Rw0
          have Xx0 := Lib.hid Bx0
          have Zx0 := Lib.hid Rx0
          have Zg0 := Lib.hid Rg0
          clear Ba0 Rw0 Bx0 Rx0 Rg0
          go_upto_region 10 with fail
          have ya0 : w.heap.size < w5.heap.size := Xa0.out.lt
          have yx0 : gx0 < w5.heap.size := Xx0.out.lt
          have yh := HB5.out.size
          go_region_held3 (fun w' => Below w5.heap.size w5 w' ∧ ∀ b j, b < w5.heap.size → w'.cell? ⟨b, j, none⟩ = w5.cell? ⟨b, j, none⟩)
            (first | ((try go_split_ands); refine SBof ?_; repeat (first | assumption | (with_reducible exact Below.refl _ _) | (with_reducible refine below_call ?_ hc) | (with_reducible refine below_call ?_ hb0) | (with_reducible refine below_call ?_ hb) | (with_reducible refine Below.drew ?_) | (with_reducible refine below_alloc2 ?_ _) | (with_reducible refine Below.setCell ?_ (by first | (simp; done) | omega | (simp; omega)) _))))
            (first
              | (go_at_call 35; (refine (toCluster_k (kCluster.K_below (HB5.out.trans (Below.mono (by repeat (first | assumption | (with_reducible exact Below.refl _ _) | (with_reducible refine below_call ?_ hc) | (with_reducible refine below_call ?_ hb0)  | (with_reducible refine Below.drew ?_) | (with_reducible refine below_alloc2 ?_ _))) HB5.out.size)).block G0.out) (szCluster_sm (n := 1048576) (x := a0) (by omega))).mono ?_; rintro e wa ⟨ds, F, rfl, ra, rb, rc, hb0⟩; have zs := hb0.size; (try simp at zs)))
              | (go_at_call 38; (refine (eqCluster_k (kCluster.K_below ((by repeat (first | assumption | (with_reducible exact Below.refl _ _) | (with_reducible refine below_call ?_ hc) | (with_reducible refine below_call ?_ hb0)  | (with_reducible refine Below.drew ?_) | (with_reducible refine below_alloc2 ?_ _))) : Below _ _ _).block (kCluster.M_K Zx0.out)) (kCluster.M_K ra) (szCluster_sm (n := 140737488355328) (x := a0) (by omega))).mono ?_; rintro e w6 ⟨rfl, hb⟩; have zs2 := hb.size; (try simp at zs2))))
          have hbx : Below w5.heap.size w5 w6 := (by repeat (first | assumption | (with_reducible exact Below.refl _ _) | (with_reducible refine below_call ?_ hc) | (with_reducible refine below_call ?_ hb0) | (with_reducible refine below_call ?_ hb) | (with_reducible refine Below.drew ?_) | (with_reducible refine below_alloc2 ?_ _)))
          clear hb hb0 ra rb rc zs zs2 yh ya0 yx0
          replace sz0 := Nat.le_trans sz0 hbx.size
          have Ba0 := Xa0.out.below hbx
          have Rw0 := Rp.M_below Zw0.out hbx
          have Bx0 := Xx0.out.below hbx
          have Rx0 := Rp.M_below Zx0.out hbx
          have Rg0 := Rp.M_below Zg0.out hbx
          have HB6 := Lib.hid (HB5.out.trans (hbx.mono HB5.out.size))
          clear Xa0 Zw0 Xx0 Zx0 Zg0 HB5 hbx
          clear ba0_0 ba0_1 ba0_2 bx0_0 bx0_1 bx0_2
          have ba0_0 := Ba0.cell 0 (v := v0_0) rfl
          have ba0_1 := Ba0.cell 1 (v := v0_1) rfl
          have ba0_2 := Ba0.cell 2 (v := v0_2) rfl
          have bx0_0 := Bx0.cell 0 (v := px0_0) rfl
          have bx0_1 := Bx0.cell 1 (v := px0_1) rfl
          have bx0_2 := Bx0.cell 2 (v := px0_2) rfl
          have Xa0 := Lib.hid Ba0
          have Zw0 := Lib.hid Rw0
          have Xx0 := Lib.hid Bx0
          have Zx0 := Lib.hid Rx0
          have Zg0 := Lib.hid Rg0
          clear Ba0 Rw0 Bx0 Rx0 Rg0
          have m1 := mkCluster_sm (k := 1) (szCluster_sm (n := 1048576) (x := a0) (by omega))
          have n1 := mkCluster_le (a0) 1
          have l1 : (mkCluster (a0) 1).2 ≤ 4611686018427387904 := by omega
          go_wp2_with fail
          (with_reducible refine (markCluster_k Zx0.out Nx0 (by omega) l1 (szCluster_sm (n := 140737488355328) (x := a0) (by omega))).mono ?_)
          rintro e w7 ⟨rfl, hr, hk⟩
          clear hr
          generalize (mkCluster (a0) 1).2 = k1_ at *
          clear ba0_0 ba0_1 ba0_2 bx0_0 bx0_1 bx0_2
          replace sz0 := Nat.le_trans sz0 hk.size
          have Ba0 := Box.kept Xa0.out hk (fun hm => by have := Dx0 _ hm; have := Ex0 _ hm; have := sox0; omega)
          have Rw0 := kEntryS.M_move (fun b hb => hk.block b (kEntryS.M_lt Zw0.out b hb) (fun hm => by have := Dx0 _ hm; have := Ex0 _ hm; have := Dw0 _ hb; have := Ew0 _ hb; omega)) Zw0.out
          have Rg0 := kEntryS.M_move (fun b hb => hk.block b (kEntryS.M_lt Zg0.out b hb) (fun hm => by have := Dx0 _ hm; have := Ex0 _ hm; have := Dg0 _ hb; have := Eg0 _ hb; omega)) Zg0.out
          have HB7 := Lib.hid (HB6.out.trans (hk.toBelow HB6.out.size (fun b hb => by have := Dx0 _ hb; omega)))
          clear Xa0 Zw0 Xx0 Zx0 Zg0 HB6 hk
          have ba0_0 := Ba0.cell 0 (v := v0_0) rfl
          have ba0_1 := Ba0.cell 1 (v := v0_1) rfl
          have ba0_2 := Ba0.cell 2 (v := v0_2) rfl
          have Xa0 := Lib.hid Ba0
          have Zw0 := Lib.hid Rw0
          have Zg0 := Lib.hid Rg0
          clear Ba0 Rw0 Rg0
          go_wp2_with fail
          (with_reducible refine (eqEntryS_k (kEntryS.M_K Zg0.out) (kEntryS.M_K Zw0.out) (smEntryS_le y0 (by decide))).mono ?_)
          rintro e w8 ⟨rfl, hb⟩
          replace sz0 := Nat.le_trans sz0 hb.size
          have Ba0 := Xa0.out.below hb
          have Rw0 := Rp.M_below Zw0.out hb
          have Rg0 := Rp.M_below Zg0.out hb
          have HB8 := Lib.hid (HB7.out.trans (hb.mono HB7.out.size))
          clear Xa0 Zw0 Zg0 HB7 hb
          clear ba0_0 ba0_1 ba0_2
          have ba0_0 := Ba0.cell 0 (v := v0_0) rfl
          have ba0_1 := Ba0.cell 1 (v := v0_1) rfl
          have ba0_2 := Ba0.cell 2 (v := v0_2) rfl
          have Xa0 := Lib.hid Ba0
          have Zw0 := Lib.hid Rw0
          have Zg0 := Lib.hid Rg0
          clear Ba0 Rw0 Rg0
          have m2 := mkEntryS_sm (k := 1) y0
          have n2 := mkEntryS_le (clV a0) 1
          have l2 : (mkEntryS (clV a0) 1).2 ≤ 4611686018427387904 := by omega
          go_wp2_with fail
          (with_reducible refine (markEntryS_k Zg0.out Ng0 (by omega) l2 (smEntryS_le y0 (by decide))).mono ?_)
          rintro e w9 ⟨rfl, hr, hk⟩
          have Rg0 := hr; clear hr
          clear ba0_0 ba0_1 ba0_2
          replace sz0 := Nat.le_trans sz0 hk.size
          have Ba0 := Box.kept Xa0.out hk (fun hm => by have := Dg0 _ hm; have := Eg0 _ hm; have := sog0; omega)
          have Rw0 := kEntryS.M_move (fun b hb => hk.block b (kEntryS.M_lt Zw0.out b hb) (fun hm => by have := Dg0 _ hm; have := Eg0 _ hm; have := Dw0 _ hb; have := Ew0 _ hb; omega)) Zw0.out
          have HB9 := Lib.hid (HB8.out.trans (hk.toBelow HB8.out.size (fun b hb => by have := Dg0 _ hb; omega)))
          clear Xa0 Zw0 Zg0 HB8 hk
          have ba0_0 := Ba0.cell 0 (v := v0_0) rfl
          have ba0_1 := Ba0.cell 1 (v := v0_1) rfl
          have ba0_2 := Ba0.cell 2 (v := v0_2) rfl
          have Xa0 := Lib.hid Ba0
          have Zw0 := Lib.hid Rw0
          have Zg0 := Lib.hid Rg0
          clear Ba0 Rw0 Rg0
          generalize hk2 : (mkEntryS (clV a0) 1).2 = k2_ at n2 m2 l2 ⊢
          go_wp2_with fail
          (with_reducible refine (heldEntryS_k (kEntryS.M_K Zg0.out) (by omega) (by rw [hk2]; omega) (smEntryS_le y0 (by decide))).mono ?_)
          rintro e w10 ⟨rfl, hb⟩
          rw [hk2]
          replace sz0 := Nat.le_trans sz0 hb.size
          have Ba0 := Xa0.out.below hb
          have Rw0 := Rp.M_below Zw0.out hb
          have Rg0 := Rp.M_below Zg0.out hb
          have HB10 := Lib.hid (HB9.out.trans (hb.mono HB9.out.size))
          clear Xa0 Zw0 Zg0 HB9 hb
          clear ba0_0 ba0_1 ba0_2
          have ba0_0 := Ba0.cell 0 (v := v0_0) rfl
          have ba0_1 := Ba0.cell 1 (v := v0_1) rfl
          have ba0_2 := Ba0.cell 2 (v := v0_2) rfl
          have Xa0 := Lib.hid Ba0
          have Zw0 := Lib.hid Rw0
          have Zg0 := Lib.hid Rg0
          clear Ba0 Rw0 Rg0
          have nk25 : ¬ k2_ < 0 := by omega
          go_upto_region 24 with fail
          go_cut [12, 13] from 12 to 13 (fun s12 s13 wx => HasCommonLog a0 w10.heap.size w10 wx s12 ∧ s13 = .bool (cluOk a0))
          case first =>
            have ya0 : w.heap.size < w10.heap.size := Xa0.out.lt
            have yh := HB10.out.size
            go_wp2_with (first
                | (go_at_call 35; ((with_reducible refine (toCluster_k (kCluster.K_below (HB10.out.trans (Below.mono (by repeat (first | assumption | (with_reducible exact Below.refl _ _) | (with_reducible refine below_call ?_ hc) | (with_reducible refine below_call ?_ hb0) | (with_reducible refine below_call ?_ hb) | (with_reducible refine Below.drew ?_) | (with_reducible refine below_alloc2 ?_ _))) HB10.out.size)).block G0.out) (szCluster_sm (n := 1048576) (x := a0) (by omega))).mono ?_); rintro e wt0 ⟨ds0, F0_, rfl, ra0, rb0, rc0, hb0⟩; have zs0 := hb0.size; (try simp at zs0)))
                | (go_at_call 50; ((with_reducible refine (iCommonLog_k (kCluster.K_below ((by repeat (first | assumption | (with_reducible exact Below.refl _ _) | (with_reducible refine below_call ?_ hc) | (with_reducible refine below_call ?_ hb0) | (with_reducible refine below_call ?_ hb) | (with_reducible refine Below.drew ?_) | (with_reducible refine below_alloc2 ?_ _))) : Below _ _ _).block (kCluster.M_K ra0)) h0 (by have := (szCluster_sm (n := 1048576) (x := a0) (by omega)); exact this)).mono ?_); rintro e wz ⟨cd0, FD0, rfl, rd0, rd_1, rd_2, hc⟩; have zs_c := hc.size; (try simp at zs_c))))
            all_goals (go_meet; go_light)
            all_goals
              have K : Below w10.heap.size w10 wz := (by repeat (first | assumption | (with_reducible exact Below.refl _ _) | (with_reducible refine below_call ?_ hc) | (with_reducible refine below_call ?_ hb0) | (with_reducible refine below_call ?_ hb) | (with_reducible refine Below.drew ?_) | (with_reducible refine below_alloc2 ?_ _)))
              (refine ⟨?_, rfl⟩; exact ⟨_, _, rfl, rd0, (fun b hm => by have := rd_1 b hm; first | omega | (simp at this; omega)), rd_2, K⟩)
          case rest =>
            rename World => w11
            obtain ⟨⟨ph0_, Fh0, rfl, Rh0, Dh0, Nh0, hb⟩, rfl⟩ := hcut
            have Eh0 := kEntryS.M_lt Rh0
            have zzh0 := hb.size
            have soh0 := sz0
            replace sz0 := Nat.le_trans sz0 hb.size
            have Ba0 := Xa0.out.below hb
            have Rw0 := Rp.M_below Zw0.out hb
            have Rg0 := Rp.M_below Zg0.out hb
            have HB11 := Lib.hid (HB10.out.trans (hb.mono HB10.out.size))
            clear Xa0 Zw0 Zg0 HB10 hb
            clear ba0_0 ba0_1 ba0_2
            have ba0_0 := Ba0.cell 0 (v := v0_0) rfl
            have ba0_1 := Ba0.cell 1 (v := v0_1) rfl
            have ba0_2 := Ba0.cell 2 (v := v0_2) rfl
            have Xa0 := Lib.hid Ba0
            have Zw0 := Lib.hid Rw0
            have Zg0 := Lib.hid Rg0
            have Zh0 := Lib.hid Rh0
            clear Ba0 Rw0 Rg0 Rh0
            go_wp2_with fail
            (with_reducible refine (eqEntryS_k (kEntryS.M_K Zh0.out) (kEntryS.M_K Zw0.out) (smEntryS_le y0 (by decide))).mono ?_)
            rintro e w12 ⟨rfl, hb⟩
            replace sz0 := Nat.le_trans sz0 hb.size
            have Ba0 := Xa0.out.below hb
            have Rw0 := Rp.M_below Zw0.out hb
            have Rg0 := Rp.M_below Zg0.out hb
            have Rh0 := Rp.M_below Zh0.out hb
            have HB12 := Lib.hid (HB11.out.trans (hb.mono HB11.out.size))
            clear Xa0 Zw0 Zg0 Zh0 HB11 hb
            clear ba0_0 ba0_1 ba0_2
            have ba0_0 := Ba0.cell 0 (v := v0_0) rfl
            have ba0_1 := Ba0.cell 1 (v := v0_1) rfl
            have ba0_2 := Ba0.cell 2 (v := v0_2) rfl
            have Xa0 := Lib.hid Ba0
            have Zw0 := Lib.hid Rw0
            have Zg0 := Lib.hid Rg0
            have Zh0 := Lib.hid Rh0
            clear Ba0 Rw0 Rg0 Rh0
            go_wp2_with fail
            (with_reducible refine (heldEntryS_k (kEntryS.M_K Zg0.out) (by omega) (by rw [hk2]; omega) (smEntryS_le y0 (by decide))).mono ?_)
            rintro e w13 ⟨rfl, hb⟩
            rw [hk2]
            replace sz0 := Nat.le_trans sz0 hb.size
            have Ba0 := Xa0.out.below hb
            have Rw0 := Rp.M_below Zw0.out hb
            have Rg0 := Rp.M_below Zg0.out hb
            have Rh0 := Rp.M_below Zh0.out hb
            have HB13 := Lib.hid (HB12.out.trans (hb.mono HB12.out.size))
            clear Xa0 Zw0 Zg0 Zh0 HB12 hb
            clear ba0_0 ba0_1 ba0_2
            have ba0_0 := Ba0.cell 0 (v := v0_0) rfl
            have ba0_1 := Ba0.cell 1 (v := v0_1) rfl
            have ba0_2 := Ba0.cell 2 (v := v0_2) rfl
            have Xa0 := Lib.hid Ba0
            have Zw0 := Lib.hid Rw0
            have Zg0 := Lib.hid Rg0
            have Zh0 := Lib.hid Rh0
            clear Ba0 Rw0 Rg0 Rh0
            have nk21 : ¬ k2_ < 0 := by omega
            go_wp2
            go_ret
            exact ⟨rfl, HB13.out⟩
end Go.Proofs.Ythnjcolbdoaabaa
