/- Law FnExactOverlapsIn: at every input it returns true; what was there stays. -/
import Derived.Test.YtnlplihbjbmepaaVerD
namespace Go.Proofs.Ytnlplihbjbmepaa
open Go Go.RowKit Go.Sort
set_option linter.unusedVariables false
set_option linter.unusedSimpArgs false

def HasOverlapsIn (a0 : DVersion) (a1 : Int) (a2 : ByteArray) (a3 : ByteArray) (N : Nat) (w wx : World) (s : Value) : Prop := ∃ v F, s = v ∧ kIntS.M wx F (ovV a0 a1 a2 a3) [v] ∧ (∀ b ∈ F, N ≤ b) ∧ F.Nodup ∧ Below N w wx
set_option maxHeartbeats 4000000 in
set_option maxRecDepth 100000 in
theorem law_OverlapsIn (a0 : DVersion) (v0_2 : Value) (a1 : Int) (a2 : ByteArray) (a3 : ByteArray) (w : World) (g0 : kVersion.K w a0 [.int .i64 a0.fNext, .int .i64 a0.fSeq, v0_2]) (h0 : wfVersion a0) (h1 : (Lit.int .i64 a1).wf = true) (y0 : smVersion 1048576 a0 → a2.size ≤ 1048576 → a3.size ≤ 1048576 → smIntS 4194304 (ovV a0 a1 a2 a3)) : Calls Try.prog 7 #[.agg #[.int .i64 a0.fNext, .int .i64 a0.fSeq, v0_2], .int .i64 a1, .string a2, .string a3] w
    fun e w' => e = .returned (.bool true) ∧ Below w.heap.size w w' := by
  have G0 := Lib.hid g0; clear g0
  by_cases s2 : a2.size ≤ 1048576
  case neg =>
    go_enter Try.func7, Try.ntmps7
    go_wp2
    go_ret
    exact ⟨rfl, (by repeat (first | (with_reducible exact Below.refl _ _) | (with_reducible refine Below.alloc ?_ (by first | (with_reducible exact Nat.le_refl _) | (simp; done) | (simp; omega)) _)))⟩
  case pos =>
    by_cases s3 : a3.size ≤ 1048576
    case neg =>
      go_enter Try.func7, Try.ntmps7
      go_wp2
      go_ret
      exact ⟨rfl, (by repeat (first | (with_reducible exact Below.refl _ _) | (with_reducible refine Below.alloc ?_ (by first | (with_reducible exact Nat.le_refl _) | (simp; done) | (simp; omega)) _)))⟩
    case pos =>
      go_enter Try.func7, Try.ntmps7
      go_wp2_with fail
      (with_reducible refine (szVersion_k (kVersion.K_below ((by repeat (first | (with_reducible exact Below.refl _ _) | (with_reducible refine Below.alloc ?_ (by first | (with_reducible exact Nat.le_refl _) | (simp; done) | (simp; omega)) _))) : Below w.heap.size w _).block G0.out) (by omega) (by omega) h0).mono ?_)
      rintro e w1 ⟨rfl, hb⟩
      have Ba0 : Box w1 w.heap.size #[.int .i64 a0.fNext, .int .i64 a0.fSeq, v0_2] 31 := Box.below (Box.new rfl) hb
      have HB1 := Lib.hid (Below.trans (by repeat (first | (with_reducible exact Below.refl _ _) | (with_reducible refine Below.alloc ?_ (by first | (with_reducible exact Nat.le_refl _) | (simp; done) | (simp; omega)) _))) (hb.mono (by first | (with_reducible exact Nat.le_refl _) | (simp; done) | (simp; omega))) : Below w.heap.size w w1)
      have sz0 : w.heap.size + 1 ≤ w1.heap.size := by have := hb.size; simp at this; omega
      clear hb
      have ba0_0 := Ba0.cell 0 (v := .int .i64 a0.fNext) rfl
      have ba0_1 := Ba0.cell 1 (v := .int .i64 a0.fSeq) rfl
      have ba0_2 := Ba0.cell 2 (v := v0_2) rfl
      have Xa0 := Lib.hid Ba0
      clear Ba0
      by_cases z0 : (szNVersion a0 : Int) ≤ 1048576
      case neg =>
        rw [szR_no z0]
        go_wp2
        go_ret
        exact ⟨rfl, HB1.out⟩
      case pos =>
        rw [szR_yes z0]
        replace y0 := y0 (szVersion_sm (n := 1048576) (x := a0) (by omega)) s2 s3
        go_upto_region 9 with fail
        go_cut [10, 11] from 10 to 11 (fun s10 s11 wx => HasOverlapsIn a0 a1 a2 a3 w1.heap.size w1 wx s10 ∧ s11 = .bool (ovB a0 a1 a2 a3))
        case first =>
          have ya0 : w.heap.size < w1.heap.size := Xa0.out.lt
          have yh := HB1.out.size
          go_wp2_with (first
              | (go_at_call 19; (refine (toVersion_k (kVersion.K_below (HB1.out.trans (Below.mono (by repeat (first | assumption | (with_reducible exact Below.refl _ _) | (with_reducible refine below_call ?_ hc) | (with_reducible refine below_call ?_ hb0) | (with_reducible refine below_call ?_ hb1) | (with_reducible refine below_call ?_ hb2) | (with_reducible refine below_call ?_ hb3) | (with_reducible refine below_call ?_ hb) | (with_reducible refine Below.drew ?_) | (with_reducible refine below_alloc2 ?_ _))) HB1.out.size)).block G0.out) (szVersion_sm (n := 1048576) (x := a0) (by omega))).mono ?_; rintro e wt0 ⟨ds0, F0_, rfl, ra0, rb0, rc0, hb0⟩; have zs0 := hb0.size; (try simp at zs0)))
              | (go_at_call 28; (refine (sOverlapsIn_k (kVersion.K_below ((by repeat (first | assumption | (with_reducible exact Below.refl _ _) | (with_reducible refine below_call ?_ hc) | (with_reducible refine below_call ?_ hb0) | (with_reducible refine below_call ?_ hb1) | (with_reducible refine below_call ?_ hb2) | (with_reducible refine below_call ?_ hb3) | (with_reducible refine below_call ?_ hb) | (with_reducible refine Below.drew ?_) | (with_reducible refine below_alloc2 ?_ _))) : Below _ _ _).block (kVersion.M_K ra0)) h0 (by have := (szVersion_sm (n := 1048576) (x := a0) (by omega)); exact this) h1 s2 s3).mono ?_; rintro e wz ⟨cd0, FD0, rfl, rd0, rd_1, rd_2, hc⟩; have zs_c := hc.size; (try simp at zs_c))))
          all_goals (go_meet; go_light)
          all_goals
            have K : Below w1.heap.size w1 wz := (by repeat (first | assumption | (with_reducible exact Below.refl _ _) | (with_reducible refine below_call ?_ hc) | (with_reducible refine below_call ?_ hb0) | (with_reducible refine below_call ?_ hb1) | (with_reducible refine below_call ?_ hb2) | (with_reducible refine below_call ?_ hb3) | (with_reducible refine below_call ?_ hb) | (with_reducible refine Below.drew ?_) | (with_reducible refine below_alloc2 ?_ _)))
            (refine ⟨?_, rfl⟩; exact ⟨_, _, rfl, rd0, (fun b hm => by have := rd_1 b hm; first | omega | (simp at this; omega)), rd_2, K⟩)
        case rest =>
          rename World => w2
          obtain ⟨⟨pw0_, Fw0, rfl, Rw0, Dw0, Nw0, hb⟩, rfl⟩ := hcut
          have Ew0 := kIntS.M_lt Rw0
          have zzw0 := hb.size
          have sow0 := sz0
          replace sz0 := Nat.le_trans sz0 hb.size
          have Ba0 := Xa0.out.below hb
          have HB2 := Lib.hid (HB1.out.trans (hb.mono HB1.out.size))
          clear Xa0 HB1 hb
          clear ba0_0 ba0_1 ba0_2
          have ba0_0 := Ba0.cell 0 (v := .int .i64 a0.fNext) rfl
          have ba0_1 := Ba0.cell 1 (v := .int .i64 a0.fSeq) rfl
          have ba0_2 := Ba0.cell 2 (v := v0_2) rfl
          have Xa0 := Lib.hid Ba0
          have Zw0 := Lib.hid Rw0
          clear Ba0 Rw0
          go_upto_region 10 with fail
          go_cut [12] from 12 to 12 (fun s wx => Has kVersion 24 a0 w2.heap.size w2 wx s)
          case first =>
            go_wp2_with fail
            (with_reducible refine (toVersion_k (kVersion.K_below HB2.out.block G0.out) (szVersion_sm (n := 1048576) (x := a0) (by omega))).mono ?_)
            rintro e wa ⟨ds, F, rfl, ra, rb, rc, hb⟩
            obtain ⟨pa2, F_2, rfl, rfl, par2⟩ := kVersion_open ra; obtain ⟨paA2, paC2, rfl, _, _⟩ := Rp.Row_K par2
            go_wp2_with fail
            go_meet
            exact Has.new (d := kVersion) (kVersion_make par2) rc rb hb (Nat.le_refl _)
          case rest =>
            rename World => w3
            obtain ⟨gx0, Fx0, _, rfl, Bx0, Rx0, Nx0, dx0, ex0, hb⟩ := hcut
            obtain ⟨px0_2, Fx0, rfl, rfl, rx0_2⟩ := kVersion_open Rx0
            have Rx0 := kVersion_make rx0_2
            clear rx0_2
            have Dx0 := fun b hb => (dx0 b hb).1; have Nx0_x0 := fun b hb => (dx0 b hb).2; clear dx0
            have ex0 := And.intro ex0 Bx0.lt
            have Ex0 := kVersion.M_lt Rx0
            have zzx0 := hb.size
            have sox0 := sz0
            replace sz0 := Nat.le_trans sz0 hb.size
            have Ba0 := Xa0.out.below hb
            have Rw0 := Rp.M_below Zw0.out hb
            have HB3 := Lib.hid (HB2.out.trans (hb.mono HB2.out.size))
            clear Xa0 Zw0 HB2 hb
            clear ba0_0 ba0_1 ba0_2
            have ba0_0 := Ba0.cell 0 (v := .int .i64 a0.fNext) rfl
            have ba0_1 := Ba0.cell 1 (v := .int .i64 a0.fSeq) rfl
            have ba0_2 := Ba0.cell 2 (v := v0_2) rfl
            have bx0_0 := Bx0.cell 0 (v := .int .i64 a0.fNext) rfl
            have bx0_1 := Bx0.cell 1 (v := .int .i64 a0.fSeq) rfl
            have bx0_2 := Bx0.cell 2 (v := px0_2) rfl
            have Xa0 := Lib.hid Ba0
            have Zw0 := Lib.hid Rw0
            have Xx0 := Lib.hid Bx0
            have Zx0 := Lib.hid Rx0
            clear Ba0 Rw0 Bx0 Rx0
            go_upto_region 11 with fail
            go_cut [13, 14] from 13 to 14 (fun s13 s14 wx => HasOverlapsIn a0 a1 a2 a3 w3.heap.size w3 wx s13 ∧ s14 = .bool (ovB a0 a1 a2 a3))
            case first =>
              have ya0 : w.heap.size < w3.heap.size := Xa0.out.lt
              have yx0 : gx0 < w3.heap.size := Xx0.out.lt
              have yh := HB3.out.size
              go_wp2_with (first
                  | (go_at_call 29; (refine (iOverlapsIn_k (kVersion.K_below ((by repeat (first | assumption | (with_reducible exact Below.refl _ _) | (with_reducible refine below_call ?_ hc) | (with_reducible refine below_call ?_ hb0) | (with_reducible refine below_call ?_ hb1) | (with_reducible refine below_call ?_ hb2) | (with_reducible refine below_call ?_ hb3) | (with_reducible refine below_call ?_ hb) | (with_reducible refine Below.drew ?_) | (with_reducible refine below_alloc2 ?_ _))) : Below _ _ _).block (kVersion.M_K Zx0.out)) h0 (by have := (szVersion_sm (n := 1048576) (x := a0) (by omega)); exact this) h1 s2 s3).mono ?_; rintro e wz ⟨cd0, FD0, rfl, rd0, rd_1, rd_2, hc⟩; have zs_c := hc.size; (try simp at zs_c))))
              all_goals (go_meet; go_light)
              all_goals
                have K : Below w3.heap.size w3 wz := (by repeat (first | assumption | (with_reducible exact Below.refl _ _) | (with_reducible refine below_call ?_ hc) | (with_reducible refine below_call ?_ hb0) | (with_reducible refine below_call ?_ hb1) | (with_reducible refine below_call ?_ hb2) | (with_reducible refine below_call ?_ hb3) | (with_reducible refine below_call ?_ hb) | (with_reducible refine Below.drew ?_) | (with_reducible refine below_alloc2 ?_ _)))
                (refine ⟨?_, rfl⟩; exact ⟨_, _, rfl, rd0, (fun b hm => by have := rd_1 b hm; first | omega | (simp at this; omega)), rd_2, K⟩)
            case rest =>
              rename World => w4
              obtain ⟨⟨pg0_, Fg0, rfl, Rg0, Dg0, Ng0, hb⟩, rfl⟩ := hcut
              have Eg0 := kIntS.M_lt Rg0
              have zzg0 := hb.size
              have sog0 := sz0
              replace sz0 := Nat.le_trans sz0 hb.size
              have Ba0 := Xa0.out.below hb
              have Rw0 := Rp.M_below Zw0.out hb
              have Bx0 := Xx0.out.below hb
              have Rx0 := Rp.M_below Zx0.out hb
              have HB4 := Lib.hid (HB3.out.trans (hb.mono HB3.out.size))
              clear Xa0 Zw0 Xx0 Zx0 HB3 hb
              clear ba0_0 ba0_1 ba0_2 bx0_0 bx0_1 bx0_2
              have ba0_0 := Ba0.cell 0 (v := .int .i64 a0.fNext) rfl
              have ba0_1 := Ba0.cell 1 (v := .int .i64 a0.fSeq) rfl
              have ba0_2 := Ba0.cell 2 (v := v0_2) rfl
              have bx0_0 := Bx0.cell 0 (v := .int .i64 a0.fNext) rfl
              have bx0_1 := Bx0.cell 1 (v := .int .i64 a0.fSeq) rfl
              have bx0_2 := Bx0.cell 2 (v := px0_2) rfl
              have Xa0 := Lib.hid Ba0
              have Zw0 := Lib.hid Rw0
              have Xx0 := Lib.hid Bx0
              have Zx0 := Lib.hid Rx0
              have Zg0 := Lib.hid Rg0
              clear Ba0 Rw0 Bx0 Rx0 Rg0
              go_wp2_with fail
              (with_reducible refine (eqIntS_k (kIntS.M_K Zg0.out) (kIntS.M_K Zw0.out) (smIntS_le y0 (by decide))).mono ?_)
              rintro e w5 ⟨rfl, hb⟩
              replace sz0 := Nat.le_trans sz0 hb.size
              have Ba0 := Xa0.out.below hb
              have Rw0 := Rp.M_below Zw0.out hb
              have Bx0 := Xx0.out.below hb
              have Rx0 := Rp.M_below Zx0.out hb
              have Rg0 := Rp.M_below Zg0.out hb
              have HB5 := Lib.hid (HB4.out.trans (hb.mono HB4.out.size))
              clear Xa0 Zw0 Xx0 Zx0 Zg0 HB4 hb
              clear ba0_0 ba0_1 ba0_2 bx0_0 bx0_1 bx0_2
              have ba0_0 := Ba0.cell 0 (v := .int .i64 a0.fNext) rfl
              have ba0_1 := Ba0.cell 1 (v := .int .i64 a0.fSeq) rfl
              have ba0_2 := Ba0.cell 2 (v := v0_2) rfl
              have bx0_0 := Bx0.cell 0 (v := .int .i64 a0.fNext) rfl
              have bx0_1 := Bx0.cell 1 (v := .int .i64 a0.fSeq) rfl
              have bx0_2 := Bx0.cell 2 (v := px0_2) rfl
              have Xa0 := Lib.hid Ba0
              have Zw0 := Lib.hid Rw0
              have Xx0 := Lib.hid Bx0
              have Zx0 := Lib.hid Rx0
              have Zg0 := Lib.hid Rg0
              clear Ba0 Rw0 Bx0 Rx0 Rg0
              go_upto_region 14 with fail
              have ya0 : w.heap.size < w5.heap.size := Xa0.out.lt
              have yx0 : gx0 < w5.heap.size := Xx0.out.lt
              have yh := HB5.out.size
              go_region_held3 (fun w' => Below w5.heap.size w5 w' ∧ ∀ b j, b < w5.heap.size → w'.cell? ⟨b, j, none⟩ = w5.cell? ⟨b, j, none⟩)
                (first | ((try go_split_ands); refine SBof ?_; repeat (first | assumption | (with_reducible exact Below.refl _ _) | (with_reducible refine below_call ?_ hc) | (with_reducible refine below_call ?_ hb0) | (with_reducible refine below_call ?_ hb1) | (with_reducible refine below_call ?_ hb2) | (with_reducible refine below_call ?_ hb3) | (with_reducible refine below_call ?_ hb) | (with_reducible refine Below.drew ?_) | (with_reducible refine below_alloc2 ?_ _) | (with_reducible refine Below.setCell ?_ (by first | (simp; done) | omega | (simp; omega)) _))))
                (first
                  | (go_at_call 19; (refine (toVersion_k (kVersion.K_below (HB5.out.trans (Below.mono (by repeat (first | assumption | (with_reducible exact Below.refl _ _) | (with_reducible refine below_call ?_ hc) | (with_reducible refine below_call ?_ hb0) | (with_reducible refine below_call ?_ hb1) | (with_reducible refine below_call ?_ hb2) | (with_reducible refine below_call ?_ hb3)  | (with_reducible refine Below.drew ?_) | (with_reducible refine below_alloc2 ?_ _))) HB5.out.size)).block G0.out) (szVersion_sm (n := 1048576) (x := a0) (by omega))).mono ?_; rintro e wa ⟨ds, F, rfl, ra, rb, rc, hb0⟩; have zs := hb0.size; (try simp at zs)))
                  | (go_at_call 14; (refine (eqVersion_k (kVersion.K_below ((by repeat (first | assumption | (with_reducible exact Below.refl _ _) | (with_reducible refine below_call ?_ hc) | (with_reducible refine below_call ?_ hb0) | (with_reducible refine below_call ?_ hb1) | (with_reducible refine below_call ?_ hb2) | (with_reducible refine below_call ?_ hb3)  | (with_reducible refine Below.drew ?_) | (with_reducible refine below_alloc2 ?_ _))) : Below _ _ _).block (kVersion.M_K Zx0.out)) (kVersion.M_K ra) (szVersion_sm (n := 140737488355328) (x := a0) (by omega))).mono ?_; rintro e w6 ⟨rfl, hb⟩; have zs2 := hb.size; (try simp at zs2))))
              have hbx : Below w5.heap.size w5 w6 := (by repeat (first | assumption | (with_reducible exact Below.refl _ _) | (with_reducible refine below_call ?_ hc) | (with_reducible refine below_call ?_ hb0) | (with_reducible refine below_call ?_ hb1) | (with_reducible refine below_call ?_ hb2) | (with_reducible refine below_call ?_ hb3) | (with_reducible refine below_call ?_ hb) | (with_reducible refine Below.drew ?_) | (with_reducible refine below_alloc2 ?_ _)))
              clear hb hb0 ra rb rc zs zs2 yh ya0 yx0
              replace sz0 := Nat.le_trans sz0 hbx.size
              have Ba0 := Xa0.out.below hbx
              have Rw0 := Rp.M_below Zw0.out hbx
              have Bx0 := Xx0.out.below hbx
              have Rx0 := Rp.M_below Zx0.out hbx
              have Rg0 := Rp.M_below Zg0.out hbx
              have HB6 := Lib.hid (HB5.out.trans (hbx.mono HB5.out.size))
              clear Xa0 Zw0 Xx0 Zx0 Zg0 HB5 hbx
              clear ba0_0 ba0_1 ba0_2 bx0_0 bx0_1 bx0_2
              have ba0_0 := Ba0.cell 0 (v := .int .i64 a0.fNext) rfl
              have ba0_1 := Ba0.cell 1 (v := .int .i64 a0.fSeq) rfl
              have ba0_2 := Ba0.cell 2 (v := v0_2) rfl
              have bx0_0 := Bx0.cell 0 (v := .int .i64 a0.fNext) rfl
              have bx0_1 := Bx0.cell 1 (v := .int .i64 a0.fSeq) rfl
              have bx0_2 := Bx0.cell 2 (v := px0_2) rfl
              have Xa0 := Lib.hid Ba0
              have Zw0 := Lib.hid Rw0
              have Xx0 := Lib.hid Bx0
              have Zx0 := Lib.hid Rx0
              have Zg0 := Lib.hid Rg0
              clear Ba0 Rw0 Bx0 Rx0 Rg0
              have m1 := mkVersion_sm (k := 1) (szVersion_sm (n := 1048576) (x := a0) (by omega))
              have n1 := mkVersion_le (a0) 1
              have l1 : (mkVersion (a0) 1).2 ≤ 4611686018427387904 := by omega
              go_wp2_with fail
              (with_reducible refine (markVersion_k Zx0.out Nx0 (by omega) l1 (szVersion_sm (n := 140737488355328) (x := a0) (by omega))).mono ?_)
              rintro e w7 ⟨rfl, hr, hk⟩
              clear hr
              generalize (mkVersion (a0) 1).2 = k1_ at *
              clear ba0_0 ba0_1 ba0_2 bx0_0 bx0_1 bx0_2
              replace sz0 := Nat.le_trans sz0 hk.size
              have Ba0 := Box.kept Xa0.out hk (fun hm => by have := Dx0 _ hm; have := Ex0 _ hm; have := sox0; omega)
              have Rw0 := kIntS.M_move (fun b hb => hk.block b (kIntS.M_lt Zw0.out b hb) (fun hm => by have := Dx0 _ hm; have := Ex0 _ hm; have := Dw0 _ hb; have := Ew0 _ hb; omega)) Zw0.out
              have Rg0 := kIntS.M_move (fun b hb => hk.block b (kIntS.M_lt Zg0.out b hb) (fun hm => by have := Dx0 _ hm; have := Ex0 _ hm; have := Dg0 _ hb; have := Eg0 _ hb; omega)) Zg0.out
              have HB7 := Lib.hid (HB6.out.trans (hk.toBelow HB6.out.size (fun b hb => by have := Dx0 _ hb; omega)))
              clear Xa0 Zw0 Xx0 Zx0 Zg0 HB6 hk
              have ba0_0 := Ba0.cell 0 (v := .int .i64 a0.fNext) rfl
              have ba0_1 := Ba0.cell 1 (v := .int .i64 a0.fSeq) rfl
              have ba0_2 := Ba0.cell 2 (v := v0_2) rfl
              have Xa0 := Lib.hid Ba0
              have Zw0 := Lib.hid Rw0
              have Zg0 := Lib.hid Rg0
              clear Ba0 Rw0 Rg0
              go_wp2_with fail
              (with_reducible refine (eqIntS_k (kIntS.M_K Zg0.out) (kIntS.M_K Zw0.out) (smIntS_le y0 (by decide))).mono ?_)
              rintro e w8 ⟨rfl, hb⟩
              replace sz0 := Nat.le_trans sz0 hb.size
              have Ba0 := Xa0.out.below hb
              have Rw0 := Rp.M_below Zw0.out hb
              have Rg0 := Rp.M_below Zg0.out hb
              have HB8 := Lib.hid (HB7.out.trans (hb.mono HB7.out.size))
              clear Xa0 Zw0 Zg0 HB7 hb
              clear ba0_0 ba0_1 ba0_2
              have ba0_0 := Ba0.cell 0 (v := .int .i64 a0.fNext) rfl
              have ba0_1 := Ba0.cell 1 (v := .int .i64 a0.fSeq) rfl
              have ba0_2 := Ba0.cell 2 (v := v0_2) rfl
              have Xa0 := Lib.hid Ba0
              have Zw0 := Lib.hid Rw0
              have Zg0 := Lib.hid Rg0
              clear Ba0 Rw0 Rg0
              have m2 := mkIntS_sm (k := 1) y0
              have n2 := mkIntS_le (ovV a0 a1 a2 a3) 1
              have l2 : (mkIntS (ovV a0 a1 a2 a3) 1).2 ≤ 4611686018427387904 := by omega
              go_wp2_with fail
              (with_reducible refine (markIntS_k Zg0.out Ng0 (by omega) l2 (smIntS_le y0 (by decide))).mono ?_)
              rintro e w9 ⟨rfl, hr, hk⟩
              have Rg0 := hr; clear hr
              clear ba0_0 ba0_1 ba0_2
              replace sz0 := Nat.le_trans sz0 hk.size
              have Ba0 := Box.kept Xa0.out hk (fun hm => by have := Dg0 _ hm; have := Eg0 _ hm; have := sog0; omega)
              have Rw0 := kIntS.M_move (fun b hb => hk.block b (kIntS.M_lt Zw0.out b hb) (fun hm => by have := Dg0 _ hm; have := Eg0 _ hm; have := Dw0 _ hb; have := Ew0 _ hb; omega)) Zw0.out
              have HB9 := Lib.hid (HB8.out.trans (hk.toBelow HB8.out.size (fun b hb => by have := Dg0 _ hb; omega)))
              clear Xa0 Zw0 Zg0 HB8 hk
              have ba0_0 := Ba0.cell 0 (v := .int .i64 a0.fNext) rfl
              have ba0_1 := Ba0.cell 1 (v := .int .i64 a0.fSeq) rfl
              have ba0_2 := Ba0.cell 2 (v := v0_2) rfl
              have Xa0 := Lib.hid Ba0
              have Zw0 := Lib.hid Rw0
              have Zg0 := Lib.hid Rg0
              clear Ba0 Rw0 Rg0
              generalize hk2 : (mkIntS (ovV a0 a1 a2 a3) 1).2 = k2_ at n2 m2 l2 ⊢
              go_wp2_with fail
              (with_reducible refine (heldIntS_k (kIntS.M_K Zg0.out) (by omega) (by rw [hk2]; omega) (smIntS_le y0 (by decide))).mono ?_)
              rintro e w10 ⟨rfl, hb⟩
              rw [hk2]
              replace sz0 := Nat.le_trans sz0 hb.size
              have Ba0 := Xa0.out.below hb
              have Rw0 := Rp.M_below Zw0.out hb
              have Rg0 := Rp.M_below Zg0.out hb
              have HB10 := Lib.hid (HB9.out.trans (hb.mono HB9.out.size))
              clear Xa0 Zw0 Zg0 HB9 hb
              clear ba0_0 ba0_1 ba0_2
              have ba0_0 := Ba0.cell 0 (v := .int .i64 a0.fNext) rfl
              have ba0_1 := Ba0.cell 1 (v := .int .i64 a0.fSeq) rfl
              have ba0_2 := Ba0.cell 2 (v := v0_2) rfl
              have Xa0 := Lib.hid Ba0
              have Zw0 := Lib.hid Rw0
              have Zg0 := Lib.hid Rg0
              clear Ba0 Rw0 Rg0
              have nk25 : ¬ k2_ < 0 := by omega
              go_upto_region 28 with fail
              go_cut [18, 19] from 18 to 19 (fun s18 s19 wx => HasOverlapsIn a0 a1 a2 a3 w10.heap.size w10 wx s18 ∧ s19 = .bool (ovB a0 a1 a2 a3))
              case first =>
                have ya0 : w.heap.size < w10.heap.size := Xa0.out.lt
                have yh := HB10.out.size
                go_wp2_with (first
                    | (go_at_call 19; (refine (toVersion_k (kVersion.K_below (HB10.out.trans (Below.mono (by repeat (first | assumption | (with_reducible exact Below.refl _ _) | (with_reducible refine below_call ?_ hc) | (with_reducible refine below_call ?_ hb0) | (with_reducible refine below_call ?_ hb1) | (with_reducible refine below_call ?_ hb2) | (with_reducible refine below_call ?_ hb3) | (with_reducible refine below_call ?_ hb) | (with_reducible refine Below.drew ?_) | (with_reducible refine below_alloc2 ?_ _))) HB10.out.size)).block G0.out) (szVersion_sm (n := 1048576) (x := a0) (by omega))).mono ?_; rintro e wt0 ⟨ds0, F0_, rfl, ra0, rb0, rc0, hb0⟩; have zs0 := hb0.size; (try simp at zs0)))
                    | (go_at_call 29; (refine (iOverlapsIn_k (kVersion.K_below ((by repeat (first | assumption | (with_reducible exact Below.refl _ _) | (with_reducible refine below_call ?_ hc) | (with_reducible refine below_call ?_ hb0) | (with_reducible refine below_call ?_ hb1) | (with_reducible refine below_call ?_ hb2) | (with_reducible refine below_call ?_ hb3) | (with_reducible refine below_call ?_ hb) | (with_reducible refine Below.drew ?_) | (with_reducible refine below_alloc2 ?_ _))) : Below _ _ _).block (kVersion.M_K ra0)) h0 (by have := (szVersion_sm (n := 1048576) (x := a0) (by omega)); exact this) h1 s2 s3).mono ?_; rintro e wz ⟨cd0, FD0, rfl, rd0, rd_1, rd_2, hc⟩; have zs_c := hc.size; (try simp at zs_c))))
                all_goals (go_meet; go_light)
                all_goals
                  have K : Below w10.heap.size w10 wz := (by repeat (first | assumption | (with_reducible exact Below.refl _ _) | (with_reducible refine below_call ?_ hc) | (with_reducible refine below_call ?_ hb0) | (with_reducible refine below_call ?_ hb1) | (with_reducible refine below_call ?_ hb2) | (with_reducible refine below_call ?_ hb3) | (with_reducible refine below_call ?_ hb) | (with_reducible refine Below.drew ?_) | (with_reducible refine below_alloc2 ?_ _)))
                  (refine ⟨?_, rfl⟩; exact ⟨_, _, rfl, rd0, (fun b hm => by have := rd_1 b hm; first | omega | (simp at this; omega)), rd_2, K⟩)
              case rest =>
                rename World => w11
                obtain ⟨⟨ph0_, Fh0, rfl, Rh0, Dh0, Nh0, hb⟩, rfl⟩ := hcut
                have Eh0 := kIntS.M_lt Rh0
                have zzh0 := hb.size
                have soh0 := sz0
                replace sz0 := Nat.le_trans sz0 hb.size
                have Ba0 := Xa0.out.below hb
                have Rw0 := Rp.M_below Zw0.out hb
                have Rg0 := Rp.M_below Zg0.out hb
                have HB11 := Lib.hid (HB10.out.trans (hb.mono HB10.out.size))
                clear Xa0 Zw0 Zg0 HB10 hb
                clear ba0_0 ba0_1 ba0_2
                have ba0_0 := Ba0.cell 0 (v := .int .i64 a0.fNext) rfl
                have ba0_1 := Ba0.cell 1 (v := .int .i64 a0.fSeq) rfl
                have ba0_2 := Ba0.cell 2 (v := v0_2) rfl
                have Xa0 := Lib.hid Ba0
                have Zw0 := Lib.hid Rw0
                have Zg0 := Lib.hid Rg0
                have Zh0 := Lib.hid Rh0
                clear Ba0 Rw0 Rg0 Rh0
                go_wp2_with fail
                (with_reducible refine (eqIntS_k (kIntS.M_K Zh0.out) (kIntS.M_K Zw0.out) (smIntS_le y0 (by decide))).mono ?_)
                rintro e w12 ⟨rfl, hb⟩
                replace sz0 := Nat.le_trans sz0 hb.size
                have Ba0 := Xa0.out.below hb
                have Rw0 := Rp.M_below Zw0.out hb
                have Rg0 := Rp.M_below Zg0.out hb
                have Rh0 := Rp.M_below Zh0.out hb
                have HB12 := Lib.hid (HB11.out.trans (hb.mono HB11.out.size))
                clear Xa0 Zw0 Zg0 Zh0 HB11 hb
                clear ba0_0 ba0_1 ba0_2
                have ba0_0 := Ba0.cell 0 (v := .int .i64 a0.fNext) rfl
                have ba0_1 := Ba0.cell 1 (v := .int .i64 a0.fSeq) rfl
                have ba0_2 := Ba0.cell 2 (v := v0_2) rfl
                have Xa0 := Lib.hid Ba0
                have Zw0 := Lib.hid Rw0
                have Zg0 := Lib.hid Rg0
                have Zh0 := Lib.hid Rh0
                clear Ba0 Rw0 Rg0 Rh0
                go_wp2_with fail
                (with_reducible refine (heldIntS_k (kIntS.M_K Zg0.out) (by omega) (by rw [hk2]; omega) (smIntS_le y0 (by decide))).mono ?_)
                rintro e w13 ⟨rfl, hb⟩
                rw [hk2]
                replace sz0 := Nat.le_trans sz0 hb.size
                have Ba0 := Xa0.out.below hb
                have Rw0 := Rp.M_below Zw0.out hb
                have Rg0 := Rp.M_below Zg0.out hb
                have Rh0 := Rp.M_below Zh0.out hb
                have HB13 := Lib.hid (HB12.out.trans (hb.mono HB12.out.size))
                clear Xa0 Zw0 Zg0 Zh0 HB12 hb
                clear ba0_0 ba0_1 ba0_2
                have ba0_0 := Ba0.cell 0 (v := .int .i64 a0.fNext) rfl
                have ba0_1 := Ba0.cell 1 (v := .int .i64 a0.fSeq) rfl
                have ba0_2 := Ba0.cell 2 (v := v0_2) rfl
                have Xa0 := Lib.hid Ba0
                have Zw0 := Lib.hid Rw0
                have Zg0 := Lib.hid Rg0
                have Zh0 := Lib.hid Rh0
                clear Ba0 Rw0 Rg0 Rh0
                have nk21 : ¬ k2_ < 0 := by omega
                go_wp2
                go_ret
                exact ⟨rfl, HB13.out⟩
end Go.Proofs.Ytnlplihbjbmepaa
