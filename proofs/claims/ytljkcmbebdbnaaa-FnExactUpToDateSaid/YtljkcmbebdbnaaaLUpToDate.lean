/- Law FnExactUpToDate: at every input it returns true; what was there stays. -/
import Derived.Test.YtljkcmbebdbnaaaGnE
namespace Go.Proofs.Ytljkcmbebdbnaaa
open Go Go.RowKit Go.Sort
set_option linter.unusedVariables false
set_option linter.unusedSimpArgs false

set_option maxHeartbeats 4000000 in
set_option maxRecDepth 100000 in
theorem law_UpToDate (a0 : DRaftNode) (v0_4 v0_7 v0_8 : Value) (a1 : Int) (a2 : Int) (w : World) (g0 : kRaftNode.K w a0 [.int .i64 a0.fId, .int .i64 a0.fPeers, .int .i64 a0.fTerm, .int .i64 a0.fVote, v0_4, .int .i64 a0.fCommit, .int .i64 a0.fRole, v0_7, v0_8]) (h0 : wfRaftNode a0) (h1 : (Lit.int .i64 a1).wf = true) (h2 : (Lit.int .i64 a2).wf = true) : Calls Try.prog 4 #[.agg #[.int .i64 a0.fId, .int .i64 a0.fPeers, .int .i64 a0.fTerm, .int .i64 a0.fVote, v0_4, .int .i64 a0.fCommit, .int .i64 a0.fRole, v0_7, v0_8], .int .i64 a1, .int .i64 a2] w
    fun e w' => e = .returned (.bool true) ∧ Below w.heap.size w w' := by
  have G0 := Lib.hid g0; clear g0
  go_enter Try.func4, Try.ntmps4
  go_wp2_with fail
  (with_reducible refine (szRaftNode_k (kRaftNode.K_below ((by repeat (first | (with_reducible exact Below.refl _ _) | (with_reducible refine Below.alloc ?_ (by first | (with_reducible exact Nat.le_refl _) | (simp; done) | (simp; omega)) _))) : Below w.heap.size w _).block G0.out) (by omega) (by omega) h0).mono ?_)
  rintro e w1 ⟨rfl, hb⟩
  have Ba0 : Box w1 w.heap.size #[.int .i64 a0.fId, .int .i64 a0.fPeers, .int .i64 a0.fTerm, .int .i64 a0.fVote, v0_4, .int .i64 a0.fCommit, .int .i64 a0.fRole, v0_7, v0_8] 25 := Box.below (Box.new rfl) hb
  have HB1 := Lib.hid (Below.trans (by repeat (first | (with_reducible exact Below.refl _ _) | (with_reducible refine Below.alloc ?_ (by first | (with_reducible exact Nat.le_refl _) | (simp; done) | (simp; omega)) _))) (hb.mono (by first | (with_reducible exact Nat.le_refl _) | (simp; done) | (simp; omega))) : Below w.heap.size w w1)
  have sz0 : w.heap.size + 1 ≤ w1.heap.size := by have := hb.size; simp at this; omega
  clear hb
  have ba0_0 := Ba0.cell 0 (v := .int .i64 a0.fId) rfl
  have ba0_1 := Ba0.cell 1 (v := .int .i64 a0.fPeers) rfl
  have ba0_2 := Ba0.cell 2 (v := .int .i64 a0.fTerm) rfl
  have ba0_3 := Ba0.cell 3 (v := .int .i64 a0.fVote) rfl
  have ba0_4 := Ba0.cell 4 (v := v0_4) rfl
  have ba0_5 := Ba0.cell 5 (v := .int .i64 a0.fCommit) rfl
  have ba0_6 := Ba0.cell 6 (v := .int .i64 a0.fRole) rfl
  have ba0_7 := Ba0.cell 7 (v := v0_7) rfl
  have ba0_8 := Ba0.cell 8 (v := v0_8) rfl
  have Xa0 := Lib.hid Ba0
  clear Ba0
  by_cases z0 : (szNRaftNode a0 : Int) ≤ 1048576
  case neg =>
    rw [szR_no z0]
    go_wp2
    go_ret
    exact ⟨rfl, HB1.out⟩
  case pos =>
    rw [szR_yes z0]
    go_upto_region 5 with fail
    go_cut [8, 9] from 8 to 9 (fun s8 s9 wx => Below w1.heap.size w1 wx ∧ s8 = .bool (upV a0 a1 a2) ∧ s9 = .bool (upOk a0 a1 a2))
    case first =>
      have ya0 : w.heap.size < w1.heap.size := Xa0.out.lt
      have yh := HB1.out.size
      go_wp2_with (first
          | (go_at_call 15; (refine (toRaftNode_k (kRaftNode.K_below (HB1.out.trans (Below.mono (by repeat (first | assumption | (with_reducible exact Below.refl _ _) | (with_reducible refine below_call ?_ hc) | (with_reducible refine below_call ?_ hb0) | (with_reducible refine below_call ?_ hb1) | (with_reducible refine below_call ?_ hb2) | (with_reducible refine below_call ?_ hb) | (with_reducible refine Below.drew ?_) | (with_reducible refine below_alloc2 ?_ _))) HB1.out.size)).block G0.out) (szRaftNode_sm (n := 1048576) (x := a0) (by omega))).mono ?_; rintro e wt0 ⟨ds0, F0_, rfl, ra0, rb0, rc0, hb0⟩; have zs0 := hb0.size; (try simp at zs0)))
          | (go_at_call 18; (refine (sUpToDate_k (kRaftNode.K_below ((by repeat (first | assumption | (with_reducible exact Below.refl _ _) | (with_reducible refine below_call ?_ hc) | (with_reducible refine below_call ?_ hb0) | (with_reducible refine below_call ?_ hb1) | (with_reducible refine below_call ?_ hb2) | (with_reducible refine below_call ?_ hb) | (with_reducible refine Below.drew ?_) | (with_reducible refine below_alloc2 ?_ _))) : Below _ _ _).block (kRaftNode.M_K ra0)) h0 (by have := (szRaftNode_sm (n := 1048576) (x := a0) (by omega)); exact this) h1 h2).mono ?_; rintro e wz ⟨rfl, hc⟩; have zs_c := hc.size; (try simp at zs_c))))
      all_goals (go_meet; go_light)
      all_goals
        have K : Below w1.heap.size w1 wz := (by repeat (first | assumption | (with_reducible exact Below.refl _ _) | (with_reducible refine below_call ?_ hc) | (with_reducible refine below_call ?_ hb0) | (with_reducible refine below_call ?_ hb1) | (with_reducible refine below_call ?_ hb2) | (with_reducible refine below_call ?_ hb) | (with_reducible refine Below.drew ?_) | (with_reducible refine below_alloc2 ?_ _)))
        exact ⟨K, rfl, rfl⟩
    case rest =>
      rename World => w2
      obtain ⟨hb, rfl, rfl⟩ := hcut
      replace sz0 := Nat.le_trans sz0 hb.size
      have Ba0 := Xa0.out.below hb
      have HB2 := Lib.hid (HB1.out.trans (hb.mono HB1.out.size))
      clear Xa0 HB1 hb
      clear ba0_0 ba0_1 ba0_2 ba0_3 ba0_4 ba0_5 ba0_6 ba0_7 ba0_8
      have ba0_0 := Ba0.cell 0 (v := .int .i64 a0.fId) rfl
      have ba0_1 := Ba0.cell 1 (v := .int .i64 a0.fPeers) rfl
      have ba0_2 := Ba0.cell 2 (v := .int .i64 a0.fTerm) rfl
      have ba0_3 := Ba0.cell 3 (v := .int .i64 a0.fVote) rfl
      have ba0_4 := Ba0.cell 4 (v := v0_4) rfl
      have ba0_5 := Ba0.cell 5 (v := .int .i64 a0.fCommit) rfl
      have ba0_6 := Ba0.cell 6 (v := .int .i64 a0.fRole) rfl
      have ba0_7 := Ba0.cell 7 (v := v0_7) rfl
      have ba0_8 := Ba0.cell 8 (v := v0_8) rfl
      have Xa0 := Lib.hid Ba0
      clear Ba0
      go_upto_region 6 with fail
      go_cut [10] from 10 to 10 (fun s wx => Has kRaftNode 30 a0 w2.heap.size w2 wx s)
      case first =>
        go_wp2_with fail
        (with_reducible refine (toRaftNode_k (kRaftNode.K_below HB2.out.block G0.out) (szRaftNode_sm (n := 1048576) (x := a0) (by omega))).mono ?_)
        rintro e wa ⟨ds, F, rfl, ra, rb, rc, hb⟩
        obtain ⟨pa4, pa7, pa8, F_4, F_7, F_8, rfl, rfl, par4, par7, par8⟩ := kRaftNode_open ra; obtain ⟨paA4, paC4, rfl, _, _⟩ := Rp.Row_K par4; obtain ⟨paA7, paC7, rfl, _, _⟩ := Rp.Row_K par7; obtain ⟨paA8, paC8, rfl, _, _⟩ := Rp.Row_K par8
        go_wp2_with fail
        go_meet
        exact Has.new (d := kRaftNode) (kRaftNode_make par4 par7 par8) rc rb hb (Nat.le_refl _)
      case rest =>
        rename World => w3
        obtain ⟨gx0, Fx0, _, rfl, Bx0, Rx0, Nx0, dx0, ex0, hb⟩ := hcut
        obtain ⟨px0_4, px0_7, px0_8, Fx0_4, Fx0_7, Fx0_8, rfl, rfl, rx0_4, rx0_7, rx0_8⟩ := kRaftNode_open Rx0
        have Rx0 := kRaftNode_make rx0_4 rx0_7 rx0_8
        clear rx0_4 rx0_7 rx0_8
        have Dx0 := fun b hb => (dx0 b hb).1; have Nx0_x0 := fun b hb => (dx0 b hb).2; clear dx0
        have ex0 := And.intro ex0 Bx0.lt
        have Ex0 := kRaftNode.M_lt Rx0
        have zzx0 := hb.size
        have sox0 := sz0
        replace sz0 := Nat.le_trans sz0 hb.size
        have Ba0 := Xa0.out.below hb
        have HB3 := Lib.hid (HB2.out.trans (hb.mono HB2.out.size))
        clear Xa0 HB2 hb
        clear ba0_0 ba0_1 ba0_2 ba0_3 ba0_4 ba0_5 ba0_6 ba0_7 ba0_8
        have ba0_0 := Ba0.cell 0 (v := .int .i64 a0.fId) rfl
        have ba0_1 := Ba0.cell 1 (v := .int .i64 a0.fPeers) rfl
        have ba0_2 := Ba0.cell 2 (v := .int .i64 a0.fTerm) rfl
        have ba0_3 := Ba0.cell 3 (v := .int .i64 a0.fVote) rfl
        have ba0_4 := Ba0.cell 4 (v := v0_4) rfl
        have ba0_5 := Ba0.cell 5 (v := .int .i64 a0.fCommit) rfl
        have ba0_6 := Ba0.cell 6 (v := .int .i64 a0.fRole) rfl
        have ba0_7 := Ba0.cell 7 (v := v0_7) rfl
        have ba0_8 := Ba0.cell 8 (v := v0_8) rfl
        have bx0_0 := Bx0.cell 0 (v := .int .i64 a0.fId) rfl
        have bx0_1 := Bx0.cell 1 (v := .int .i64 a0.fPeers) rfl
        have bx0_2 := Bx0.cell 2 (v := .int .i64 a0.fTerm) rfl
        have bx0_3 := Bx0.cell 3 (v := .int .i64 a0.fVote) rfl
        have bx0_4 := Bx0.cell 4 (v := px0_4) rfl
        have bx0_5 := Bx0.cell 5 (v := .int .i64 a0.fCommit) rfl
        have bx0_6 := Bx0.cell 6 (v := .int .i64 a0.fRole) rfl
        have bx0_7 := Bx0.cell 7 (v := px0_7) rfl
        have bx0_8 := Bx0.cell 8 (v := px0_8) rfl
        have Xa0 := Lib.hid Ba0
        have Xx0 := Lib.hid Bx0
        have Zx0 := Lib.hid Rx0
        clear Ba0 Bx0 Rx0
        go_upto_region 7 with fail
        go_cut [11, 12] from 11 to 12 (fun s11 s12 wx => Below w3.heap.size w3 wx ∧ s11 = .bool (upV a0 a1 a2) ∧ s12 = .bool (upOk a0 a1 a2))
        case first =>
          have ya0 : w.heap.size < w3.heap.size := Xa0.out.lt
          have yx0 : gx0 < w3.heap.size := Xx0.out.lt
          have yh := HB3.out.size
          go_wp2_with (first
              | (go_at_call 19; (refine (iUpToDate_k (kRaftNode.K_below ((by repeat (first | assumption | (with_reducible exact Below.refl _ _) | (with_reducible refine below_call ?_ hc) | (with_reducible refine below_call ?_ hb0) | (with_reducible refine below_call ?_ hb1) | (with_reducible refine below_call ?_ hb2) | (with_reducible refine below_call ?_ hb) | (with_reducible refine Below.drew ?_) | (with_reducible refine below_alloc2 ?_ _))) : Below _ _ _).block (kRaftNode.M_K Zx0.out)) h0 (by have := (szRaftNode_sm (n := 1048576) (x := a0) (by omega)); exact this) h1 h2).mono ?_; rintro e wz ⟨rfl, hc⟩; have zs_c := hc.size; (try simp at zs_c))))
          all_goals (go_meet; go_light)
          all_goals
            have K : Below w3.heap.size w3 wz := (by repeat (first | assumption | (with_reducible exact Below.refl _ _) | (with_reducible refine below_call ?_ hc) | (with_reducible refine below_call ?_ hb0) | (with_reducible refine below_call ?_ hb1) | (with_reducible refine below_call ?_ hb2) | (with_reducible refine below_call ?_ hb) | (with_reducible refine Below.drew ?_) | (with_reducible refine below_alloc2 ?_ _)))
            exact ⟨K, rfl, rfl⟩
        case rest =>
          rename World => w4
          obtain ⟨hb, rfl, rfl⟩ := hcut
          replace sz0 := Nat.le_trans sz0 hb.size
          have Ba0 := Xa0.out.below hb
          have Bx0 := Xx0.out.below hb
          have Rx0 := Rp.M_below Zx0.out hb
          have HB4 := Lib.hid (HB3.out.trans (hb.mono HB3.out.size))
          clear Xa0 Xx0 Zx0 HB3 hb
          clear ba0_0 ba0_1 ba0_2 ba0_3 ba0_4 ba0_5 ba0_6 ba0_7 ba0_8 bx0_0 bx0_1 bx0_2 bx0_3 bx0_4 bx0_5 bx0_6 bx0_7 bx0_8
          have ba0_0 := Ba0.cell 0 (v := .int .i64 a0.fId) rfl
          have ba0_1 := Ba0.cell 1 (v := .int .i64 a0.fPeers) rfl
          have ba0_2 := Ba0.cell 2 (v := .int .i64 a0.fTerm) rfl
          have ba0_3 := Ba0.cell 3 (v := .int .i64 a0.fVote) rfl
          have ba0_4 := Ba0.cell 4 (v := v0_4) rfl
          have ba0_5 := Ba0.cell 5 (v := .int .i64 a0.fCommit) rfl
          have ba0_6 := Ba0.cell 6 (v := .int .i64 a0.fRole) rfl
          have ba0_7 := Ba0.cell 7 (v := v0_7) rfl
          have ba0_8 := Ba0.cell 8 (v := v0_8) rfl
          have bx0_0 := Bx0.cell 0 (v := .int .i64 a0.fId) rfl
          have bx0_1 := Bx0.cell 1 (v := .int .i64 a0.fPeers) rfl
          have bx0_2 := Bx0.cell 2 (v := .int .i64 a0.fTerm) rfl
          have bx0_3 := Bx0.cell 3 (v := .int .i64 a0.fVote) rfl
          have bx0_4 := Bx0.cell 4 (v := px0_4) rfl
          have bx0_5 := Bx0.cell 5 (v := .int .i64 a0.fCommit) rfl
          have bx0_6 := Bx0.cell 6 (v := .int .i64 a0.fRole) rfl
          have bx0_7 := Bx0.cell 7 (v := px0_7) rfl
          have bx0_8 := Bx0.cell 8 (v := px0_8) rfl
          have Xa0 := Lib.hid Ba0
          have Xx0 := Lib.hid Bx0
          have Zx0 := Lib.hid Rx0
          clear Ba0 Bx0 Rx0
          go_upto_region 10 with fail
          have ya0 : w.heap.size < w4.heap.size := Xa0.out.lt
          have yx0 : gx0 < w4.heap.size := Xx0.out.lt
          have yh := HB4.out.size
          go_region_held3 (fun w' => Below w4.heap.size w4 w' ∧ ∀ b j, b < w4.heap.size → w'.cell? ⟨b, j, none⟩ = w4.cell? ⟨b, j, none⟩)
            (first | ((try go_split_ands); refine SBof ?_; repeat (first | assumption | (with_reducible exact Below.refl _ _) | (with_reducible refine below_call ?_ hc) | (with_reducible refine below_call ?_ hb0) | (with_reducible refine below_call ?_ hb1) | (with_reducible refine below_call ?_ hb2) | (with_reducible refine below_call ?_ hb) | (with_reducible refine Below.drew ?_) | (with_reducible refine below_alloc2 ?_ _) | (with_reducible refine Below.setCell ?_ (by first | (simp; done) | omega | (simp; omega)) _))))
            (first
              | (go_at_call 15; (refine (toRaftNode_k (kRaftNode.K_below (HB4.out.trans (Below.mono (by repeat (first | assumption | (with_reducible exact Below.refl _ _) | (with_reducible refine below_call ?_ hc) | (with_reducible refine below_call ?_ hb0) | (with_reducible refine below_call ?_ hb1) | (with_reducible refine below_call ?_ hb2)  | (with_reducible refine Below.drew ?_) | (with_reducible refine below_alloc2 ?_ _))) HB4.out.size)).block G0.out) (szRaftNode_sm (n := 1048576) (x := a0) (by omega))).mono ?_; rintro e wa ⟨ds, F, rfl, ra, rb, rc, hb0⟩; have zs := hb0.size; (try simp at zs)))
              | (go_at_call 17; (refine (eqRaftNode_k (kRaftNode.K_below ((by repeat (first | assumption | (with_reducible exact Below.refl _ _) | (with_reducible refine below_call ?_ hc) | (with_reducible refine below_call ?_ hb0) | (with_reducible refine below_call ?_ hb1) | (with_reducible refine below_call ?_ hb2)  | (with_reducible refine Below.drew ?_) | (with_reducible refine below_alloc2 ?_ _))) : Below _ _ _).block (kRaftNode.M_K Zx0.out)) (kRaftNode.M_K ra) (szRaftNode_sm (n := 140737488355328) (x := a0) (by omega))).mono ?_; rintro e w5 ⟨rfl, hb⟩; have zs2 := hb.size; (try simp at zs2))))
          have hbx : Below w4.heap.size w4 w5 := (by repeat (first | assumption | (with_reducible exact Below.refl _ _) | (with_reducible refine below_call ?_ hc) | (with_reducible refine below_call ?_ hb0) | (with_reducible refine below_call ?_ hb1) | (with_reducible refine below_call ?_ hb2) | (with_reducible refine below_call ?_ hb) | (with_reducible refine Below.drew ?_) | (with_reducible refine below_alloc2 ?_ _)))
          clear hb hb0 ra rb rc zs zs2 yh ya0 yx0
          replace sz0 := Nat.le_trans sz0 hbx.size
          have Ba0 := Xa0.out.below hbx
          have Bx0 := Xx0.out.below hbx
          have Rx0 := Rp.M_below Zx0.out hbx
          have HB5 := Lib.hid (HB4.out.trans (hbx.mono HB4.out.size))
          clear Xa0 Xx0 Zx0 HB4 hbx
          clear ba0_0 ba0_1 ba0_2 ba0_3 ba0_4 ba0_5 ba0_6 ba0_7 ba0_8 bx0_0 bx0_1 bx0_2 bx0_3 bx0_4 bx0_5 bx0_6 bx0_7 bx0_8
          have ba0_0 := Ba0.cell 0 (v := .int .i64 a0.fId) rfl
          have ba0_1 := Ba0.cell 1 (v := .int .i64 a0.fPeers) rfl
          have ba0_2 := Ba0.cell 2 (v := .int .i64 a0.fTerm) rfl
          have ba0_3 := Ba0.cell 3 (v := .int .i64 a0.fVote) rfl
          have ba0_4 := Ba0.cell 4 (v := v0_4) rfl
          have ba0_5 := Ba0.cell 5 (v := .int .i64 a0.fCommit) rfl
          have ba0_6 := Ba0.cell 6 (v := .int .i64 a0.fRole) rfl
          have ba0_7 := Ba0.cell 7 (v := v0_7) rfl
          have ba0_8 := Ba0.cell 8 (v := v0_8) rfl
          have bx0_0 := Bx0.cell 0 (v := .int .i64 a0.fId) rfl
          have bx0_1 := Bx0.cell 1 (v := .int .i64 a0.fPeers) rfl
          have bx0_2 := Bx0.cell 2 (v := .int .i64 a0.fTerm) rfl
          have bx0_3 := Bx0.cell 3 (v := .int .i64 a0.fVote) rfl
          have bx0_4 := Bx0.cell 4 (v := px0_4) rfl
          have bx0_5 := Bx0.cell 5 (v := .int .i64 a0.fCommit) rfl
          have bx0_6 := Bx0.cell 6 (v := .int .i64 a0.fRole) rfl
          have bx0_7 := Bx0.cell 7 (v := px0_7) rfl
          have bx0_8 := Bx0.cell 8 (v := px0_8) rfl
          have Xa0 := Lib.hid Ba0
          have Xx0 := Lib.hid Bx0
          have Zx0 := Lib.hid Rx0
          clear Ba0 Bx0 Rx0
          go_wp2
          go_ret
          exact ⟨rfl, HB5.out⟩
end Go.Proofs.Ytljkcmbebdbnaaa
