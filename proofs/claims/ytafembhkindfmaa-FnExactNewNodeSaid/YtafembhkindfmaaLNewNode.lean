/- Law FnExactNewNode: at every input it returns true; what was there stays. -/
import Derived.Test.YtafembhkindfmaaRaN
namespace Go.Proofs.Ytafembhkindfmaa
open Go Go.RowKit Go.Sort
set_option linter.unusedVariables false
set_option linter.unusedSimpArgs false

abbrev HasNewNode (a0 : Int) (a1 : Int) (N : Nat) (w wx : World) (s : Value) : Prop := Has kRaftNode 25 (nodeV a0 a1) N w wx s
set_option maxHeartbeats 4000000 in
set_option maxRecDepth 100000 in
theorem law_NewNode (a0 : Int) (a1 : Int) (w : World) (h0 : (Lit.int .i64 a0).wf = true) (h1 : (Lit.int .i64 a1).wf = true) (y0 : smRaftNode 4194304 (nodeV a0 a1)) : Calls Try.prog 3 #[.int .i64 a0, .int .i64 a1] w
    fun e w' => e = .returned (.bool true) ∧ Below w.heap.size w w' := by
  go_enter Try.func3, Try.ntmps3
  have HB0 := Lib.hid (Below.refl w.heap.size w)
  have sz0 : w.heap.size ≤ w.heap.size := Nat.le_refl _
  go_upto_region 1 with fail
  go_cut [5, 6] from 5 to 6 (fun s5 s6 wx => HasNewNode a0 a1 w.heap.size w wx s5 ∧ s6 = .bool (nodeB a0 a1))
  case first =>
    have yh := HB0.out.size
    go_wp2_with (first
        | (go_at_call 11; (refine (sNewNode_k h0 h1).mono ?_; rintro e wz ⟨cd0, FD0, rfl, rd0, rd_1, rd_2, hc⟩; have zs_c := hc.size; (try simp at zs_c); obtain ⟨pd0_4, pd0_7, pd0_8, FD0_4, FD0_7, FD0_8, rfl, rfl, pd0_r4, pd0_r7, pd0_r8⟩ := kRaftNode_open rd0; obtain ⟨pd0_A4, pd0_C4, rfl, _, _⟩ := Rp.Row_K pd0_r4; obtain ⟨pd0_A7, pd0_C7, rfl, _, _⟩ := Rp.Row_K pd0_r7; obtain ⟨pd0_A8, pd0_C8, rfl, _, _⟩ := Rp.Row_K pd0_r8; (first | have BG0 := Box.below BG0 hc | have BG0 := Box.below (Box.drew (Box.new (T := 25) (cs := #[.int .i64 0, .int .i64 0, .int .i64 0, .int .i64 0, .slice none 0 0, .int .i64 0, .int .i64 0, .slice none 0 0, .slice none 0 0]) rfl)) hc | have BG0 := Box.below (Box.new (T := 25) (cs := #[.int .i64 0, .int .i64 0, .int .i64 0, .int .i64 0, .slice none 0 0, .int .i64 0, .int .i64 0, .slice none 0 0, .slice none 0 0]) rfl) hc | skip); (try (have q0_0 := BG0.cell 0 (v := .int .i64 0) rfl; have q0_1 := BG0.cell 1 (v := .int .i64 0) rfl; have q0_2 := BG0.cell 2 (v := .int .i64 0) rfl; have q0_3 := BG0.cell 3 (v := .int .i64 0) rfl; have q0_4 := BG0.cell 4 (v := .slice none 0 0) rfl; have q0_5 := BG0.cell 5 (v := .int .i64 0) rfl; have q0_6 := BG0.cell 6 (v := .int .i64 0) rfl; have q0_7 := BG0.cell 7 (v := .slice none 0 0) rfl; have q0_8 := BG0.cell 8 (v := .slice none 0 0) rfl; have fg0 := BG0.fro)))))
    all_goals (go_meet; go_light)
    all_goals
      have K : Below w.heap.size w wz := (by repeat (first | assumption | (with_reducible exact Below.refl _ _) | (with_reducible refine below_call ?_ hc) | (with_reducible refine below_call ?_ hb0) | (with_reducible refine below_call ?_ hb1) | (with_reducible refine below_call ?_ hb) | (with_reducible refine Below.drew ?_) | (with_reducible refine below_alloc2 ?_ _)))
      first
        | (refine ⟨?_, rfl⟩; with_reducible refine Has.new (d := kRaftNode) (kRaftNode_make pd0_r4 pd0_r7 pd0_r8) rd_2 ?_ K (Nat.le_refl _); exact (fun b hm => by have := rd_1 b hm; first | omega | (simp at this; omega)))
        | (refine ⟨?_, rfl⟩; exact Has.old (d := kRaftNode) (kRaftNode_make pd0_r4 pd0_r7 pd0_r8) rd_2 (fun b hm => by have := rd_1 b hm; first | omega | (simp at this; omega)) K BG0 (by first | omega | (simp; omega) | (simp; done)) (Nat.le_refl _) rfl)
  case rest =>
    rename World => w1
    obtain ⟨⟨gw0, Fw0, _, rfl, Bw0, Rw0, Nw0, dw0, ew0, hb⟩, rfl⟩ := hcut
    obtain ⟨pw0_4, pw0_7, pw0_8, Fw0_4, Fw0_7, Fw0_8, rfl, rfl, rw0_4, rw0_7, rw0_8⟩ := kRaftNode_open Rw0
    have Rw0 := kRaftNode_make rw0_4 rw0_7 rw0_8
    clear rw0_4 rw0_7 rw0_8
    have Dw0 := fun b hb => (dw0 b hb).1; have Nw0_w0 := fun b hb => (dw0 b hb).2; clear dw0
    have ew0 := And.intro ew0 Bw0.lt
    have Ew0 := kRaftNode.M_lt Rw0
    have zzw0 := hb.size
    have sow0 := sz0
    replace sz0 := Nat.le_trans sz0 hb.size
    have HB1 := Lib.hid (HB0.out.trans (hb.mono HB0.out.size))
    clear HB0 hb
    have bw0_0 := Bw0.cell 0 (v := .int .i64 (nodeV a0 a1).fId) rfl
    have bw0_1 := Bw0.cell 1 (v := .int .i64 (nodeV a0 a1).fPeers) rfl
    have bw0_2 := Bw0.cell 2 (v := .int .i64 (nodeV a0 a1).fTerm) rfl
    have bw0_3 := Bw0.cell 3 (v := .int .i64 (nodeV a0 a1).fVote) rfl
    have bw0_4 := Bw0.cell 4 (v := pw0_4) rfl
    have bw0_5 := Bw0.cell 5 (v := .int .i64 (nodeV a0 a1).fCommit) rfl
    have bw0_6 := Bw0.cell 6 (v := .int .i64 (nodeV a0 a1).fRole) rfl
    have bw0_7 := Bw0.cell 7 (v := pw0_7) rfl
    have bw0_8 := Bw0.cell 8 (v := pw0_8) rfl
    have Xw0 := Lib.hid Bw0
    have Zw0 := Lib.hid Rw0
    clear Bw0 Rw0
    go_upto_region 2 with fail
    go_cut [7, 8] from 7 to 8 (fun s7 s8 wx => HasNewNode a0 a1 w1.heap.size w1 wx s7 ∧ s8 = .bool (nodeB a0 a1))
    case first =>
      have yw0 : gw0 < w1.heap.size := Xw0.out.lt
      have yh := HB1.out.size
      go_wp2_with (first
          | (go_at_call 12; (refine (iNewNode_k h0 h1).mono ?_; rintro e wz ⟨cd0, FD0, rfl, rd0, rd_1, rd_2, hc⟩; have zs_c := hc.size; (try simp at zs_c); obtain ⟨pd0_4, pd0_7, pd0_8, FD0_4, FD0_7, FD0_8, rfl, rfl, pd0_r4, pd0_r7, pd0_r8⟩ := kRaftNode_open rd0; obtain ⟨pd0_A4, pd0_C4, rfl, _, _⟩ := Rp.Row_K pd0_r4; obtain ⟨pd0_A7, pd0_C7, rfl, _, _⟩ := Rp.Row_K pd0_r7; obtain ⟨pd0_A8, pd0_C8, rfl, _, _⟩ := Rp.Row_K pd0_r8; (first | have BG0 := Box.below BG0 hc | have BG0 := Box.below (Box.drew (Box.new (T := 25) (cs := #[.int .i64 0, .int .i64 0, .int .i64 0, .int .i64 0, .slice none 0 0, .int .i64 0, .int .i64 0, .slice none 0 0, .slice none 0 0]) rfl)) hc | have BG0 := Box.below (Box.new (T := 25) (cs := #[.int .i64 0, .int .i64 0, .int .i64 0, .int .i64 0, .slice none 0 0, .int .i64 0, .int .i64 0, .slice none 0 0, .slice none 0 0]) rfl) hc | skip); (try (have q0_0 := BG0.cell 0 (v := .int .i64 0) rfl; have q0_1 := BG0.cell 1 (v := .int .i64 0) rfl; have q0_2 := BG0.cell 2 (v := .int .i64 0) rfl; have q0_3 := BG0.cell 3 (v := .int .i64 0) rfl; have q0_4 := BG0.cell 4 (v := .slice none 0 0) rfl; have q0_5 := BG0.cell 5 (v := .int .i64 0) rfl; have q0_6 := BG0.cell 6 (v := .int .i64 0) rfl; have q0_7 := BG0.cell 7 (v := .slice none 0 0) rfl; have q0_8 := BG0.cell 8 (v := .slice none 0 0) rfl; have fg0 := BG0.fro)))))
      all_goals (go_meet; go_light)
      all_goals
        have K : Below w1.heap.size w1 wz := (by repeat (first | assumption | (with_reducible exact Below.refl _ _) | (with_reducible refine below_call ?_ hc) | (with_reducible refine below_call ?_ hb0) | (with_reducible refine below_call ?_ hb1) | (with_reducible refine below_call ?_ hb) | (with_reducible refine Below.drew ?_) | (with_reducible refine below_alloc2 ?_ _)))
        first
          | (refine ⟨?_, rfl⟩; with_reducible refine Has.new (d := kRaftNode) (kRaftNode_make pd0_r4 pd0_r7 pd0_r8) rd_2 ?_ K (Nat.le_refl _); exact (fun b hm => by have := rd_1 b hm; first | omega | (simp at this; omega)))
          | (refine ⟨?_, rfl⟩; exact Has.old (d := kRaftNode) (kRaftNode_make pd0_r4 pd0_r7 pd0_r8) rd_2 (fun b hm => by have := rd_1 b hm; first | omega | (simp at this; omega)) K BG0 (by first | omega | (simp; omega) | (simp; done)) (Nat.le_refl _) rfl)
    case rest =>
      rename World => w2
      obtain ⟨⟨gg0, Fg0, _, rfl, Bg0, Rg0, Ng0, dg0, eg0, hb⟩, rfl⟩ := hcut
      obtain ⟨pg0_4, pg0_7, pg0_8, Fg0_4, Fg0_7, Fg0_8, rfl, rfl, rg0_4, rg0_7, rg0_8⟩ := kRaftNode_open Rg0
      have Rg0 := kRaftNode_make rg0_4 rg0_7 rg0_8
      clear rg0_4 rg0_7 rg0_8
      have Dg0 := fun b hb => (dg0 b hb).1; have Ng0_g0 := fun b hb => (dg0 b hb).2; clear dg0
      have eg0 := And.intro eg0 Bg0.lt
      have Eg0 := kRaftNode.M_lt Rg0
      have zzg0 := hb.size
      have sog0 := sz0
      replace sz0 := Nat.le_trans sz0 hb.size
      have Bw0 := Xw0.out.below hb
      have Rw0 := Rp.M_below Zw0.out hb
      have HB2 := Lib.hid (HB1.out.trans (hb.mono HB1.out.size))
      clear Xw0 Zw0 HB1 hb
      clear bw0_0 bw0_1 bw0_2 bw0_3 bw0_4 bw0_5 bw0_6 bw0_7 bw0_8
      have bw0_0 := Bw0.cell 0 (v := .int .i64 (nodeV a0 a1).fId) rfl
      have bw0_1 := Bw0.cell 1 (v := .int .i64 (nodeV a0 a1).fPeers) rfl
      have bw0_2 := Bw0.cell 2 (v := .int .i64 (nodeV a0 a1).fTerm) rfl
      have bw0_3 := Bw0.cell 3 (v := .int .i64 (nodeV a0 a1).fVote) rfl
      have bw0_4 := Bw0.cell 4 (v := pw0_4) rfl
      have bw0_5 := Bw0.cell 5 (v := .int .i64 (nodeV a0 a1).fCommit) rfl
      have bw0_6 := Bw0.cell 6 (v := .int .i64 (nodeV a0 a1).fRole) rfl
      have bw0_7 := Bw0.cell 7 (v := pw0_7) rfl
      have bw0_8 := Bw0.cell 8 (v := pw0_8) rfl
      have bg0_0 := Bg0.cell 0 (v := .int .i64 (nodeV a0 a1).fId) rfl
      have bg0_1 := Bg0.cell 1 (v := .int .i64 (nodeV a0 a1).fPeers) rfl
      have bg0_2 := Bg0.cell 2 (v := .int .i64 (nodeV a0 a1).fTerm) rfl
      have bg0_3 := Bg0.cell 3 (v := .int .i64 (nodeV a0 a1).fVote) rfl
      have bg0_4 := Bg0.cell 4 (v := pg0_4) rfl
      have bg0_5 := Bg0.cell 5 (v := .int .i64 (nodeV a0 a1).fCommit) rfl
      have bg0_6 := Bg0.cell 6 (v := .int .i64 (nodeV a0 a1).fRole) rfl
      have bg0_7 := Bg0.cell 7 (v := pg0_7) rfl
      have bg0_8 := Bg0.cell 8 (v := pg0_8) rfl
      have Xw0 := Lib.hid Bw0
      have Zw0 := Lib.hid Rw0
      have Xg0 := Lib.hid Bg0
      have Zg0 := Lib.hid Rg0
      clear Bw0 Rw0 Bg0 Rg0
      go_wp2_with fail
      (with_reducible refine (eqRaftNode_k (kRaftNode.M_K Zg0.out) (kRaftNode.M_K Zw0.out) (smRaftNode_le y0 (by decide))).mono ?_)
      rintro e w3 ⟨rfl, hb⟩
      replace sz0 := Nat.le_trans sz0 hb.size
      have Bw0 := Xw0.out.below hb
      have Rw0 := Rp.M_below Zw0.out hb
      have Bg0 := Xg0.out.below hb
      have Rg0 := Rp.M_below Zg0.out hb
      have HB3 := Lib.hid (HB2.out.trans (hb.mono HB2.out.size))
      clear Xw0 Zw0 Xg0 Zg0 HB2 hb
      clear bw0_0 bw0_1 bw0_2 bw0_3 bw0_4 bw0_5 bw0_6 bw0_7 bw0_8 bg0_0 bg0_1 bg0_2 bg0_3 bg0_4 bg0_5 bg0_6 bg0_7 bg0_8
      have bw0_0 := Bw0.cell 0 (v := .int .i64 (nodeV a0 a1).fId) rfl
      have bw0_1 := Bw0.cell 1 (v := .int .i64 (nodeV a0 a1).fPeers) rfl
      have bw0_2 := Bw0.cell 2 (v := .int .i64 (nodeV a0 a1).fTerm) rfl
      have bw0_3 := Bw0.cell 3 (v := .int .i64 (nodeV a0 a1).fVote) rfl
      have bw0_4 := Bw0.cell 4 (v := pw0_4) rfl
      have bw0_5 := Bw0.cell 5 (v := .int .i64 (nodeV a0 a1).fCommit) rfl
      have bw0_6 := Bw0.cell 6 (v := .int .i64 (nodeV a0 a1).fRole) rfl
      have bw0_7 := Bw0.cell 7 (v := pw0_7) rfl
      have bw0_8 := Bw0.cell 8 (v := pw0_8) rfl
      have bg0_0 := Bg0.cell 0 (v := .int .i64 (nodeV a0 a1).fId) rfl
      have bg0_1 := Bg0.cell 1 (v := .int .i64 (nodeV a0 a1).fPeers) rfl
      have bg0_2 := Bg0.cell 2 (v := .int .i64 (nodeV a0 a1).fTerm) rfl
      have bg0_3 := Bg0.cell 3 (v := .int .i64 (nodeV a0 a1).fVote) rfl
      have bg0_4 := Bg0.cell 4 (v := pg0_4) rfl
      have bg0_5 := Bg0.cell 5 (v := .int .i64 (nodeV a0 a1).fCommit) rfl
      have bg0_6 := Bg0.cell 6 (v := .int .i64 (nodeV a0 a1).fRole) rfl
      have bg0_7 := Bg0.cell 7 (v := pg0_7) rfl
      have bg0_8 := Bg0.cell 8 (v := pg0_8) rfl
      have Xw0 := Lib.hid Bw0
      have Zw0 := Lib.hid Rw0
      have Xg0 := Lib.hid Bg0
      have Zg0 := Lib.hid Rg0
      clear Bw0 Rw0 Bg0 Rg0
      have m1 := mkRaftNode_sm (k := 1) y0
      have n1 := mkRaftNode_le (nodeV a0 a1) 1
      have l1 : (mkRaftNode (nodeV a0 a1) 1).2 ≤ 4611686018427387904 := by omega
      go_wp2_with fail
      (with_reducible refine (markRaftNode_k Zg0.out Ng0 (by omega) l1 (smRaftNode_le y0 (by decide))).mono ?_)
      rintro e w4 ⟨rfl, hr, hk⟩
      have Rg0 := hr; clear hr
      clear bw0_0 bw0_1 bw0_2 bw0_3 bw0_4 bw0_5 bw0_6 bw0_7 bw0_8 bg0_0 bg0_1 bg0_2 bg0_3 bg0_4 bg0_5 bg0_6 bg0_7 bg0_8
      replace sz0 := Nat.le_trans sz0 hk.size
      have Bw0 := Box.kept Xw0.out hk (fun hm => by have := Dg0 _ hm; have := Eg0 _ hm; have := ew0; omega)
      have Rw0 := kRaftNode.M_move (fun b hb => hk.block b (kRaftNode.M_lt Zw0.out b hb) (fun hm => by have := Dg0 _ hm; have := Eg0 _ hm; have := Dw0 _ hb; have := Ew0 _ hb; omega)) Zw0.out
      have Bg0 := Box.kept Xg0.out hk (fun hm => by exact (Ng0_g0 _ hm) rfl)
      have HB4 := Lib.hid (HB3.out.trans (hk.toBelow HB3.out.size (fun b hb => by have := Dg0 _ hb; omega)))
      clear Xw0 Zw0 Xg0 Zg0 HB3 hk
      have bw0_0 := Bw0.cell 0 (v := .int .i64 (nodeV a0 a1).fId) rfl
      have bw0_1 := Bw0.cell 1 (v := .int .i64 (nodeV a0 a1).fPeers) rfl
      have bw0_2 := Bw0.cell 2 (v := .int .i64 (nodeV a0 a1).fTerm) rfl
      have bw0_3 := Bw0.cell 3 (v := .int .i64 (nodeV a0 a1).fVote) rfl
      have bw0_4 := Bw0.cell 4 (v := pw0_4) rfl
      have bw0_5 := Bw0.cell 5 (v := .int .i64 (nodeV a0 a1).fCommit) rfl
      have bw0_6 := Bw0.cell 6 (v := .int .i64 (nodeV a0 a1).fRole) rfl
      have bw0_7 := Bw0.cell 7 (v := pw0_7) rfl
      have bw0_8 := Bw0.cell 8 (v := pw0_8) rfl
      have bg0_0 := Bg0.cell 0 (v := .int .i64 (nodeV a0 a1).fId) rfl
      have bg0_1 := Bg0.cell 1 (v := .int .i64 (nodeV a0 a1).fPeers) rfl
      have bg0_2 := Bg0.cell 2 (v := .int .i64 (nodeV a0 a1).fTerm) rfl
      have bg0_3 := Bg0.cell 3 (v := .int .i64 (nodeV a0 a1).fVote) rfl
      have bg0_4 := Bg0.cell 4 (v := pg0_4) rfl
      have bg0_5 := Bg0.cell 5 (v := .int .i64 (nodeV a0 a1).fCommit) rfl
      have bg0_6 := Bg0.cell 6 (v := .int .i64 (nodeV a0 a1).fRole) rfl
      have bg0_7 := Bg0.cell 7 (v := pg0_7) rfl
      have bg0_8 := Bg0.cell 8 (v := pg0_8) rfl
      have Xw0 := Lib.hid Bw0
      have Zw0 := Lib.hid Rw0
      have Xg0 := Lib.hid Bg0
      have Zg0 := Lib.hid Rg0
      clear Bw0 Rw0 Bg0 Rg0
      generalize hk1 : (mkRaftNode (nodeV a0 a1) 1).2 = k1_ at n1 m1 l1 ⊢
      go_wp2_with fail
      (with_reducible refine (heldRaftNode_k (kRaftNode.M_K Zg0.out) (by omega) (by rw [hk1]; omega) (smRaftNode_le y0 (by decide))).mono ?_)
      rintro e w5 ⟨rfl, hb⟩
      rw [hk1]
      replace sz0 := Nat.le_trans sz0 hb.size
      have Bw0 := Xw0.out.below hb
      have Rw0 := Rp.M_below Zw0.out hb
      have Bg0 := Xg0.out.below hb
      have Rg0 := Rp.M_below Zg0.out hb
      have HB5 := Lib.hid (HB4.out.trans (hb.mono HB4.out.size))
      clear Xw0 Zw0 Xg0 Zg0 HB4 hb
      clear bw0_0 bw0_1 bw0_2 bw0_3 bw0_4 bw0_5 bw0_6 bw0_7 bw0_8 bg0_0 bg0_1 bg0_2 bg0_3 bg0_4 bg0_5 bg0_6 bg0_7 bg0_8
      have bw0_0 := Bw0.cell 0 (v := .int .i64 (nodeV a0 a1).fId) rfl
      have bw0_1 := Bw0.cell 1 (v := .int .i64 (nodeV a0 a1).fPeers) rfl
      have bw0_2 := Bw0.cell 2 (v := .int .i64 (nodeV a0 a1).fTerm) rfl
      have bw0_3 := Bw0.cell 3 (v := .int .i64 (nodeV a0 a1).fVote) rfl
      have bw0_4 := Bw0.cell 4 (v := pw0_4) rfl
      have bw0_5 := Bw0.cell 5 (v := .int .i64 (nodeV a0 a1).fCommit) rfl
      have bw0_6 := Bw0.cell 6 (v := .int .i64 (nodeV a0 a1).fRole) rfl
      have bw0_7 := Bw0.cell 7 (v := pw0_7) rfl
      have bw0_8 := Bw0.cell 8 (v := pw0_8) rfl
      have bg0_0 := Bg0.cell 0 (v := .int .i64 (nodeV a0 a1).fId) rfl
      have bg0_1 := Bg0.cell 1 (v := .int .i64 (nodeV a0 a1).fPeers) rfl
      have bg0_2 := Bg0.cell 2 (v := .int .i64 (nodeV a0 a1).fTerm) rfl
      have bg0_3 := Bg0.cell 3 (v := .int .i64 (nodeV a0 a1).fVote) rfl
      have bg0_4 := Bg0.cell 4 (v := pg0_4) rfl
      have bg0_5 := Bg0.cell 5 (v := .int .i64 (nodeV a0 a1).fCommit) rfl
      have bg0_6 := Bg0.cell 6 (v := .int .i64 (nodeV a0 a1).fRole) rfl
      have bg0_7 := Bg0.cell 7 (v := pg0_7) rfl
      have bg0_8 := Bg0.cell 8 (v := pg0_8) rfl
      have Xw0 := Lib.hid Bw0
      have Zw0 := Lib.hid Rw0
      have Xg0 := Lib.hid Bg0
      have Zg0 := Lib.hid Rg0
      clear Bw0 Rw0 Bg0 Rg0
      have nk10 : ¬ k1_ < 0 := by omega
      go_upto_region 13 with fail
      go_cut [11, 12] from 11 to 12 (fun s11 s12 wx => HasNewNode a0 a1 w5.heap.size w5 wx s11 ∧ s12 = .bool (nodeB a0 a1))
      case first =>
        have yw0 : gw0 < w5.heap.size := Xw0.out.lt
        have yg0 : gg0 < w5.heap.size := Xg0.out.lt
        have yh := HB5.out.size
        go_wp2_with (first
            | (go_at_call 12; (refine (iNewNode_k h0 h1).mono ?_; rintro e wz ⟨cd0, FD0, rfl, rd0, rd_1, rd_2, hc⟩; have zs_c := hc.size; (try simp at zs_c); obtain ⟨pd0_4, pd0_7, pd0_8, FD0_4, FD0_7, FD0_8, rfl, rfl, pd0_r4, pd0_r7, pd0_r8⟩ := kRaftNode_open rd0; obtain ⟨pd0_A4, pd0_C4, rfl, _, _⟩ := Rp.Row_K pd0_r4; obtain ⟨pd0_A7, pd0_C7, rfl, _, _⟩ := Rp.Row_K pd0_r7; obtain ⟨pd0_A8, pd0_C8, rfl, _, _⟩ := Rp.Row_K pd0_r8; (first | have BG0 := Box.below BG0 hc | have BG0 := Box.below (Box.drew (Box.new (T := 25) (cs := #[.int .i64 0, .int .i64 0, .int .i64 0, .int .i64 0, .slice none 0 0, .int .i64 0, .int .i64 0, .slice none 0 0, .slice none 0 0]) rfl)) hc | have BG0 := Box.below (Box.new (T := 25) (cs := #[.int .i64 0, .int .i64 0, .int .i64 0, .int .i64 0, .slice none 0 0, .int .i64 0, .int .i64 0, .slice none 0 0, .slice none 0 0]) rfl) hc | skip); (try (have q0_0 := BG0.cell 0 (v := .int .i64 0) rfl; have q0_1 := BG0.cell 1 (v := .int .i64 0) rfl; have q0_2 := BG0.cell 2 (v := .int .i64 0) rfl; have q0_3 := BG0.cell 3 (v := .int .i64 0) rfl; have q0_4 := BG0.cell 4 (v := .slice none 0 0) rfl; have q0_5 := BG0.cell 5 (v := .int .i64 0) rfl; have q0_6 := BG0.cell 6 (v := .int .i64 0) rfl; have q0_7 := BG0.cell 7 (v := .slice none 0 0) rfl; have q0_8 := BG0.cell 8 (v := .slice none 0 0) rfl; have fg0 := BG0.fro)))))
        all_goals (go_meet; go_light)
        all_goals
          have K : Below w5.heap.size w5 wz := (by repeat (first | assumption | (with_reducible exact Below.refl _ _) | (with_reducible refine below_call ?_ hc) | (with_reducible refine below_call ?_ hb0) | (with_reducible refine below_call ?_ hb1) | (with_reducible refine below_call ?_ hb) | (with_reducible refine Below.drew ?_) | (with_reducible refine below_alloc2 ?_ _)))
          first
            | (refine ⟨?_, rfl⟩; with_reducible refine Has.new (d := kRaftNode) (kRaftNode_make pd0_r4 pd0_r7 pd0_r8) rd_2 ?_ K (Nat.le_refl _); exact (fun b hm => by have := rd_1 b hm; first | omega | (simp at this; omega)))
            | (refine ⟨?_, rfl⟩; exact Has.old (d := kRaftNode) (kRaftNode_make pd0_r4 pd0_r7 pd0_r8) rd_2 (fun b hm => by have := rd_1 b hm; first | omega | (simp at this; omega)) K BG0 (by first | omega | (simp; omega) | (simp; done)) (Nat.le_refl _) rfl)
      case rest =>
        rename World => w6
        obtain ⟨⟨gh0, Fh0, _, rfl, Bh0, Rh0, Nh0, dh0, eh0, hb⟩, rfl⟩ := hcut
        obtain ⟨ph0_4, ph0_7, ph0_8, Fh0_4, Fh0_7, Fh0_8, rfl, rfl, rh0_4, rh0_7, rh0_8⟩ := kRaftNode_open Rh0
        have Rh0 := kRaftNode_make rh0_4 rh0_7 rh0_8
        clear rh0_4 rh0_7 rh0_8
        have Dh0 := fun b hb => (dh0 b hb).1; have Nh0_h0 := fun b hb => (dh0 b hb).2; clear dh0
        have eh0 := And.intro eh0 Bh0.lt
        have Eh0 := kRaftNode.M_lt Rh0
        have zzh0 := hb.size
        have soh0 := sz0
        replace sz0 := Nat.le_trans sz0 hb.size
        have Bw0 := Xw0.out.below hb
        have Rw0 := Rp.M_below Zw0.out hb
        have Bg0 := Xg0.out.below hb
        have Rg0 := Rp.M_below Zg0.out hb
        have HB6 := Lib.hid (HB5.out.trans (hb.mono HB5.out.size))
        clear Xw0 Zw0 Xg0 Zg0 HB5 hb
        clear bw0_0 bw0_1 bw0_2 bw0_3 bw0_4 bw0_5 bw0_6 bw0_7 bw0_8 bg0_0 bg0_1 bg0_2 bg0_3 bg0_4 bg0_5 bg0_6 bg0_7 bg0_8
        have bw0_0 := Bw0.cell 0 (v := .int .i64 (nodeV a0 a1).fId) rfl
        have bw0_1 := Bw0.cell 1 (v := .int .i64 (nodeV a0 a1).fPeers) rfl
        have bw0_2 := Bw0.cell 2 (v := .int .i64 (nodeV a0 a1).fTerm) rfl
        have bw0_3 := Bw0.cell 3 (v := .int .i64 (nodeV a0 a1).fVote) rfl
        have bw0_4 := Bw0.cell 4 (v := pw0_4) rfl
        have bw0_5 := Bw0.cell 5 (v := .int .i64 (nodeV a0 a1).fCommit) rfl
        have bw0_6 := Bw0.cell 6 (v := .int .i64 (nodeV a0 a1).fRole) rfl
        have bw0_7 := Bw0.cell 7 (v := pw0_7) rfl
        have bw0_8 := Bw0.cell 8 (v := pw0_8) rfl
        have bg0_0 := Bg0.cell 0 (v := .int .i64 (nodeV a0 a1).fId) rfl
        have bg0_1 := Bg0.cell 1 (v := .int .i64 (nodeV a0 a1).fPeers) rfl
        have bg0_2 := Bg0.cell 2 (v := .int .i64 (nodeV a0 a1).fTerm) rfl
        have bg0_3 := Bg0.cell 3 (v := .int .i64 (nodeV a0 a1).fVote) rfl
        have bg0_4 := Bg0.cell 4 (v := pg0_4) rfl
        have bg0_5 := Bg0.cell 5 (v := .int .i64 (nodeV a0 a1).fCommit) rfl
        have bg0_6 := Bg0.cell 6 (v := .int .i64 (nodeV a0 a1).fRole) rfl
        have bg0_7 := Bg0.cell 7 (v := pg0_7) rfl
        have bg0_8 := Bg0.cell 8 (v := pg0_8) rfl
        have bh0_0 := Bh0.cell 0 (v := .int .i64 (nodeV a0 a1).fId) rfl
        have bh0_1 := Bh0.cell 1 (v := .int .i64 (nodeV a0 a1).fPeers) rfl
        have bh0_2 := Bh0.cell 2 (v := .int .i64 (nodeV a0 a1).fTerm) rfl
        have bh0_3 := Bh0.cell 3 (v := .int .i64 (nodeV a0 a1).fVote) rfl
        have bh0_4 := Bh0.cell 4 (v := ph0_4) rfl
        have bh0_5 := Bh0.cell 5 (v := .int .i64 (nodeV a0 a1).fCommit) rfl
        have bh0_6 := Bh0.cell 6 (v := .int .i64 (nodeV a0 a1).fRole) rfl
        have bh0_7 := Bh0.cell 7 (v := ph0_7) rfl
        have bh0_8 := Bh0.cell 8 (v := ph0_8) rfl
        have Xw0 := Lib.hid Bw0
        have Zw0 := Lib.hid Rw0
        have Xg0 := Lib.hid Bg0
        have Zg0 := Lib.hid Rg0
        have Xh0 := Lib.hid Bh0
        have Zh0 := Lib.hid Rh0
        clear Bw0 Rw0 Bg0 Rg0 Bh0 Rh0
        go_wp2_with fail
        (with_reducible refine (eqRaftNode_k (kRaftNode.M_K Zh0.out) (kRaftNode.M_K Zw0.out) (smRaftNode_le y0 (by decide))).mono ?_)
        rintro e w7 ⟨rfl, hb⟩
        replace sz0 := Nat.le_trans sz0 hb.size
        have Bw0 := Xw0.out.below hb
        have Rw0 := Rp.M_below Zw0.out hb
        have Bg0 := Xg0.out.below hb
        have Rg0 := Rp.M_below Zg0.out hb
        have Bh0 := Xh0.out.below hb
        have Rh0 := Rp.M_below Zh0.out hb
        have HB7 := Lib.hid (HB6.out.trans (hb.mono HB6.out.size))
        clear Xw0 Zw0 Xg0 Zg0 Xh0 Zh0 HB6 hb
        clear bw0_0 bw0_1 bw0_2 bw0_3 bw0_4 bw0_5 bw0_6 bw0_7 bw0_8 bg0_0 bg0_1 bg0_2 bg0_3 bg0_4 bg0_5 bg0_6 bg0_7 bg0_8 bh0_0 bh0_1 bh0_2 bh0_3 bh0_4 bh0_5 bh0_6 bh0_7 bh0_8
        have bw0_0 := Bw0.cell 0 (v := .int .i64 (nodeV a0 a1).fId) rfl
        have bw0_1 := Bw0.cell 1 (v := .int .i64 (nodeV a0 a1).fPeers) rfl
        have bw0_2 := Bw0.cell 2 (v := .int .i64 (nodeV a0 a1).fTerm) rfl
        have bw0_3 := Bw0.cell 3 (v := .int .i64 (nodeV a0 a1).fVote) rfl
        have bw0_4 := Bw0.cell 4 (v := pw0_4) rfl
        have bw0_5 := Bw0.cell 5 (v := .int .i64 (nodeV a0 a1).fCommit) rfl
        have bw0_6 := Bw0.cell 6 (v := .int .i64 (nodeV a0 a1).fRole) rfl
        have bw0_7 := Bw0.cell 7 (v := pw0_7) rfl
        have bw0_8 := Bw0.cell 8 (v := pw0_8) rfl
        have bg0_0 := Bg0.cell 0 (v := .int .i64 (nodeV a0 a1).fId) rfl
        have bg0_1 := Bg0.cell 1 (v := .int .i64 (nodeV a0 a1).fPeers) rfl
        have bg0_2 := Bg0.cell 2 (v := .int .i64 (nodeV a0 a1).fTerm) rfl
        have bg0_3 := Bg0.cell 3 (v := .int .i64 (nodeV a0 a1).fVote) rfl
        have bg0_4 := Bg0.cell 4 (v := pg0_4) rfl
        have bg0_5 := Bg0.cell 5 (v := .int .i64 (nodeV a0 a1).fCommit) rfl
        have bg0_6 := Bg0.cell 6 (v := .int .i64 (nodeV a0 a1).fRole) rfl
        have bg0_7 := Bg0.cell 7 (v := pg0_7) rfl
        have bg0_8 := Bg0.cell 8 (v := pg0_8) rfl
        have bh0_0 := Bh0.cell 0 (v := .int .i64 (nodeV a0 a1).fId) rfl
        have bh0_1 := Bh0.cell 1 (v := .int .i64 (nodeV a0 a1).fPeers) rfl
        have bh0_2 := Bh0.cell 2 (v := .int .i64 (nodeV a0 a1).fTerm) rfl
        have bh0_3 := Bh0.cell 3 (v := .int .i64 (nodeV a0 a1).fVote) rfl
        have bh0_4 := Bh0.cell 4 (v := ph0_4) rfl
        have bh0_5 := Bh0.cell 5 (v := .int .i64 (nodeV a0 a1).fCommit) rfl
        have bh0_6 := Bh0.cell 6 (v := .int .i64 (nodeV a0 a1).fRole) rfl
        have bh0_7 := Bh0.cell 7 (v := ph0_7) rfl
        have bh0_8 := Bh0.cell 8 (v := ph0_8) rfl
        have Xw0 := Lib.hid Bw0
        have Zw0 := Lib.hid Rw0
        have Xg0 := Lib.hid Bg0
        have Zg0 := Lib.hid Rg0
        have Xh0 := Lib.hid Bh0
        have Zh0 := Lib.hid Rh0
        clear Bw0 Rw0 Bg0 Rg0 Bh0 Rh0
        go_wp2_with fail
        (with_reducible refine (heldRaftNode_k (kRaftNode.M_K Zg0.out) (by omega) (by rw [hk1]; omega) (smRaftNode_le y0 (by decide))).mono ?_)
        rintro e w8 ⟨rfl, hb⟩
        rw [hk1]
        replace sz0 := Nat.le_trans sz0 hb.size
        have Bw0 := Xw0.out.below hb
        have Rw0 := Rp.M_below Zw0.out hb
        have Bg0 := Xg0.out.below hb
        have Rg0 := Rp.M_below Zg0.out hb
        have Bh0 := Xh0.out.below hb
        have Rh0 := Rp.M_below Zh0.out hb
        have HB8 := Lib.hid (HB7.out.trans (hb.mono HB7.out.size))
        clear Xw0 Zw0 Xg0 Zg0 Xh0 Zh0 HB7 hb
        clear bw0_0 bw0_1 bw0_2 bw0_3 bw0_4 bw0_5 bw0_6 bw0_7 bw0_8 bg0_0 bg0_1 bg0_2 bg0_3 bg0_4 bg0_5 bg0_6 bg0_7 bg0_8 bh0_0 bh0_1 bh0_2 bh0_3 bh0_4 bh0_5 bh0_6 bh0_7 bh0_8
        have bw0_0 := Bw0.cell 0 (v := .int .i64 (nodeV a0 a1).fId) rfl
        have bw0_1 := Bw0.cell 1 (v := .int .i64 (nodeV a0 a1).fPeers) rfl
        have bw0_2 := Bw0.cell 2 (v := .int .i64 (nodeV a0 a1).fTerm) rfl
        have bw0_3 := Bw0.cell 3 (v := .int .i64 (nodeV a0 a1).fVote) rfl
        have bw0_4 := Bw0.cell 4 (v := pw0_4) rfl
        have bw0_5 := Bw0.cell 5 (v := .int .i64 (nodeV a0 a1).fCommit) rfl
        have bw0_6 := Bw0.cell 6 (v := .int .i64 (nodeV a0 a1).fRole) rfl
        have bw0_7 := Bw0.cell 7 (v := pw0_7) rfl
        have bw0_8 := Bw0.cell 8 (v := pw0_8) rfl
        have bg0_0 := Bg0.cell 0 (v := .int .i64 (nodeV a0 a1).fId) rfl
        have bg0_1 := Bg0.cell 1 (v := .int .i64 (nodeV a0 a1).fPeers) rfl
        have bg0_2 := Bg0.cell 2 (v := .int .i64 (nodeV a0 a1).fTerm) rfl
        have bg0_3 := Bg0.cell 3 (v := .int .i64 (nodeV a0 a1).fVote) rfl
        have bg0_4 := Bg0.cell 4 (v := pg0_4) rfl
        have bg0_5 := Bg0.cell 5 (v := .int .i64 (nodeV a0 a1).fCommit) rfl
        have bg0_6 := Bg0.cell 6 (v := .int .i64 (nodeV a0 a1).fRole) rfl
        have bg0_7 := Bg0.cell 7 (v := pg0_7) rfl
        have bg0_8 := Bg0.cell 8 (v := pg0_8) rfl
        have bh0_0 := Bh0.cell 0 (v := .int .i64 (nodeV a0 a1).fId) rfl
        have bh0_1 := Bh0.cell 1 (v := .int .i64 (nodeV a0 a1).fPeers) rfl
        have bh0_2 := Bh0.cell 2 (v := .int .i64 (nodeV a0 a1).fTerm) rfl
        have bh0_3 := Bh0.cell 3 (v := .int .i64 (nodeV a0 a1).fVote) rfl
        have bh0_4 := Bh0.cell 4 (v := ph0_4) rfl
        have bh0_5 := Bh0.cell 5 (v := .int .i64 (nodeV a0 a1).fCommit) rfl
        have bh0_6 := Bh0.cell 6 (v := .int .i64 (nodeV a0 a1).fRole) rfl
        have bh0_7 := Bh0.cell 7 (v := ph0_7) rfl
        have bh0_8 := Bh0.cell 8 (v := ph0_8) rfl
        have Xw0 := Lib.hid Bw0
        have Zw0 := Lib.hid Rw0
        have Xg0 := Lib.hid Bg0
        have Zg0 := Lib.hid Rg0
        have Xh0 := Lib.hid Bh0
        have Zh0 := Lib.hid Rh0
        clear Bw0 Rw0 Bg0 Rg0 Bh0 Rh0
        have nk12 : ¬ k1_ < 0 := by omega
        go_wp2
        go_ret
        exact ⟨rfl, HB8.out⟩
end Go.Proofs.Ytafembhkindfmaa
