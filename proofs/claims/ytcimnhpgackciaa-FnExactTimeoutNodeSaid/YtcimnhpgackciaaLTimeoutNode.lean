/- Law FnExactTimeoutNode: at every input it returns true; what was there stays. -/
import Derived.Test.YtcimnhpgackciaaToK
namespace Go.Proofs.Ytcimnhpgackciaa
open Go Go.RowKit Go.Sort
set_option linter.unusedVariables false
set_option linter.unusedSimpArgs false

/-- A struct in a variable of its own, and a slice beside it. -/
def Has2 {α β : Type} (d : Rp α) (T : TypeId) (x : α) (d2 : Rp β) (y : β) (N : Nat) (w wx : World) (s u : Value) : Prop :=
  ∃ g F cs G v, s = .pointer (some ⟨g, 0, none⟩) ∧ u = v ∧ Box wx g cs.toArray T ∧ d.M wx F x cs ∧ d2.M wx G y [v] ∧ F.Nodup ∧ G.Nodup ∧ (∀ b ∈ F, N ≤ b ∧ b ≠ g) ∧ (∀ b ∈ G, N ≤ b ∧ b ≠ g) ∧ (∀ b ∈ F, b ∉ G) ∧ N ≤ g ∧ Below N w wx
theorem Has2.old {α β : Type} {d : Rp α} {T : TypeId} {x : α} {d2 : Rp β} {y : β} {N : Nat} {w wa : World} {F G : List Nat} {cs : List Value} {v : Value} {z : Array Value} {g : Nat} (hm : d.M wa F x cs) (hm2 : d2.M wa G y [v]) (hn : (F ++ G).Nodup) (hF : ∀ b ∈ F ++ G, N ≤ b ∧ b ≠ g) (hb : Below N w wa)
    (B : Box wa g z T) (hg : N ≤ g) (hN : N ≤ w.heap.size) (hz : z.size = cs.length) : Has2 d T x d2 y N w (Rp.setN wa g 0 cs) (.pointer (some ⟨g, 0, none⟩)) v := by
  obtain ⟨hk, bf⟩ := B.stored cs 0
  rw [setA_all hz] at bf
  obtain ⟨n1, n2, n3⟩ := List.nodup_append.1 hn
  exact ⟨g, F, cs, G, v, rfl, rfl, bf, d.M_move (fun b h => hk.block b (d.M_lt hm b h) (by simpa using (hF b (List.mem_append_left _ h)).2)) hm, d2.M_move (fun b h => hk.block b (d2.M_lt hm2 b h) (by simpa using (hF b (List.mem_append_right _ h)).2)) hm2, n1, n2, fun b h => hF b (List.mem_append_left _ h), fun b h => hF b (List.mem_append_right _ h), fun b h1 h2 => n3 b h1 b h2 rfl, hg, hb.trans (hk.toBelow (Nat.le_trans hN hb.size) (by simpa using hg))⟩
theorem Has2.new {α β : Type} {d : Rp α} {T : TypeId} {x : α} {d2 : Rp β} {y : β} {N : Nat} {w wa : World} {F G : List Nat} {cs : List Value} {v : Value} (hm : d.M wa F x cs) (hm2 : d2.M wa G y [v]) (hn : (F ++ G).Nodup) (hF : ∀ b ∈ F ++ G, N ≤ b) (hb : Below N w wa)
    (hN : N ≤ w.heap.size) : Has2 d T x d2 y N w (wa.alloc (.cells cs.toArray T)) (.pointer (some ⟨wa.heap.size, 0, none⟩)) v := by
  obtain ⟨n1, n2, n3⟩ := List.nodup_append.1 hn
  exact ⟨_, F, cs, G, v, rfl, rfl, Box.new rfl, Rp.M_below hm ((Below.refl _ _).alloc (Nat.le_refl _) _), Rp.M_below hm2 ((Below.refl _ _).alloc (Nat.le_refl _) _), n1, n2, fun b h => ⟨hF b (List.mem_append_left _ h), fun e => by have := d.M_lt hm b h; omega⟩, fun b h => ⟨hF b (List.mem_append_right _ h), fun e => by have := d2.M_lt hm2 b h; omega⟩, fun b h1 h2 => n3 b h1 b h2 rfl, Nat.le_trans hN hb.size, hb.alloc (Nat.le_trans hN hb.size) _⟩
abbrev HasTimeoutNode (a0 : DRaftNode) (N : Nat) (w wx : World) (s u : Value) : Prop := Has2 kRaftNode 29 (tmV a0) kRaftMsgS (tmM a0) N w wx s u
set_option maxHeartbeats 4000000 in
set_option maxRecDepth 100000 in
theorem law_TimeoutNode (a0 : DRaftNode) (v0_4 v0_7 v0_8 : Value) (w : World) (g0 : kRaftNode.K w a0 [.int .i64 a0.fId, .int .i64 a0.fPeers, .int .i64 a0.fTerm, .int .i64 a0.fVote, v0_4, .int .i64 a0.fCommit, .int .i64 a0.fRole, v0_7, v0_8]) (h0 : wfRaftNode a0) (y0 : smRaftNode 1048576 a0 → smRaftNode 4194304 (tmV a0)) (y1 : smRaftNode 1048576 a0 → smRaftMsgS 4194304 (tmM a0)) : Calls Try.prog 3 #[.agg #[.int .i64 a0.fId, .int .i64 a0.fPeers, .int .i64 a0.fTerm, .int .i64 a0.fVote, v0_4, .int .i64 a0.fCommit, .int .i64 a0.fRole, v0_7, v0_8]] w
    fun e w' => e = .returned (.bool true) ∧ Below w.heap.size w w' := by
  have G0 := Lib.hid g0; clear g0
  go_enter Try.func3, Try.ntmps3
  go_wp2_with fail
  (with_reducible refine (szRaftNode_k (kRaftNode.K_below ((by repeat (first | (with_reducible exact Below.refl _ _) | (with_reducible refine Below.alloc ?_ (by first | (with_reducible exact Nat.le_refl _) | (simp; done) | (simp; omega)) _))) : Below w.heap.size w _).block G0.out) (by omega) (by omega) h0).mono ?_)
  rintro e w1 ⟨rfl, hb⟩
  have Ba0 : Box w1 w.heap.size #[.int .i64 a0.fId, .int .i64 a0.fPeers, .int .i64 a0.fTerm, .int .i64 a0.fVote, v0_4, .int .i64 a0.fCommit, .int .i64 a0.fRole, v0_7, v0_8] 25 := Box.below (Box.new rfl) hb
  have HB1 := Lib.hid (Below.trans (by repeat (first | (with_reducible exact Below.refl _ _) | (with_reducible refine Below.alloc ?_ (by first | (with_reducible exact Nat.le_refl _) | (simp; done) | (simp; omega)) _))) (hb.mono (by first | (with_reducible exact Nat.le_refl _) | (simp; done) | (simp; omega))) : Below w.heap.size w w1)
  have sz0 : w.heap.size + 1 ≤ w1.heap.size := by have := hb.size; (try simp at this); omega
  clear hb
  have ba0_0 := Ba0.cell 0 (v := .int .i64 a0.fId) rfl
  have ba0_1 := Ba0.cell 1 (v := .int .i64 a0.fPeers) rfl
  have ba0_2 := Ba0.cell 2 (v := .int .i64 a0.fTerm) rfl
  have ba0_3 := Ba0.cell 3 (v := .int .i64 a0.fVote) rfl
  have ba0_4 := Ba0.cell 4 (v := v0_4) rfl
  have ba0_5 := Ba0.cell 5 (v := .int .i64 a0.fCommit) rfl
  have ba0_6 := Ba0.cell 6 (v := .int .i64 a0.fRole) rfl
  have ba0_7 := Ba0.cell 7 (v := v0_7) rfl
  have ba0_8 := Ba0.cell 8 (v := v0_8) rfl
  have Xa0 := Lib.hid Ba0
  clear Ba0
  by_cases z0 : (szNRaftNode a0 : Int) ≤ 1048576
  case neg =>
    rw [szR_no z0]
    go_wp2
    go_ret
    exact ⟨rfl, HB1.out⟩
  case pos =>
    rw [szR_yes z0]
    replace y0 := y0 (szRaftNode_sm (n := 1048576) (x := a0) (by omega)) 
    replace y1 := y1 (szRaftNode_sm (n := 1048576) (x := a0) (by omega)) 
    go_upto_region 5 with fail
    go_cut [4, 5, 6] from 4 to 6 (fun s4 s5 s6 wx => HasTimeoutNode a0 w1.heap.size w1 wx s4 s5 ∧ s6 = .bool (tmOk a0))
    case first =>
      have ya0 : w.heap.size < w1.heap.size := Xa0.out.lt
      have yh := HB1.out.size
      go_wp2_with (first
          | (go_at_call 6; ((with_reducible refine (toRaftNode_k (kRaftNode.K_below (HB1.out.trans (Below.mono (by repeat (first | assumption | (with_reducible exact Below.refl _ _) | (with_reducible refine below_call ?_ hc) | (with_reducible refine below_call ?_ hb0) | (with_reducible refine below_call ?_ hb) | (with_reducible refine Below.drew ?_) | (with_reducible refine below_alloc2 ?_ _))) HB1.out.size)).block G0.out) (szRaftNode_sm (n := 1048576) (x := a0) (by omega))).mono ?_); rintro e wt0 ⟨ds0, F0_, rfl, ra0, rb0, rc0, hb0⟩; have zs0 := hb0.size; (try simp at zs0); (first | have BG0 := Box.below BG0 hb0 | have BG0 := Box.below (Box.drew (Box.new (T := 29) (cs := #[.int .i64 0, .int .i64 0, .int .i64 0, .int .i64 0, .slice none 0 0, .int .i64 0, .int .i64 0, .slice none 0 0, .slice none 0 0]) rfl)) hb0 | have BG0 := Box.below (Box.new (T := 29) (cs := #[.int .i64 0, .int .i64 0, .int .i64 0, .int .i64 0, .slice none 0 0, .int .i64 0, .int .i64 0, .slice none 0 0, .slice none 0 0]) rfl) hb0 | skip)))
          | (go_at_call 5; ((with_reducible refine (sTimeoutNode_k (kRaftNode.K_below ((by repeat (first | assumption | (with_reducible exact Below.refl _ _) | (with_reducible refine below_call ?_ hc) | (with_reducible refine below_call ?_ hb0) | (with_reducible refine below_call ?_ hb) | (with_reducible refine Below.drew ?_) | (with_reducible refine below_alloc2 ?_ _))) : Below _ _ _).block (kRaftNode.M_K ra0)) h0 (by have := (szRaftNode_sm (n := 1048576) (x := a0) (by omega)); exact this)).mono ?_); rintro e wz ⟨cd0, FD0, cd1, FD1, rfl, rd0, rd1, rd_1, rd_2, hc⟩; have zs_c := hc.size; (try simp at zs_c); obtain ⟨pd0_4, pd0_7, pd0_8, FD0_4, FD0_7, FD0_8, rfl, rfl, pd0_r4, pd0_r7, pd0_r8⟩ := kRaftNode_open rd0; obtain ⟨pd0_A4, pd0_C4, rfl, _, _⟩ := Rp.Row_K pd0_r4; obtain ⟨pd0_A7, pd0_C7, rfl, _, _⟩ := Rp.Row_K pd0_r7; obtain ⟨pd0_A8, pd0_C8, rfl, _, _⟩ := Rp.Row_K pd0_r8; (first | have BG0 := Box.below BG0 hc | have BG0 := Box.below (Box.drew (Box.new (T := 29) (cs := #[.int .i64 0, .int .i64 0, .int .i64 0, .int .i64 0, .slice none 0 0, .int .i64 0, .int .i64 0, .slice none 0 0, .slice none 0 0]) rfl)) hc | have BG0 := Box.below (Box.new (T := 29) (cs := #[.int .i64 0, .int .i64 0, .int .i64 0, .int .i64 0, .slice none 0 0, .int .i64 0, .int .i64 0, .slice none 0 0, .slice none 0 0]) rfl) hc | skip); (try (have q0_0 := BG0.cell 0 (v := .int .i64 0) rfl; have q0_1 := BG0.cell 1 (v := .int .i64 0) rfl; have q0_2 := BG0.cell 2 (v := .int .i64 0) rfl; have q0_3 := BG0.cell 3 (v := .int .i64 0) rfl; have q0_4 := BG0.cell 4 (v := .slice none 0 0) rfl; have q0_5 := BG0.cell 5 (v := .int .i64 0) rfl; have q0_6 := BG0.cell 6 (v := .int .i64 0) rfl; have q0_7 := BG0.cell 7 (v := .slice none 0 0) rfl; have q0_8 := BG0.cell 8 (v := .slice none 0 0) rfl; have fg0 := BG0.fro)))))
      all_goals (go_meet; go_light)
      all_goals
        have K : Below w1.heap.size w1 wz := (by repeat (first | assumption | (with_reducible exact Below.refl _ _) | (with_reducible refine below_call ?_ hc) | (with_reducible refine below_call ?_ hb0) | (with_reducible refine below_call ?_ hb) | (with_reducible refine Below.drew ?_) | (with_reducible refine below_alloc2 ?_ _)))
        first
          | (refine ⟨?_, rfl⟩; with_reducible refine Has2.new (d := kRaftNode) (d2 := kRaftMsgS) (kRaftNode_make pd0_r4 pd0_r7 pd0_r8) rd1 rd_2 ?_ K (Nat.le_refl _); exact (fun b hm => by have := rd_1 b hm; first | omega | (simp at this; omega)))
          | (refine ⟨?_, rfl⟩; exact Has2.old (d := kRaftNode) (d2 := kRaftMsgS) (kRaftNode_make pd0_r4 pd0_r7 pd0_r8) rd1 rd_2 (fun b hm => by have := rd_1 b hm; first | omega | (simp at this; omega)) K BG0 (by first | omega | (simp; omega) | (simp; done)) (Nat.le_refl _) rfl)
    case rest =>
      rename World => w2
      obtain ⟨⟨gw0, Fw0, _, Fw1, pw1_, rfl, rfl, Bw0, Rw0, Rw1, Nw0, Nw1, dw0, dw1, Jw0_w1, ew0, hb⟩, rfl⟩ := hcut
      obtain ⟨pw0_4, pw0_7, pw0_8, Fw0_4, Fw0_7, Fw0_8, rfl, rfl, rw0_4, rw0_7, rw0_8⟩ := kRaftNode_open Rw0
      have Rw0 := kRaftNode_make rw0_4 rw0_7 rw0_8
      clear rw0_4 rw0_7 rw0_8
      have Jw1_w0 := fun b h1 h2 => Jw0_w1 b h2 h1
      have Dw0 := fun b hb => (dw0 b hb).1; have Nw0_w0 := fun b hb => (dw0 b hb).2; clear dw0
      have Dw1 := fun b hb => (dw1 b hb).1; have Nw1_w0 := fun b hb => (dw1 b hb).2; clear dw1
      have ew0 := And.intro ew0 Bw0.lt
      have Ew0 := kRaftNode.M_lt Rw0
      have Ew1 := kRaftMsgS.M_lt Rw1
      have zzw0 := hb.size
      have zzw1 := hb.size
      have sow0 := sz0
      have sow1 := sz0
      replace sz0 := Nat.le_trans sz0 hb.size
      have Ba0 := Xa0.out.below hb
      have HB2 := Lib.hid (HB1.out.trans (hb.mono HB1.out.size))
      clear Xa0 HB1 hb
      clear ba0_0 ba0_1 ba0_2 ba0_3 ba0_4 ba0_5 ba0_6 ba0_7 ba0_8
      have ba0_0 := Ba0.cell 0 (v := .int .i64 a0.fId) rfl
      have ba0_1 := Ba0.cell 1 (v := .int .i64 a0.fPeers) rfl
      have ba0_2 := Ba0.cell 2 (v := .int .i64 a0.fTerm) rfl
      have ba0_3 := Ba0.cell 3 (v := .int .i64 a0.fVote) rfl
      have ba0_4 := Ba0.cell 4 (v := v0_4) rfl
      have ba0_5 := Ba0.cell 5 (v := .int .i64 a0.fCommit) rfl
      have ba0_6 := Ba0.cell 6 (v := .int .i64 a0.fRole) rfl
      have ba0_7 := Ba0.cell 7 (v := v0_7) rfl
      have ba0_8 := Ba0.cell 8 (v := v0_8) rfl
      have bw0_0 := Bw0.cell 0 (v := .int .i64 (tmV a0).fId) rfl
      have bw0_1 := Bw0.cell 1 (v := .int .i64 (tmV a0).fPeers) rfl
      have bw0_2 := Bw0.cell 2 (v := .int .i64 (tmV a0).fTerm) rfl
      have bw0_3 := Bw0.cell 3 (v := .int .i64 (tmV a0).fVote) rfl
      have bw0_4 := Bw0.cell 4 (v := pw0_4) rfl
      have bw0_5 := Bw0.cell 5 (v := .int .i64 (tmV a0).fCommit) rfl
      have bw0_6 := Bw0.cell 6 (v := .int .i64 (tmV a0).fRole) rfl
      have bw0_7 := Bw0.cell 7 (v := pw0_7) rfl
      have bw0_8 := Bw0.cell 8 (v := pw0_8) rfl
      have Xa0 := Lib.hid Ba0
      have Xw0 := Lib.hid Bw0
      have Zw0 := Lib.hid Rw0
      have Zw1 := Lib.hid Rw1
      clear Ba0 Bw0 Rw0 Rw1
      go_upto_region 6 with fail
      go_cut [7] from 7 to 7 (fun s wx => Has kRaftNode 29 a0 w2.heap.size w2 wx s)
      case first =>
        go_wp2_with fail
        (with_reducible refine (toRaftNode_k (kRaftNode.K_below HB2.out.block G0.out) (szRaftNode_sm (n := 1048576) (x := a0) (by omega))).mono ?_)
        rintro e wa ⟨ds, F, rfl, ra, rb, rc, hb⟩
        obtain ⟨pa4, pa7, pa8, F_4, F_7, F_8, rfl, rfl, par4, par7, par8⟩ := kRaftNode_open ra; obtain ⟨paA4, paC4, rfl, _, _⟩ := Rp.Row_K par4; obtain ⟨paA7, paC7, rfl, _, _⟩ := Rp.Row_K par7; obtain ⟨paA8, paC8, rfl, _, _⟩ := Rp.Row_K par8
        go_wp2_with fail
        go_meet
        exact Has.new (d := kRaftNode) (kRaftNode_make par4 par7 par8) rc rb hb (Nat.le_refl _)
      case rest =>
        rename World => w3
        obtain ⟨gx0, Fx0, _, rfl, Bx0, Rx0, Nx0, dx0, ex0, hb⟩ := hcut
        obtain ⟨px0_4, px0_7, px0_8, Fx0_4, Fx0_7, Fx0_8, rfl, rfl, rx0_4, rx0_7, rx0_8⟩ := kRaftNode_open Rx0
        have Rx0 := kRaftNode_make rx0_4 rx0_7 rx0_8
        clear rx0_4 rx0_7 rx0_8
        have Dx0 := fun b hb => (dx0 b hb).1; have Nx0_x0 := fun b hb => (dx0 b hb).2; clear dx0
        have ex0 := And.intro ex0 Bx0.lt
        have Ex0 := kRaftNode.M_lt Rx0
        have zzx0 := hb.size
        have sox0 := sz0
        replace sz0 := Nat.le_trans sz0 hb.size
        have Ba0 := Xa0.out.below hb
        have Bw0 := Xw0.out.below hb
        have Rw0 := Rp.M_below Zw0.out hb
        have Rw1 := Rp.M_below Zw1.out hb
        have HB3 := Lib.hid (HB2.out.trans (hb.mono HB2.out.size))
        clear Xa0 Xw0 Zw0 Zw1 HB2 hb
        clear ba0_0 ba0_1 ba0_2 ba0_3 ba0_4 ba0_5 ba0_6 ba0_7 ba0_8 bw0_0 bw0_1 bw0_2 bw0_3 bw0_4 bw0_5 bw0_6 bw0_7 bw0_8
        have ba0_0 := Ba0.cell 0 (v := .int .i64 a0.fId) rfl
        have ba0_1 := Ba0.cell 1 (v := .int .i64 a0.fPeers) rfl
        have ba0_2 := Ba0.cell 2 (v := .int .i64 a0.fTerm) rfl
        have ba0_3 := Ba0.cell 3 (v := .int .i64 a0.fVote) rfl
        have ba0_4 := Ba0.cell 4 (v := v0_4) rfl
        have ba0_5 := Ba0.cell 5 (v := .int .i64 a0.fCommit) rfl
        have ba0_6 := Ba0.cell 6 (v := .int .i64 a0.fRole) rfl
        have ba0_7 := Ba0.cell 7 (v := v0_7) rfl
        have ba0_8 := Ba0.cell 8 (v := v0_8) rfl
        have bw0_0 := Bw0.cell 0 (v := .int .i64 (tmV a0).fId) rfl
        have bw0_1 := Bw0.cell 1 (v := .int .i64 (tmV a0).fPeers) rfl
        have bw0_2 := Bw0.cell 2 (v := .int .i64 (tmV a0).fTerm) rfl
        have bw0_3 := Bw0.cell 3 (v := .int .i64 (tmV a0).fVote) rfl
        have bw0_4 := Bw0.cell 4 (v := pw0_4) rfl
        have bw0_5 := Bw0.cell 5 (v := .int .i64 (tmV a0).fCommit) rfl
        have bw0_6 := Bw0.cell 6 (v := .int .i64 (tmV a0).fRole) rfl
        have bw0_7 := Bw0.cell 7 (v := pw0_7) rfl
        have bw0_8 := Bw0.cell 8 (v := pw0_8) rfl
        have bx0_0 := Bx0.cell 0 (v := .int .i64 a0.fId) rfl
        have bx0_1 := Bx0.cell 1 (v := .int .i64 a0.fPeers) rfl
        have bx0_2 := Bx0.cell 2 (v := .int .i64 a0.fTerm) rfl
        have bx0_3 := Bx0.cell 3 (v := .int .i64 a0.fVote) rfl
        have bx0_4 := Bx0.cell 4 (v := px0_4) rfl
        have bx0_5 := Bx0.cell 5 (v := .int .i64 a0.fCommit) rfl
        have bx0_6 := Bx0.cell 6 (v := .int .i64 a0.fRole) rfl
        have bx0_7 := Bx0.cell 7 (v := px0_7) rfl
        have bx0_8 := Bx0.cell 8 (v := px0_8) rfl
        have Xa0 := Lib.hid Ba0
        have Xw0 := Lib.hid Bw0
        have Zw0 := Lib.hid Rw0
        have Zw1 := Lib.hid Rw1
        have Xx0 := Lib.hid Bx0
        have Zx0 := Lib.hid Rx0
        clear Ba0 Bw0 Rw0 Rw1 Bx0 Rx0
        go_upto_region 7 with fail
        go_cut [8, 9, 10] from 8 to 10 (fun s8 s9 s10 wx => HasTimeoutNode a0 w3.heap.size w3 wx s8 s9 ∧ s10 = .bool (tmOk a0))
        case first =>
          have ya0 : w.heap.size < w3.heap.size := Xa0.out.lt
          have yw0 : gw0 < w3.heap.size := Xw0.out.lt
          have yx0 : gx0 < w3.heap.size := Xx0.out.lt
          have yh := HB3.out.size
          go_wp2_with (first
              | (go_at_call 7; ((with_reducible refine (iTimeoutNode_k (kRaftNode.K_below ((by repeat (first | assumption | (with_reducible exact Below.refl _ _) | (with_reducible refine below_call ?_ hc) | (with_reducible refine below_call ?_ hb0) | (with_reducible refine below_call ?_ hb) | (with_reducible refine Below.drew ?_) | (with_reducible refine below_alloc2 ?_ _))) : Below _ _ _).block (kRaftNode.M_K Zx0.out)) h0 (by have := (szRaftNode_sm (n := 1048576) (x := a0) (by omega)); exact this)).mono ?_); rintro e wz ⟨cd0, FD0, cd1, FD1, rfl, rd0, rd1, rd_1, rd_2, hc⟩; have zs_c := hc.size; (try simp at zs_c); obtain ⟨pd0_4, pd0_7, pd0_8, FD0_4, FD0_7, FD0_8, rfl, rfl, pd0_r4, pd0_r7, pd0_r8⟩ := kRaftNode_open rd0; obtain ⟨pd0_A4, pd0_C4, rfl, _, _⟩ := Rp.Row_K pd0_r4; obtain ⟨pd0_A7, pd0_C7, rfl, _, _⟩ := Rp.Row_K pd0_r7; obtain ⟨pd0_A8, pd0_C8, rfl, _, _⟩ := Rp.Row_K pd0_r8; (first | have BG0 := Box.below BG0 hc | have BG0 := Box.below (Box.drew (Box.new (T := 29) (cs := #[.int .i64 0, .int .i64 0, .int .i64 0, .int .i64 0, .slice none 0 0, .int .i64 0, .int .i64 0, .slice none 0 0, .slice none 0 0]) rfl)) hc | have BG0 := Box.below (Box.new (T := 29) (cs := #[.int .i64 0, .int .i64 0, .int .i64 0, .int .i64 0, .slice none 0 0, .int .i64 0, .int .i64 0, .slice none 0 0, .slice none 0 0]) rfl) hc | skip); (try (have q0_0 := BG0.cell 0 (v := .int .i64 0) rfl; have q0_1 := BG0.cell 1 (v := .int .i64 0) rfl; have q0_2 := BG0.cell 2 (v := .int .i64 0) rfl; have q0_3 := BG0.cell 3 (v := .int .i64 0) rfl; have q0_4 := BG0.cell 4 (v := .slice none 0 0) rfl; have q0_5 := BG0.cell 5 (v := .int .i64 0) rfl; have q0_6 := BG0.cell 6 (v := .int .i64 0) rfl; have q0_7 := BG0.cell 7 (v := .slice none 0 0) rfl; have q0_8 := BG0.cell 8 (v := .slice none 0 0) rfl; have fg0 := BG0.fro)))))
          all_goals (go_meet; go_light)
          all_goals
            have K : Below w3.heap.size w3 wz := (by repeat (first | assumption | (with_reducible exact Below.refl _ _) | (with_reducible refine below_call ?_ hc) | (with_reducible refine below_call ?_ hb0) | (with_reducible refine below_call ?_ hb) | (with_reducible refine Below.drew ?_) | (with_reducible refine below_alloc2 ?_ _)))
            first
              | (refine ⟨?_, rfl⟩; with_reducible refine Has2.new (d := kRaftNode) (d2 := kRaftMsgS) (kRaftNode_make pd0_r4 pd0_r7 pd0_r8) rd1 rd_2 ?_ K (Nat.le_refl _); exact (fun b hm => by have := rd_1 b hm; first | omega | (simp at this; omega)))
              | (refine ⟨?_, rfl⟩; exact Has2.old (d := kRaftNode) (d2 := kRaftMsgS) (kRaftNode_make pd0_r4 pd0_r7 pd0_r8) rd1 rd_2 (fun b hm => by have := rd_1 b hm; first | omega | (simp at this; omega)) K BG0 (by first | omega | (simp; omega) | (simp; done)) (Nat.le_refl _) rfl)
        case rest =>
          rename World => w4
          obtain ⟨⟨gg0, Fg0, _, Fg1, pg1_, rfl, rfl, Bg0, Rg0, Rg1, Ng0, Ng1, dg0, dg1, Jg0_g1, eg0, hb⟩, rfl⟩ := hcut
          obtain ⟨pg0_4, pg0_7, pg0_8, Fg0_4, Fg0_7, Fg0_8, rfl, rfl, rg0_4, rg0_7, rg0_8⟩ := kRaftNode_open Rg0
          have Rg0 := kRaftNode_make rg0_4 rg0_7 rg0_8
          clear rg0_4 rg0_7 rg0_8
          have Jg1_g0 := fun b h1 h2 => Jg0_g1 b h2 h1
          have Dg0 := fun b hb => (dg0 b hb).1; have Ng0_g0 := fun b hb => (dg0 b hb).2; clear dg0
          have Dg1 := fun b hb => (dg1 b hb).1; have Ng1_g0 := fun b hb => (dg1 b hb).2; clear dg1
          have eg0 := And.intro eg0 Bg0.lt
          have Eg0 := kRaftNode.M_lt Rg0
          have Eg1 := kRaftMsgS.M_lt Rg1
          have zzg0 := hb.size
          have zzg1 := hb.size
          have sog0 := sz0
          have sog1 := sz0
          replace sz0 := Nat.le_trans sz0 hb.size
          have Ba0 := Xa0.out.below hb
          have Bw0 := Xw0.out.below hb
          have Rw0 := Rp.M_below Zw0.out hb
          have Rw1 := Rp.M_below Zw1.out hb
          have Bx0 := Xx0.out.below hb
          have Rx0 := Rp.M_below Zx0.out hb
          have HB4 := Lib.hid (HB3.out.trans (hb.mono HB3.out.size))
          clear Xa0 Xw0 Zw0 Zw1 Xx0 Zx0 HB3 hb
          clear ba0_0 ba0_1 ba0_2 ba0_3 ba0_4 ba0_5 ba0_6 ba0_7 ba0_8 bw0_0 bw0_1 bw0_2 bw0_3 bw0_4 bw0_5 bw0_6 bw0_7 bw0_8 bx0_0 bx0_1 bx0_2 bx0_3 bx0_4 bx0_5 bx0_6 bx0_7 bx0_8
          have ba0_0 := Ba0.cell 0 (v := .int .i64 a0.fId) rfl
          have ba0_1 := Ba0.cell 1 (v := .int .i64 a0.fPeers) rfl
          have ba0_2 := Ba0.cell 2 (v := .int .i64 a0.fTerm) rfl
          have ba0_3 := Ba0.cell 3 (v := .int .i64 a0.fVote) rfl
          have ba0_4 := Ba0.cell 4 (v := v0_4) rfl
          have ba0_5 := Ba0.cell 5 (v := .int .i64 a0.fCommit) rfl
          have ba0_6 := Ba0.cell 6 (v := .int .i64 a0.fRole) rfl
          have ba0_7 := Ba0.cell 7 (v := v0_7) rfl
          have ba0_8 := Ba0.cell 8 (v := v0_8) rfl
          have bw0_0 := Bw0.cell 0 (v := .int .i64 (tmV a0).fId) rfl
          have bw0_1 := Bw0.cell 1 (v := .int .i64 (tmV a0).fPeers) rfl
          have bw0_2 := Bw0.cell 2 (v := .int .i64 (tmV a0).fTerm) rfl
          have bw0_3 := Bw0.cell 3 (v := .int .i64 (tmV a0).fVote) rfl
          have bw0_4 := Bw0.cell 4 (v := pw0_4) rfl
          have bw0_5 := Bw0.cell 5 (v := .int .i64 (tmV a0).fCommit) rfl
          have bw0_6 := Bw0.cell 6 (v := .int .i64 (tmV a0).fRole) rfl
          have bw0_7 := Bw0.cell 7 (v := pw0_7) rfl
          have bw0_8 := Bw0.cell 8 (v := pw0_8) rfl
          have bx0_0 := Bx0.cell 0 (v := .int .i64 a0.fId) rfl
          have bx0_1 := Bx0.cell 1 (v := .int .i64 a0.fPeers) rfl
          have bx0_2 := Bx0.cell 2 (v := .int .i64 a0.fTerm) rfl
          have bx0_3 := Bx0.cell 3 (v := .int .i64 a0.fVote) rfl
          have bx0_4 := Bx0.cell 4 (v := px0_4) rfl
          have bx0_5 := Bx0.cell 5 (v := .int .i64 a0.fCommit) rfl
          have bx0_6 := Bx0.cell 6 (v := .int .i64 a0.fRole) rfl
          have bx0_7 := Bx0.cell 7 (v := px0_7) rfl
          have bx0_8 := Bx0.cell 8 (v := px0_8) rfl
          have bg0_0 := Bg0.cell 0 (v := .int .i64 (tmV a0).fId) rfl
          have bg0_1 := Bg0.cell 1 (v := .int .i64 (tmV a0).fPeers) rfl
          have bg0_2 := Bg0.cell 2 (v := .int .i64 (tmV a0).fTerm) rfl
          have bg0_3 := Bg0.cell 3 (v := .int .i64 (tmV a0).fVote) rfl
          have bg0_4 := Bg0.cell 4 (v := pg0_4) rfl
          have bg0_5 := Bg0.cell 5 (v := .int .i64 (tmV a0).fCommit) rfl
          have bg0_6 := Bg0.cell 6 (v := .int .i64 (tmV a0).fRole) rfl
          have bg0_7 := Bg0.cell 7 (v := pg0_7) rfl
          have bg0_8 := Bg0.cell 8 (v := pg0_8) rfl
          have Xa0 := Lib.hid Ba0
          have Xw0 := Lib.hid Bw0
          have Zw0 := Lib.hid Rw0
          have Zw1 := Lib.hid Rw1
          have Xx0 := Lib.hid Bx0
          have Zx0 := Lib.hid Rx0
          have Xg0 := Lib.hid Bg0
          have Zg0 := Lib.hid Rg0
          have Zg1 := Lib.hid Rg1
          clear Ba0 Bw0 Rw0 Rw1 Bx0 Rx0 Bg0 Rg0 Rg1
          go_wp2_with fail
          (with_reducible refine (eqRaftNode_k (kRaftNode.M_K Zg0.out) (kRaftNode.M_K Zw0.out) (smRaftNode_le y0 (by decide))).mono ?_)
          rintro e w5 ⟨rfl, hb⟩
          replace sz0 := Nat.le_trans sz0 hb.size
          have Ba0 := Xa0.out.below hb
          have Bw0 := Xw0.out.below hb
          have Rw0 := Rp.M_below Zw0.out hb
          have Rw1 := Rp.M_below Zw1.out hb
          have Bx0 := Xx0.out.below hb
          have Rx0 := Rp.M_below Zx0.out hb
          have Bg0 := Xg0.out.below hb
          have Rg0 := Rp.M_below Zg0.out hb
          have Rg1 := Rp.M_below Zg1.out hb
          have HB5 := Lib.hid (HB4.out.trans (hb.mono HB4.out.size))
          clear Xa0 Xw0 Zw0 Zw1 Xx0 Zx0 Xg0 Zg0 Zg1 HB4 hb
          clear ba0_0 ba0_1 ba0_2 ba0_3 ba0_4 ba0_5 ba0_6 ba0_7 ba0_8 bw0_0 bw0_1 bw0_2 bw0_3 bw0_4 bw0_5 bw0_6 bw0_7 bw0_8 bx0_0 bx0_1 bx0_2 bx0_3 bx0_4 bx0_5 bx0_6 bx0_7 bx0_8 bg0_0 bg0_1 bg0_2 bg0_3 bg0_4 bg0_5 bg0_6 bg0_7 bg0_8
          have ba0_0 := Ba0.cell 0 (v := .int .i64 a0.fId) rfl
          have ba0_1 := Ba0.cell 1 (v := .int .i64 a0.fPeers) rfl
          have ba0_2 := Ba0.cell 2 (v := .int .i64 a0.fTerm) rfl
          have ba0_3 := Ba0.cell 3 (v := .int .i64 a0.fVote) rfl
          have ba0_4 := Ba0.cell 4 (v := v0_4) rfl
          have ba0_5 := Ba0.cell 5 (v := .int .i64 a0.fCommit) rfl
          have ba0_6 := Ba0.cell 6 (v := .int .i64 a0.fRole) rfl
          have ba0_7 := Ba0.cell 7 (v := v0_7) rfl
          have ba0_8 := Ba0.cell 8 (v := v0_8) rfl
          have bw0_0 := Bw0.cell 0 (v := .int .i64 (tmV a0).fId) rfl
          have bw0_1 := Bw0.cell 1 (v := .int .i64 (tmV a0).fPeers) rfl
          have bw0_2 := Bw0.cell 2 (v := .int .i64 (tmV a0).fTerm) rfl
          have bw0_3 := Bw0.cell 3 (v := .int .i64 (tmV a0).fVote) rfl
          have bw0_4 := Bw0.cell 4 (v := pw0_4) rfl
          have bw0_5 := Bw0.cell 5 (v := .int .i64 (tmV a0).fCommit) rfl
          have bw0_6 := Bw0.cell 6 (v := .int .i64 (tmV a0).fRole) rfl
          have bw0_7 := Bw0.cell 7 (v := pw0_7) rfl
          have bw0_8 := Bw0.cell 8 (v := pw0_8) rfl
          have bx0_0 := Bx0.cell 0 (v := .int .i64 a0.fId) rfl
          have bx0_1 := Bx0.cell 1 (v := .int .i64 a0.fPeers) rfl
          have bx0_2 := Bx0.cell 2 (v := .int .i64 a0.fTerm) rfl
          have bx0_3 := Bx0.cell 3 (v := .int .i64 a0.fVote) rfl
          have bx0_4 := Bx0.cell 4 (v := px0_4) rfl
          have bx0_5 := Bx0.cell 5 (v := .int .i64 a0.fCommit) rfl
          have bx0_6 := Bx0.cell 6 (v := .int .i64 a0.fRole) rfl
          have bx0_7 := Bx0.cell 7 (v := px0_7) rfl
          have bx0_8 := Bx0.cell 8 (v := px0_8) rfl
          have bg0_0 := Bg0.cell 0 (v := .int .i64 (tmV a0).fId) rfl
          have bg0_1 := Bg0.cell 1 (v := .int .i64 (tmV a0).fPeers) rfl
          have bg0_2 := Bg0.cell 2 (v := .int .i64 (tmV a0).fTerm) rfl
          have bg0_3 := Bg0.cell 3 (v := .int .i64 (tmV a0).fVote) rfl
          have bg0_4 := Bg0.cell 4 (v := pg0_4) rfl
          have bg0_5 := Bg0.cell 5 (v := .int .i64 (tmV a0).fCommit) rfl
          have bg0_6 := Bg0.cell 6 (v := .int .i64 (tmV a0).fRole) rfl
          have bg0_7 := Bg0.cell 7 (v := pg0_7) rfl
          have bg0_8 := Bg0.cell 8 (v := pg0_8) rfl
          have Xa0 := Lib.hid Ba0
          have Xw0 := Lib.hid Bw0
          have Zw0 := Lib.hid Rw0
          have Zw1 := Lib.hid Rw1
          have Xx0 := Lib.hid Bx0
          have Zx0 := Lib.hid Rx0
          have Xg0 := Lib.hid Bg0
          have Zg0 := Lib.hid Rg0
          have Zg1 := Lib.hid Rg1
          clear Ba0 Bw0 Rw0 Rw1 Bx0 Rx0 Bg0 Rg0 Rg1
          go_wp2_with fail
          (with_reducible refine (eqRaftMsgS_k (kRaftMsgS.M_K Zg1.out) (kRaftMsgS.M_K Zw1.out) (smRaftMsgS_le y1 (by decide))).mono ?_)
          rintro e w6 ⟨rfl, hb⟩
          replace sz0 := Nat.le_trans sz0 hb.size
          have Ba0 := Xa0.out.below hb
          have Bw0 := Xw0.out.below hb
          have Rw0 := Rp.M_below Zw0.out hb
          have Rw1 := Rp.M_below Zw1.out hb
          have Bx0 := Xx0.out.below hb
          have Rx0 := Rp.M_below Zx0.out hb
          have Bg0 := Xg0.out.below hb
          have Rg0 := Rp.M_below Zg0.out hb
          have Rg1 := Rp.M_below Zg1.out hb
          have HB6 := Lib.hid (HB5.out.trans (hb.mono HB5.out.size))
          clear Xa0 Xw0 Zw0 Zw1 Xx0 Zx0 Xg0 Zg0 Zg1 HB5 hb
          clear ba0_0 ba0_1 ba0_2 ba0_3 ba0_4 ba0_5 ba0_6 ba0_7 ba0_8 bw0_0 bw0_1 bw0_2 bw0_3 bw0_4 bw0_5 bw0_6 bw0_7 bw0_8 bx0_0 bx0_1 bx0_2 bx0_3 bx0_4 bx0_5 bx0_6 bx0_7 bx0_8 bg0_0 bg0_1 bg0_2 bg0_3 bg0_4 bg0_5 bg0_6 bg0_7 bg0_8
          have ba0_0 := Ba0.cell 0 (v := .int .i64 a0.fId) rfl
          have ba0_1 := Ba0.cell 1 (v := .int .i64 a0.fPeers) rfl
          have ba0_2 := Ba0.cell 2 (v := .int .i64 a0.fTerm) rfl
          have ba0_3 := Ba0.cell 3 (v := .int .i64 a0.fVote) rfl
          have ba0_4 := Ba0.cell 4 (v := v0_4) rfl
          have ba0_5 := Ba0.cell 5 (v := .int .i64 a0.fCommit) rfl
          have ba0_6 := Ba0.cell 6 (v := .int .i64 a0.fRole) rfl
          have ba0_7 := Ba0.cell 7 (v := v0_7) rfl
          have ba0_8 := Ba0.cell 8 (v := v0_8) rfl
          have bw0_0 := Bw0.cell 0 (v := .int .i64 (tmV a0).fId) rfl
          have bw0_1 := Bw0.cell 1 (v := .int .i64 (tmV a0).fPeers) rfl
          have bw0_2 := Bw0.cell 2 (v := .int .i64 (tmV a0).fTerm) rfl
          have bw0_3 := Bw0.cell 3 (v := .int .i64 (tmV a0).fVote) rfl
          have bw0_4 := Bw0.cell 4 (v := pw0_4) rfl
          have bw0_5 := Bw0.cell 5 (v := .int .i64 (tmV a0).fCommit) rfl
          have bw0_6 := Bw0.cell 6 (v := .int .i64 (tmV a0).fRole) rfl
          have bw0_7 := Bw0.cell 7 (v := pw0_7) rfl
          have bw0_8 := Bw0.cell 8 (v := pw0_8) rfl
          have bx0_0 := Bx0.cell 0 (v := .int .i64 a0.fId) rfl
          have bx0_1 := Bx0.cell 1 (v := .int .i64 a0.fPeers) rfl
          have bx0_2 := Bx0.cell 2 (v := .int .i64 a0.fTerm) rfl
          have bx0_3 := Bx0.cell 3 (v := .int .i64 a0.fVote) rfl
          have bx0_4 := Bx0.cell 4 (v := px0_4) rfl
          have bx0_5 := Bx0.cell 5 (v := .int .i64 a0.fCommit) rfl
          have bx0_6 := Bx0.cell 6 (v := .int .i64 a0.fRole) rfl
          have bx0_7 := Bx0.cell 7 (v := px0_7) rfl
          have bx0_8 := Bx0.cell 8 (v := px0_8) rfl
          have bg0_0 := Bg0.cell 0 (v := .int .i64 (tmV a0).fId) rfl
          have bg0_1 := Bg0.cell 1 (v := .int .i64 (tmV a0).fPeers) rfl
          have bg0_2 := Bg0.cell 2 (v := .int .i64 (tmV a0).fTerm) rfl
          have bg0_3 := Bg0.cell 3 (v := .int .i64 (tmV a0).fVote) rfl
          have bg0_4 := Bg0.cell 4 (v := pg0_4) rfl
          have bg0_5 := Bg0.cell 5 (v := .int .i64 (tmV a0).fCommit) rfl
          have bg0_6 := Bg0.cell 6 (v := .int .i64 (tmV a0).fRole) rfl
          have bg0_7 := Bg0.cell 7 (v := pg0_7) rfl
          have bg0_8 := Bg0.cell 8 (v := pg0_8) rfl
          have Xa0 := Lib.hid Ba0
          have Xw0 := Lib.hid Bw0
          have Zw0 := Lib.hid Rw0
          have Zw1 := Lib.hid Rw1
          have Xx0 := Lib.hid Bx0
          have Zx0 := Lib.hid Rx0
          have Xg0 := Lib.hid Bg0
          have Zg0 := Lib.hid Rg0
          have Zg1 := Lib.hid Rg1
          clear Ba0 Bw0 Rw0 Rw1 Bx0 Rx0 Bg0 Rg0 Rg1
          go_upto_region 10 with fail
          have ya0 : w.heap.size < w6.heap.size := Xa0.out.lt
          have yw0 : gw0 < w6.heap.size := Xw0.out.lt
          have yx0 : gx0 < w6.heap.size := Xx0.out.lt
          have yg0 : gg0 < w6.heap.size := Xg0.out.lt
          have yh := HB6.out.size
          go_region_held3 (fun w' => Below w6.heap.size w6 w' ∧ ∀ b j, b < w6.heap.size → w'.cell? ⟨b, j, none⟩ = w6.cell? ⟨b, j, none⟩)
            (first | ((try go_split_ands); refine SBof ?_; repeat (first | assumption | (with_reducible exact Below.refl _ _) | (with_reducible refine below_call ?_ hc) | (with_reducible refine below_call ?_ hb0) | (with_reducible refine below_call ?_ hb) | (with_reducible refine Below.drew ?_) | (with_reducible refine below_alloc2 ?_ _) | (with_reducible refine Below.setCell ?_ (by first | (simp; done) | omega | (simp; omega)) _))))
            (first
              | (go_at_call 6; (refine (toRaftNode_k (kRaftNode.K_below (HB6.out.trans (Below.mono (by repeat (first | assumption | (with_reducible exact Below.refl _ _) | (with_reducible refine below_call ?_ hc) | (with_reducible refine below_call ?_ hb0)  | (with_reducible refine Below.drew ?_) | (with_reducible refine below_alloc2 ?_ _))) HB6.out.size)).block G0.out) (szRaftNode_sm (n := 1048576) (x := a0) (by omega))).mono ?_; rintro e wa ⟨ds, F, rfl, ra, rb, rc, hb0⟩; have zs := hb0.size; (try simp at zs)))
              | (go_at_call 8; (refine (eqRaftNode_k (kRaftNode.K_below ((by repeat (first | assumption | (with_reducible exact Below.refl _ _) | (with_reducible refine below_call ?_ hc) | (with_reducible refine below_call ?_ hb0)  | (with_reducible refine Below.drew ?_) | (with_reducible refine below_alloc2 ?_ _))) : Below _ _ _).block (kRaftNode.M_K Zx0.out)) (kRaftNode.M_K ra) (szRaftNode_sm (n := 140737488355328) (x := a0) (by omega))).mono ?_; rintro e w7 ⟨rfl, hb⟩; have zs2 := hb.size; (try simp at zs2))))
          have hbx : Below w6.heap.size w6 w7 := (by repeat (first | assumption | (with_reducible exact Below.refl _ _) | (with_reducible refine below_call ?_ hc) | (with_reducible refine below_call ?_ hb0) | (with_reducible refine below_call ?_ hb) | (with_reducible refine Below.drew ?_) | (with_reducible refine below_alloc2 ?_ _)))
          clear hb hb0 ra rb rc zs zs2 yh ya0 yw0 yx0 yg0
          replace sz0 := Nat.le_trans sz0 hbx.size
          have Ba0 := Xa0.out.below hbx
          have Bw0 := Xw0.out.below hbx
          have Rw0 := Rp.M_below Zw0.out hbx
          have Rw1 := Rp.M_below Zw1.out hbx
          have Bx0 := Xx0.out.below hbx
          have Rx0 := Rp.M_below Zx0.out hbx
          have Bg0 := Xg0.out.below hbx
          have Rg0 := Rp.M_below Zg0.out hbx
          have Rg1 := Rp.M_below Zg1.out hbx
          have HB7 := Lib.hid (HB6.out.trans (hbx.mono HB6.out.size))
          clear Xa0 Xw0 Zw0 Zw1 Xx0 Zx0 Xg0 Zg0 Zg1 HB6 hbx
          clear ba0_0 ba0_1 ba0_2 ba0_3 ba0_4 ba0_5 ba0_6 ba0_7 ba0_8 bw0_0 bw0_1 bw0_2 bw0_3 bw0_4 bw0_5 bw0_6 bw0_7 bw0_8 bx0_0 bx0_1 bx0_2 bx0_3 bx0_4 bx0_5 bx0_6 bx0_7 bx0_8 bg0_0 bg0_1 bg0_2 bg0_3 bg0_4 bg0_5 bg0_6 bg0_7 bg0_8
          have ba0_0 := Ba0.cell 0 (v := .int .i64 a0.fId) rfl
          have ba0_1 := Ba0.cell 1 (v := .int .i64 a0.fPeers) rfl
          have ba0_2 := Ba0.cell 2 (v := .int .i64 a0.fTerm) rfl
          have ba0_3 := Ba0.cell 3 (v := .int .i64 a0.fVote) rfl
          have ba0_4 := Ba0.cell 4 (v := v0_4) rfl
          have ba0_5 := Ba0.cell 5 (v := .int .i64 a0.fCommit) rfl
          have ba0_6 := Ba0.cell 6 (v := .int .i64 a0.fRole) rfl
          have ba0_7 := Ba0.cell 7 (v := v0_7) rfl
          have ba0_8 := Ba0.cell 8 (v := v0_8) rfl
          have bw0_0 := Bw0.cell 0 (v := .int .i64 (tmV a0).fId) rfl
          have bw0_1 := Bw0.cell 1 (v := .int .i64 (tmV a0).fPeers) rfl
          have bw0_2 := Bw0.cell 2 (v := .int .i64 (tmV a0).fTerm) rfl
          have bw0_3 := Bw0.cell 3 (v := .int .i64 (tmV a0).fVote) rfl
          have bw0_4 := Bw0.cell 4 (v := pw0_4) rfl
          have bw0_5 := Bw0.cell 5 (v := .int .i64 (tmV a0).fCommit) rfl
          have bw0_6 := Bw0.cell 6 (v := .int .i64 (tmV a0).fRole) rfl
          have bw0_7 := Bw0.cell 7 (v := pw0_7) rfl
          have bw0_8 := Bw0.cell 8 (v := pw0_8) rfl
          have bx0_0 := Bx0.cell 0 (v := .int .i64 a0.fId) rfl
          have bx0_1 := Bx0.cell 1 (v := .int .i64 a0.fPeers) rfl
          have bx0_2 := Bx0.cell 2 (v := .int .i64 a0.fTerm) rfl
          have bx0_3 := Bx0.cell 3 (v := .int .i64 a0.fVote) rfl
          have bx0_4 := Bx0.cell 4 (v := px0_4) rfl
          have bx0_5 := Bx0.cell 5 (v := .int .i64 a0.fCommit) rfl
          have bx0_6 := Bx0.cell 6 (v := .int .i64 a0.fRole) rfl
          have bx0_7 := Bx0.cell 7 (v := px0_7) rfl
          have bx0_8 := Bx0.cell 8 (v := px0_8) rfl
          have bg0_0 := Bg0.cell 0 (v := .int .i64 (tmV a0).fId) rfl
          have bg0_1 := Bg0.cell 1 (v := .int .i64 (tmV a0).fPeers) rfl
          have bg0_2 := Bg0.cell 2 (v := .int .i64 (tmV a0).fTerm) rfl
          have bg0_3 := Bg0.cell 3 (v := .int .i64 (tmV a0).fVote) rfl
          have bg0_4 := Bg0.cell 4 (v := pg0_4) rfl
          have bg0_5 := Bg0.cell 5 (v := .int .i64 (tmV a0).fCommit) rfl
          have bg0_6 := Bg0.cell 6 (v := .int .i64 (tmV a0).fRole) rfl
          have bg0_7 := Bg0.cell 7 (v := pg0_7) rfl
          have bg0_8 := Bg0.cell 8 (v := pg0_8) rfl
          have Xa0 := Lib.hid Ba0
          have Xw0 := Lib.hid Bw0
          have Zw0 := Lib.hid Rw0
          have Zw1 := Lib.hid Rw1
          have Xx0 := Lib.hid Bx0
          have Zx0 := Lib.hid Rx0
          have Xg0 := Lib.hid Bg0
          have Zg0 := Lib.hid Rg0
          have Zg1 := Lib.hid Rg1
          clear Ba0 Bw0 Rw0 Rw1 Bx0 Rx0 Bg0 Rg0 Rg1
          have m1 := mkRaftNode_sm (k := 1) (szRaftNode_sm (n := 1048576) (x := a0) (by omega))
          have n1 := mkRaftNode_le (a0) 1
          have l1 : (mkRaftNode (a0) 1).2 ≤ 4611686018427387904 := by omega
          go_wp2_with fail
          (with_reducible refine (markRaftNode_k Zx0.out Nx0 (by omega) l1 (szRaftNode_sm (n := 140737488355328) (x := a0) (by omega))).mono ?_)
          rintro e w8 ⟨rfl, hr, hk⟩
          clear hr
          generalize (mkRaftNode (a0) 1).2 = k1_ at *
          clear ba0_0 ba0_1 ba0_2 ba0_3 ba0_4 ba0_5 ba0_6 ba0_7 ba0_8 bw0_0 bw0_1 bw0_2 bw0_3 bw0_4 bw0_5 bw0_6 bw0_7 bw0_8 bx0_0 bx0_1 bx0_2 bx0_3 bx0_4 bx0_5 bx0_6 bx0_7 bx0_8 bg0_0 bg0_1 bg0_2 bg0_3 bg0_4 bg0_5 bg0_6 bg0_7 bg0_8
          replace sz0 := Nat.le_trans sz0 hk.size
          have Ba0 := Box.kept Xa0.out hk (fun hm => by have := Dx0 _ hm; have := Ex0 _ hm; have := sox0; omega)
          have Bw0 := Box.kept Xw0.out hk (fun hm => by have := Dx0 _ hm; have := Ex0 _ hm; have := ew0; omega)
          have Rw0 := kRaftNode.M_move (fun b hb => hk.block b (kRaftNode.M_lt Zw0.out b hb) (fun hm => by have := Dx0 _ hm; have := Ex0 _ hm; have := Dw0 _ hb; have := Ew0 _ hb; omega)) Zw0.out
          have Rw1 := kRaftMsgS.M_move (fun b hb => hk.block b (kRaftMsgS.M_lt Zw1.out b hb) (fun hm => by have := Dx0 _ hm; have := Ex0 _ hm; have := Dw1 _ hb; have := Ew1 _ hb; omega)) Zw1.out
          have Bg0 := Box.kept Xg0.out hk (fun hm => by have := Dx0 _ hm; have := Ex0 _ hm; have := eg0; omega)
          have Rg0 := kRaftNode.M_move (fun b hb => hk.block b (kRaftNode.M_lt Zg0.out b hb) (fun hm => by have := Dx0 _ hm; have := Ex0 _ hm; have := Dg0 _ hb; have := Eg0 _ hb; omega)) Zg0.out
          have Rg1 := kRaftMsgS.M_move (fun b hb => hk.block b (kRaftMsgS.M_lt Zg1.out b hb) (fun hm => by have := Dx0 _ hm; have := Ex0 _ hm; have := Dg1 _ hb; have := Eg1 _ hb; omega)) Zg1.out
          have HB8 := Lib.hid (HB7.out.trans (hk.toBelow HB7.out.size (fun b hb => by have := Dx0 _ hb; omega)))
          clear Xa0 Xw0 Zw0 Zw1 Xx0 Zx0 Xg0 Zg0 Zg1 HB7 hk
          have ba0_0 := Ba0.cell 0 (v := .int .i64 a0.fId) rfl
          have ba0_1 := Ba0.cell 1 (v := .int .i64 a0.fPeers) rfl
          have ba0_2 := Ba0.cell 2 (v := .int .i64 a0.fTerm) rfl
          have ba0_3 := Ba0.cell 3 (v := .int .i64 a0.fVote) rfl
          have ba0_4 := Ba0.cell 4 (v := v0_4) rfl
          have ba0_5 := Ba0.cell 5 (v := .int .i64 a0.fCommit) rfl
          have ba0_6 := Ba0.cell 6 (v := .int .i64 a0.fRole) rfl
          have ba0_7 := Ba0.cell 7 (v := v0_7) rfl
          have ba0_8 := Ba0.cell 8 (v := v0_8) rfl
          have bw0_0 := Bw0.cell 0 (v := .int .i64 (tmV a0).fId) rfl
          have bw0_1 := Bw0.cell 1 (v := .int .i64 (tmV a0).fPeers) rfl
          have bw0_2 := Bw0.cell 2 (v := .int .i64 (tmV a0).fTerm) rfl
          have bw0_3 := Bw0.cell 3 (v := .int .i64 (tmV a0).fVote) rfl
          have bw0_4 := Bw0.cell 4 (v := pw0_4) rfl
          have bw0_5 := Bw0.cell 5 (v := .int .i64 (tmV a0).fCommit) rfl
          have bw0_6 := Bw0.cell 6 (v := .int .i64 (tmV a0).fRole) rfl
          have bw0_7 := Bw0.cell 7 (v := pw0_7) rfl
          have bw0_8 := Bw0.cell 8 (v := pw0_8) rfl
          have bg0_0 := Bg0.cell 0 (v := .int .i64 (tmV a0).fId) rfl
          have bg0_1 := Bg0.cell 1 (v := .int .i64 (tmV a0).fPeers) rfl
          have bg0_2 := Bg0.cell 2 (v := .int .i64 (tmV a0).fTerm) rfl
          have bg0_3 := Bg0.cell 3 (v := .int .i64 (tmV a0).fVote) rfl
          have bg0_4 := Bg0.cell 4 (v := pg0_4) rfl
          have bg0_5 := Bg0.cell 5 (v := .int .i64 (tmV a0).fCommit) rfl
          have bg0_6 := Bg0.cell 6 (v := .int .i64 (tmV a0).fRole) rfl
          have bg0_7 := Bg0.cell 7 (v := pg0_7) rfl
          have bg0_8 := Bg0.cell 8 (v := pg0_8) rfl
          have Xa0 := Lib.hid Ba0
          have Xw0 := Lib.hid Bw0
          have Zw0 := Lib.hid Rw0
          have Zw1 := Lib.hid Rw1
          have Xg0 := Lib.hid Bg0
          have Zg0 := Lib.hid Rg0
          have Zg1 := Lib.hid Rg1
          clear Ba0 Bw0 Rw0 Rw1 Bg0 Rg0 Rg1
          go_wp2_with fail
          (with_reducible refine (eqRaftNode_k (kRaftNode.M_K Zg0.out) (kRaftNode.M_K Zw0.out) (smRaftNode_le y0 (by decide))).mono ?_)
          rintro e w9 ⟨rfl, hb⟩
          replace sz0 := Nat.le_trans sz0 hb.size
          have Ba0 := Xa0.out.below hb
          have Bw0 := Xw0.out.below hb
          have Rw0 := Rp.M_below Zw0.out hb
          have Rw1 := Rp.M_below Zw1.out hb
          have Bg0 := Xg0.out.below hb
          have Rg0 := Rp.M_below Zg0.out hb
          have Rg1 := Rp.M_below Zg1.out hb
          have HB9 := Lib.hid (HB8.out.trans (hb.mono HB8.out.size))
          clear Xa0 Xw0 Zw0 Zw1 Xg0 Zg0 Zg1 HB8 hb
          clear ba0_0 ba0_1 ba0_2 ba0_3 ba0_4 ba0_5 ba0_6 ba0_7 ba0_8 bw0_0 bw0_1 bw0_2 bw0_3 bw0_4 bw0_5 bw0_6 bw0_7 bw0_8 bg0_0 bg0_1 bg0_2 bg0_3 bg0_4 bg0_5 bg0_6 bg0_7 bg0_8
          have ba0_0 := Ba0.cell 0 (v := .int .i64 a0.fId) rfl
          have ba0_1 := Ba0.cell 1 (v := .int .i64 a0.fPeers) rfl
          have ba0_2 := Ba0.cell 2 (v := .int .i64 a0.fTerm) rfl
          have ba0_3 := Ba0.cell 3 (v := .int .i64 a0.fVote) rfl
          have ba0_4 := Ba0.cell 4 (v := v0_4) rfl
          have ba0_5 := Ba0.cell 5 (v := .int .i64 a0.fCommit) rfl
          have ba0_6 := Ba0.cell 6 (v := .int .i64 a0.fRole) rfl
          have ba0_7 := Ba0.cell 7 (v := v0_7) rfl
          have ba0_8 := Ba0.cell 8 (v := v0_8) rfl
          have bw0_0 := Bw0.cell 0 (v := .int .i64 (tmV a0).fId) rfl
          have bw0_1 := Bw0.cell 1 (v := .int .i64 (tmV a0).fPeers) rfl
          have bw0_2 := Bw0.cell 2 (v := .int .i64 (tmV a0).fTerm) rfl
          have bw0_3 := Bw0.cell 3 (v := .int .i64 (tmV a0).fVote) rfl
          have bw0_4 := Bw0.cell 4 (v := pw0_4) rfl
          have bw0_5 := Bw0.cell 5 (v := .int .i64 (tmV a0).fCommit) rfl
          have bw0_6 := Bw0.cell 6 (v := .int .i64 (tmV a0).fRole) rfl
          have bw0_7 := Bw0.cell 7 (v := pw0_7) rfl
          have bw0_8 := Bw0.cell 8 (v := pw0_8) rfl
          have bg0_0 := Bg0.cell 0 (v := .int .i64 (tmV a0).fId) rfl
          have bg0_1 := Bg0.cell 1 (v := .int .i64 (tmV a0).fPeers) rfl
          have bg0_2 := Bg0.cell 2 (v := .int .i64 (tmV a0).fTerm) rfl
          have bg0_3 := Bg0.cell 3 (v := .int .i64 (tmV a0).fVote) rfl
          have bg0_4 := Bg0.cell 4 (v := pg0_4) rfl
          have bg0_5 := Bg0.cell 5 (v := .int .i64 (tmV a0).fCommit) rfl
          have bg0_6 := Bg0.cell 6 (v := .int .i64 (tmV a0).fRole) rfl
          have bg0_7 := Bg0.cell 7 (v := pg0_7) rfl
          have bg0_8 := Bg0.cell 8 (v := pg0_8) rfl
          have Xa0 := Lib.hid Ba0
          have Xw0 := Lib.hid Bw0
          have Zw0 := Lib.hid Rw0
          have Zw1 := Lib.hid Rw1
          have Xg0 := Lib.hid Bg0
          have Zg0 := Lib.hid Rg0
          have Zg1 := Lib.hid Rg1
          clear Ba0 Bw0 Rw0 Rw1 Bg0 Rg0 Rg1
          go_wp2_with fail
          (with_reducible refine (eqRaftMsgS_k (kRaftMsgS.M_K Zg1.out) (kRaftMsgS.M_K Zw1.out) (smRaftMsgS_le y1 (by decide))).mono ?_)
          rintro e w10 ⟨rfl, hb⟩
          replace sz0 := Nat.le_trans sz0 hb.size
          have Ba0 := Xa0.out.below hb
          have Bw0 := Xw0.out.below hb
          have Rw0 := Rp.M_below Zw0.out hb
          have Rw1 := Rp.M_below Zw1.out hb
          have Bg0 := Xg0.out.below hb
          have Rg0 := Rp.M_below Zg0.out hb
          have Rg1 := Rp.M_below Zg1.out hb
          have HB10 := Lib.hid (HB9.out.trans (hb.mono HB9.out.size))
          clear Xa0 Xw0 Zw0 Zw1 Xg0 Zg0 Zg1 HB9 hb
          clear ba0_0 ba0_1 ba0_2 ba0_3 ba0_4 ba0_5 ba0_6 ba0_7 ba0_8 bw0_0 bw0_1 bw0_2 bw0_3 bw0_4 bw0_5 bw0_6 bw0_7 bw0_8 bg0_0 bg0_1 bg0_2 bg0_3 bg0_4 bg0_5 bg0_6 bg0_7 bg0_8
          have ba0_0 := Ba0.cell 0 (v := .int .i64 a0.fId) rfl
          have ba0_1 := Ba0.cell 1 (v := .int .i64 a0.fPeers) rfl
          have ba0_2 := Ba0.cell 2 (v := .int .i64 a0.fTerm) rfl
          have ba0_3 := Ba0.cell 3 (v := .int .i64 a0.fVote) rfl
          have ba0_4 := Ba0.cell 4 (v := v0_4) rfl
          have ba0_5 := Ba0.cell 5 (v := .int .i64 a0.fCommit) rfl
          have ba0_6 := Ba0.cell 6 (v := .int .i64 a0.fRole) rfl
          have ba0_7 := Ba0.cell 7 (v := v0_7) rfl
          have ba0_8 := Ba0.cell 8 (v := v0_8) rfl
          have bw0_0 := Bw0.cell 0 (v := .int .i64 (tmV a0).fId) rfl
          have bw0_1 := Bw0.cell 1 (v := .int .i64 (tmV a0).fPeers) rfl
          have bw0_2 := Bw0.cell 2 (v := .int .i64 (tmV a0).fTerm) rfl
          have bw0_3 := Bw0.cell 3 (v := .int .i64 (tmV a0).fVote) rfl
          have bw0_4 := Bw0.cell 4 (v := pw0_4) rfl
          have bw0_5 := Bw0.cell 5 (v := .int .i64 (tmV a0).fCommit) rfl
          have bw0_6 := Bw0.cell 6 (v := .int .i64 (tmV a0).fRole) rfl
          have bw0_7 := Bw0.cell 7 (v := pw0_7) rfl
          have bw0_8 := Bw0.cell 8 (v := pw0_8) rfl
          have bg0_0 := Bg0.cell 0 (v := .int .i64 (tmV a0).fId) rfl
          have bg0_1 := Bg0.cell 1 (v := .int .i64 (tmV a0).fPeers) rfl
          have bg0_2 := Bg0.cell 2 (v := .int .i64 (tmV a0).fTerm) rfl
          have bg0_3 := Bg0.cell 3 (v := .int .i64 (tmV a0).fVote) rfl
          have bg0_4 := Bg0.cell 4 (v := pg0_4) rfl
          have bg0_5 := Bg0.cell 5 (v := .int .i64 (tmV a0).fCommit) rfl
          have bg0_6 := Bg0.cell 6 (v := .int .i64 (tmV a0).fRole) rfl
          have bg0_7 := Bg0.cell 7 (v := pg0_7) rfl
          have bg0_8 := Bg0.cell 8 (v := pg0_8) rfl
          have Xa0 := Lib.hid Ba0
          have Xw0 := Lib.hid Bw0
          have Zw0 := Lib.hid Rw0
          have Zw1 := Lib.hid Rw1
          have Xg0 := Lib.hid Bg0
          have Zg0 := Lib.hid Rg0
          have Zg1 := Lib.hid Rg1
          clear Ba0 Bw0 Rw0 Rw1 Bg0 Rg0 Rg1
          have m2 := mkRaftNode_sm (k := 1) y0
          have n2 := mkRaftNode_le (tmV a0) 1
          have l2 : (mkRaftNode (tmV a0) 1).2 ≤ 4611686018427387904 := by omega
          go_wp2_with fail
          (with_reducible refine (markRaftNode_k Zg0.out Ng0 (by omega) l2 (smRaftNode_le y0 (by decide))).mono ?_)
          rintro e w11 ⟨rfl, hr, hk⟩
          have Rg0 := hr; clear hr
          clear ba0_0 ba0_1 ba0_2 ba0_3 ba0_4 ba0_5 ba0_6 ba0_7 ba0_8 bw0_0 bw0_1 bw0_2 bw0_3 bw0_4 bw0_5 bw0_6 bw0_7 bw0_8 bg0_0 bg0_1 bg0_2 bg0_3 bg0_4 bg0_5 bg0_6 bg0_7 bg0_8
          replace sz0 := Nat.le_trans sz0 hk.size
          have Ba0 := Box.kept Xa0.out hk (fun hm => by have := Dg0 _ hm; have := Eg0 _ hm; have := sog0; omega)
          have Bw0 := Box.kept Xw0.out hk (fun hm => by have := Dg0 _ hm; have := Eg0 _ hm; have := ew0; omega)
          have Rw0 := kRaftNode.M_move (fun b hb => hk.block b (kRaftNode.M_lt Zw0.out b hb) (fun hm => by have := Dg0 _ hm; have := Eg0 _ hm; have := Dw0 _ hb; have := Ew0 _ hb; omega)) Zw0.out
          have Rw1 := kRaftMsgS.M_move (fun b hb => hk.block b (kRaftMsgS.M_lt Zw1.out b hb) (fun hm => by have := Dg0 _ hm; have := Eg0 _ hm; have := Dw1 _ hb; have := Ew1 _ hb; omega)) Zw1.out
          have Bg0 := Box.kept Xg0.out hk (fun hm => by exact (Ng0_g0 _ hm) rfl)
          have Rg1 := kRaftMsgS.M_move (fun b hb => hk.block b (kRaftMsgS.M_lt Zg1.out b hb) (fun hm => by exact Jg1_g0 _ hb hm)) Zg1.out
          have HB11 := Lib.hid (HB10.out.trans (hk.toBelow HB10.out.size (fun b hb => by have := Dg0 _ hb; omega)))
          clear Xa0 Xw0 Zw0 Zw1 Xg0 Zg0 Zg1 HB10 hk
          have ba0_0 := Ba0.cell 0 (v := .int .i64 a0.fId) rfl
          have ba0_1 := Ba0.cell 1 (v := .int .i64 a0.fPeers) rfl
          have ba0_2 := Ba0.cell 2 (v := .int .i64 a0.fTerm) rfl
          have ba0_3 := Ba0.cell 3 (v := .int .i64 a0.fVote) rfl
          have ba0_4 := Ba0.cell 4 (v := v0_4) rfl
          have ba0_5 := Ba0.cell 5 (v := .int .i64 a0.fCommit) rfl
          have ba0_6 := Ba0.cell 6 (v := .int .i64 a0.fRole) rfl
          have ba0_7 := Ba0.cell 7 (v := v0_7) rfl
          have ba0_8 := Ba0.cell 8 (v := v0_8) rfl
          have bw0_0 := Bw0.cell 0 (v := .int .i64 (tmV a0).fId) rfl
          have bw0_1 := Bw0.cell 1 (v := .int .i64 (tmV a0).fPeers) rfl
          have bw0_2 := Bw0.cell 2 (v := .int .i64 (tmV a0).fTerm) rfl
          have bw0_3 := Bw0.cell 3 (v := .int .i64 (tmV a0).fVote) rfl
          have bw0_4 := Bw0.cell 4 (v := pw0_4) rfl
          have bw0_5 := Bw0.cell 5 (v := .int .i64 (tmV a0).fCommit) rfl
          have bw0_6 := Bw0.cell 6 (v := .int .i64 (tmV a0).fRole) rfl
          have bw0_7 := Bw0.cell 7 (v := pw0_7) rfl
          have bw0_8 := Bw0.cell 8 (v := pw0_8) rfl
          have bg0_0 := Bg0.cell 0 (v := .int .i64 (tmV a0).fId) rfl
          have bg0_1 := Bg0.cell 1 (v := .int .i64 (tmV a0).fPeers) rfl
          have bg0_2 := Bg0.cell 2 (v := .int .i64 (tmV a0).fTerm) rfl
          have bg0_3 := Bg0.cell 3 (v := .int .i64 (tmV a0).fVote) rfl
          have bg0_4 := Bg0.cell 4 (v := pg0_4) rfl
          have bg0_5 := Bg0.cell 5 (v := .int .i64 (tmV a0).fCommit) rfl
          have bg0_6 := Bg0.cell 6 (v := .int .i64 (tmV a0).fRole) rfl
          have bg0_7 := Bg0.cell 7 (v := pg0_7) rfl
          have bg0_8 := Bg0.cell 8 (v := pg0_8) rfl
          have Xa0 := Lib.hid Ba0
          have Xw0 := Lib.hid Bw0
          have Zw0 := Lib.hid Rw0
          have Zw1 := Lib.hid Rw1
          have Xg0 := Lib.hid Bg0
          have Zg0 := Lib.hid Rg0
          have Zg1 := Lib.hid Rg1
          clear Ba0 Bw0 Rw0 Rw1 Bg0 Rg0 Rg1
          generalize hk2 : (mkRaftNode (tmV a0) 1).2 = k2_ at n2 m2 l2 ⊢
          have m3 := mkRaftMsgS_sm (k := k2_) y1
          have n3 := mkRaftMsgS_le (tmM a0) k2_
          have l3 : (mkRaftMsgS (tmM a0) k2_).2 ≤ 4611686018427387904 := by omega
          go_wp2_with fail
          (with_reducible refine (markRaftMsgS_k Zg1.out Ng1 (by omega) l3 (smRaftMsgS_le y1 (by decide))).mono ?_)
          rintro e w12 ⟨rfl, hr, hk⟩
          have Rg1 := hr; clear hr
          clear ba0_0 ba0_1 ba0_2 ba0_3 ba0_4 ba0_5 ba0_6 ba0_7 ba0_8 bw0_0 bw0_1 bw0_2 bw0_3 bw0_4 bw0_5 bw0_6 bw0_7 bw0_8 bg0_0 bg0_1 bg0_2 bg0_3 bg0_4 bg0_5 bg0_6 bg0_7 bg0_8
          replace sz0 := Nat.le_trans sz0 hk.size
          have Ba0 := Box.kept Xa0.out hk (fun hm => by have := Dg1 _ hm; have := Eg1 _ hm; have := sog1; omega)
          have Bw0 := Box.kept Xw0.out hk (fun hm => by have := Dg1 _ hm; have := Eg1 _ hm; have := ew0; omega)
          have Rw0 := kRaftNode.M_move (fun b hb => hk.block b (kRaftNode.M_lt Zw0.out b hb) (fun hm => by have := Dg1 _ hm; have := Eg1 _ hm; have := Dw0 _ hb; have := Ew0 _ hb; omega)) Zw0.out
          have Rw1 := kRaftMsgS.M_move (fun b hb => hk.block b (kRaftMsgS.M_lt Zw1.out b hb) (fun hm => by have := Dg1 _ hm; have := Eg1 _ hm; have := Dw1 _ hb; have := Ew1 _ hb; omega)) Zw1.out
          have Bg0 := Box.kept Xg0.out hk (fun hm => by exact (Ng1_g0 _ hm) rfl)
          have Rg0 := kRaftNode.M_move (fun b hb => hk.block b (kRaftNode.M_lt Zg0.out b hb) (fun hm => by exact Jg0_g1 _ hb hm)) Zg0.out
          have HB12 := Lib.hid (HB11.out.trans (hk.toBelow HB11.out.size (fun b hb => by have := Dg1 _ hb; omega)))
          clear Xa0 Xw0 Zw0 Zw1 Xg0 Zg0 Zg1 HB11 hk
          have ba0_0 := Ba0.cell 0 (v := .int .i64 a0.fId) rfl
          have ba0_1 := Ba0.cell 1 (v := .int .i64 a0.fPeers) rfl
          have ba0_2 := Ba0.cell 2 (v := .int .i64 a0.fTerm) rfl
          have ba0_3 := Ba0.cell 3 (v := .int .i64 a0.fVote) rfl
          have ba0_4 := Ba0.cell 4 (v := v0_4) rfl
          have ba0_5 := Ba0.cell 5 (v := .int .i64 a0.fCommit) rfl
          have ba0_6 := Ba0.cell 6 (v := .int .i64 a0.fRole) rfl
          have ba0_7 := Ba0.cell 7 (v := v0_7) rfl
          have ba0_8 := Ba0.cell 8 (v := v0_8) rfl
          have bw0_0 := Bw0.cell 0 (v := .int .i64 (tmV a0).fId) rfl
          have bw0_1 := Bw0.cell 1 (v := .int .i64 (tmV a0).fPeers) rfl
          have bw0_2 := Bw0.cell 2 (v := .int .i64 (tmV a0).fTerm) rfl
          have bw0_3 := Bw0.cell 3 (v := .int .i64 (tmV a0).fVote) rfl
          have bw0_4 := Bw0.cell 4 (v := pw0_4) rfl
          have bw0_5 := Bw0.cell 5 (v := .int .i64 (tmV a0).fCommit) rfl
          have bw0_6 := Bw0.cell 6 (v := .int .i64 (tmV a0).fRole) rfl
          have bw0_7 := Bw0.cell 7 (v := pw0_7) rfl
          have bw0_8 := Bw0.cell 8 (v := pw0_8) rfl
          have bg0_0 := Bg0.cell 0 (v := .int .i64 (tmV a0).fId) rfl
          have bg0_1 := Bg0.cell 1 (v := .int .i64 (tmV a0).fPeers) rfl
          have bg0_2 := Bg0.cell 2 (v := .int .i64 (tmV a0).fTerm) rfl
          have bg0_3 := Bg0.cell 3 (v := .int .i64 (tmV a0).fVote) rfl
          have bg0_4 := Bg0.cell 4 (v := pg0_4) rfl
          have bg0_5 := Bg0.cell 5 (v := .int .i64 (tmV a0).fCommit) rfl
          have bg0_6 := Bg0.cell 6 (v := .int .i64 (tmV a0).fRole) rfl
          have bg0_7 := Bg0.cell 7 (v := pg0_7) rfl
          have bg0_8 := Bg0.cell 8 (v := pg0_8) rfl
          have Xa0 := Lib.hid Ba0
          have Xw0 := Lib.hid Bw0
          have Zw0 := Lib.hid Rw0
          have Zw1 := Lib.hid Rw1
          have Xg0 := Lib.hid Bg0
          have Zg0 := Lib.hid Rg0
          have Zg1 := Lib.hid Rg1
          clear Ba0 Bw0 Rw0 Rw1 Bg0 Rg0 Rg1
          generalize hk3 : (mkRaftMsgS (tmM a0) k2_).2 = k3_ at n3 m3 l3 ⊢
          go_wp2_with fail
          (with_reducible refine (heldRaftNode_k (kRaftNode.M_K Zg0.out) (by omega) (by rw [hk2]; omega) (smRaftNode_le y0 (by decide))).mono ?_)
          rintro e w13 ⟨rfl, hb⟩
          rw [hk2]
          replace sz0 := Nat.le_trans sz0 hb.size
          have Ba0 := Xa0.out.below hb
          have Bw0 := Xw0.out.below hb
          have Rw0 := Rp.M_below Zw0.out hb
          have Rw1 := Rp.M_below Zw1.out hb
          have Bg0 := Xg0.out.below hb
          have Rg0 := Rp.M_below Zg0.out hb
          have Rg1 := Rp.M_below Zg1.out hb
          have HB13 := Lib.hid (HB12.out.trans (hb.mono HB12.out.size))
          clear Xa0 Xw0 Zw0 Zw1 Xg0 Zg0 Zg1 HB12 hb
          clear ba0_0 ba0_1 ba0_2 ba0_3 ba0_4 ba0_5 ba0_6 ba0_7 ba0_8 bw0_0 bw0_1 bw0_2 bw0_3 bw0_4 bw0_5 bw0_6 bw0_7 bw0_8 bg0_0 bg0_1 bg0_2 bg0_3 bg0_4 bg0_5 bg0_6 bg0_7 bg0_8
          have ba0_0 := Ba0.cell 0 (v := .int .i64 a0.fId) rfl
          have ba0_1 := Ba0.cell 1 (v := .int .i64 a0.fPeers) rfl
          have ba0_2 := Ba0.cell 2 (v := .int .i64 a0.fTerm) rfl
          have ba0_3 := Ba0.cell 3 (v := .int .i64 a0.fVote) rfl
          have ba0_4 := Ba0.cell 4 (v := v0_4) rfl
          have ba0_5 := Ba0.cell 5 (v := .int .i64 a0.fCommit) rfl
          have ba0_6 := Ba0.cell 6 (v := .int .i64 a0.fRole) rfl
          have ba0_7 := Ba0.cell 7 (v := v0_7) rfl
          have ba0_8 := Ba0.cell 8 (v := v0_8) rfl
          have bw0_0 := Bw0.cell 0 (v := .int .i64 (tmV a0).fId) rfl
          have bw0_1 := Bw0.cell 1 (v := .int .i64 (tmV a0).fPeers) rfl
          have bw0_2 := Bw0.cell 2 (v := .int .i64 (tmV a0).fTerm) rfl
          have bw0_3 := Bw0.cell 3 (v := .int .i64 (tmV a0).fVote) rfl
          have bw0_4 := Bw0.cell 4 (v := pw0_4) rfl
          have bw0_5 := Bw0.cell 5 (v := .int .i64 (tmV a0).fCommit) rfl
          have bw0_6 := Bw0.cell 6 (v := .int .i64 (tmV a0).fRole) rfl
          have bw0_7 := Bw0.cell 7 (v := pw0_7) rfl
          have bw0_8 := Bw0.cell 8 (v := pw0_8) rfl
          have bg0_0 := Bg0.cell 0 (v := .int .i64 (tmV a0).fId) rfl
          have bg0_1 := Bg0.cell 1 (v := .int .i64 (tmV a0).fPeers) rfl
          have bg0_2 := Bg0.cell 2 (v := .int .i64 (tmV a0).fTerm) rfl
          have bg0_3 := Bg0.cell 3 (v := .int .i64 (tmV a0).fVote) rfl
          have bg0_4 := Bg0.cell 4 (v := pg0_4) rfl
          have bg0_5 := Bg0.cell 5 (v := .int .i64 (tmV a0).fCommit) rfl
          have bg0_6 := Bg0.cell 6 (v := .int .i64 (tmV a0).fRole) rfl
          have bg0_7 := Bg0.cell 7 (v := pg0_7) rfl
          have bg0_8 := Bg0.cell 8 (v := pg0_8) rfl
          have Xa0 := Lib.hid Ba0
          have Xw0 := Lib.hid Bw0
          have Zw0 := Lib.hid Rw0
          have Zw1 := Lib.hid Rw1
          have Xg0 := Lib.hid Bg0
          have Zg0 := Lib.hid Rg0
          have Zg1 := Lib.hid Rg1
          clear Ba0 Bw0 Rw0 Rw1 Bg0 Rg0 Rg1
          have nk32 : ¬ k2_ < 0 := by omega
          go_wp2_with fail
          (with_reducible refine (heldRaftMsgS_k (kRaftMsgS.M_K Zg1.out) (by omega) (by rw [hk3]; omega) (smRaftMsgS_le y1 (by decide))).mono ?_)
          rintro e w14 ⟨rfl, hb⟩
          rw [hk3]
          replace sz0 := Nat.le_trans sz0 hb.size
          have Ba0 := Xa0.out.below hb
          have Bw0 := Xw0.out.below hb
          have Rw0 := Rp.M_below Zw0.out hb
          have Rw1 := Rp.M_below Zw1.out hb
          have Bg0 := Xg0.out.below hb
          have Rg0 := Rp.M_below Zg0.out hb
          have Rg1 := Rp.M_below Zg1.out hb
          have HB14 := Lib.hid (HB13.out.trans (hb.mono HB13.out.size))
          clear Xa0 Xw0 Zw0 Zw1 Xg0 Zg0 Zg1 HB13 hb
          clear ba0_0 ba0_1 ba0_2 ba0_3 ba0_4 ba0_5 ba0_6 ba0_7 ba0_8 bw0_0 bw0_1 bw0_2 bw0_3 bw0_4 bw0_5 bw0_6 bw0_7 bw0_8 bg0_0 bg0_1 bg0_2 bg0_3 bg0_4 bg0_5 bg0_6 bg0_7 bg0_8
          have ba0_0 := Ba0.cell 0 (v := .int .i64 a0.fId) rfl
          have ba0_1 := Ba0.cell 1 (v := .int .i64 a0.fPeers) rfl
          have ba0_2 := Ba0.cell 2 (v := .int .i64 a0.fTerm) rfl
          have ba0_3 := Ba0.cell 3 (v := .int .i64 a0.fVote) rfl
          have ba0_4 := Ba0.cell 4 (v := v0_4) rfl
          have ba0_5 := Ba0.cell 5 (v := .int .i64 a0.fCommit) rfl
          have ba0_6 := Ba0.cell 6 (v := .int .i64 a0.fRole) rfl
          have ba0_7 := Ba0.cell 7 (v := v0_7) rfl
          have ba0_8 := Ba0.cell 8 (v := v0_8) rfl
          have bw0_0 := Bw0.cell 0 (v := .int .i64 (tmV a0).fId) rfl
          have bw0_1 := Bw0.cell 1 (v := .int .i64 (tmV a0).fPeers) rfl
          have bw0_2 := Bw0.cell 2 (v := .int .i64 (tmV a0).fTerm) rfl
          have bw0_3 := Bw0.cell 3 (v := .int .i64 (tmV a0).fVote) rfl
          have bw0_4 := Bw0.cell 4 (v := pw0_4) rfl
          have bw0_5 := Bw0.cell 5 (v := .int .i64 (tmV a0).fCommit) rfl
          have bw0_6 := Bw0.cell 6 (v := .int .i64 (tmV a0).fRole) rfl
          have bw0_7 := Bw0.cell 7 (v := pw0_7) rfl
          have bw0_8 := Bw0.cell 8 (v := pw0_8) rfl
          have bg0_0 := Bg0.cell 0 (v := .int .i64 (tmV a0).fId) rfl
          have bg0_1 := Bg0.cell 1 (v := .int .i64 (tmV a0).fPeers) rfl
          have bg0_2 := Bg0.cell 2 (v := .int .i64 (tmV a0).fTerm) rfl
          have bg0_3 := Bg0.cell 3 (v := .int .i64 (tmV a0).fVote) rfl
          have bg0_4 := Bg0.cell 4 (v := pg0_4) rfl
          have bg0_5 := Bg0.cell 5 (v := .int .i64 (tmV a0).fCommit) rfl
          have bg0_6 := Bg0.cell 6 (v := .int .i64 (tmV a0).fRole) rfl
          have bg0_7 := Bg0.cell 7 (v := pg0_7) rfl
          have bg0_8 := Bg0.cell 8 (v := pg0_8) rfl
          have Xa0 := Lib.hid Ba0
          have Xw0 := Lib.hid Bw0
          have Zw0 := Lib.hid Rw0
          have Zw1 := Lib.hid Rw1
          have Xg0 := Lib.hid Bg0
          have Zg0 := Lib.hid Rg0
          have Zg1 := Lib.hid Rg1
          clear Ba0 Bw0 Rw0 Rw1 Bg0 Rg0 Rg1
          have nk34 : ¬ k3_ < 0 := by omega
          go_upto_region 28 with fail
          go_cut [14, 15, 16] from 14 to 16 (fun s14 s15 s16 wx => HasTimeoutNode a0 w14.heap.size w14 wx s14 s15 ∧ s16 = .bool (tmOk a0))
          case first =>
            have ya0 : w.heap.size < w14.heap.size := Xa0.out.lt
            have yw0 : gw0 < w14.heap.size := Xw0.out.lt
            have yg0 : gg0 < w14.heap.size := Xg0.out.lt
            have yh := HB14.out.size
            go_wp2_with (first
                | (go_at_call 6; ((with_reducible refine (toRaftNode_k (kRaftNode.K_below (HB14.out.trans (Below.mono (by repeat (first | assumption | (with_reducible exact Below.refl _ _) | (with_reducible refine below_call ?_ hc) | (with_reducible refine below_call ?_ hb0) | (with_reducible refine below_call ?_ hb) | (with_reducible refine Below.drew ?_) | (with_reducible refine below_alloc2 ?_ _))) HB14.out.size)).block G0.out) (szRaftNode_sm (n := 1048576) (x := a0) (by omega))).mono ?_); rintro e wt0 ⟨ds0, F0_, rfl, ra0, rb0, rc0, hb0⟩; have zs0 := hb0.size; (try simp at zs0); (first | have BG0 := Box.below BG0 hb0 | have BG0 := Box.below (Box.drew (Box.new (T := 29) (cs := #[.int .i64 0, .int .i64 0, .int .i64 0, .int .i64 0, .slice none 0 0, .int .i64 0, .int .i64 0, .slice none 0 0, .slice none 0 0]) rfl)) hb0 | have BG0 := Box.below (Box.new (T := 29) (cs := #[.int .i64 0, .int .i64 0, .int .i64 0, .int .i64 0, .slice none 0 0, .int .i64 0, .int .i64 0, .slice none 0 0, .slice none 0 0]) rfl) hb0 | skip)))
                | (go_at_call 7; ((with_reducible refine (iTimeoutNode_k (kRaftNode.K_below ((by repeat (first | assumption | (with_reducible exact Below.refl _ _) | (with_reducible refine below_call ?_ hc) | (with_reducible refine below_call ?_ hb0) | (with_reducible refine below_call ?_ hb) | (with_reducible refine Below.drew ?_) | (with_reducible refine below_alloc2 ?_ _))) : Below _ _ _).block (kRaftNode.M_K ra0)) h0 (by have := (szRaftNode_sm (n := 1048576) (x := a0) (by omega)); exact this)).mono ?_); rintro e wz ⟨cd0, FD0, cd1, FD1, rfl, rd0, rd1, rd_1, rd_2, hc⟩; have zs_c := hc.size; (try simp at zs_c); obtain ⟨pd0_4, pd0_7, pd0_8, FD0_4, FD0_7, FD0_8, rfl, rfl, pd0_r4, pd0_r7, pd0_r8⟩ := kRaftNode_open rd0; obtain ⟨pd0_A4, pd0_C4, rfl, _, _⟩ := Rp.Row_K pd0_r4; obtain ⟨pd0_A7, pd0_C7, rfl, _, _⟩ := Rp.Row_K pd0_r7; obtain ⟨pd0_A8, pd0_C8, rfl, _, _⟩ := Rp.Row_K pd0_r8; (first | have BG0 := Box.below BG0 hc | have BG0 := Box.below (Box.drew (Box.new (T := 29) (cs := #[.int .i64 0, .int .i64 0, .int .i64 0, .int .i64 0, .slice none 0 0, .int .i64 0, .int .i64 0, .slice none 0 0, .slice none 0 0]) rfl)) hc | have BG0 := Box.below (Box.new (T := 29) (cs := #[.int .i64 0, .int .i64 0, .int .i64 0, .int .i64 0, .slice none 0 0, .int .i64 0, .int .i64 0, .slice none 0 0, .slice none 0 0]) rfl) hc | skip); (try (have q0_0 := BG0.cell 0 (v := .int .i64 0) rfl; have q0_1 := BG0.cell 1 (v := .int .i64 0) rfl; have q0_2 := BG0.cell 2 (v := .int .i64 0) rfl; have q0_3 := BG0.cell 3 (v := .int .i64 0) rfl; have q0_4 := BG0.cell 4 (v := .slice none 0 0) rfl; have q0_5 := BG0.cell 5 (v := .int .i64 0) rfl; have q0_6 := BG0.cell 6 (v := .int .i64 0) rfl; have q0_7 := BG0.cell 7 (v := .slice none 0 0) rfl; have q0_8 := BG0.cell 8 (v := .slice none 0 0) rfl; have fg0 := BG0.fro)))))
            all_goals (go_meet; go_light)
            all_goals
              have K : Below w14.heap.size w14 wz := (by repeat (first | assumption | (with_reducible exact Below.refl _ _) | (with_reducible refine below_call ?_ hc) | (with_reducible refine below_call ?_ hb0) | (with_reducible refine below_call ?_ hb) | (with_reducible refine Below.drew ?_) | (with_reducible refine below_alloc2 ?_ _)))
              first
                | (refine ⟨?_, rfl⟩; with_reducible refine Has2.new (d := kRaftNode) (d2 := kRaftMsgS) (kRaftNode_make pd0_r4 pd0_r7 pd0_r8) rd1 rd_2 ?_ K (Nat.le_refl _); exact (fun b hm => by have := rd_1 b hm; first | omega | (simp at this; omega)))
                | (refine ⟨?_, rfl⟩; exact Has2.old (d := kRaftNode) (d2 := kRaftMsgS) (kRaftNode_make pd0_r4 pd0_r7 pd0_r8) rd1 rd_2 (fun b hm => by have := rd_1 b hm; first | omega | (simp at this; omega)) K BG0 (by first | omega | (simp; omega) | (simp; done)) (Nat.le_refl _) rfl)
          case rest =>
            rename World => w15
            obtain ⟨⟨gh0, Fh0, _, Fh1, ph1_, rfl, rfl, Bh0, Rh0, Rh1, Nh0, Nh1, dh0, dh1, Jh0_h1, eh0, hb⟩, rfl⟩ := hcut
            obtain ⟨ph0_4, ph0_7, ph0_8, Fh0_4, Fh0_7, Fh0_8, rfl, rfl, rh0_4, rh0_7, rh0_8⟩ := kRaftNode_open Rh0
            have Rh0 := kRaftNode_make rh0_4 rh0_7 rh0_8
            clear rh0_4 rh0_7 rh0_8
            have Jh1_h0 := fun b h1 h2 => Jh0_h1 b h2 h1
            have Dh0 := fun b hb => (dh0 b hb).1; have Nh0_h0 := fun b hb => (dh0 b hb).2; clear dh0
            have Dh1 := fun b hb => (dh1 b hb).1; have Nh1_h0 := fun b hb => (dh1 b hb).2; clear dh1
            have eh0 := And.intro eh0 Bh0.lt
            have Eh0 := kRaftNode.M_lt Rh0
            have Eh1 := kRaftMsgS.M_lt Rh1
            have zzh0 := hb.size
            have zzh1 := hb.size
            have soh0 := sz0
            have soh1 := sz0
            replace sz0 := Nat.le_trans sz0 hb.size
            have Ba0 := Xa0.out.below hb
            have Bw0 := Xw0.out.below hb
            have Rw0 := Rp.M_below Zw0.out hb
            have Rw1 := Rp.M_below Zw1.out hb
            have Bg0 := Xg0.out.below hb
            have Rg0 := Rp.M_below Zg0.out hb
            have Rg1 := Rp.M_below Zg1.out hb
            have HB15 := Lib.hid (HB14.out.trans (hb.mono HB14.out.size))
            clear Xa0 Xw0 Zw0 Zw1 Xg0 Zg0 Zg1 HB14 hb
            clear ba0_0 ba0_1 ba0_2 ba0_3 ba0_4 ba0_5 ba0_6 ba0_7 ba0_8 bw0_0 bw0_1 bw0_2 bw0_3 bw0_4 bw0_5 bw0_6 bw0_7 bw0_8 bg0_0 bg0_1 bg0_2 bg0_3 bg0_4 bg0_5 bg0_6 bg0_7 bg0_8
            have ba0_0 := Ba0.cell 0 (v := .int .i64 a0.fId) rfl
            have ba0_1 := Ba0.cell 1 (v := .int .i64 a0.fPeers) rfl
            have ba0_2 := Ba0.cell 2 (v := .int .i64 a0.fTerm) rfl
            have ba0_3 := Ba0.cell 3 (v := .int .i64 a0.fVote) rfl
            have ba0_4 := Ba0.cell 4 (v := v0_4) rfl
            have ba0_5 := Ba0.cell 5 (v := .int .i64 a0.fCommit) rfl
            have ba0_6 := Ba0.cell 6 (v := .int .i64 a0.fRole) rfl
            have ba0_7 := Ba0.cell 7 (v := v0_7) rfl
            have ba0_8 := Ba0.cell 8 (v := v0_8) rfl
            have bw0_0 := Bw0.cell 0 (v := .int .i64 (tmV a0).fId) rfl
            have bw0_1 := Bw0.cell 1 (v := .int .i64 (tmV a0).fPeers) rfl
            have bw0_2 := Bw0.cell 2 (v := .int .i64 (tmV a0).fTerm) rfl
            have bw0_3 := Bw0.cell 3 (v := .int .i64 (tmV a0).fVote) rfl
            have bw0_4 := Bw0.cell 4 (v := pw0_4) rfl
            have bw0_5 := Bw0.cell 5 (v := .int .i64 (tmV a0).fCommit) rfl
            have bw0_6 := Bw0.cell 6 (v := .int .i64 (tmV a0).fRole) rfl
            have bw0_7 := Bw0.cell 7 (v := pw0_7) rfl
            have bw0_8 := Bw0.cell 8 (v := pw0_8) rfl
            have bg0_0 := Bg0.cell 0 (v := .int .i64 (tmV a0).fId) rfl
            have bg0_1 := Bg0.cell 1 (v := .int .i64 (tmV a0).fPeers) rfl
            have bg0_2 := Bg0.cell 2 (v := .int .i64 (tmV a0).fTerm) rfl
            have bg0_3 := Bg0.cell 3 (v := .int .i64 (tmV a0).fVote) rfl
            have bg0_4 := Bg0.cell 4 (v := pg0_4) rfl
            have bg0_5 := Bg0.cell 5 (v := .int .i64 (tmV a0).fCommit) rfl
            have bg0_6 := Bg0.cell 6 (v := .int .i64 (tmV a0).fRole) rfl
            have bg0_7 := Bg0.cell 7 (v := pg0_7) rfl
            have bg0_8 := Bg0.cell 8 (v := pg0_8) rfl
            have bh0_0 := Bh0.cell 0 (v := .int .i64 (tmV a0).fId) rfl
            have bh0_1 := Bh0.cell 1 (v := .int .i64 (tmV a0).fPeers) rfl
            have bh0_2 := Bh0.cell 2 (v := .int .i64 (tmV a0).fTerm) rfl
            have bh0_3 := Bh0.cell 3 (v := .int .i64 (tmV a0).fVote) rfl
            have bh0_4 := Bh0.cell 4 (v := ph0_4) rfl
            have bh0_5 := Bh0.cell 5 (v := .int .i64 (tmV a0).fCommit) rfl
            have bh0_6 := Bh0.cell 6 (v := .int .i64 (tmV a0).fRole) rfl
            have bh0_7 := Bh0.cell 7 (v := ph0_7) rfl
            have bh0_8 := Bh0.cell 8 (v := ph0_8) rfl
            have Xa0 := Lib.hid Ba0
            have Xw0 := Lib.hid Bw0
            have Zw0 := Lib.hid Rw0
            have Zw1 := Lib.hid Rw1
            have Xg0 := Lib.hid Bg0
            have Zg0 := Lib.hid Rg0
            have Zg1 := Lib.hid Rg1
            have Xh0 := Lib.hid Bh0
            have Zh0 := Lib.hid Rh0
            have Zh1 := Lib.hid Rh1
            clear Ba0 Bw0 Rw0 Rw1 Bg0 Rg0 Rg1 Bh0 Rh0 Rh1
            go_wp2_with fail
            (with_reducible refine (eqRaftNode_k (kRaftNode.M_K Zh0.out) (kRaftNode.M_K Zw0.out) (smRaftNode_le y0 (by decide))).mono ?_)
            rintro e w16 ⟨rfl, hb⟩
            replace sz0 := Nat.le_trans sz0 hb.size
            have Ba0 := Xa0.out.below hb
            have Bw0 := Xw0.out.below hb
            have Rw0 := Rp.M_below Zw0.out hb
            have Rw1 := Rp.M_below Zw1.out hb
            have Bg0 := Xg0.out.below hb
            have Rg0 := Rp.M_below Zg0.out hb
            have Rg1 := Rp.M_below Zg1.out hb
            have Bh0 := Xh0.out.below hb
            have Rh0 := Rp.M_below Zh0.out hb
            have Rh1 := Rp.M_below Zh1.out hb
            have HB16 := Lib.hid (HB15.out.trans (hb.mono HB15.out.size))
            clear Xa0 Xw0 Zw0 Zw1 Xg0 Zg0 Zg1 Xh0 Zh0 Zh1 HB15 hb
            clear ba0_0 ba0_1 ba0_2 ba0_3 ba0_4 ba0_5 ba0_6 ba0_7 ba0_8 bw0_0 bw0_1 bw0_2 bw0_3 bw0_4 bw0_5 bw0_6 bw0_7 bw0_8 bg0_0 bg0_1 bg0_2 bg0_3 bg0_4 bg0_5 bg0_6 bg0_7 bg0_8 bh0_0 bh0_1 bh0_2 bh0_3 bh0_4 bh0_5 bh0_6 bh0_7 bh0_8
            have ba0_0 := Ba0.cell 0 (v := .int .i64 a0.fId) rfl
            have ba0_1 := Ba0.cell 1 (v := .int .i64 a0.fPeers) rfl
            have ba0_2 := Ba0.cell 2 (v := .int .i64 a0.fTerm) rfl
            have ba0_3 := Ba0.cell 3 (v := .int .i64 a0.fVote) rfl
            have ba0_4 := Ba0.cell 4 (v := v0_4) rfl
            have ba0_5 := Ba0.cell 5 (v := .int .i64 a0.fCommit) rfl
            have ba0_6 := Ba0.cell 6 (v := .int .i64 a0.fRole) rfl
            have ba0_7 := Ba0.cell 7 (v := v0_7) rfl
            have ba0_8 := Ba0.cell 8 (v := v0_8) rfl
            have bw0_0 := Bw0.cell 0 (v := .int .i64 (tmV a0).fId) rfl
            have bw0_1 := Bw0.cell 1 (v := .int .i64 (tmV a0).fPeers) rfl
            have bw0_2 := Bw0.cell 2 (v := .int .i64 (tmV a0).fTerm) rfl
            have bw0_3 := Bw0.cell 3 (v := .int .i64 (tmV a0).fVote) rfl
            have bw0_4 := Bw0.cell 4 (v := pw0_4) rfl
            have bw0_5 := Bw0.cell 5 (v := .int .i64 (tmV a0).fCommit) rfl
            have bw0_6 := Bw0.cell 6 (v := .int .i64 (tmV a0).fRole) rfl
            have bw0_7 := Bw0.cell 7 (v := pw0_7) rfl
            have bw0_8 := Bw0.cell 8 (v := pw0_8) rfl
            have bg0_0 := Bg0.cell 0 (v := .int .i64 (tmV a0).fId) rfl
            have bg0_1 := Bg0.cell 1 (v := .int .i64 (tmV a0).fPeers) rfl
            have bg0_2 := Bg0.cell 2 (v := .int .i64 (tmV a0).fTerm) rfl
            have bg0_3 := Bg0.cell 3 (v := .int .i64 (tmV a0).fVote) rfl
            have bg0_4 := Bg0.cell 4 (v := pg0_4) rfl
            have bg0_5 := Bg0.cell 5 (v := .int .i64 (tmV a0).fCommit) rfl
            have bg0_6 := Bg0.cell 6 (v := .int .i64 (tmV a0).fRole) rfl
            have bg0_7 := Bg0.cell 7 (v := pg0_7) rfl
            have bg0_8 := Bg0.cell 8 (v := pg0_8) rfl
            have bh0_0 := Bh0.cell 0 (v := .int .i64 (tmV a0).fId) rfl
            have bh0_1 := Bh0.cell 1 (v := .int .i64 (tmV a0).fPeers) rfl
            have bh0_2 := Bh0.cell 2 (v := .int .i64 (tmV a0).fTerm) rfl
            have bh0_3 := Bh0.cell 3 (v := .int .i64 (tmV a0).fVote) rfl
            have bh0_4 := Bh0.cell 4 (v := ph0_4) rfl
            have bh0_5 := Bh0.cell 5 (v := .int .i64 (tmV a0).fCommit) rfl
            have bh0_6 := Bh0.cell 6 (v := .int .i64 (tmV a0).fRole) rfl
            have bh0_7 := Bh0.cell 7 (v := ph0_7) rfl
            have bh0_8 := Bh0.cell 8 (v := ph0_8) rfl
            have Xa0 := Lib.hid Ba0
            have Xw0 := Lib.hid Bw0
            have Zw0 := Lib.hid Rw0
            have Zw1 := Lib.hid Rw1
            have Xg0 := Lib.hid Bg0
            have Zg0 := Lib.hid Rg0
            have Zg1 := Lib.hid Rg1
            have Xh0 := Lib.hid Bh0
            have Zh0 := Lib.hid Rh0
            have Zh1 := Lib.hid Rh1
            clear Ba0 Bw0 Rw0 Rw1 Bg0 Rg0 Rg1 Bh0 Rh0 Rh1
            go_wp2_with fail
            (with_reducible refine (eqRaftMsgS_k (kRaftMsgS.M_K Zh1.out) (kRaftMsgS.M_K Zw1.out) (smRaftMsgS_le y1 (by decide))).mono ?_)
            rintro e w17 ⟨rfl, hb⟩
            replace sz0 := Nat.le_trans sz0 hb.size
            have Ba0 := Xa0.out.below hb
            have Bw0 := Xw0.out.below hb
            have Rw0 := Rp.M_below Zw0.out hb
            have Rw1 := Rp.M_below Zw1.out hb
            have Bg0 := Xg0.out.below hb
            have Rg0 := Rp.M_below Zg0.out hb
            have Rg1 := Rp.M_below Zg1.out hb
            have Bh0 := Xh0.out.below hb
            have Rh0 := Rp.M_below Zh0.out hb
            have Rh1 := Rp.M_below Zh1.out hb
            have HB17 := Lib.hid (HB16.out.trans (hb.mono HB16.out.size))
            clear Xa0 Xw0 Zw0 Zw1 Xg0 Zg0 Zg1 Xh0 Zh0 Zh1 HB16 hb
            clear ba0_0 ba0_1 ba0_2 ba0_3 ba0_4 ba0_5 ba0_6 ba0_7 ba0_8 bw0_0 bw0_1 bw0_2 bw0_3 bw0_4 bw0_5 bw0_6 bw0_7 bw0_8 bg0_0 bg0_1 bg0_2 bg0_3 bg0_4 bg0_5 bg0_6 bg0_7 bg0_8 bh0_0 bh0_1 bh0_2 bh0_3 bh0_4 bh0_5 bh0_6 bh0_7 bh0_8
            have ba0_0 := Ba0.cell 0 (v := .int .i64 a0.fId) rfl
            have ba0_1 := Ba0.cell 1 (v := .int .i64 a0.fPeers) rfl
            have ba0_2 := Ba0.cell 2 (v := .int .i64 a0.fTerm) rfl
            have ba0_3 := Ba0.cell 3 (v := .int .i64 a0.fVote) rfl
            have ba0_4 := Ba0.cell 4 (v := v0_4) rfl
            have ba0_5 := Ba0.cell 5 (v := .int .i64 a0.fCommit) rfl
            have ba0_6 := Ba0.cell 6 (v := .int .i64 a0.fRole) rfl
            have ba0_7 := Ba0.cell 7 (v := v0_7) rfl
            have ba0_8 := Ba0.cell 8 (v := v0_8) rfl
            have bw0_0 := Bw0.cell 0 (v := .int .i64 (tmV a0).fId) rfl
            have bw0_1 := Bw0.cell 1 (v := .int .i64 (tmV a0).fPeers) rfl
            have bw0_2 := Bw0.cell 2 (v := .int .i64 (tmV a0).fTerm) rfl
            have bw0_3 := Bw0.cell 3 (v := .int .i64 (tmV a0).fVote) rfl
            have bw0_4 := Bw0.cell 4 (v := pw0_4) rfl
            have bw0_5 := Bw0.cell 5 (v := .int .i64 (tmV a0).fCommit) rfl
            have bw0_6 := Bw0.cell 6 (v := .int .i64 (tmV a0).fRole) rfl
            have bw0_7 := Bw0.cell 7 (v := pw0_7) rfl
            have bw0_8 := Bw0.cell 8 (v := pw0_8) rfl
            have bg0_0 := Bg0.cell 0 (v := .int .i64 (tmV a0).fId) rfl
            have bg0_1 := Bg0.cell 1 (v := .int .i64 (tmV a0).fPeers) rfl
            have bg0_2 := Bg0.cell 2 (v := .int .i64 (tmV a0).fTerm) rfl
            have bg0_3 := Bg0.cell 3 (v := .int .i64 (tmV a0).fVote) rfl
            have bg0_4 := Bg0.cell 4 (v := pg0_4) rfl
            have bg0_5 := Bg0.cell 5 (v := .int .i64 (tmV a0).fCommit) rfl
            have bg0_6 := Bg0.cell 6 (v := .int .i64 (tmV a0).fRole) rfl
            have bg0_7 := Bg0.cell 7 (v := pg0_7) rfl
            have bg0_8 := Bg0.cell 8 (v := pg0_8) rfl
            have bh0_0 := Bh0.cell 0 (v := .int .i64 (tmV a0).fId) rfl
            have bh0_1 := Bh0.cell 1 (v := .int .i64 (tmV a0).fPeers) rfl
            have bh0_2 := Bh0.cell 2 (v := .int .i64 (tmV a0).fTerm) rfl
            have bh0_3 := Bh0.cell 3 (v := .int .i64 (tmV a0).fVote) rfl
            have bh0_4 := Bh0.cell 4 (v := ph0_4) rfl
            have bh0_5 := Bh0.cell 5 (v := .int .i64 (tmV a0).fCommit) rfl
            have bh0_6 := Bh0.cell 6 (v := .int .i64 (tmV a0).fRole) rfl
            have bh0_7 := Bh0.cell 7 (v := ph0_7) rfl
            have bh0_8 := Bh0.cell 8 (v := ph0_8) rfl
            have Xa0 := Lib.hid Ba0
            have Xw0 := Lib.hid Bw0
            have Zw0 := Lib.hid Rw0
            have Zw1 := Lib.hid Rw1
            have Xg0 := Lib.hid Bg0
            have Zg0 := Lib.hid Rg0
            have Zg1 := Lib.hid Rg1
            have Xh0 := Lib.hid Bh0
            have Zh0 := Lib.hid Rh0
            have Zh1 := Lib.hid Rh1
            clear Ba0 Bw0 Rw0 Rw1 Bg0 Rg0 Rg1 Bh0 Rh0 Rh1
            go_wp2_with fail
            (with_reducible refine (heldRaftNode_k (kRaftNode.M_K Zg0.out) (by omega) (by rw [hk2]; omega) (smRaftNode_le y0 (by decide))).mono ?_)
            rintro e w18 ⟨rfl, hb⟩
            rw [hk2]
            replace sz0 := Nat.le_trans sz0 hb.size
            have Ba0 := Xa0.out.below hb
            have Bw0 := Xw0.out.below hb
            have Rw0 := Rp.M_below Zw0.out hb
            have Rw1 := Rp.M_below Zw1.out hb
            have Bg0 := Xg0.out.below hb
            have Rg0 := Rp.M_below Zg0.out hb
            have Rg1 := Rp.M_below Zg1.out hb
            have Bh0 := Xh0.out.below hb
            have Rh0 := Rp.M_below Zh0.out hb
            have Rh1 := Rp.M_below Zh1.out hb
            have HB18 := Lib.hid (HB17.out.trans (hb.mono HB17.out.size))
            clear Xa0 Xw0 Zw0 Zw1 Xg0 Zg0 Zg1 Xh0 Zh0 Zh1 HB17 hb
            clear ba0_0 ba0_1 ba0_2 ba0_3 ba0_4 ba0_5 ba0_6 ba0_7 ba0_8 bw0_0 bw0_1 bw0_2 bw0_3 bw0_4 bw0_5 bw0_6 bw0_7 bw0_8 bg0_0 bg0_1 bg0_2 bg0_3 bg0_4 bg0_5 bg0_6 bg0_7 bg0_8 bh0_0 bh0_1 bh0_2 bh0_3 bh0_4 bh0_5 bh0_6 bh0_7 bh0_8
            have ba0_0 := Ba0.cell 0 (v := .int .i64 a0.fId) rfl
            have ba0_1 := Ba0.cell 1 (v := .int .i64 a0.fPeers) rfl
            have ba0_2 := Ba0.cell 2 (v := .int .i64 a0.fTerm) rfl
            have ba0_3 := Ba0.cell 3 (v := .int .i64 a0.fVote) rfl
            have ba0_4 := Ba0.cell 4 (v := v0_4) rfl
            have ba0_5 := Ba0.cell 5 (v := .int .i64 a0.fCommit) rfl
            have ba0_6 := Ba0.cell 6 (v := .int .i64 a0.fRole) rfl
            have ba0_7 := Ba0.cell 7 (v := v0_7) rfl
            have ba0_8 := Ba0.cell 8 (v := v0_8) rfl
            have bw0_0 := Bw0.cell 0 (v := .int .i64 (tmV a0).fId) rfl
            have bw0_1 := Bw0.cell 1 (v := .int .i64 (tmV a0).fPeers) rfl
            have bw0_2 := Bw0.cell 2 (v := .int .i64 (tmV a0).fTerm) rfl
            have bw0_3 := Bw0.cell 3 (v := .int .i64 (tmV a0).fVote) rfl
            have bw0_4 := Bw0.cell 4 (v := pw0_4) rfl
            have bw0_5 := Bw0.cell 5 (v := .int .i64 (tmV a0).fCommit) rfl
            have bw0_6 := Bw0.cell 6 (v := .int .i64 (tmV a0).fRole) rfl
            have bw0_7 := Bw0.cell 7 (v := pw0_7) rfl
            have bw0_8 := Bw0.cell 8 (v := pw0_8) rfl
            have bg0_0 := Bg0.cell 0 (v := .int .i64 (tmV a0).fId) rfl
            have bg0_1 := Bg0.cell 1 (v := .int .i64 (tmV a0).fPeers) rfl
            have bg0_2 := Bg0.cell 2 (v := .int .i64 (tmV a0).fTerm) rfl
            have bg0_3 := Bg0.cell 3 (v := .int .i64 (tmV a0).fVote) rfl
            have bg0_4 := Bg0.cell 4 (v := pg0_4) rfl
            have bg0_5 := Bg0.cell 5 (v := .int .i64 (tmV a0).fCommit) rfl
            have bg0_6 := Bg0.cell 6 (v := .int .i64 (tmV a0).fRole) rfl
            have bg0_7 := Bg0.cell 7 (v := pg0_7) rfl
            have bg0_8 := Bg0.cell 8 (v := pg0_8) rfl
            have bh0_0 := Bh0.cell 0 (v := .int .i64 (tmV a0).fId) rfl
            have bh0_1 := Bh0.cell 1 (v := .int .i64 (tmV a0).fPeers) rfl
            have bh0_2 := Bh0.cell 2 (v := .int .i64 (tmV a0).fTerm) rfl
            have bh0_3 := Bh0.cell 3 (v := .int .i64 (tmV a0).fVote) rfl
            have bh0_4 := Bh0.cell 4 (v := ph0_4) rfl
            have bh0_5 := Bh0.cell 5 (v := .int .i64 (tmV a0).fCommit) rfl
            have bh0_6 := Bh0.cell 6 (v := .int .i64 (tmV a0).fRole) rfl
            have bh0_7 := Bh0.cell 7 (v := ph0_7) rfl
            have bh0_8 := Bh0.cell 8 (v := ph0_8) rfl
            have Xa0 := Lib.hid Ba0
            have Xw0 := Lib.hid Bw0
            have Zw0 := Lib.hid Rw0
            have Zw1 := Lib.hid Rw1
            have Xg0 := Lib.hid Bg0
            have Zg0 := Lib.hid Rg0
            have Zg1 := Lib.hid Rg1
            have Xh0 := Lib.hid Bh0
            have Zh0 := Lib.hid Rh0
            have Zh1 := Lib.hid Rh1
            clear Ba0 Bw0 Rw0 Rw1 Bg0 Rg0 Rg1 Bh0 Rh0 Rh1
            have nk31 : ¬ k2_ < 0 := by omega
            go_wp2_with fail
            (with_reducible refine (heldRaftMsgS_k (kRaftMsgS.M_K Zg1.out) (by omega) (by rw [hk3]; omega) (smRaftMsgS_le y1 (by decide))).mono ?_)
            rintro e w19 ⟨rfl, hb⟩
            rw [hk3]
            replace sz0 := Nat.le_trans sz0 hb.size
            have Ba0 := Xa0.out.below hb
            have Bw0 := Xw0.out.below hb
            have Rw0 := Rp.M_below Zw0.out hb
            have Rw1 := Rp.M_below Zw1.out hb
            have Bg0 := Xg0.out.below hb
            have Rg0 := Rp.M_below Zg0.out hb
            have Rg1 := Rp.M_below Zg1.out hb
            have Bh0 := Xh0.out.below hb
            have Rh0 := Rp.M_below Zh0.out hb
            have Rh1 := Rp.M_below Zh1.out hb
            have HB19 := Lib.hid (HB18.out.trans (hb.mono HB18.out.size))
            clear Xa0 Xw0 Zw0 Zw1 Xg0 Zg0 Zg1 Xh0 Zh0 Zh1 HB18 hb
            clear ba0_0 ba0_1 ba0_2 ba0_3 ba0_4 ba0_5 ba0_6 ba0_7 ba0_8 bw0_0 bw0_1 bw0_2 bw0_3 bw0_4 bw0_5 bw0_6 bw0_7 bw0_8 bg0_0 bg0_1 bg0_2 bg0_3 bg0_4 bg0_5 bg0_6 bg0_7 bg0_8 bh0_0 bh0_1 bh0_2 bh0_3 bh0_4 bh0_5 bh0_6 bh0_7 bh0_8
            have ba0_0 := Ba0.cell 0 (v := .int .i64 a0.fId) rfl
            have ba0_1 := Ba0.cell 1 (v := .int .i64 a0.fPeers) rfl
            have ba0_2 := Ba0.cell 2 (v := .int .i64 a0.fTerm) rfl
            have ba0_3 := Ba0.cell 3 (v := .int .i64 a0.fVote) rfl
            have ba0_4 := Ba0.cell 4 (v := v0_4) rfl
            have ba0_5 := Ba0.cell 5 (v := .int .i64 a0.fCommit) rfl
            have ba0_6 := Ba0.cell 6 (v := .int .i64 a0.fRole) rfl
            have ba0_7 := Ba0.cell 7 (v := v0_7) rfl
            have ba0_8 := Ba0.cell 8 (v := v0_8) rfl
            have bw0_0 := Bw0.cell 0 (v := .int .i64 (tmV a0).fId) rfl
            have bw0_1 := Bw0.cell 1 (v := .int .i64 (tmV a0).fPeers) rfl
            have bw0_2 := Bw0.cell 2 (v := .int .i64 (tmV a0).fTerm) rfl
            have bw0_3 := Bw0.cell 3 (v := .int .i64 (tmV a0).fVote) rfl
            have bw0_4 := Bw0.cell 4 (v := pw0_4) rfl
            have bw0_5 := Bw0.cell 5 (v := .int .i64 (tmV a0).fCommit) rfl
            have bw0_6 := Bw0.cell 6 (v := .int .i64 (tmV a0).fRole) rfl
            have bw0_7 := Bw0.cell 7 (v := pw0_7) rfl
            have bw0_8 := Bw0.cell 8 (v := pw0_8) rfl
            have bg0_0 := Bg0.cell 0 (v := .int .i64 (tmV a0).fId) rfl
            have bg0_1 := Bg0.cell 1 (v := .int .i64 (tmV a0).fPeers) rfl
            have bg0_2 := Bg0.cell 2 (v := .int .i64 (tmV a0).fTerm) rfl
            have bg0_3 := Bg0.cell 3 (v := .int .i64 (tmV a0).fVote) rfl
            have bg0_4 := Bg0.cell 4 (v := pg0_4) rfl
            have bg0_5 := Bg0.cell 5 (v := .int .i64 (tmV a0).fCommit) rfl
            have bg0_6 := Bg0.cell 6 (v := .int .i64 (tmV a0).fRole) rfl
            have bg0_7 := Bg0.cell 7 (v := pg0_7) rfl
            have bg0_8 := Bg0.cell 8 (v := pg0_8) rfl
            have bh0_0 := Bh0.cell 0 (v := .int .i64 (tmV a0).fId) rfl
            have bh0_1 := Bh0.cell 1 (v := .int .i64 (tmV a0).fPeers) rfl
            have bh0_2 := Bh0.cell 2 (v := .int .i64 (tmV a0).fTerm) rfl
            have bh0_3 := Bh0.cell 3 (v := .int .i64 (tmV a0).fVote) rfl
            have bh0_4 := Bh0.cell 4 (v := ph0_4) rfl
            have bh0_5 := Bh0.cell 5 (v := .int .i64 (tmV a0).fCommit) rfl
            have bh0_6 := Bh0.cell 6 (v := .int .i64 (tmV a0).fRole) rfl
            have bh0_7 := Bh0.cell 7 (v := ph0_7) rfl
            have bh0_8 := Bh0.cell 8 (v := ph0_8) rfl
            have Xa0 := Lib.hid Ba0
            have Xw0 := Lib.hid Bw0
            have Zw0 := Lib.hid Rw0
            have Zw1 := Lib.hid Rw1
            have Xg0 := Lib.hid Bg0
            have Zg0 := Lib.hid Rg0
            have Zg1 := Lib.hid Rg1
            have Xh0 := Lib.hid Bh0
            have Zh0 := Lib.hid Rh0
            have Zh1 := Lib.hid Rh1
            clear Ba0 Bw0 Rw0 Rw1 Bg0 Rg0 Rg1 Bh0 Rh0 Rh1
            have nk34 : ¬ k3_ < 0 := by omega
            go_wp2
            go_ret
            exact ⟨rfl, HB19.out⟩
end Go.Proofs.Ytcimnhpgackciaa
