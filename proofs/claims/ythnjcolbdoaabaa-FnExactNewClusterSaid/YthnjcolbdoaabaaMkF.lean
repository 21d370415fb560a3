/- What is held in slices of structs that hold slices. -/
import Derived.Test.YthnjcolbdoaabaaMkE
namespace Go.Proofs.Ythnjcolbdoaabaa
open Go Go.RowKit Go.Sort
set_option linter.unusedVariables false
set_option linter.unusedSimpArgs false

set_option maxHeartbeats 4000000 in
set_option maxRecDepth 100000 in
theorem heldRaftNodeS_calls (xs : List DRaftNode) (k : Int) (v : Value) (w : World) (h : kRaftNode.S w (mkL meRaftNode xs k).1 v) (h0 : 0 ≤ k) (h1 : (mkL meRaftNode xs k).2 ≤ 4611686018427387904) (hl : smRaftNodeS 140737488355328 xs) :
    Calls Try.prog 101 #[v, .int .i64 k] w fun e w' => e = .returned (.int .i64 (mkL meRaftNode xs k).2) ∧ Below w.heap.size w w' := by
  obtain ⟨A, c, rfl, hc, hC⟩ := h
  rw [mkL_len] at hc ⊢
  have H := Lib.hid hC; clear hC
  have H1 := Lib.hid h1; clear h1
  have HL := Lib.hid hl
  have hl1 := hl.1
  clear hl
  go_enter Try.func101, Try.ntmps101
  go_wp2
  go_loopw [1, 5] (fun a n wr => ∃ i : Nat, i ≤ xs.length ∧ n = .int .i64 i ∧ a = .int .i64 (mkNo meRaftNode xs k i) ∧ Hid (Below w.heap.size w wr)) (fun _ n _ => xs.length - (intOf n).toNat)
  case atStart => exact ⟨0, Nat.zero_le _, rfl, by rw [mkNo_zero], Below.refl _ _⟩
  case round =>
    obtain ⟨i, hi, rfl, rfl, HB⟩ := hrel
    by_cases hlt : i < xs.length
    · have b1 := mkNo_ge (mk := meRaftNode) (k := k) meRaftNode_le (Nat.le_of_lt hlt)
      have b2 := mkNo_top (mk := meRaftNode) (k := k) meRaftNode_le (i := i + 1) hlt
      have b4 := mkNo_succ (mk := meRaftNode) (k := k) hlt
      have b5 := H1.out
      obtain ⟨b, o, cs, rfl, k1, q1⟩ := Rp.C_get H.out i (by rw [mkL_len]; exact hlt)
      rw [mkL_get' hlt] at k1
      have hsm := HL.out.2 xs[i] (List.getElem_mem hlt)
      have c1 : 0 ≤ mkNo meRaftNode xs k i := by omega
      have c2 : mkNo meRaftNode xs k (i + 1) ≤ 4611686018427387904 := by omega
      clear b1 b2 b5
      generalize mkNo meRaftNode xs k i = kk at *
      generalize hkn : mkNo meRaftNode xs k (i + 1) = kn at *
      generalize he : xs[i] = x at *
      clear he
      have HKN := Lib.hid hkn; clear hkn
      obtain ⟨q4, hq4⟩ : ∃ q, q = mkL mkEntry x.fLog (kk + 1 + 1 + 1 + 1) := ⟨_, rfl⟩
      obtain ⟨q7, hq7⟩ : ∃ q, q = mkL mkInt x.fVotes (q4.2 + 1 + 1) := ⟨_, rfl⟩
      obtain ⟨q8, hq8⟩ : ∃ q, q = mkL mkInt x.fMatch q7.2 := ⟨_, rfl⟩
      have hfull : meRaftNode x kk = ((⟨kk, (kk + 1), (kk + 1 + 1), (kk + 1 + 1 + 1), q4.1, q4.2, (q4.2 + 1), q7.1, q8.1⟩ : DRaftNode), q8.2) := by rw [hq8, hq7, hq4]; rfl
      rw [hfull] at b4 k1
      clear hfull
      obtain ⟨v4, v7, v8, rfl, g4, g7, g8⟩ := kRaftNode_read k1
      dsimp only at g4 g7 g8 q1
      clear k1
      have m4 : (kk + 1 + 1 + 1 + 1) ≤ q4.2 := by rw [hq4]; exact mkL_le mkEntry_le _ _
      have m7 : (q4.2 + 1 + 1) ≤ q7.2 := by rw [hq7]; exact mkL_le mkInt_le _ _
      have m8 : q7.2 ≤ q8.2 := by rw [hq8]; exact mkL_le mkInt_le _ _
      obtain ⟨l4, l7, l8⟩ := hsm
      simp only at b4
      have d4 := Lib.hid (show ∀ W, Below w.heap.size w W → Calls Try.prog 53 #[v4, .int .i64 ((kk + 1 + 1 + 1 + 1))] W fun e w' => e = .returned (.int .i64 q4.2) ∧ Below W.heap.size W w' from fun W hW => by
        have h := heldEntryS_calls x.fLog ((kk + 1 + 1 + 1 + 1)) v4 W (Rp.S_below (hq4 ▸ g4) hW) (by omega) (by rw [← hq4]; omega) l4
        rw [← hq4] at h
        exact h)
      have d7 := Lib.hid (show ∀ W, Below w.heap.size w W → Calls Try.prog 69 #[v7, .int .i64 ((q4.2 + 1 + 1))] W fun e w' => e = .returned (.int .i64 q7.2) ∧ Below W.heap.size W w' from fun W hW => by
        have h := heldIntS_calls x.fVotes ((q4.2 + 1 + 1)) v7 W (Rp.S_below (hq7 ▸ g7) hW) (by omega) (by rw [← hq7]; omega) l7
        rw [← hq7] at h
        exact h)
      have d8 := Lib.hid (show ∀ W, Below w.heap.size w W → Calls Try.prog 69 #[v8, .int .i64 (q7.2)] W fun e w' => e = .returned (.int .i64 q8.2) ∧ Below W.heap.size W w' from fun W hW => by
        have h := heldIntS_calls x.fMatch (q7.2) v8 W (Rp.S_below (hq8 ▸ g8) hW) (by omega) (by rw [← hq8]; omega) l8
        rw [← hq8] at h
        exact h)
      clear hq4 g4 l4 hq7 g7 l7 hq8 g8 l8
      have i1 : (0 : Int) ≤ (i : Int) := by omega
      have i2 : (i : Int) < (xs.length : Int) := by omega
      have n4 : ¬ q4.2 < 0 := by omega
      have n7 : ¬ q7.2 < 0 := by omega
      have n8 : ¬ q8.2 < 0 := by omega
      have Q := Lib.hid q1; clear q1
      have B4 := Lib.hid b4
      have a_0 : wr.cell? ⟨b, o + i * 9, none⟩ = some (.int .i64 kk) := (World.cell?_of_block (HB.out.block b (World.block_lt_of_cell? w _ (Q.out 0 _ rfl)))).trans (Q.out 0 _ rfl)
      have a_1 : wr.cell? ⟨b, o + i * 9 + 1, none⟩ = some (.int .i64 (kk + 1)) := (World.cell?_of_block (HB.out.block b (World.block_lt_of_cell? w _ (Q.out 1 _ rfl)))).trans (Q.out 1 _ rfl)
      have a_2 : wr.cell? ⟨b, o + i * 9 + 2, none⟩ = some (.int .i64 (kk + 1 + 1)) := (World.cell?_of_block (HB.out.block b (World.block_lt_of_cell? w _ (Q.out 2 _ rfl)))).trans (Q.out 2 _ rfl)
      have a_3 : wr.cell? ⟨b, o + i * 9 + 3, none⟩ = some (.int .i64 (kk + 1 + 1 + 1)) := (World.cell?_of_block (HB.out.block b (World.block_lt_of_cell? w _ (Q.out 3 _ rfl)))).trans (Q.out 3 _ rfl)
      have a_4 : wr.cell? ⟨b, o + i * 9 + 4, none⟩ = some (v4) := (World.cell?_of_block (HB.out.block b (World.block_lt_of_cell? w _ (Q.out 4 _ rfl)))).trans (Q.out 4 _ rfl)
      have a_5 : wr.cell? ⟨b, o + i * 9 + 5, none⟩ = some (.int .i64 q4.2) := (World.cell?_of_block (HB.out.block b (World.block_lt_of_cell? w _ (Q.out 5 _ rfl)))).trans (Q.out 5 _ rfl)
      have a_6 : wr.cell? ⟨b, o + i * 9 + 6, none⟩ = some (.int .i64 (q4.2 + 1)) := (World.cell?_of_block (HB.out.block b (World.block_lt_of_cell? w _ (Q.out 6 _ rfl)))).trans (Q.out 6 _ rfl)
      have a_7 : wr.cell? ⟨b, o + i * 9 + 7, none⟩ = some (v7) := (World.cell?_of_block (HB.out.block b (World.block_lt_of_cell? w _ (Q.out 7 _ rfl)))).trans (Q.out 7 _ rfl)
      have a_8 : wr.cell? ⟨b, o + i * 9 + 8, none⟩ = some (v8) := (World.cell?_of_block (HB.out.block b (World.block_lt_of_cell? w _ (Q.out 8 _ rfl)))).trans (Q.out 8 _ rfl)
      go_wp2_with fail
      (with_reducible refine (d4.out _ HB.out).mono ?_)
      rintro e w4_ ⟨rfl, hb⟩
      have HB4 := Lib.hid (HB.out.trans (hb.mono HB.out.size))
      clear hb a_0 a_1 a_2 a_3 a_4 a_5 a_6 a_7 a_8
      have a4_0 : w4_.cell? ⟨b, o + i * 9, none⟩ = some (.int .i64 kk) := (World.cell?_of_block (HB4.out.block b (World.block_lt_of_cell? w _ (Q.out 0 _ rfl)))).trans (Q.out 0 _ rfl)
      have a4_1 : w4_.cell? ⟨b, o + i * 9 + 1, none⟩ = some (.int .i64 (kk + 1)) := (World.cell?_of_block (HB4.out.block b (World.block_lt_of_cell? w _ (Q.out 1 _ rfl)))).trans (Q.out 1 _ rfl)
      have a4_2 : w4_.cell? ⟨b, o + i * 9 + 2, none⟩ = some (.int .i64 (kk + 1 + 1)) := (World.cell?_of_block (HB4.out.block b (World.block_lt_of_cell? w _ (Q.out 2 _ rfl)))).trans (Q.out 2 _ rfl)
      have a4_3 : w4_.cell? ⟨b, o + i * 9 + 3, none⟩ = some (.int .i64 (kk + 1 + 1 + 1)) := (World.cell?_of_block (HB4.out.block b (World.block_lt_of_cell? w _ (Q.out 3 _ rfl)))).trans (Q.out 3 _ rfl)
      have a4_4 : w4_.cell? ⟨b, o + i * 9 + 4, none⟩ = some (v4) := (World.cell?_of_block (HB4.out.block b (World.block_lt_of_cell? w _ (Q.out 4 _ rfl)))).trans (Q.out 4 _ rfl)
      have a4_5 : w4_.cell? ⟨b, o + i * 9 + 5, none⟩ = some (.int .i64 q4.2) := (World.cell?_of_block (HB4.out.block b (World.block_lt_of_cell? w _ (Q.out 5 _ rfl)))).trans (Q.out 5 _ rfl)
      have a4_6 : w4_.cell? ⟨b, o + i * 9 + 6, none⟩ = some (.int .i64 (q4.2 + 1)) := (World.cell?_of_block (HB4.out.block b (World.block_lt_of_cell? w _ (Q.out 6 _ rfl)))).trans (Q.out 6 _ rfl)
      have a4_7 : w4_.cell? ⟨b, o + i * 9 + 7, none⟩ = some (v7) := (World.cell?_of_block (HB4.out.block b (World.block_lt_of_cell? w _ (Q.out 7 _ rfl)))).trans (Q.out 7 _ rfl)
      have a4_8 : w4_.cell? ⟨b, o + i * 9 + 8, none⟩ = some (v8) := (World.cell?_of_block (HB4.out.block b (World.block_lt_of_cell? w _ (Q.out 8 _ rfl)))).trans (Q.out 8 _ rfl)
      go_wp2_with fail
      (with_reducible refine (d7.out _ HB4.out).mono ?_)
      rintro e w7_ ⟨rfl, hb⟩
      have HB7 := Lib.hid (HB4.out.trans (hb.mono HB4.out.size))
      clear hb a4_0 a4_1 a4_2 a4_3 a4_4 a4_5 a4_6 a4_7 a4_8
      have a7_0 : w7_.cell? ⟨b, o + i * 9, none⟩ = some (.int .i64 kk) := (World.cell?_of_block (HB7.out.block b (World.block_lt_of_cell? w _ (Q.out 0 _ rfl)))).trans (Q.out 0 _ rfl)
      have a7_1 : w7_.cell? ⟨b, o + i * 9 + 1, none⟩ = some (.int .i64 (kk + 1)) := (World.cell?_of_block (HB7.out.block b (World.block_lt_of_cell? w _ (Q.out 1 _ rfl)))).trans (Q.out 1 _ rfl)
      have a7_2 : w7_.cell? ⟨b, o + i * 9 + 2, none⟩ = some (.int .i64 (kk + 1 + 1)) := (World.cell?_of_block (HB7.out.block b (World.block_lt_of_cell? w _ (Q.out 2 _ rfl)))).trans (Q.out 2 _ rfl)
      have a7_3 : w7_.cell? ⟨b, o + i * 9 + 3, none⟩ = some (.int .i64 (kk + 1 + 1 + 1)) := (World.cell?_of_block (HB7.out.block b (World.block_lt_of_cell? w _ (Q.out 3 _ rfl)))).trans (Q.out 3 _ rfl)
      have a7_4 : w7_.cell? ⟨b, o + i * 9 + 4, none⟩ = some (v4) := (World.cell?_of_block (HB7.out.block b (World.block_lt_of_cell? w _ (Q.out 4 _ rfl)))).trans (Q.out 4 _ rfl)
      have a7_5 : w7_.cell? ⟨b, o + i * 9 + 5, none⟩ = some (.int .i64 q4.2) := (World.cell?_of_block (HB7.out.block b (World.block_lt_of_cell? w _ (Q.out 5 _ rfl)))).trans (Q.out 5 _ rfl)
      have a7_6 : w7_.cell? ⟨b, o + i * 9 + 6, none⟩ = some (.int .i64 (q4.2 + 1)) := (World.cell?_of_block (HB7.out.block b (World.block_lt_of_cell? w _ (Q.out 6 _ rfl)))).trans (Q.out 6 _ rfl)
      have a7_7 : w7_.cell? ⟨b, o + i * 9 + 7, none⟩ = some (v7) := (World.cell?_of_block (HB7.out.block b (World.block_lt_of_cell? w _ (Q.out 7 _ rfl)))).trans (Q.out 7 _ rfl)
      have a7_8 : w7_.cell? ⟨b, o + i * 9 + 8, none⟩ = some (v8) := (World.cell?_of_block (HB7.out.block b (World.block_lt_of_cell? w _ (Q.out 8 _ rfl)))).trans (Q.out 8 _ rfl)
      go_wp2_with fail
      (with_reducible refine (d8.out _ HB7.out).mono ?_)
      rintro e w8_ ⟨rfl, hb⟩
      have HB8 := Lib.hid (HB7.out.trans (hb.mono HB7.out.size))
      clear hb a7_0 a7_1 a7_2 a7_3 a7_4 a7_5 a7_6 a7_7 a7_8
      have a8_0 : w8_.cell? ⟨b, o + i * 9, none⟩ = some (.int .i64 kk) := (World.cell?_of_block (HB8.out.block b (World.block_lt_of_cell? w _ (Q.out 0 _ rfl)))).trans (Q.out 0 _ rfl)
      have a8_1 : w8_.cell? ⟨b, o + i * 9 + 1, none⟩ = some (.int .i64 (kk + 1)) := (World.cell?_of_block (HB8.out.block b (World.block_lt_of_cell? w _ (Q.out 1 _ rfl)))).trans (Q.out 1 _ rfl)
      have a8_2 : w8_.cell? ⟨b, o + i * 9 + 2, none⟩ = some (.int .i64 (kk + 1 + 1)) := (World.cell?_of_block (HB8.out.block b (World.block_lt_of_cell? w _ (Q.out 2 _ rfl)))).trans (Q.out 2 _ rfl)
      have a8_3 : w8_.cell? ⟨b, o + i * 9 + 3, none⟩ = some (.int .i64 (kk + 1 + 1 + 1)) := (World.cell?_of_block (HB8.out.block b (World.block_lt_of_cell? w _ (Q.out 3 _ rfl)))).trans (Q.out 3 _ rfl)
      have a8_4 : w8_.cell? ⟨b, o + i * 9 + 4, none⟩ = some (v4) := (World.cell?_of_block (HB8.out.block b (World.block_lt_of_cell? w _ (Q.out 4 _ rfl)))).trans (Q.out 4 _ rfl)
      have a8_5 : w8_.cell? ⟨b, o + i * 9 + 5, none⟩ = some (.int .i64 q4.2) := (World.cell?_of_block (HB8.out.block b (World.block_lt_of_cell? w _ (Q.out 5 _ rfl)))).trans (Q.out 5 _ rfl)
      have a8_6 : w8_.cell? ⟨b, o + i * 9 + 6, none⟩ = some (.int .i64 (q4.2 + 1)) := (World.cell?_of_block (HB8.out.block b (World.block_lt_of_cell? w _ (Q.out 6 _ rfl)))).trans (Q.out 6 _ rfl)
      have a8_7 : w8_.cell? ⟨b, o + i * 9 + 7, none⟩ = some (v7) := (World.cell?_of_block (HB8.out.block b (World.block_lt_of_cell? w _ (Q.out 7 _ rfl)))).trans (Q.out 7 _ rfl)
      have a8_8 : w8_.cell? ⟨b, o + i * 9 + 8, none⟩ = some (v8) := (World.cell?_of_block (HB8.out.block b (World.block_lt_of_cell? w _ (Q.out 8 _ rfl)))).trans (Q.out 8 _ rfl)
      go_wp2
      exact ⟨⟨i + 1, by omega, by go_num, by rw [HKN.out, B4.out], HB8.out⟩, by simp [intOf]; omega⟩
    · go_wp2
      go_ret
      obtain rfl : i = xs.length := by omega
      exact ⟨ret_int mkNo_all, HB.out⟩

set_option maxHeartbeats 4000000 in
set_option maxRecDepth 100000 in
theorem heldRaftMsgS_calls (xs : List DRaftMsg) (k : Int) (v : Value) (w : World) (h : kRaftMsg.S w (mkL meRaftMsg xs k).1 v) (h0 : 0 ≤ k) (h1 : (mkL meRaftMsg xs k).2 ≤ 4611686018427387904) (hl : smRaftMsgS 140737488355328 xs) :
    Calls Try.prog 19 #[v, .int .i64 k] w fun e w' => e = .returned (.int .i64 (mkL meRaftMsg xs k).2) ∧ Below w.heap.size w w' := by
  obtain ⟨A, c, rfl, hc, hC⟩ := h
  rw [mkL_len] at hc ⊢
  have H := Lib.hid hC; clear hC
  have H1 := Lib.hid h1; clear h1
  have HL := Lib.hid hl
  have hl1 := hl.1
  clear hl
  go_enter Try.func19, Try.ntmps19
  go_wp2
  go_loopw [1, 5] (fun a n wr => ∃ i : Nat, i ≤ xs.length ∧ n = .int .i64 i ∧ a = .int .i64 (mkNo meRaftMsg xs k i) ∧ Hid (Below w.heap.size w wr)) (fun _ n _ => xs.length - (intOf n).toNat)
  case atStart => exact ⟨0, Nat.zero_le _, rfl, by rw [mkNo_zero], Below.refl _ _⟩
  case round =>
    obtain ⟨i, hi, rfl, rfl, HB⟩ := hrel
    by_cases hlt : i < xs.length
    · have b1 := mkNo_ge (mk := meRaftMsg) (k := k) meRaftMsg_le (Nat.le_of_lt hlt)
      have b2 := mkNo_top (mk := meRaftMsg) (k := k) meRaftMsg_le (i := i + 1) hlt
      have b4 := mkNo_succ (mk := meRaftMsg) (k := k) hlt
      have b5 := H1.out
      obtain ⟨b, o, cs, rfl, k1, q1⟩ := Rp.C_get H.out i (by rw [mkL_len]; exact hlt)
      rw [mkL_get' hlt] at k1
      have hsm := HL.out.2 xs[i] (List.getElem_mem hlt)
      have c1 : 0 ≤ mkNo meRaftMsg xs k i := by omega
      have c2 : mkNo meRaftMsg xs k (i + 1) ≤ 4611686018427387904 := by omega
      clear b1 b2 b5
      generalize mkNo meRaftMsg xs k i = kk at *
      generalize hkn : mkNo meRaftMsg xs k (i + 1) = kn at *
      generalize he : xs[i] = x at *
      clear he
      have HKN := Lib.hid hkn; clear hkn
      obtain ⟨q6, hq6⟩ : ∃ q, q = mkL mkEntry x.fEntries (kk + 1 + 1 + 1 + 1 + 1 + 1) := ⟨_, rfl⟩
      have hfull : meRaftMsg x kk = ((⟨kk, (kk + 1), (kk + 1 + 1), (kk + 1 + 1 + 1), (kk + 1 + 1 + 1 + 1), (kk + 1 + 1 + 1 + 1 + 1), q6.1, q6.2, ((q6.2 + 1) % 3 == 0)⟩ : DRaftMsg), q6.2 + 1 + 1) := by rw [hq6]; rfl
      rw [hfull] at b4 k1
      clear hfull
      obtain ⟨v6, rfl, g6⟩ := kRaftMsg_read k1
      dsimp only at g6 q1
      clear k1
      have m6 : (kk + 1 + 1 + 1 + 1 + 1 + 1) ≤ q6.2 := by rw [hq6]; exact mkL_le mkEntry_le _ _
      have l6 : x.fEntries.length ≤ 140737488355328 := hsm
      clear hsm
      simp only at b4
      have d6 := Lib.hid (show ∀ W, Below w.heap.size w W → Calls Try.prog 53 #[v6, .int .i64 ((kk + 1 + 1 + 1 + 1 + 1 + 1))] W fun e w' => e = .returned (.int .i64 q6.2) ∧ Below W.heap.size W w' from fun W hW => by
        have h := heldEntryS_calls x.fEntries ((kk + 1 + 1 + 1 + 1 + 1 + 1)) v6 W (Rp.S_below (hq6 ▸ g6) hW) (by omega) (by rw [← hq6]; omega) l6
        rw [← hq6] at h
        exact h)
      clear hq6 g6 l6
      have i1 : (0 : Int) ≤ (i : Int) := by omega
      have i2 : (i : Int) < (xs.length : Int) := by omega
      have n6 : ¬ q6.2 < 0 := by omega
      have Q := Lib.hid q1; clear q1
      have B4 := Lib.hid b4
      have a_0 : wr.cell? ⟨b, o + i * 9, none⟩ = some (.int .i64 kk) := (World.cell?_of_block (HB.out.block b (World.block_lt_of_cell? w _ (Q.out 0 _ rfl)))).trans (Q.out 0 _ rfl)
      have a_1 : wr.cell? ⟨b, o + i * 9 + 1, none⟩ = some (.int .i64 (kk + 1)) := (World.cell?_of_block (HB.out.block b (World.block_lt_of_cell? w _ (Q.out 1 _ rfl)))).trans (Q.out 1 _ rfl)
      have a_2 : wr.cell? ⟨b, o + i * 9 + 2, none⟩ = some (.int .i64 (kk + 1 + 1)) := (World.cell?_of_block (HB.out.block b (World.block_lt_of_cell? w _ (Q.out 2 _ rfl)))).trans (Q.out 2 _ rfl)
      have a_3 : wr.cell? ⟨b, o + i * 9 + 3, none⟩ = some (.int .i64 (kk + 1 + 1 + 1)) := (World.cell?_of_block (HB.out.block b (World.block_lt_of_cell? w _ (Q.out 3 _ rfl)))).trans (Q.out 3 _ rfl)
      have a_4 : wr.cell? ⟨b, o + i * 9 + 4, none⟩ = some (.int .i64 (kk + 1 + 1 + 1 + 1)) := (World.cell?_of_block (HB.out.block b (World.block_lt_of_cell? w _ (Q.out 4 _ rfl)))).trans (Q.out 4 _ rfl)
      have a_5 : wr.cell? ⟨b, o + i * 9 + 5, none⟩ = some (.int .i64 (kk + 1 + 1 + 1 + 1 + 1)) := (World.cell?_of_block (HB.out.block b (World.block_lt_of_cell? w _ (Q.out 5 _ rfl)))).trans (Q.out 5 _ rfl)
      have a_6 : wr.cell? ⟨b, o + i * 9 + 6, none⟩ = some (v6) := (World.cell?_of_block (HB.out.block b (World.block_lt_of_cell? w _ (Q.out 6 _ rfl)))).trans (Q.out 6 _ rfl)
      have a_7 : wr.cell? ⟨b, o + i * 9 + 7, none⟩ = some (.int .i64 q6.2) := (World.cell?_of_block (HB.out.block b (World.block_lt_of_cell? w _ (Q.out 7 _ rfl)))).trans (Q.out 7 _ rfl)
      have a_8 : wr.cell? ⟨b, o + i * 9 + 8, none⟩ = some (.bool ((q6.2 + 1) % 3 == 0)) := (World.cell?_of_block (HB.out.block b (World.block_lt_of_cell? w _ (Q.out 8 _ rfl)))).trans (Q.out 8 _ rfl)
      go_wp2_with fail
      (with_reducible refine (d6.out _ HB.out).mono ?_)
      rintro e w6_ ⟨rfl, hb⟩
      have HB6 := Lib.hid (HB.out.trans (hb.mono HB.out.size))
      clear hb a_0 a_1 a_2 a_3 a_4 a_5 a_6 a_7 a_8
      have a6_0 : w6_.cell? ⟨b, o + i * 9, none⟩ = some (.int .i64 kk) := (World.cell?_of_block (HB6.out.block b (World.block_lt_of_cell? w _ (Q.out 0 _ rfl)))).trans (Q.out 0 _ rfl)
      have a6_1 : w6_.cell? ⟨b, o + i * 9 + 1, none⟩ = some (.int .i64 (kk + 1)) := (World.cell?_of_block (HB6.out.block b (World.block_lt_of_cell? w _ (Q.out 1 _ rfl)))).trans (Q.out 1 _ rfl)
      have a6_2 : w6_.cell? ⟨b, o + i * 9 + 2, none⟩ = some (.int .i64 (kk + 1 + 1)) := (World.cell?_of_block (HB6.out.block b (World.block_lt_of_cell? w _ (Q.out 2 _ rfl)))).trans (Q.out 2 _ rfl)
      have a6_3 : w6_.cell? ⟨b, o + i * 9 + 3, none⟩ = some (.int .i64 (kk + 1 + 1 + 1)) := (World.cell?_of_block (HB6.out.block b (World.block_lt_of_cell? w _ (Q.out 3 _ rfl)))).trans (Q.out 3 _ rfl)
      have a6_4 : w6_.cell? ⟨b, o + i * 9 + 4, none⟩ = some (.int .i64 (kk + 1 + 1 + 1 + 1)) := (World.cell?_of_block (HB6.out.block b (World.block_lt_of_cell? w _ (Q.out 4 _ rfl)))).trans (Q.out 4 _ rfl)
      have a6_5 : w6_.cell? ⟨b, o + i * 9 + 5, none⟩ = some (.int .i64 (kk + 1 + 1 + 1 + 1 + 1)) := (World.cell?_of_block (HB6.out.block b (World.block_lt_of_cell? w _ (Q.out 5 _ rfl)))).trans (Q.out 5 _ rfl)
      have a6_6 : w6_.cell? ⟨b, o + i * 9 + 6, none⟩ = some (v6) := (World.cell?_of_block (HB6.out.block b (World.block_lt_of_cell? w _ (Q.out 6 _ rfl)))).trans (Q.out 6 _ rfl)
      have a6_7 : w6_.cell? ⟨b, o + i * 9 + 7, none⟩ = some (.int .i64 q6.2) := (World.cell?_of_block (HB6.out.block b (World.block_lt_of_cell? w _ (Q.out 7 _ rfl)))).trans (Q.out 7 _ rfl)
      have a6_8 : w6_.cell? ⟨b, o + i * 9 + 8, none⟩ = some (.bool ((q6.2 + 1) % 3 == 0)) := (World.cell?_of_block (HB6.out.block b (World.block_lt_of_cell? w _ (Q.out 8 _ rfl)))).trans (Q.out 8 _ rfl)
      go_wp2
      exact ⟨⟨i + 1, by omega, by go_num, by rw [HKN.out, B4.out], HB6.out⟩, by simp [intOf]; omega⟩
    · go_wp2
      go_ret
      obtain rfl : i = xs.length := by omega
      exact ⟨ret_int mkNo_all, HB.out⟩

end Go.Proofs.Ythnjcolbdoaabaa
