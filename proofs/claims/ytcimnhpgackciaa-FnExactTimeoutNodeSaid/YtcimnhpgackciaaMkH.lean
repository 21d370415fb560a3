/- Slices of messages: marked and held, in one form. -/
import Derived.Test.YtcimnhpgackciaaMkB
namespace Go.Proofs.Ytcimnhpgackciaa
open Go Go.RowKit Go.Sort
set_option linter.unusedVariables false
set_option linter.unusedSimpArgs false

theorem mkL_top_mem {α : Type} {mk : α → Int → α × Int} {c : Nat} : ∀ (xs : List α) (k : Int), (∀ x ∈ xs, ∀ k, (mk x k).2 ≤ k + c) → (mkL mk xs k).2 ≤ k + c * xs.length
  | [], k, _ => by simp [mkL]
  | x :: xs, k, h => by
    have h1 := h x (by simp) k
    have h2 := mkL_top_mem xs (mk x k).2 (fun y hy => h y (by simp [hy]))
    simp only [mkL, List.length_cons]
    have h3 : (c : Int) * ((xs.length + 1 : Nat) : Int) = c * xs.length + c := by
      rw [Int.natCast_add, Int.mul_add]
      simp
    omega
theorem meRaftMsg_top {x : DRaftMsg} (h : smRaftMsg 4194304 x) (k : Int) : (meRaftMsg x k).2 ≤ k + (8388616 : Nat) := by
  have l6 : x.fEntries.length ≤ 4194304 := h
  have h6 := mkL_top (mk := mkEntry) (c := 2) (fun _ _ => Int.le_refl _) x.fEntries (k + 1 + 1 + 1 + 1 + 1 + 1)
  simp only [meRaftMsg]
  omega
set_option maxHeartbeats 4000000 in
set_option maxRecDepth 100000 in
theorem heldRaftMsgS_calls (xs : List DRaftMsg) (k : Int) (v : Value) (w : World) (h : kRaftMsg.S w (mkL meRaftMsg xs k).1 v) (h0 : 0 ≤ k) (h1 : (mkL meRaftMsg xs k).2 ≤ 4611686018427387904) (hl : smRaftMsgS 140737488355328 xs) :
    Calls Try.prog 13 #[v, .int .i64 k] w fun e w' => e = .returned (.int .i64 (mkL meRaftMsg xs k).2) ∧ Below w.heap.size w w' := by
  obtain ⟨A, c, rfl, hc, hC⟩ := h
  rw [mkL_len] at hc ⊢
  have H := Lib.hid hC; clear hC
  have H1 := Lib.hid h1; clear h1
  have HL := Lib.hid hl
  have hl1 := hl.1
  clear hl
  go_enter Try.func13, Try.ntmps13
  go_wp2
  go_loopw [1, 5] (fun a n wr => ∃ i : Nat, i ≤ xs.length ∧ n = .int .i64 i ∧ a = .int .i64 (mkNo meRaftMsg xs k i) ∧ Hid (Below w.heap.size w wr)) (fun _ n _ => xs.length - (intOf n).toNat)
  case atStart => exact ⟨0, Nat.zero_le _, rfl, by rw [mkNo_zero], Below.refl _ _⟩
  case round =>
    obtain ⟨i, hi, rfl, rfl, HB⟩ := hrel
    by_cases hlt : i < xs.length
    · have b1 := mkNo_ge (mk := meRaftMsg) (k := k) meRaftMsg_le (Nat.le_of_lt hlt)
      have b2 := mkNo_top (mk := meRaftMsg) (k := k) meRaftMsg_le (i := i + 1) hlt
      have b4 := mkNo_succ (mk := meRaftMsg) (k := k) hlt
      have b5 := H1.out
      obtain ⟨b, o, cs, rfl, k1, q1⟩ := Rp.C_get H.out i (by rw [mkL_len]; exact hlt)
      rw [mkL_get' hlt] at k1
      have hsm := HL.out.2 xs[i] (List.getElem_mem hlt)
      have c1 : 0 ≤ mkNo meRaftMsg xs k i := by omega
      have c2 : mkNo meRaftMsg xs k (i + 1) ≤ 4611686018427387904 := by omega
      clear b1 b2 b5
      generalize mkNo meRaftMsg xs k i = kk at *
      generalize hkn : mkNo meRaftMsg xs k (i + 1) = kn at *
      generalize he : xs[i] = x at *
      clear he
      have HKN := Lib.hid hkn; clear hkn
      obtain ⟨q6, hq6⟩ : ∃ q, q = mkL mkEntry x.fEntries (kk + 1 + 1 + 1 + 1 + 1 + 1) := ⟨_, rfl⟩
      have hfull : meRaftMsg x kk = ((⟨kk, (kk + 1), (kk + 1 + 1), (kk + 1 + 1 + 1), (kk + 1 + 1 + 1 + 1), (kk + 1 + 1 + 1 + 1 + 1), q6.1, q6.2, ((q6.2 + 1) % 3 == 0)⟩ : DRaftMsg), q6.2 + 1 + 1) := by rw [hq6]; rfl
      rw [hfull] at b4 k1
      clear hfull
      obtain ⟨v6, rfl, g6⟩ := kRaftMsg_read k1
      dsimp only at g6 q1
      clear k1
      have m6 : (kk + 1 + 1 + 1 + 1 + 1 + 1) ≤ q6.2 := by rw [hq6]; exact mkL_le mkEntry_le _ _
      have l6 : x.fEntries.length ≤ 140737488355328 := hsm
      clear hsm
      simp only at b4
      have d6 := Lib.hid (show ∀ W, Below w.heap.size w W → Calls Try.prog 31 #[v6, .int .i64 ((kk + 1 + 1 + 1 + 1 + 1 + 1))] W fun e w' => e = .returned (.int .i64 q6.2) ∧ Below W.heap.size W w' from fun W hW => by
        have h := heldEntryS_calls x.fEntries ((kk + 1 + 1 + 1 + 1 + 1 + 1)) v6 W (Rp.S_below (hq6 ▸ g6) hW) (by omega) (by rw [← hq6]; omega) l6
        rw [← hq6] at h
        exact h)
      clear hq6 g6 l6
      have i1 : (0 : Int) ≤ (i : Int) := by omega
      have i2 : (i : Int) < (xs.length : Int) := by omega
      have n6 : ¬ q6.2 < 0 := by omega
      have Q := Lib.hid q1; clear q1
      have B4 := Lib.hid b4
      have a_0 : wr.cell? ⟨b, o + i * 9, none⟩ = some (.int .i64 kk) := (World.cell?_of_block (HB.out.block b (World.block_lt_of_cell? w _ (Q.out 0 _ rfl)))).trans (Q.out 0 _ rfl)
      have a_1 : wr.cell? ⟨b, o + i * 9 + 1, none⟩ = some (.int .i64 (kk + 1)) := (World.cell?_of_block (HB.out.block b (World.block_lt_of_cell? w _ (Q.out 1 _ rfl)))).trans (Q.out 1 _ rfl)
      have a_2 : wr.cell? ⟨b, o + i * 9 + 2, none⟩ = some (.int .i64 (kk + 1 + 1)) := (World.cell?_of_block (HB.out.block b (World.block_lt_of_cell? w _ (Q.out 2 _ rfl)))).trans (Q.out 2 _ rfl)
      have a_3 : wr.cell? ⟨b, o + i * 9 + 3, none⟩ = some (.int .i64 (kk + 1 + 1 + 1)) := (World.cell?_of_block (HB.out.block b (World.block_lt_of_cell? w _ (Q.out 3 _ rfl)))).trans (Q.out 3 _ rfl)
      have a_4 : wr.cell? ⟨b, o + i * 9 + 4, none⟩ = some (.int .i64 (kk + 1 + 1 + 1 + 1)) := (World.cell?_of_block (HB.out.block b (World.block_lt_of_cell? w _ (Q.out 4 _ rfl)))).trans (Q.out 4 _ rfl)
      have a_5 : wr.cell? ⟨b, o + i * 9 + 5, none⟩ = some (.int .i64 (kk + 1 + 1 + 1 + 1 + 1)) := (World.cell?_of_block (HB.out.block b (World.block_lt_of_cell? w _ (Q.out 5 _ rfl)))).trans (Q.out 5 _ rfl)
      have a_6 : wr.cell? ⟨b, o + i * 9 + 6, none⟩ = some (v6) := (World.cell?_of_block (HB.out.block b (World.block_lt_of_cell? w _ (Q.out 6 _ rfl)))).trans (Q.out 6 _ rfl)
      have a_7 : wr.cell? ⟨b, o + i * 9 + 7, none⟩ = some (.int .i64 q6.2) := (World.cell?_of_block (HB.out.block b (World.block_lt_of_cell? w _ (Q.out 7 _ rfl)))).trans (Q.out 7 _ rfl)
      have a_8 : wr.cell? ⟨b, o + i * 9 + 8, none⟩ = some (.bool ((q6.2 + 1) % 3 == 0)) := (World.cell?_of_block (HB.out.block b (World.block_lt_of_cell? w _ (Q.out 8 _ rfl)))).trans (Q.out 8 _ rfl)
      go_wp2_with fail
      (with_reducible refine (d6.out _ HB.out).mono ?_)
      rintro e w6_ ⟨rfl, hb⟩
      have HB6 := Lib.hid (HB.out.trans (hb.mono HB.out.size))
      clear hb a_0 a_1 a_2 a_3 a_4 a_5 a_6 a_7 a_8
      have a6_0 : w6_.cell? ⟨b, o + i * 9, none⟩ = some (.int .i64 kk) := (World.cell?_of_block (HB6.out.block b (World.block_lt_of_cell? w _ (Q.out 0 _ rfl)))).trans (Q.out 0 _ rfl)
      have a6_1 : w6_.cell? ⟨b, o + i * 9 + 1, none⟩ = some (.int .i64 (kk + 1)) := (World.cell?_of_block (HB6.out.block b (World.block_lt_of_cell? w _ (Q.out 1 _ rfl)))).trans (Q.out 1 _ rfl)
      have a6_2 : w6_.cell? ⟨b, o + i * 9 + 2, none⟩ = some (.int .i64 (kk + 1 + 1)) := (World.cell?_of_block (HB6.out.block b (World.block_lt_of_cell? w _ (Q.out 2 _ rfl)))).trans (Q.out 2 _ rfl)
      have a6_3 : w6_.cell? ⟨b, o + i * 9 + 3, none⟩ = some (.int .i64 (kk + 1 + 1 + 1)) := (World.cell?_of_block (HB6.out.block b (World.block_lt_of_cell? w _ (Q.out 3 _ rfl)))).trans (Q.out 3 _ rfl)
      have a6_4 : w6_.cell? ⟨b, o + i * 9 + 4, none⟩ = some (.int .i64 (kk + 1 + 1 + 1 + 1)) := (World.cell?_of_block (HB6.out.block b (World.block_lt_of_cell? w _ (Q.out 4 _ rfl)))).trans (Q.out 4 _ rfl)
      have a6_5 : w6_.cell? ⟨b, o + i * 9 + 5, none⟩ = some (.int .i64 (kk + 1 + 1 + 1 + 1 + 1)) := (World.cell?_of_block (HB6.out.block b (World.block_lt_of_cell? w _ (Q.out 5 _ rfl)))).trans (Q.out 5 _ rfl)
      have a6_6 : w6_.cell? ⟨b, o + i * 9 + 6, none⟩ = some (v6) := (World.cell?_of_block (HB6.out.block b (World.block_lt_of_cell? w _ (Q.out 6 _ rfl)))).trans (Q.out 6 _ rfl)
      have a6_7 : w6_.cell? ⟨b, o + i * 9 + 7, none⟩ = some (.int .i64 q6.2) := (World.cell?_of_block (HB6.out.block b (World.block_lt_of_cell? w _ (Q.out 7 _ rfl)))).trans (Q.out 7 _ rfl)
      have a6_8 : w6_.cell? ⟨b, o + i * 9 + 8, none⟩ = some (.bool ((q6.2 + 1) % 3 == 0)) := (World.cell?_of_block (HB6.out.block b (World.block_lt_of_cell? w _ (Q.out 8 _ rfl)))).trans (Q.out 8 _ rfl)
      go_wp2
      exact ⟨⟨i + 1, by omega, by go_num, by rw [HKN.out, B4.out], HB6.out⟩, by simp [intOf]; omega⟩
    · go_wp2
      go_ret
      obtain rfl : i = xs.length := by omega
      exact ⟨ret_int mkNo_all, HB.out⟩

def mkRaftMsgS (x : List DRaftMsg) (k : Int) : List DRaftMsg × Int := mkL meRaftMsg x k
theorem mkRaftMsgS_le (x : List DRaftMsg) (k : Int) : k ≤ (mkRaftMsgS x k).2 := mkL_le meRaftMsg_le x k
theorem mkRaftMsgS_sm {x : List DRaftMsg} {k : Int} (h : smRaftMsgS 4194304 x) : (mkRaftMsgS x k).2 ≤ k + 35184405643264 := by
  have h1 := mkL_top_mem (mk := meRaftMsg) (c := 8388616) x k (fun y hy k => meRaftMsg_top (h.2 y hy) k)
  have h2 := h.1
  unfold mkRaftMsgS
  omega
theorem markRaftMsgS_k {x : List DRaftMsg} {v : Value} {F : List Nat} {k : Int} {w : World} (hm : kRaftMsgS.M w F x [v]) (hn : F.Nodup) (h0 : 0 ≤ k) (h1 : (mkRaftMsgS x k).2 ≤ 4611686018427387904) (hs : smRaftMsgS 140737488355328 x) : Calls Try.prog 11 #[v, .int .i64 k] w
    fun e w' => e = .returned (.int .i64 (mkRaftMsgS x k).2) ∧ kRaftMsgS.M w' F (mkRaftMsgS x k).1 [v] ∧ KeptF F w w' := by
  obtain ⟨_, h, g⟩ := kRaftMsgS_open hm
  obtain rfl := (List.cons.inj h).1
  refine (markRaftMsgS_calls x k F v w g hn h0 h1 hs).mono ?_
  rintro e w' ⟨rfl, h1, h2⟩
  exact ⟨rfl, ⟨_, rfl, h1⟩, h2⟩
theorem heldRaftMsgS_k {x : List DRaftMsg} {v : Value} {k : Int} {w : World} (hk : kRaftMsgS.K w (mkRaftMsgS x k).1 [v]) (h0 : 0 ≤ k) (h1 : (mkRaftMsgS x k).2 ≤ 4611686018427387904) (hs : smRaftMsgS 140737488355328 x) : Calls Try.prog 13 #[v, .int .i64 k] w
    fun e w' => e = .returned (.int .i64 (mkRaftMsgS x k).2) ∧ Below w.heap.size w w' := by
  obtain ⟨_, h, g⟩ := kRaftMsgS_read hk
  obtain rfl := (List.cons.inj h).1
  exact heldRaftMsgS_calls x k v w g h0 h1 hs

end Go.Proofs.Ytcimnhpgackciaa
