/- The laws' own functions of slices of numbers. -/
import Derived.Test.YtiliaijgkedhnaaTxt
namespace Go.Proofs.Ytiliaijgkedhnaa
open Go Go.RowKit Go.Sort
set_option linter.unusedVariables false
set_option linter.unusedSimpArgs false

abbrev kInt : Rp Int := Rp.int .i64
theorem kInt_flat : kInt.Flat := ⟨fun h => h.1, fun h => ⟨rfl, h⟩⟩
theorem infoInt : (Try.prog.info? 3).map (fun i => (i.zero, i.size, i.bytes)) = some (some (.int .i64 0), 1, 8) := by kernel_rfl
def mkInt (x : Int) (k : Int) : Int × Int := (k, k + 1)
theorem mkInt_le (x : Int) (k : Int) : k ≤ (mkInt x k).2 := by simp only [mkInt]; omega
theorem szL_int (xs : List Int) : szL (fun _ => 0) xs = xs.length := by
  have : ∀ ys : List Int, sumN (fun _ => 0) ys = 0 := fun ys => by induction ys with
    | nil => rfl
    | cons y ys ih => simp [sumN, ih]
  rw [szL, this]
  rfl
set_option maxHeartbeats 1000000 in
theorem szIntS_calls (xs : List Int) (left : Int) (v : Value) (w : World) (h : kInt.S w xs v) (h0 : 0 ≤ left) (h1 : left ≤ 140737488355328) (hw : ∀ x ∈ xs, (fun _ => True) x) (hl : xs.length ≤ 140737488355328) :
    Calls Try.prog 16 #[v, .int .i64 left] w fun e w' => e = .returned (.int .i64 (szR (szL (fun _ => 0) xs) left)) ∧ Below w.heap.size w w' := by
  obtain ⟨A, c, rfl, hc, h⟩ := h
  clear h hw
  have HF := Lib.hid (szL_int xs)
  go_enter Try.func16, Try.ntmps16
  go_wp2
  all_goals (go_ret; exact ⟨ret_int (by rw [HF.out]; first | (rw [szR_yes (by omega)]; done) | (rw [szR_no (by omega)]; done)), Below.refl _ _⟩)
set_option maxHeartbeats 1000000 in
set_option maxRecDepth 100000 in
theorem eqIntS_calls (xs : List Int) (v1 v2 : Value) (w : World) (h1 : kInt.S w xs v1) (h2 : kInt.S w xs v2) (hl : xs.length ≤ 140737488355328) :
    Calls Try.prog 30 #[v1, v2] w fun e w' => e = .returned (.bool true) ∧ Below w.heap.size w w' := by
  obtain ⟨A1, c1, rfl, hc1, h1⟩ := h1
  obtain ⟨A2, c2, rfl, hc2, h2⟩ := h2
  have H1 := Lib.hid h1; clear h1
  have H2 := Lib.hid h2; clear h2
  go_enter Try.func30, Try.ntmps30
  go_wp2
  go_loopw [5] (fun i wr => ∃ k : Nat, k ≤ xs.length ∧ i = .int .i64 k ∧ Hid (Below w.heap.size w wr)) (fun i _ => xs.length - (intOf i).toNat)
  case atStart => exact ⟨0, Nat.zero_le _, rfl, Below.refl _ _⟩
  case round =>
    obtain ⟨k, hk, rfl, HB⟩ := hrel
    by_cases hlt : k < xs.length
    · obtain ⟨b1, o1, cs1, rfl, k1, q1⟩ := Rp.C_get H1.out k hlt
      obtain ⟨b2, o2, cs2, rfl, k2, q2⟩ := Rp.C_get H2.out k hlt
      obtain rfl : cs1 = [.int .i64 xs[k]] := k1
      obtain rfl : cs2 = [.int .i64 xs[k]] := k2
      generalize he : xs[k] = x at *
      have HE := Lib.hid he; clear he
      have a1 := (World.cell?_of_block (HB.out.block b1 (World.block_lt_of_cell? w _ (q1 0 _ rfl)))).trans (q1 0 _ rfl)
      have a2 := (World.cell?_of_block (HB.out.block b2 (World.block_lt_of_cell? w _ (q2 0 _ rfl)))).trans (q2 0 _ rfl)
      simp only [Rp.int, Rp.scalar, Nat.mul_one, Nat.add_zero] at a1 a2
      clear q1 q2
      have i1 : (0 : Int) ≤ (k : Int) := by omega
      have i2 : (k : Int) < (xs.length : Int) := by omega
      have r1 := regr (Below.refl _ wr) (World.block_lt_of_cell? wr _ a1) a1
      have r2 := regr (Below.refl _ wr) (World.block_lt_of_cell? wr _ a2) a2
      go_upto_region 6 with fail
      refine wp_region_quiet_below (by kernel_rfl) (by kernel_rfl) ?_
      repeat (go_big_quiet_step (fail))
      refine wpQuiet_nil ?_
      rintro w1 ⟨p, rfl⟩
      go_wp2
      exact ⟨⟨k + 1, by omega, by go_num, HB.out.trans ((below_regrown _ _ _).mono HB.out.size)⟩, by simp [intOf]; omega⟩
    · go_wp2
      go_ret
      exact ⟨rfl, HB.out⟩
set_option maxHeartbeats 2000000 in
set_option maxRecDepth 100000 in
theorem toIntS_calls (xs : List Int) (v : Value) (w : World) (h : kInt.S w xs v) (hl : xs.length ≤ 1048576) :
    Calls Try.prog 20 #[v] w fun e w' => ∃ v' F, e = .returned v' ∧ kInt.Row 3 w' F xs v' ∧ (∀ b ∈ F, w.heap.size ≤ b) ∧ F.Nodup ∧ Below w.heap.size w w' := by
  obtain ⟨A, c, rfl, hc, h⟩ := h
  have H := Lib.hid h; clear h
  obtain ⟨w0, hmk, hR, hB, hlt0⟩ := mk_full w 25 3 kInt 0 Try.underlying25 infoInt rfl (fun w => ⟨rfl, rfl⟩) xs.length hl (by decide)
  have HR := Lib.hid hR; clear hR
  have HB := Lib.hid hB; clear hB
  go_enter Try.func20, Try.ntmps20
  go_wp2
  clear hmk
  go_loopw [4] (fun i wr => ∃ k : Nat, k ≤ xs.length ∧ i = .int .i64 k ∧ (∃ F, Hid (kInt.Row 3 wr F (fillL xs 0 k) (.slice (some ⟨w.heap.size, 0, none⟩) xs.length xs.length)) ∧ Hid (F.Nodup ∧ ∀ b ∈ F, w.heap.size ≤ b)) ∧ Hid (Below w.heap.size w wr)) (fun i _ => xs.length - (intOf i).toNat)
  case atStart => exact ⟨0, Nat.zero_le _, rfl, ⟨_, by rw [fillL_zero]; exact HR.out, by simp [Hid]⟩, HB.out⟩
  case round =>
    clear HR HB hlt0
    obtain ⟨k, hk, rfl, ⟨F, HR, HF⟩, HB⟩ := hrel
    by_cases hlt : k < xs.length
    · obtain ⟨b, o, cs, rfl, k1, q1⟩ := Rp.C_get H.out k hlt
      obtain rfl : cs = [.int .i64 xs[k]] := k1
      have hs := fillL_set (z := (0 : Int)) hlt
      generalize he : xs[k] = x at *
      have HS := Lib.hid hs; clear hs
      have HE := Lib.hid he; clear he
      have a1 := (World.cell?_of_block (HB.out.block b (World.block_lt_of_cell? w _ (q1 0 _ rfl)))).trans (q1 0 _ rfl)
      simp only [Rp.int, Rp.scalar, Nat.mul_one, Nat.add_zero] at a1
      clear q1
      have i1 : (0 : Int) ≤ (k : Int) := by omega
      have i2 : (k : Int) < (xs.length : Int) := by omega
      have hk2 : k < (fillL xs 0 k).length := by rw [fillL_len hk]; exact hlt
      obtain ⟨g, cap, cz, F1, q0, hgF, hgl, q2, _, _, q3, q4⟩ := Rp.Row_open HR.out HF.out.1 k hk2
      rw [fillL_get hlt hk2] at q2
      obtain ⟨rfl, rfl⟩ := q2
      obtain rfl : w.heap.size = g := by simp at q0; exact q0.1
      have z0 : wr.cell? ⟨w.heap.size, k, none⟩ = some (.int .i64 0) := by have := q3 0 _ rfl; simpa [Rp.int, Rp.scalar] using this
      have y0 : wr.frozen? ⟨w.heap.size, k, none⟩ = false := q4 _
      have HP := Rp.Row_put HR.out HF.out.1 k hk2 x [.int .i64 x] [] ⟨rfl, rfl⟩ (by simp) (by simp)
      rw [HS.out] at HP
      have HP := Lib.hid HP
      clear q0 q3 q4 hgF hgl hk2 HR
      go_wp2
      obtain ⟨F', p1, p2, p3, p4⟩ := HP.out
      have e1 : Rp.setN wr w.heap.size (k * (kInt).sz) [.int .i64 x] = wr.setCell ⟨w.heap.size, k, none⟩ (.int .i64 x) := by simp [Rp.setN, Rp.int, Rp.scalar]
      rw [e1] at p1
      exact ⟨⟨k + 1, by omega, by go_num, ⟨F', p1, p2, fun b hb => HF.out.2 b (by simpa using p3 b hb)⟩, HB.out.setCell (by simp) _⟩, by simp [intOf]; omega⟩
    · go_wp2
      go_ret
      obtain rfl : k = xs.length := by omega
      exact ⟨_, _, rfl, by simpa [fillL_all] using HR.out, HF.out.2, HF.out.1, HB.out⟩
set_option maxHeartbeats 2000000 in
set_option maxRecDepth 100000 in
theorem markIntS_calls (xs : List Int) (k : Int) (F : List Nat) (v : Value) (w : World) (h : kInt.Row 3 w F xs v) (hnF : F.Nodup) (h0 : 0 ≤ k) (h1 : (mkL mkInt xs k).2 ≤ 4611686018427387904) (hl : xs.length ≤ 140737488355328) :
    Calls Try.prog 32 #[v, .int .i64 k] w fun e w' => e = .returned (.int .i64 (mkL mkInt xs k).2) ∧ kInt.Row 3 w' F (mkL mkInt xs k).1 v ∧ KeptF F w w' := by
  obtain ⟨A, c, rfl, hc, _⟩ := Rp.Row_K h
  have H := Lib.hid h; clear h
  have H1 := Lib.hid h1; clear h1
  go_enter Try.func32, Try.ntmps32
  go_wp2
  go_loopw [1, 5] (fun a n wr => ∃ i : Nat, i ≤ xs.length ∧ n = .int .i64 i ∧ a = .int .i64 (mkNo mkInt xs k i) ∧ Hid (kInt.Row 3 wr F (mkAt mkInt xs k i) (.slice A xs.length c)) ∧ Hid (KeptF F w wr)) (fun _ n _ => xs.length - (intOf n).toNat)
  case atStart => exact ⟨0, Nat.zero_le _, rfl, by rw [mkNo_zero], by rw [mkAt_zero]; exact H.out, KeptF.refl _ _⟩
  case round =>
    obtain ⟨i, hi, rfl, rfl, HR, HK⟩ := hrel
    by_cases hlt : i < xs.length
    · have b1 := mkNo_ge (mk := mkInt) (k := k) mkInt_le (Nat.le_of_lt hlt)
      have b2 := mkNo_top (mk := mkInt) (k := k) mkInt_le (i := i + 1) hlt
      have b4 : mkNo mkInt xs k (i + 1) = mkNo mkInt xs k i + 1 := mkNo_succ (mk := mkInt) (k := k) hlt
      have b5 := H1.out
      have hset := mkAt_set (mk := mkInt) (k := k) hlt
      have hl2 : i < (mkAt mkInt xs k i).length := by rw [mkAt_len hi]; exact hlt
      have hy := mkAt_get' (mk := mkInt) (k := k) hlt hl2
      have hR := HR.out
      clear HR
      have c1 : 0 ≤ mkNo mkInt xs k i := by omega
      have c2 : mkNo mkInt xs k i + 1 ≤ 4611686018427387904 := by omega
      clear b1 b2 b5
      have B4 := Lib.hid b4; clear b4
      generalize mkNo mkInt xs k i = kk at *
      generalize mkAt mkInt xs k i = ys at *
      generalize he : xs[i] = x at *
      have HE := Lib.hid he; clear he
      have hset' : ys.set i kk = mkAt mkInt xs k (i + 1) := hset
      have HS := Lib.hid hset'; clear hset hset'
      obtain ⟨g2, cap2, c2', F2, q0, gF, _, q2, _, _, q3, q4⟩ := Rp.Row_open hR hnF i hl2
      rw [hy] at q2
      obtain ⟨_, rfl⟩ := q2
      obtain ⟨g, rfl⟩ : ∃ g, A = some ⟨g, 0, none⟩ := ⟨g2, by simp at q0; exact q0.1⟩
      obtain rfl : g = g2 := by simp at q0; exact q0.1
      have z0 : wr.cell? ⟨g, i, none⟩ = some (.int .i64 x) := by have := q3 0 _ rfl; simpa [Rp.int, Rp.scalar] using this
      have y0 : wr.frozen? ⟨g, i, none⟩ = false := q4 _
      clear q0 q3 q4
      have r1 := Rp.Row_store hR hnF i hl2 0 (by decide) (.int .i64 kk) kk (fun c F1 hM => by rw [hy] at hM; obtain ⟨rfl, rfl⟩ := hM; exact ⟨rfl, rfl⟩)
      rw [HS.out] at r1
      have e1 : (⟨g, i * (kInt).sz + 0, none⟩ : Addr) = ⟨g, i, none⟩ := by simp [Rp.int, Rp.scalar]
      rw [e1] at r1
      have R1 := Lib.hid r1
      clear r1 e1 hy hR
      have i1 : (0 : Int) ≤ (i : Int) := by omega
      have i2 : (i : Int) < (xs.length : Int) := by omega
      go_wp2
      exact ⟨⟨i + 1, by omega, by go_num, by rw [B4.out]; try go_num, R1.out, KeptF.set HK.out (show g ∈ F from gF) _⟩, by simp [intOf]; omega⟩
    · go_wp2
      go_ret
      obtain rfl : i = xs.length := by omega
      exact ⟨ret_int mkNo_all, by rw [← mkAt_all]; exact HR.out, HK.out⟩
end Go.Proofs.Ytiliaijgkedhnaa
