/- The laws' own functions of some types, one by one. -/
import Derived.Test.YtcimnhpgackciaaInt
import Derived.Test.YtcimnhpgackciaaKitB
namespace Go.Proofs.Ytcimnhpgackciaa
open Go Go.RowKit Go.Sort
set_option linter.unusedVariables false
set_option linter.unusedSimpArgs false

structure DEntry where
  fTerm : Int
  fData : ByteArray
def kEntry : Rp DEntry := Rp.iso (Rp.pair (Rp.int .i64) (Rp.str)) (fun x => (x.fTerm, x.fData))
theorem kEntry_sz : kEntry.sz = 2 := rfl
theorem kEntry_K {w : World} {x : DEntry} {cs : List Value} (h : kEntry.K w x cs) : cs = [.int .i64 x.fTerm, .string x.fData] := by
  obtain ⟨_, _, rfl, rfl, rfl⟩ := h
  rfl
theorem kEntry_M {w : World} {F : List Nat} {x : DEntry} {cs : List Value} (h : kEntry.M w F x cs) : F = [] ∧ cs = [.int .i64 x.fTerm, .string x.fData] := by
  obtain ⟨_, _, _, _, rfl, rfl, ⟨rfl, rfl⟩, ⟨rfl, rfl⟩⟩ := h
  exact ⟨rfl, rfl⟩
theorem kEntry_mk (w : World) (x : DEntry) : kEntry.M w [] x [.int .i64 x.fTerm, .string x.fData] := ⟨[.int .i64 x.fTerm], [.string x.fData], [], [], rfl, rfl, ⟨rfl, rfl⟩, ⟨rfl, rfl⟩⟩
theorem kEntry_mkK (w : World) (x : DEntry) : kEntry.K w x [.int .i64 x.fTerm, .string x.fData] := kEntry.M_K (kEntry_mk w x)

def szNEntry (x : DEntry) : Nat := x.fData.size

def wfEntry (x : DEntry) : Prop := x.fData.size ≤ 140737488355328

set_option maxHeartbeats 1000000 in
set_option maxRecDepth 100000 in
theorem szEntry_calls (x : DEntry) (left : Int) (w : World) (h0 : 0 ≤ left) (h1 : left ≤ 140737488355328) (hw : wfEntry x) : Calls Try.prog 33 #[.agg #[.int .i64 x.fTerm, .string x.fData], .int .i64 left] w
    fun e w' => e = .returned (.int .i64 (szR (szNEntry x) left)) ∧ Below w.heap.size w w' := by
  have HF := Lib.hid (show (szNEntry x : Int) = (x.fData.size : Int) by unfold szNEntry; omega)
  have hs0 : x.fData.size ≤ 140737488355328 := hw
  clear hw
  go_enter Try.func33, Try.ntmps33
  go_wp2
  all_goals (go_ret; exact ⟨ret_int (by rw [szR_of HF.out]; first | (rw [if_pos (by omega)]; try omega) | (rw [if_neg (by omega)])), (by repeat (first | exact Below.refl _ _ | (refine Below.setCell ?_ (by first | (simp; done) | (simp; omega)) _) | (refine Below.alloc ?_ (by first | (simp; done) | (simp; omega)) _)))⟩)

set_option maxHeartbeats 1000000 in
set_option maxRecDepth 100000 in
theorem eqEntry_calls (x : DEntry) (w : World) : Calls Try.prog 48 #[.agg #[.int .i64 x.fTerm, .string x.fData], .agg #[.int .i64 x.fTerm, .string x.fData]] w
    fun e w' => e = .returned (.bool true) ∧ Below w.heap.size w w' := by
  go_enter Try.func48, Try.ntmps48
  go_wp2
  go_ret
  exact ⟨rfl, (by repeat (first | exact Below.refl _ _ | (refine Below.setCell ?_ (by first | (simp; done) | (simp; omega)) _) | (refine Below.alloc ?_ (by first | (simp; done) | (simp; omega)) _)))⟩

set_option maxHeartbeats 1000000 in
set_option maxRecDepth 100000 in
theorem toEntry_calls (x : DEntry) (w : World) : Calls Try.prog 39 #[.agg #[.int .i64 x.fTerm, .string x.fData]] w
    fun e w' => e = .returned (.agg #[.int .i64 x.fTerm, .string x.fData]) ∧ Below w.heap.size w w' := by
  go_enter Try.func39, Try.ntmps39
  go_wp2
  exact bodyPost_ret (v := .agg #[.int .i64 x.fTerm, .string x.fData]) (by simp [results, Try.results39, go_sem]) rfl ⟨rfl, (by repeat (first | exact Below.refl _ _ | (refine Below.setCell ?_ (by first | (simp; done) | (simp; omega)) _) | (refine Below.alloc ?_ (by first | (simp; done) | (simp; omega)) _)))⟩

theorem infoEntry : (Try.prog.info? 59).map (fun i => (i.zero, i.size, i.bytes)) = some (some (.agg #[.int .i64 0, .string ⟨#[]⟩]), 2, 24) := by kernel_rfl
def zEntry : DEntry := ⟨0, ⟨#[]⟩⟩

set_option maxHeartbeats 1000000 in
set_option maxRecDepth 100000 in
theorem szEntryS_calls (xs : List DEntry) (left : Int) (v : Value) (w : World) (h : kEntry.S w xs v) (h0 : 0 ≤ left) (h1 : left ≤ 140737488355328) (hw : ∀ x ∈ xs, wfEntry x) (hl : xs.length ≤ 140737488355328) :
    Calls Try.prog 14 #[v, .int .i64 left] w fun e w' => e = .returned (.int .i64 (szR (szL szNEntry xs) left)) ∧ Below w.heap.size w w' := by
  obtain ⟨A, c, rfl, hc, h⟩ := h
  have H := Lib.hid h; clear h
  have HW := Lib.hid hw; clear hw
  have HF := Lib.hid (show ((szL szNEntry xs : Nat) : Int) = xs.length + sumN szNEntry xs by unfold szL; omega)
  by_cases hq : (xs.length : Int) ≤ left
  · go_enter Try.func14, Try.ntmps14
    go_wp2
    go_loopw [1, 5] (fun l i wr => ∃ k : Nat, k ≤ xs.length ∧ i = .int .i64 k ∧ l = .int .i64 (left - xs.length - sumN szNEntry (xs.take k)) ∧ 0 ≤ left - xs.length - sumN szNEntry (xs.take k) ∧ Hid (Below w.heap.size w wr)) (fun _ i _ => xs.length - (intOf i).toNat)
    case atStart => exact ⟨0, Nat.zero_le _, rfl, by simp [sumN], by simp [sumN]; omega, Below.refl _ _⟩
    case round =>
      obtain ⟨k, hk, rfl, rfl, hs, HB⟩ := hrel
      by_cases hlt : k < xs.length
      · obtain ⟨b, o, cs, rfl, k1, q1⟩ := Rp.C_get H.out k hlt
        obtain rfl := kEntry_K k1
        have hx := HW.out xs[k] (List.getElem_mem hlt)
        have hs2 := sumN_take (f := szNEntry) hlt
        have hs3 := sumN_le (f := szNEntry) (xs := xs) (k + 1)
        generalize he : xs[k] = x at *
        generalize hs4 : sumN szNEntry (xs.take (k + 1)) = s1 at *
        generalize hs5 : sumN szNEntry (xs.take k) = s0 at *
        have HE := Lib.hid he; clear he
        have HS4 := Lib.hid hs4; clear hs4
        have HS5 := Lib.hid hs5; clear hs5
        have HS2 := Lib.hid hs2; clear hs2
        have a0 := (World.cell?_of_block (HB.out.block b (World.block_lt_of_cell? w _ (q1 0 _ rfl)))).trans (q1 0 _ rfl)
        simp only [kEntry_sz, Nat.add_zero] at a0
        have a1 := (World.cell?_of_block (HB.out.block b (World.block_lt_of_cell? w _ (q1 0 _ rfl)))).trans (q1 1 _ rfl)
        simp only [kEntry_sz, Nat.add_zero] at a1
        clear q1 k1
        have i1 : (0 : Int) ≤ (k : Int) := by omega
        have i2 : (k : Int) < (xs.length : Int) := by omega
        go_wp2_with fail
        (with_reducible refine (szEntry_calls x _ _ (by omega) (by omega) hx).mono ?_)
        rintro e w1 ⟨rfl, hb⟩
        have HB1 := Lib.hid (HB.out.trans (hb.mono HB.out.size)); clear hb
        by_cases hy : (szNEntry x : Int) ≤ left - xs.length - s0
        · rw [szR_yes hy]
          go_wp2
          exact ⟨⟨k + 1, by omega, by go_num, by rw [HS4.out, HS2.out]; go_num, by rw [HS4.out, HS2.out]; omega, HB1.out⟩, by simp [intOf]; omega⟩
        · rw [szR_no hy]
          go_wp2
          go_ret
          exact ⟨ret_int (by rw [szR_of HF.out, if_neg (by have := HS2.out; omega)]), HB1.out⟩
      · go_wp2
        go_ret
        obtain rfl : k = xs.length := by omega
        rw [sumN_all] at hs
        exact ⟨ret_int (by rw [szR_of HF.out, if_pos (by omega), sumN_all]; omega), HB.out⟩
  · go_enter Try.func14, Try.ntmps14
    go_wp2
    go_ret
    exact ⟨ret_int (by rw [szR_of HF.out, if_neg (by omega)]), Below.refl _ _⟩

set_option maxHeartbeats 1000000 in
set_option maxRecDepth 100000 in
theorem eqEntryS_calls (xs : List DEntry) (v1 v2 : Value) (w : World) (h1 : kEntry.S w xs v1) (h2 : kEntry.S w xs v2) (hl : xs.length ≤ 140737488355328) :
    Calls Try.prog 26 #[v1, v2] w fun e w' => e = .returned (.bool true) ∧ Below w.heap.size w w' := by
  obtain ⟨A1, c1, rfl, hc1, h1⟩ := h1
  obtain ⟨A2, c2, rfl, hc2, h2⟩ := h2
  have H1 := Lib.hid h1; clear h1
  have H2 := Lib.hid h2; clear h2
  go_enter Try.func26, Try.ntmps26
  go_wp2
  go_loopw [5] (fun i wr => ∃ k : Nat, k ≤ xs.length ∧ i = .int .i64 k ∧ Hid (Below w.heap.size w wr)) (fun i _ => xs.length - (intOf i).toNat)
  case atStart => exact ⟨0, Nat.zero_le _, rfl, Below.refl _ _⟩
  case round =>
    obtain ⟨k, hk, rfl, HB⟩ := hrel
    by_cases hlt : k < xs.length
    · obtain ⟨b1, o1, cs1, rfl, k1, q1⟩ := Rp.C_get H1.out k hlt
      obtain ⟨b2, o2, cs2, rfl, k2, q2⟩ := Rp.C_get H2.out k hlt
      obtain rfl := kEntry_K k1
      obtain rfl := kEntry_K k2
      generalize he : xs[k] = x at *
      have HE := Lib.hid he; clear he
      have a10 := regr HB.out (World.block_lt_of_cell? w _ (q1 0 _ rfl)) (q1 0 _ rfl)
      simp only [kEntry_sz, Nat.add_zero] at a10
      have a11 := regr HB.out (World.block_lt_of_cell? w _ (q1 1 _ rfl)) (q1 1 _ rfl)
      simp only [kEntry_sz, Nat.add_zero] at a11
      have a20 := regr HB.out (World.block_lt_of_cell? w _ (q2 0 _ rfl)) (q2 0 _ rfl)
      simp only [kEntry_sz, Nat.add_zero] at a20
      have a21 := regr HB.out (World.block_lt_of_cell? w _ (q2 1 _ rfl)) (q2 1 _ rfl)
      simp only [kEntry_sz, Nat.add_zero] at a21
      clear q1 q2 k1 k2
      have i1 : (0 : Int) ≤ (k : Int) := by omega
      have i2 : (k : Int) < (xs.length : Int) := by omega
      go_wp2
      refine wp_region_quiet_below (by kernel_rfl) (by kernel_rfl) ?_
      repeat (go_big_quiet_step (exact Calls.regrown_of (eqEntry_calls x _)))
      refine wpQuiet_nil ?_
      rintro w1 ⟨p, rfl⟩
      go_wp2
      exact ⟨⟨k + 1, by omega, by go_num, HB.out.trans ((below_regrown _ _ _).mono HB.out.size)⟩, by simp [intOf]; omega⟩
    · go_wp2
      go_ret
      exact ⟨rfl, HB.out⟩

set_option maxHeartbeats 1000000 in
set_option maxRecDepth 100000 in
theorem toEntryS_calls (xs : List DEntry) (v : Value) (w : World) (h : kEntry.S w xs v) (hl : xs.length ≤ 1048576) :
    Calls Try.prog 20 #[v] w fun e w' => ∃ v' F, e = .returned v' ∧ kEntry.Row 59 w' F xs v' ∧ (∀ b ∈ F, w.heap.size ≤ b) ∧ F.Nodup ∧ Below w.heap.size w w' := by
  obtain ⟨A, c, rfl, hc, h⟩ := h
  have H := Lib.hid h; clear h
  obtain ⟨w0, hmk, hR, hB, hlt0⟩ := mk_full w 27 59 kEntry zEntry Try.underlying27 infoEntry rfl (fun w => kEntry_mk w _) xs.length hl (by decide)
  have HR := Lib.hid hR; clear hR
  have HB := Lib.hid hB; clear hB
  go_enter Try.func20, Try.ntmps20
  go_wp2
  clear hmk
  go_loopw [4] (fun i wr => ∃ k : Nat, k ≤ xs.length ∧ i = .int .i64 k ∧ (∃ F, Hid (kEntry.Row 59 wr F (fillL xs zEntry k) (.slice (some ⟨w.heap.size, 0, none⟩) xs.length xs.length)) ∧ Hid (F.Nodup ∧ ∀ b ∈ F, w.heap.size ≤ b)) ∧ Hid (Below w.heap.size w wr)) (fun i _ => xs.length - (intOf i).toNat)
  case atStart => exact ⟨0, Nat.zero_le _, rfl, ⟨_, by rw [fillL_zero]; exact HR.out, by simp [Hid]⟩, HB.out⟩
  case round =>
    clear HR HB hlt0
    obtain ⟨k, hk, rfl, ⟨F, HR, HF⟩, HB⟩ := hrel
    by_cases hlt : k < xs.length
    · obtain ⟨b, o, cs, rfl, k1, q1⟩ := Rp.C_get H.out k hlt
      obtain rfl := kEntry_K k1
      have hs := fillL_set (z := zEntry) hlt
      generalize he : xs[k] = x at *
      have HS := Lib.hid hs; clear hs
      have HE := Lib.hid he; clear he
      have a0 := (World.cell?_of_block (HB.out.block b (World.block_lt_of_cell? w _ (q1 0 _ rfl)))).trans (q1 0 _ rfl)
      simp only [kEntry_sz, Nat.add_zero] at a0
      have a1 := (World.cell?_of_block (HB.out.block b (World.block_lt_of_cell? w _ (q1 1 _ rfl)))).trans (q1 1 _ rfl)
      simp only [kEntry_sz, Nat.add_zero] at a1
      clear q1 k1
      have i1 : (0 : Int) ≤ (k : Int) := by omega
      have i2 : (k : Int) < (xs.length : Int) := by omega
      go_wp2_with fail
      (with_reducible refine (toEntry_calls x _).mono ?_)
      rintro e w1 ⟨rfl, hb⟩
      have HR1 := Rp.Row_below HR.out hb
      have HB1 := HB.out.trans (hb.mono HB.out.size)
      clear hb HB HR
      have hk2 : k < (fillL xs zEntry k).length := by rw [fillL_len hk]; exact hlt
      obtain ⟨g, cap, cz, F1, q0, hgF, hgl, q2, _, _, q3, q4⟩ := Rp.Row_open HR1 HF.out.1 k hk2
      rw [fillL_get hlt hk2] at q2
      obtain ⟨rfl, rfl⟩ := kEntry_M q2
      obtain rfl : w.heap.size = g := by simp at q0; exact q0.1
      have z0 : w1.cell? ⟨w.heap.size, k * 2, none⟩ = some (.int .i64 0) := q3 0 _ rfl
      have z1 : w1.cell? ⟨w.heap.size, k * 2 + 1, none⟩ = some (.string ⟨#[]⟩) := q3 1 _ rfl
      have y0 : w1.frozen? ⟨w.heap.size, k * 2, none⟩ = false := q4 _
      have y1 : w1.frozen? ⟨w.heap.size, k * 2 + 1, none⟩ = false := q4 _
      have HP := Rp.Row_put HR1 HF.out.1 k hk2 x _ [] (kEntry_mk w1 x) (by simp) (by simp)
      rw [HS.out] at HP
      have HP := Lib.hid HP
      have HB1 := Lib.hid HB1
      clear q0 q2 q3 q4 hgF hgl hk2 HR1
      go_wp2
      obtain ⟨F', p1, p2, p3, p4⟩ := HP.out
      exact ⟨⟨k + 1, by omega, by go_num, ⟨F', p1, p2, fun b hb => HF.out.2 b (by simpa using p3 b hb)⟩, (Rp.setN_kept (F := F) p4 [.int .i64 x.fTerm, .string x.fData] w1 (k * 2) (KeptF.refl _ _) |>.toBelow HB1.out.size HF.out.2 |> HB1.out.trans)⟩, by simp [intOf]; omega⟩
    · go_wp2
      go_ret
      obtain rfl : k = xs.length := by omega
      exact ⟨_, _, rfl, by simpa [fillL_all] using HR.out, HF.out.2, HF.out.1, HB.out⟩

def mkEntry (x : DEntry) (k : Int) : DEntry × Int := ((⟨k, (mtxt (k + 1))⟩ : DEntry), k + 2)
theorem mkEntry_le (x : DEntry) (k : Int) : k ≤ (mkEntry x k).2 := by simp only [mkEntry]; omega

set_option maxHeartbeats 1000000 in
set_option maxRecDepth 100000 in
theorem markEntryS_calls (xs : List DEntry) (k : Int) (F : List Nat) (v : Value) (w : World) (h : kEntry.Row 59 w F xs v) (hnF : F.Nodup) (h0 : 0 ≤ k) (h1 : (mkL mkEntry xs k).2 ≤ 4611686018427387904) (hl : xs.length ≤ 140737488355328) :
    Calls Try.prog 29 #[v, .int .i64 k] w fun e w' => e = .returned (.int .i64 (mkL mkEntry xs k).2) ∧ kEntry.Row 59 w' F (mkL mkEntry xs k).1 v ∧ KeptF F w w' := by
  obtain ⟨A, c, rfl, hc, _⟩ := Rp.Row_K h
  have H := Lib.hid h; clear h
  have H1 := Lib.hid h1; clear h1
  go_enter Try.func29, Try.ntmps29
  go_wp2
  go_loopw [1, 5] (fun a n wr => ∃ i : Nat, i ≤ xs.length ∧ n = .int .i64 i ∧ a = .int .i64 (mkNo mkEntry xs k i) ∧ Hid (kEntry.Row 59 wr F (mkAt mkEntry xs k i) (.slice A xs.length c)) ∧ Hid (KeptF F w wr)) (fun _ n _ => xs.length - (intOf n).toNat)
  case atStart => exact ⟨0, Nat.zero_le _, rfl, by rw [mkNo_zero], by rw [mkAt_zero]; exact H.out, KeptF.refl _ _⟩
  case round =>
    obtain ⟨i, hi, rfl, rfl, HR, HK⟩ := hrel
    by_cases hlt : i < xs.length
    · have b1 := mkNo_ge (mk := mkEntry) (k := k) mkEntry_le (Nat.le_of_lt hlt)
      have b2 := mkNo_top (mk := mkEntry) (k := k) mkEntry_le (i := i + 1) hlt
      have b3 := mkNo_succ (mk := mkEntry) (k := k) hlt
      have b4 : mkNo mkEntry xs k (i + 1) = mkNo mkEntry xs k i + 2 := b3
      have b5 := H1.out
      have hset := mkAt_set (mk := mkEntry) (k := k) hlt
      have hl2 : i < (mkAt mkEntry xs k i).length := by rw [mkAt_len hi]; exact hlt
      have hy := mkAt_get' (mk := mkEntry) (k := k) hlt hl2
      have hR := HR.out
      clear HR
      have c1 : 0 ≤ mkNo mkEntry xs k i := by omega
      have c2 : mkNo mkEntry xs k i + 2 ≤ 4611686018427387904 := by omega
      clear b1 b2 b3 b5
      have B4 := Lib.hid b4; clear b4
      generalize mkNo mkEntry xs k i = kk at *
      generalize mkAt mkEntry xs k i = ys at *
      generalize he : xs[i] = x at *
      have HE := Lib.hid he; clear he
      have hset' : ys.set i (⟨kk, (mtxt (kk + 1))⟩ : DEntry) = mkAt mkEntry xs k (i + 1) := hset
      have HS := Lib.hid hset'; clear hset hset'
      obtain ⟨g2, cap2, c2, F2, q0, gF, _, q2, _, _, q3, q4⟩ := Rp.Row_open hR hnF i hl2
      rw [hy] at q2
      obtain ⟨_, rfl⟩ := kEntry_M q2
      obtain ⟨g, rfl⟩ : ∃ g, A = some ⟨g, 0, none⟩ := ⟨g2, by simp at q0; exact q0.1⟩
      obtain rfl : g = g2 := by simp at q0; exact q0.1
      have z0_0 : wr.cell? ⟨g, i * 2, none⟩ = some (.int .i64 x.fTerm) := q3 0 _ rfl
      have y0_0 : wr.frozen? ⟨g, i * 2, none⟩ = false := q4 _
      have z0_1 : wr.cell? ⟨g, i * 2 + 1, none⟩ = some (.string x.fData) := q3 1 _ rfl
      have y0_1 : wr.frozen? ⟨g, i * 2 + 1, none⟩ = false := q4 _
      clear q0 q2 q3 q4
      have HY := Lib.hid hy; clear hy
      have HRr := Lib.hid hR; clear hR
      have i1 : (0 : Int) ≤ (i : Int) := by omega
      have i2 : (i : Int) < (xs.length : Int) := by omega
      go_wp2_with fail
      (with_reducible refine (markText_calls _ _ (by omega)).mono ?_)
      rintro e w1 ⟨rfl, hb⟩
      have hy := HY.out
      have r0 := HRr.out
      have r1 := Rp.Row_store r0 hnF i hl2 0 (by decide) (.int .i64 kk) (⟨kk, x.fData⟩ : DEntry) (fun c F1 hM => by rw [hy] at hM; obtain ⟨rfl, rfl⟩ := kEntry_M hM; exact kEntry_mk _ _)
      have rb1 := Rp.Row_below r1 hb
      have HKb1 := Lib.hid (KeptF.below (F := F) (a := w) (by repeat (first | exact HK.out | (refine KeptF.set ?_ (show g ∈ F from gF) _))) hb)
      clear hb r0 r1 z0_0 y0_0 z0_1 y0_1
      obtain ⟨g2, cap2, c2, F2, q0, _, _, q2, _, _, q3, q4⟩ := Rp.Row_open rb1 hnF i (by rw [List.length_set]; exact hl2)
      rw [List.getElem_set_self] at q2
      obtain ⟨_, rfl⟩ := kEntry_M q2
      obtain rfl : g = g2 := by simp at q0; exact q0.1
      have z1_0 : w1.cell? ⟨g, i * 2, none⟩ = some (.int .i64 kk) := q3 0 _ rfl
      have y1_0 : w1.frozen? ⟨g, i * 2, none⟩ = false := q4 _
      have z1_1 : w1.cell? ⟨g, i * 2 + 1, none⟩ = some (.string x.fData) := q3 1 _ rfl
      have y1_1 : w1.frozen? ⟨g, i * 2 + 1, none⟩ = false := q4 _
      clear q0 q2 q3 q4
      have HRr1 := Lib.hid rb1; clear rb1
      clear hy
      go_wp2
      have hy := HY.out
      have r1 := HRr1.out
      have r2 := Rp.Row_store r1 hnF i (by rw [List.length_set]; exact hl2) 1 (by decide) (.string (mtxt (kk + 1))) (⟨kk, (mtxt (kk + 1))⟩ : DEntry) (fun c F1 hM => by rw [List.getElem_set_self] at hM; obtain ⟨rfl, rfl⟩ := kEntry_M hM; exact kEntry_mk _ _)
      rw [List.set_set] at r2
      rw [HS.out] at r2
      exact ⟨⟨i + 1, by omega, by go_num, by rw [B4.out]; go_num, r2, (by repeat (first | exact HKb1.out | (refine KeptF.set ?_ (show g ∈ F from gF) _)))⟩, by simp [intOf]; omega⟩
    · go_wp2
      go_ret
      obtain rfl : i = xs.length := by omega
      exact ⟨ret_int mkNo_all, by rw [← mkAt_all]; exact HR.out, HK.out⟩

set_option maxHeartbeats 1000000 in
set_option maxRecDepth 100000 in
theorem heldEntryS_calls (xs : List DEntry) (k : Int) (v : Value) (w : World) (h : kEntry.S w (mkL mkEntry xs k).1 v) (h0 : 0 ≤ k) (h1 : (mkL mkEntry xs k).2 ≤ 4611686018427387904) (hl : xs.length ≤ 140737488355328) :
    Calls Try.prog 31 #[v, .int .i64 k] w fun e w' => e = .returned (.int .i64 (mkL mkEntry xs k).2) ∧ Below w.heap.size w w' := by
  obtain ⟨A, c, rfl, hc, hC⟩ := h
  rw [mkL_len] at hc ⊢
  have H := Lib.hid hC; clear hC
  have H1 := Lib.hid h1; clear h1
  go_enter Try.func31, Try.ntmps31
  go_wp2
  go_loopw [1, 5] (fun a n wr => ∃ i : Nat, i ≤ xs.length ∧ n = .int .i64 i ∧ a = .int .i64 (mkNo mkEntry xs k i) ∧ Hid (Below w.heap.size w wr)) (fun _ n _ => xs.length - (intOf n).toNat)
  case atStart => exact ⟨0, Nat.zero_le _, rfl, by rw [mkNo_zero], Below.refl _ _⟩
  case round =>
    obtain ⟨i, hi, rfl, rfl, HB⟩ := hrel
    by_cases hlt : i < xs.length
    · have b1 := mkNo_ge (mk := mkEntry) (k := k) mkEntry_le (Nat.le_of_lt hlt)
      have b2 := mkNo_top (mk := mkEntry) (k := k) mkEntry_le (i := i + 1) hlt
      have b4 : mkNo mkEntry xs k (i + 1) = mkNo mkEntry xs k i + 2 := mkNo_succ (mk := mkEntry) (k := k) hlt
      have b5 := H1.out
      obtain ⟨b, o, cs, rfl, k1, q1⟩ := Rp.C_get H.out i (by rw [mkL_len]; exact hlt)
      rw [mkL_get' hlt] at k1
      obtain rfl := kEntry_K k1
      have Q := Lib.hid q1
      clear q1 k1
      have c1 : 0 ≤ mkNo mkEntry xs k i := by omega
      have c2 : mkNo mkEntry xs k i + 2 ≤ 4611686018427387904 := by omega
      clear b1 b2 b5
      have B4 := Lib.hid b4; clear b4
      generalize mkNo mkEntry xs k i = kk at *
      generalize xs[i] = x at *
      have a0_0 : wr.cell? ⟨b, o + i * 2, none⟩ = some (.int .i64 kk) := (World.cell?_of_block (HB.out.block b (World.block_lt_of_cell? w _ (Q.out 0 _ rfl)))).trans (Q.out 0 _ rfl)
      have g0_0 : ∀ d os, (grow (redrawn wr d) os).cell? ⟨b, o + i * 2, none⟩ = some (.int .i64 kk) := regr HB.out (World.block_lt_of_cell? w _ (Q.out 0 _ rfl)) (Q.out 0 _ rfl)
      have a0_1 : wr.cell? ⟨b, o + i * 2 + 1, none⟩ = some (.string (mtxt (kk + 1))) := (World.cell?_of_block (HB.out.block b (World.block_lt_of_cell? w _ (Q.out 1 _ rfl)))).trans (Q.out 1 _ rfl)
      have g0_1 : ∀ d os, (grow (redrawn wr d) os).cell? ⟨b, o + i * 2 + 1, none⟩ = some (.string (mtxt (kk + 1))) := regr HB.out (World.block_lt_of_cell? w _ (Q.out 1 _ rfl)) (Q.out 1 _ rfl)
      have i1 : (0 : Int) ≤ (i : Int) := by omega
      have i2 : (i : Int) < (xs.length : Int) := by omega
      go_wp2
      refine wp_region_quiet_below (by kernel_rfl) (by kernel_rfl) ?_
      repeat (go_big_quiet_step (exact Calls.regrown_of (markText_calls _ _ (by omega))))
      refine wpQuiet_nil ?_
      rintro w0 ⟨p, rfl⟩
      have HB2 := Lib.hid (HB.out.trans ((below_regrown wr p.d p.os).mono HB.out.size))
      clear a0_0 a0_1 g0_0 g0_1
      generalize grow (redrawn wr p.d) p.os = w2 at *
      have a2_0 : w2.cell? ⟨b, o + i * 2, none⟩ = some (.int .i64 kk) := (World.cell?_of_block (HB2.out.block b (World.block_lt_of_cell? w _ (Q.out 0 _ rfl)))).trans (Q.out 0 _ rfl)
      have a2_1 : w2.cell? ⟨b, o + i * 2 + 1, none⟩ = some (.string (mtxt (kk + 1))) := (World.cell?_of_block (HB2.out.block b (World.block_lt_of_cell? w _ (Q.out 1 _ rfl)))).trans (Q.out 1 _ rfl)
      go_wp2
      exact ⟨⟨i + 1, by omega, by go_num, by rw [B4.out]; go_num, HB2.out⟩, by simp [intOf]; omega⟩
    · go_wp2
      go_ret
      obtain rfl : i = xs.length := by omega
      exact ⟨ret_int mkNo_all, HB.out⟩

theorem kEntry_flat : kEntry.Flat := ⟨fun h => (kEntry_M h).1, fun h => by obtain rfl := kEntry_K h; exact kEntry_mk _ _⟩
set_option maxHeartbeats 1000000 in
set_option maxRecDepth 100000 in
theorem cloneEntry_calls (xs : List DEntry) (v : Value) (w : World) (g : kEntry.S w xs v) (hl : xs.length ≤ 16777216) : Calls Try.prog 45 #[v] w
    fun e w' => ∃ v' F, e = .returned v' ∧ kEntry.Row 59 w' F xs v' ∧ (∀ b ∈ F, w.heap.size ≤ b) ∧ F.Nodup ∧ Below w.heap.size w w' := by
  have g0 := g
  obtain ⟨A, c, rfl, hc, h⟩ := g
  have H := Lib.hid g0; clear g0 h
  cases A with
  | none =>
    have e1 := hc.2 rfl
    subst e1
    have e2 : xs = [] := List.length_eq_zero_iff.1 (Nat.le_zero.1 hc.1)
    subst e2
    clear hc H
    have he := Lib.run_eql_slice_nil (P := Try.prog) w 27 59 none 0 0 0 0 Try.underlying27
    go_enter Try.func45, Try.ntmps45
    go_wp2
    go_ret
    exact ⟨_, [], rfl, Rp.Row_nil _ _ _, by simp, by simp, Below.refl _ _⟩
  | some a =>
    have he := Lib.run_eql_slice_nil (P := Try.prog) w 27 59 (some a) xs.length c 0 0 Try.underlying27
    go_enter Try.func45, Try.ntmps45
    go_wp2_with (at_builtin; refine wp_append (d := kEntry) rfl _ _ 27 59 rfl Try.underlying27 infoEntry rfl (by decide) rfl (by decide) kEntry_flat (xs := []) (ys := xs) rfl rfl (Rp.Row_made0 _ _ _ (by simp)) (Rp.S_below H.out ((Below.refl _ _).alloc (Nat.le_refl _) _)) (by simpa using hl) ?_; intro v1 w1 r1 r2 r3 _; have R1 := Lib.hid r1; have R2 := Lib.hid r2; have R3 := Lib.hid r3; clear r1 r2 r3)
    go_ret
    exact ⟨_, _, rfl, R1.out, fun b hb => by rcases R3.out b hb with h | h <;> simp at h <;> omega, ofOwn_nodup _, R2.out.newBelow (Nat.le_refl _)⟩

structure DRaftMsg where
  fKind : Int
  fFrom : Int
  fTo : Int
  fTerm : Int
  fIndex : Int
  fBefore : Int
  fEntries : List (DEntry)
  fCommit : Int
  fYes : Bool
def kRaftMsg : Rp DRaftMsg := Rp.iso (Rp.pair (Rp.int .i64) (Rp.pair (Rp.int .i64) (Rp.pair (Rp.int .i64) (Rp.pair (Rp.int .i64) (Rp.pair (Rp.int .i64) (Rp.pair (Rp.int .i64) (Rp.pair (Rp.slice 59 kEntry) (Rp.pair (Rp.int .i64) (Rp.bool))))))))) (fun x => (x.fKind, x.fFrom, x.fTo, x.fTerm, x.fIndex, x.fBefore, x.fEntries, x.fCommit, x.fYes))
def szNRaftMsg (x : DRaftMsg) : Nat := szL szNEntry x.fEntries
def wfRaftMsg (x : DRaftMsg) : Prop := ((∀ y ∈ x.fEntries, wfEntry y) ∧ x.fEntries.length ≤ 140737488355328)

set_option maxHeartbeats 1000000 in
set_option maxRecDepth 100000 in
theorem eqRaftMsg_calls (x : DRaftMsg) (v6 u6 : Value) (w : World) (g6 : kEntry.S w x.fEntries v6) (d6 : kEntry.S w x.fEntries u6) (hl : x.fEntries.length ≤ 140737488355328) : Calls Try.prog 28 #[.agg #[.int .i64 x.fKind, .int .i64 x.fFrom, .int .i64 x.fTo, .int .i64 x.fTerm, .int .i64 x.fIndex, .int .i64 x.fBefore, v6, .int .i64 x.fCommit, .bool x.fYes], .agg #[.int .i64 x.fKind, .int .i64 x.fFrom, .int .i64 x.fTo, .int .i64 x.fTerm, .int .i64 x.fIndex, .int .i64 x.fBefore, u6, .int .i64 x.fCommit, .bool x.fYes]] w
    fun e w' => e = .returned (.bool true) ∧ Below w.heap.size w w' := by
  have l6 := hl
  clear hl
  have G6 := Lib.hid g6; clear g6
  have D6 := Lib.hid d6; clear d6
  go_enter Try.func28, Try.ntmps28
  go_wp2_with fail
  (with_reducible refine (eqEntryS_calls x.fEntries v6 u6 _ (by first | exact Rp.S_below G6.out (((Below.refl _ _).alloc (Nat.le_refl _) _).alloc (by simp) _) | exact Rp.S_below G6.out HB.out) (by first | exact Rp.S_below D6.out (((Below.refl _ _).alloc (Nat.le_refl _) _).alloc (by simp) _) | exact Rp.S_below D6.out HB.out) l6).mono ?_)
  rintro e w6 ⟨rfl, hb⟩
  have B0 : Box _ w.heap.size #[.int .i64 x.fKind, .int .i64 x.fFrom, .int .i64 x.fTo, .int .i64 x.fTerm, .int .i64 x.fIndex, .int .i64 x.fBefore, v6, .int .i64 x.fCommit, .bool x.fYes] 44 := Box.below (Box.alloc (Box.new rfl)) hb
  have B1 : Box _ (w.heap.size + 1) #[.int .i64 x.fKind, .int .i64 x.fFrom, .int .i64 x.fTo, .int .i64 x.fTerm, .int .i64 x.fIndex, .int .i64 x.fBefore, u6, .int .i64 x.fCommit, .bool x.fYes] 44 := Box.below (Box.new (by simp)) hb
  have HB6 := Lib.hid (Below.trans (((Below.refl w.heap.size w).alloc (Nat.le_refl _) _).alloc (by simp) _) (hb.mono (by simp; omega)))
  clear hb
  have c6_0_7 := B0.cell 7 (v := .int .i64 x.fCommit) rfl
  have c6_1_7 := B1.cell 7 (v := .int .i64 x.fCommit) rfl
  have c6_0_8 := B0.cell 8 (v := .bool x.fYes) rfl
  have c6_1_8 := B1.cell 8 (v := .bool x.fYes) rfl
  clear B0 B1
  go_wp2
  go_ret
  exact ⟨rfl, HB6.out⟩

theorem kRaftMsg_open {w : World} {F : List Nat} {x : DRaftMsg} {cs : List Value} (h : kRaftMsg.M w F x cs) : ∃ v6 F6, cs = [.int .i64 x.fKind, .int .i64 x.fFrom, .int .i64 x.fTo, .int .i64 x.fTerm, .int .i64 x.fIndex, .int .i64 x.fBefore, v6, .int .i64 x.fCommit, .bool x.fYes] ∧ F = F6 ∧ kEntry.Row 59 w F6 x.fEntries v6 := by
  obtain ⟨_, _, _, _, rfl, rfl, ⟨rfl, rfl⟩, ⟨_, _, _, _, rfl, rfl, ⟨rfl, rfl⟩, ⟨_, _, _, _, rfl, rfl, ⟨rfl, rfl⟩, ⟨_, _, _, _, rfl, rfl, ⟨rfl, rfl⟩, ⟨_, _, _, _, rfl, rfl, ⟨rfl, rfl⟩, ⟨_, _, _, _, rfl, rfl, ⟨rfl, rfl⟩, ⟨_, _, _, _, rfl, rfl, ⟨v6, rfl, r6⟩, ⟨_, _, _, _, rfl, rfl, ⟨rfl, rfl⟩, ⟨rfl, rfl⟩⟩⟩⟩⟩⟩⟩⟩⟩ := h
  exact ⟨v6, _, rfl, by simp, r6⟩
theorem kRaftMsg_read {w : World} {x : DRaftMsg} {cs : List Value} (h : kRaftMsg.K w x cs) : ∃ v6, cs = [.int .i64 x.fKind, .int .i64 x.fFrom, .int .i64 x.fTo, .int .i64 x.fTerm, .int .i64 x.fIndex, .int .i64 x.fBefore, v6, .int .i64 x.fCommit, .bool x.fYes] ∧ kEntry.S w x.fEntries v6 := by
  obtain ⟨_, _, rfl, rfl, ⟨_, _, rfl, rfl, ⟨_, _, rfl, rfl, ⟨_, _, rfl, rfl, ⟨_, _, rfl, rfl, ⟨_, _, rfl, rfl, ⟨_, _, rfl, ⟨A6, c6, rfl, e6, r6⟩, ⟨_, _, rfl, rfl, rfl⟩⟩⟩⟩⟩⟩⟩⟩ := h
  exact ⟨_, rfl, ⟨A6, c6, rfl, e6, r6⟩⟩
theorem kRaftMsg_make {w : World} {x : DRaftMsg} {v6 : Value} {F6 : List Nat} (r6 : kEntry.Row 59 w F6 x.fEntries v6) : kRaftMsg.M w (F6) x [.int .i64 x.fKind, .int .i64 x.fFrom, .int .i64 x.fTo, .int .i64 x.fTerm, .int .i64 x.fIndex, .int .i64 x.fBefore, v6, .int .i64 x.fCommit, .bool x.fYes] :=
  ⟨[.int .i64 x.fKind], [.int .i64 x.fFrom, .int .i64 x.fTo, .int .i64 x.fTerm, .int .i64 x.fIndex, .int .i64 x.fBefore, v6, .int .i64 x.fCommit, .bool x.fYes], [], F6, rfl, by simp, ⟨rfl, rfl⟩, ⟨[.int .i64 x.fFrom], [.int .i64 x.fTo, .int .i64 x.fTerm, .int .i64 x.fIndex, .int .i64 x.fBefore, v6, .int .i64 x.fCommit, .bool x.fYes], [], F6, rfl, by simp, ⟨rfl, rfl⟩, ⟨[.int .i64 x.fTo], [.int .i64 x.fTerm, .int .i64 x.fIndex, .int .i64 x.fBefore, v6, .int .i64 x.fCommit, .bool x.fYes], [], F6, rfl, by simp, ⟨rfl, rfl⟩, ⟨[.int .i64 x.fTerm], [.int .i64 x.fIndex, .int .i64 x.fBefore, v6, .int .i64 x.fCommit, .bool x.fYes], [], F6, rfl, by simp, ⟨rfl, rfl⟩, ⟨[.int .i64 x.fIndex], [.int .i64 x.fBefore, v6, .int .i64 x.fCommit, .bool x.fYes], [], F6, rfl, by simp, ⟨rfl, rfl⟩, ⟨[.int .i64 x.fBefore], [v6, .int .i64 x.fCommit, .bool x.fYes], [], F6, rfl, by simp, ⟨rfl, rfl⟩, ⟨[v6], [.int .i64 x.fCommit, .bool x.fYes], F6, [], rfl, by simp, ⟨v6, rfl, r6⟩, ⟨[.int .i64 x.fCommit], [.bool x.fYes], [], [], rfl, by simp, ⟨rfl, rfl⟩, ⟨rfl, rfl⟩⟩⟩⟩⟩⟩⟩⟩⟩

def mkRaftMsg (x : DRaftMsg) (k : Int) : DRaftMsg × Int :=
  let a6 := mkL mkEntry x.fEntries k
  (⟨x.fKind, x.fFrom, x.fTo, x.fTerm, x.fIndex, x.fBefore, a6.1, x.fCommit, x.fYes⟩, a6.2)
theorem mkRaftMsg_le (x : DRaftMsg) (k : Int) : k ≤ (mkRaftMsg x k).2 := by
  have h6 := mkL_le mkEntry_le x.fEntries (k)
  simp only [mkRaftMsg]
  omega

end Go.Proofs.Ytcimnhpgackciaa
