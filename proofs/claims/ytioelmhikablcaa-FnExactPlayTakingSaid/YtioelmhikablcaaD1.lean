/- The laws' own functions of some types, one by one. -/
import Derived.Test.YtioelmhikablcaaInt
import Derived.Test.YtioelmhikablcaaKitB
namespace Go.Proofs.Ytioelmhikablcaa
open Go Go.RowKit Go.Sort
set_option linter.unusedVariables false
set_option linter.unusedSimpArgs false

structure DWanted where
  fSize : Int
  fSum : Int
def kWanted : Rp DWanted := Rp.iso (Rp.pair (Rp.int .i64) (Rp.int .u32)) (fun x => (x.fSize, x.fSum))
theorem kWanted_sz : kWanted.sz = 2 := rfl
theorem kWanted_K {w : World} {x : DWanted} {cs : List Value} (h : kWanted.K w x cs) : cs = [.int .i64 x.fSize, .int .u32 x.fSum] := by
  obtain ⟨_, _, rfl, rfl, rfl⟩ := h
  rfl
theorem kWanted_M {w : World} {F : List Nat} {x : DWanted} {cs : List Value} (h : kWanted.M w F x cs) : F = [] ∧ cs = [.int .i64 x.fSize, .int .u32 x.fSum] := by
  obtain ⟨_, _, _, _, rfl, rfl, ⟨rfl, rfl⟩, ⟨rfl, rfl⟩⟩ := h
  exact ⟨rfl, rfl⟩
theorem kWanted_mk (w : World) (x : DWanted) : kWanted.M w [] x [.int .i64 x.fSize, .int .u32 x.fSum] := ⟨[.int .i64 x.fSize], [.int .u32 x.fSum], [], [], rfl, rfl, ⟨rfl, rfl⟩, ⟨rfl, rfl⟩⟩
theorem kWanted_mkK (w : World) (x : DWanted) : kWanted.K w x [.int .i64 x.fSize, .int .u32 x.fSum] := kWanted.M_K (kWanted_mk w x)

def szNWanted (x : DWanted) : Nat := 0

def wfWanted (x : DWanted) : Prop := True

set_option maxHeartbeats 1000000 in
set_option maxRecDepth 100000 in
theorem eqWanted_calls (x : DWanted) (w : World) : Calls Try.prog 174 #[.agg #[.int .i64 x.fSize, .int .u32 x.fSum], .agg #[.int .i64 x.fSize, .int .u32 x.fSum]] w
    fun e w' => e = .returned (.bool true) ∧ Below w.heap.size w w' := by
  go_enter Try.func174, Try.ntmps174
  go_wp2
  go_ret
  exact ⟨rfl, (by repeat (first | exact Below.refl _ _ | (refine Below.setCell ?_ (by first | (simp; done) | (simp; omega)) _) | (refine Below.alloc ?_ (by first | (simp; done) | (simp; omega)) _)))⟩

set_option maxHeartbeats 1000000 in
set_option maxRecDepth 100000 in
theorem toWanted_calls (x : DWanted) (w : World) : Calls Try.prog 168 #[.agg #[.int .i64 x.fSize, .int .u32 x.fSum]] w
    fun e w' => e = .returned (.agg #[.int .i64 x.fSize, .int .u32 x.fSum]) ∧ Below w.heap.size w w' := by
  go_enter Try.func168, Try.ntmps168
  go_wp2
  exact bodyPost_ret (v := .agg #[.int .i64 x.fSize, .int .u32 x.fSum]) (by simp [results, Try.results168, go_sem]) rfl ⟨rfl, (by repeat (first | exact Below.refl _ _ | (refine Below.setCell ?_ (by first | (simp; done) | (simp; omega)) _) | (refine Below.alloc ?_ (by first | (simp; done) | (simp; omega)) _)))⟩

theorem infoWanted : (Try.prog.info? 136).map (fun i => (i.zero, i.size, i.bytes)) = some (some (.agg #[.int .i64 0, .int .u32 0]), 2, 16) := by kernel_rfl
def zWanted : DWanted := ⟨0, 0⟩

set_option maxHeartbeats 1000000 in
set_option maxRecDepth 100000 in
theorem szL_Wanted (xs : List DWanted) : szL szNWanted xs = xs.length := by
  have : ∀ ys : List DWanted, sumN szNWanted ys = 0 := fun ys => by induction ys with
    | nil => rfl
    | cons y ys ih => simp [sumN, ih, szNWanted]
  rw [szL, this]
  rfl
set_option maxHeartbeats 1000000 in
theorem szWantedS_calls (xs : List DWanted) (left : Int) (v : Value) (w : World) (h : kWanted.S w xs v) (h0 : 0 ≤ left) (h1 : left ≤ 140737488355328) (hw : ∀ x ∈ xs, wfWanted x) (hl : xs.length ≤ 140737488355328) :
    Calls Try.prog 78 #[v, .int .i64 left] w fun e w' => e = .returned (.int .i64 (szR (szL szNWanted xs) left)) ∧ Below w.heap.size w w' := by
  obtain ⟨A, c, rfl, hc, h⟩ := h
  clear h hw
  have HF := Lib.hid (szL_Wanted xs)
  go_enter Try.func78, Try.ntmps78
  go_wp2
  all_goals (go_ret; exact ⟨ret_int (by rw [HF.out]; first | (rw [szR_yes (by omega)]; done) | (rw [szR_no (by omega)]; done)), Below.refl _ _⟩)

set_option maxHeartbeats 1000000 in
set_option maxRecDepth 100000 in
theorem eqWantedS_calls (xs : List DWanted) (v1 v2 : Value) (w : World) (h1 : kWanted.S w xs v1) (h2 : kWanted.S w xs v2) (hl : xs.length ≤ 140737488355328) :
    Calls Try.prog 87 #[v1, v2] w fun e w' => e = .returned (.bool true) ∧ Below w.heap.size w w' := by
  obtain ⟨A1, c1, rfl, hc1, h1⟩ := h1
  obtain ⟨A2, c2, rfl, hc2, h2⟩ := h2
  have H1 := Lib.hid h1; clear h1
  have H2 := Lib.hid h2; clear h2
  go_enter Try.func87, Try.ntmps87
  go_wp2
  go_loopw [5] (fun i wr => ∃ k : Nat, k ≤ xs.length ∧ i = .int .i64 k ∧ Hid (Below w.heap.size w wr)) (fun i _ => xs.length - (intOf i).toNat)
  case atStart => exact ⟨0, Nat.zero_le _, rfl, Below.refl _ _⟩
  case round =>
    obtain ⟨k, hk, rfl, HB⟩ := hrel
    by_cases hlt : k < xs.length
    · obtain ⟨b1, o1, cs1, rfl, k1, q1⟩ := Rp.C_get H1.out k hlt
      obtain ⟨b2, o2, cs2, rfl, k2, q2⟩ := Rp.C_get H2.out k hlt
      obtain rfl := kWanted_K k1
      obtain rfl := kWanted_K k2
      generalize he : xs[k] = x at *
      have HE := Lib.hid he; clear he
      have a10 := regr HB.out (World.block_lt_of_cell? w _ (q1 0 _ rfl)) (q1 0 _ rfl)
      simp only [kWanted_sz, Nat.add_zero] at a10
      have a11 := regr HB.out (World.block_lt_of_cell? w _ (q1 1 _ rfl)) (q1 1 _ rfl)
      simp only [kWanted_sz, Nat.add_zero] at a11
      have a20 := regr HB.out (World.block_lt_of_cell? w _ (q2 0 _ rfl)) (q2 0 _ rfl)
      simp only [kWanted_sz, Nat.add_zero] at a20
      have a21 := regr HB.out (World.block_lt_of_cell? w _ (q2 1 _ rfl)) (q2 1 _ rfl)
      simp only [kWanted_sz, Nat.add_zero] at a21
      clear q1 q2 k1 k2
      have i1 : (0 : Int) ≤ (k : Int) := by omega
      have i2 : (k : Int) < (xs.length : Int) := by omega
      go_wp2
      refine wp_region_quiet_below (by kernel_rfl) (by kernel_rfl) ?_
      repeat (go_big_quiet_step (exact Calls.regrown_of (eqWanted_calls x _)))
      refine wpQuiet_nil ?_
      rintro w1 ⟨p, rfl⟩
      go_wp2
      exact ⟨⟨k + 1, by omega, by go_num, HB.out.trans ((below_regrown _ _ _).mono HB.out.size)⟩, by simp [intOf]; omega⟩
    · go_wp2
      go_ret
      exact ⟨rfl, HB.out⟩

set_option maxHeartbeats 1000000 in
set_option maxRecDepth 100000 in
theorem toWantedS_calls (xs : List DWanted) (v : Value) (w : World) (h : kWanted.S w xs v) (hl : xs.length ≤ 1048576) :
    Calls Try.prog 82 #[v] w fun e w' => ∃ v' F, e = .returned v' ∧ kWanted.Row 136 w' F xs v' ∧ (∀ b ∈ F, w.heap.size ≤ b) ∧ F.Nodup ∧ Below w.heap.size w w' := by
  obtain ⟨A, c, rfl, hc, h⟩ := h
  have H := Lib.hid h; clear h
  obtain ⟨w0, hmk, hR, hB, hlt0⟩ := mk_full w 30 136 kWanted zWanted Try.underlying30 infoWanted rfl (fun w => kWanted_mk w _) xs.length hl (by decide)
  have HR := Lib.hid hR; clear hR
  have HB := Lib.hid hB; clear hB
  go_enter Try.func82, Try.ntmps82
  go_wp2
  clear hmk
  go_loopw [4] (fun i wr => ∃ k : Nat, k ≤ xs.length ∧ i = .int .i64 k ∧ (∃ F, Hid (kWanted.Row 136 wr F (fillL xs zWanted k) (.slice (some ⟨w.heap.size, 0, none⟩) xs.length xs.length)) ∧ Hid (F.Nodup ∧ ∀ b ∈ F, w.heap.size ≤ b)) ∧ Hid (Below w.heap.size w wr)) (fun i _ => xs.length - (intOf i).toNat)
  case atStart => exact ⟨0, Nat.zero_le _, rfl, ⟨_, by rw [fillL_zero]; exact HR.out, by simp [Hid]⟩, HB.out⟩
  case round =>
    clear HR HB hlt0
    obtain ⟨k, hk, rfl, ⟨F, HR, HF⟩, HB⟩ := hrel
    by_cases hlt : k < xs.length
    · obtain ⟨b, o, cs, rfl, k1, q1⟩ := Rp.C_get H.out k hlt
      obtain rfl := kWanted_K k1
      have hs := fillL_set (z := zWanted) hlt
      generalize he : xs[k] = x at *
      have HS := Lib.hid hs; clear hs
      have HE := Lib.hid he; clear he
      have a0 := (World.cell?_of_block (HB.out.block b (World.block_lt_of_cell? w _ (q1 0 _ rfl)))).trans (q1 0 _ rfl)
      simp only [kWanted_sz, Nat.add_zero] at a0
      have a1 := (World.cell?_of_block (HB.out.block b (World.block_lt_of_cell? w _ (q1 1 _ rfl)))).trans (q1 1 _ rfl)
      simp only [kWanted_sz, Nat.add_zero] at a1
      clear q1 k1
      have i1 : (0 : Int) ≤ (k : Int) := by omega
      have i2 : (k : Int) < (xs.length : Int) := by omega
      go_wp2_with fail
      (with_reducible refine (toWanted_calls x _).mono ?_)
      rintro e w1 ⟨rfl, hb⟩
      have HR1 := Rp.Row_below HR.out hb
      have HB1 := HB.out.trans (hb.mono HB.out.size)
      clear hb HB HR
      have hk2 : k < (fillL xs zWanted k).length := by rw [fillL_len hk]; exact hlt
      obtain ⟨g, cap, cz, F1, q0, hgF, hgl, q2, _, _, q3, q4⟩ := Rp.Row_open HR1 HF.out.1 k hk2
      rw [fillL_get hlt hk2] at q2
      obtain ⟨rfl, rfl⟩ := kWanted_M q2
      obtain rfl : w.heap.size = g := by simp at q0; exact q0.1
      have z0 : w1.cell? ⟨w.heap.size, k * 2, none⟩ = some (.int .i64 0) := q3 0 _ rfl
      have z1 : w1.cell? ⟨w.heap.size, k * 2 + 1, none⟩ = some (.int .u32 0) := q3 1 _ rfl
      have y0 : w1.frozen? ⟨w.heap.size, k * 2, none⟩ = false := q4 _
      have y1 : w1.frozen? ⟨w.heap.size, k * 2 + 1, none⟩ = false := q4 _
      have HP := Rp.Row_put HR1 HF.out.1 k hk2 x _ [] (kWanted_mk w1 x) (by simp) (by simp)
      rw [HS.out] at HP
      have HP := Lib.hid HP
      have HB1 := Lib.hid HB1
      clear q0 q2 q3 q4 hgF hgl hk2 HR1
      go_wp2
      obtain ⟨F', p1, p2, p3, p4⟩ := HP.out
      exact ⟨⟨k + 1, by omega, by go_num, ⟨F', p1, p2, fun b hb => HF.out.2 b (by simpa using p3 b hb)⟩, (Rp.setN_kept (F := F) p4 [.int .i64 x.fSize, .int .u32 x.fSum] w1 (k * 2) (KeptF.refl _ _) |>.toBelow HB1.out.size HF.out.2 |> HB1.out.trans)⟩, by simp [intOf]; omega⟩
    · go_wp2
      go_ret
      obtain rfl : k = xs.length := by omega
      exact ⟨_, _, rfl, by simpa [fillL_all] using HR.out, HF.out.2, HF.out.1, HB.out⟩

def mkWanted (x : DWanted) (k : Int) : DWanted × Int := ((⟨k, (IntKind.u32.wrap (k + 1))⟩ : DWanted), k + 2)
theorem mkWanted_le (x : DWanted) (k : Int) : k ≤ (mkWanted x k).2 := by simp only [mkWanted]; omega

set_option maxHeartbeats 1000000 in
set_option maxRecDepth 100000 in
theorem markWantedS_calls (xs : List DWanted) (k : Int) (F : List Nat) (v : Value) (w : World) (h : kWanted.Row 136 w F xs v) (hnF : F.Nodup) (h0 : 0 ≤ k) (h1 : (mkL mkWanted xs k).2 ≤ 4611686018427387904) (hl : xs.length ≤ 140737488355328) :
    Calls Try.prog 89 #[v, .int .i64 k] w fun e w' => e = .returned (.int .i64 (mkL mkWanted xs k).2) ∧ kWanted.Row 136 w' F (mkL mkWanted xs k).1 v ∧ KeptF F w w' := by
  obtain ⟨A, c, rfl, hc, _⟩ := Rp.Row_K h
  have H := Lib.hid h; clear h
  have H1 := Lib.hid h1; clear h1
  go_enter Try.func89, Try.ntmps89
  go_wp2
  go_loopw [1, 5] (fun a n wr => ∃ i : Nat, i ≤ xs.length ∧ n = .int .i64 i ∧ a = .int .i64 (mkNo mkWanted xs k i) ∧ Hid (kWanted.Row 136 wr F (mkAt mkWanted xs k i) (.slice A xs.length c)) ∧ Hid (KeptF F w wr)) (fun _ n _ => xs.length - (intOf n).toNat)
  case atStart => exact ⟨0, Nat.zero_le _, rfl, by rw [mkNo_zero], by rw [mkAt_zero]; exact H.out, KeptF.refl _ _⟩
  case round =>
    obtain ⟨i, hi, rfl, rfl, HR, HK⟩ := hrel
    by_cases hlt : i < xs.length
    · have b1 := mkNo_ge (mk := mkWanted) (k := k) mkWanted_le (Nat.le_of_lt hlt)
      have b2 := mkNo_top (mk := mkWanted) (k := k) mkWanted_le (i := i + 1) hlt
      have b3 := mkNo_succ (mk := mkWanted) (k := k) hlt
      have b4 : mkNo mkWanted xs k (i + 1) = mkNo mkWanted xs k i + 2 := b3
      have b5 := H1.out
      have hset := mkAt_set (mk := mkWanted) (k := k) hlt
      have hl2 : i < (mkAt mkWanted xs k i).length := by rw [mkAt_len hi]; exact hlt
      have hy := mkAt_get' (mk := mkWanted) (k := k) hlt hl2
      have hR := HR.out
      clear HR
      have c1 : 0 ≤ mkNo mkWanted xs k i := by omega
      have c2 : mkNo mkWanted xs k i + 2 ≤ 4611686018427387904 := by omega
      clear b1 b2 b3 b5
      have B4 := Lib.hid b4; clear b4
      generalize mkNo mkWanted xs k i = kk at *
      generalize mkAt mkWanted xs k i = ys at *
      generalize he : xs[i] = x at *
      have HE := Lib.hid he; clear he
      have hset' : ys.set i (⟨kk, (IntKind.u32.wrap (kk + 1))⟩ : DWanted) = mkAt mkWanted xs k (i + 1) := hset
      have HS := Lib.hid hset'; clear hset hset'
      obtain ⟨g2, cap2, c2, F2, q0, gF, _, q2, _, _, q3, q4⟩ := Rp.Row_open hR hnF i hl2
      rw [hy] at q2
      obtain ⟨_, rfl⟩ := kWanted_M q2
      obtain ⟨g, rfl⟩ : ∃ g, A = some ⟨g, 0, none⟩ := ⟨g2, by simp at q0; exact q0.1⟩
      obtain rfl : g = g2 := by simp at q0; exact q0.1
      have z0_0 : wr.cell? ⟨g, i * 2, none⟩ = some (.int .i64 x.fSize) := q3 0 _ rfl
      have y0_0 : wr.frozen? ⟨g, i * 2, none⟩ = false := q4 _
      have z0_1 : wr.cell? ⟨g, i * 2 + 1, none⟩ = some (.int .u32 x.fSum) := q3 1 _ rfl
      have y0_1 : wr.frozen? ⟨g, i * 2 + 1, none⟩ = false := q4 _
      clear q0 q2 q3 q4
      have HY := Lib.hid hy; clear hy
      have HRr := Lib.hid hR; clear hR
      have i1 : (0 : Int) ≤ (i : Int) := by omega
      have i2 : (i : Int) < (xs.length : Int) := by omega
      go_wp2
      have hy := HY.out
      have r0 := HRr.out
      have r1 := Rp.Row_store r0 hnF i hl2 0 (by decide) (.int .i64 kk) (⟨kk, x.fSum⟩ : DWanted) (fun c F1 hM => by rw [hy] at hM; obtain ⟨rfl, rfl⟩ := kWanted_M hM; exact kWanted_mk _ _)
      have r2 := Rp.Row_store r1 hnF i (by rw [List.length_set]; exact hl2) 1 (by decide) (.int .u32 (IntKind.u32.wrap (kk + 1))) (⟨kk, (IntKind.u32.wrap (kk + 1))⟩ : DWanted) (fun c F1 hM => by rw [List.getElem_set_self] at hM; obtain ⟨rfl, rfl⟩ := kWanted_M hM; exact kWanted_mk _ _)
      rw [List.set_set] at r2
      rw [HS.out] at r2
      exact ⟨⟨i + 1, by omega, by go_num, by rw [B4.out]; go_num, r2, (by repeat (first | exact HK.out | (refine KeptF.set ?_ (show g ∈ F from gF) _)))⟩, by simp [intOf]; omega⟩
    · go_wp2
      go_ret
      obtain rfl : i = xs.length := by omega
      exact ⟨ret_int mkNo_all, by rw [← mkAt_all]; exact HR.out, HK.out⟩

set_option maxHeartbeats 1000000 in
set_option maxRecDepth 100000 in
theorem heldWantedS_calls (xs : List DWanted) (k : Int) (v : Value) (w : World) (h : kWanted.S w (mkL mkWanted xs k).1 v) (h0 : 0 ≤ k) (h1 : (mkL mkWanted xs k).2 ≤ 4611686018427387904) (hl : xs.length ≤ 140737488355328) :
    Calls Try.prog 95 #[v, .int .i64 k] w fun e w' => e = .returned (.int .i64 (mkL mkWanted xs k).2) ∧ Below w.heap.size w w' := by
  obtain ⟨A, c, rfl, hc, hC⟩ := h
  rw [mkL_len] at hc ⊢
  have H := Lib.hid hC; clear hC
  have H1 := Lib.hid h1; clear h1
  go_enter Try.func95, Try.ntmps95
  go_wp2
  go_loopw [1, 5] (fun a n wr => ∃ i : Nat, i ≤ xs.length ∧ n = .int .i64 i ∧ a = .int .i64 (mkNo mkWanted xs k i) ∧ Hid (Below w.heap.size w wr)) (fun _ n _ => xs.length - (intOf n).toNat)
  case atStart => exact ⟨0, Nat.zero_le _, rfl, by rw [mkNo_zero], Below.refl _ _⟩
  case round =>
    obtain ⟨i, hi, rfl, rfl, HB⟩ := hrel
    by_cases hlt : i < xs.length
    · have b1 := mkNo_ge (mk := mkWanted) (k := k) mkWanted_le (Nat.le_of_lt hlt)
      have b2 := mkNo_top (mk := mkWanted) (k := k) mkWanted_le (i := i + 1) hlt
      have b4 : mkNo mkWanted xs k (i + 1) = mkNo mkWanted xs k i + 2 := mkNo_succ (mk := mkWanted) (k := k) hlt
      have b5 := H1.out
      obtain ⟨b, o, cs, rfl, k1, q1⟩ := Rp.C_get H.out i (by rw [mkL_len]; exact hlt)
      rw [mkL_get' hlt] at k1
      obtain rfl := kWanted_K k1
      have Q := Lib.hid q1
      clear q1 k1
      have c1 : 0 ≤ mkNo mkWanted xs k i := by omega
      have c2 : mkNo mkWanted xs k i + 2 ≤ 4611686018427387904 := by omega
      clear b1 b2 b5
      have B4 := Lib.hid b4; clear b4
      generalize mkNo mkWanted xs k i = kk at *
      generalize xs[i] = x at *
      have a0_0 : wr.cell? ⟨b, o + i * 2, none⟩ = some (.int .i64 kk) := (World.cell?_of_block (HB.out.block b (World.block_lt_of_cell? w _ (Q.out 0 _ rfl)))).trans (Q.out 0 _ rfl)
      have a0_1 : wr.cell? ⟨b, o + i * 2 + 1, none⟩ = some (.int .u32 (IntKind.u32.wrap (kk + 1))) := (World.cell?_of_block (HB.out.block b (World.block_lt_of_cell? w _ (Q.out 1 _ rfl)))).trans (Q.out 1 _ rfl)
      have i1 : (0 : Int) ≤ (i : Int) := by omega
      have i2 : (i : Int) < (xs.length : Int) := by omega
      go_wp2
      exact ⟨⟨i + 1, by omega, by go_num, by rw [B4.out]; go_num, HB.out⟩, by simp [intOf]; omega⟩
    · go_wp2
      go_ret
      obtain rfl : i = xs.length := by omega
      exact ⟨ret_int mkNo_all, HB.out⟩

theorem kWanted_flat : kWanted.Flat := ⟨fun h => (kWanted_M h).1, fun h => by obtain rfl := kWanted_K h; exact kWanted_mk _ _⟩
set_option maxHeartbeats 1000000 in
set_option maxRecDepth 100000 in
theorem cloneWanted_calls (xs : List DWanted) (v : Value) (w : World) (g : kWanted.S w xs v) (hl : xs.length ≤ 16777216) : Calls Try.prog 176 #[v] w
    fun e w' => ∃ v' F, e = .returned v' ∧ kWanted.Row 136 w' F xs v' ∧ (∀ b ∈ F, w.heap.size ≤ b) ∧ F.Nodup ∧ Below w.heap.size w w' := by
  have g0 := g
  obtain ⟨A, c, rfl, hc, h⟩ := g
  have H := Lib.hid g0; clear g0 h
  cases A with
  | none =>
    have e1 := hc.2 rfl
    subst e1
    have e2 : xs = [] := List.length_eq_zero_iff.1 (Nat.le_zero.1 hc.1)
    subst e2
    clear hc H
    have he := Lib.run_eql_slice_nil (P := Try.prog) w 30 136 none 0 0 0 0 Try.underlying30
    go_enter Try.func176, Try.ntmps176
    go_wp2
    go_ret
    exact ⟨_, [], rfl, Rp.Row_nil _ _ _, by simp, by simp, Below.refl _ _⟩
  | some a =>
    have he := Lib.run_eql_slice_nil (P := Try.prog) w 30 136 (some a) xs.length c 0 0 Try.underlying30
    go_enter Try.func176, Try.ntmps176
    go_wp2_with (at_builtin; refine wp_append (d := kWanted) rfl _ _ 30 136 rfl Try.underlying30 infoWanted rfl (by decide) rfl (by decide) kWanted_flat (xs := []) (ys := xs) rfl rfl (Rp.Row_made0 _ _ _ (by simp)) (Rp.S_below H.out ((Below.refl _ _).alloc (Nat.le_refl _) _)) (by simpa using hl) ?_; intro v1 w1 r1 r2 r3 _; have R1 := Lib.hid r1; have R2 := Lib.hid r2; have R3 := Lib.hid r3; clear r1 r2 r3)
    go_ret
    exact ⟨_, _, rfl, R1.out, fun b hb => by rcases R3.out b hb with h | h <;> simp at h <;> omega, ofOwn_nodup _, R2.out.newBelow (Nat.le_refl _)⟩

structure DChunk where
  fFile : Int
  fAt : Int
  fData : ByteArray
  fSum : Int
def kChunk : Rp DChunk := Rp.iso (Rp.pair (Rp.int .i64) (Rp.pair (Rp.int .i64) (Rp.pair (Rp.str) (Rp.int .u32)))) (fun x => (x.fFile, x.fAt, x.fData, x.fSum))
theorem kChunk_sz : kChunk.sz = 4 := rfl
theorem kChunk_K {w : World} {x : DChunk} {cs : List Value} (h : kChunk.K w x cs) : cs = [.int .i64 x.fFile, .int .i64 x.fAt, .string x.fData, .int .u32 x.fSum] := by
  obtain ⟨_, _, rfl, rfl, ⟨_, _, rfl, rfl, ⟨_, _, rfl, rfl, rfl⟩⟩⟩ := h
  rfl
theorem kChunk_M {w : World} {F : List Nat} {x : DChunk} {cs : List Value} (h : kChunk.M w F x cs) : F = [] ∧ cs = [.int .i64 x.fFile, .int .i64 x.fAt, .string x.fData, .int .u32 x.fSum] := by
  obtain ⟨_, _, _, _, rfl, rfl, ⟨rfl, rfl⟩, ⟨_, _, _, _, rfl, rfl, ⟨rfl, rfl⟩, ⟨_, _, _, _, rfl, rfl, ⟨rfl, rfl⟩, ⟨rfl, rfl⟩⟩⟩⟩ := h
  exact ⟨rfl, rfl⟩
theorem kChunk_mk (w : World) (x : DChunk) : kChunk.M w [] x [.int .i64 x.fFile, .int .i64 x.fAt, .string x.fData, .int .u32 x.fSum] := ⟨[.int .i64 x.fFile], [.int .i64 x.fAt, .string x.fData, .int .u32 x.fSum], [], [], rfl, rfl, ⟨rfl, rfl⟩, ⟨[.int .i64 x.fAt], [.string x.fData, .int .u32 x.fSum], [], [], rfl, rfl, ⟨rfl, rfl⟩, ⟨[.string x.fData], [.int .u32 x.fSum], [], [], rfl, rfl, ⟨rfl, rfl⟩, ⟨rfl, rfl⟩⟩⟩⟩
theorem kChunk_mkK (w : World) (x : DChunk) : kChunk.K w x [.int .i64 x.fFile, .int .i64 x.fAt, .string x.fData, .int .u32 x.fSum] := kChunk.M_K (kChunk_mk w x)

def szNChunk (x : DChunk) : Nat := x.fData.size

def wfChunk (x : DChunk) : Prop := x.fData.size ≤ 140737488355328

set_option maxHeartbeats 1000000 in
set_option maxRecDepth 100000 in
theorem szChunk_calls (x : DChunk) (left : Int) (w : World) (h0 : 0 ≤ left) (h1 : left ≤ 140737488355328) (hw : wfChunk x) : Calls Try.prog 22 #[.agg #[.int .i64 x.fFile, .int .i64 x.fAt, .string x.fData, .int .u32 x.fSum], .int .i64 left] w
    fun e w' => e = .returned (.int .i64 (szR (szNChunk x) left)) ∧ Below w.heap.size w w' := by
  have HF := Lib.hid (show (szNChunk x : Int) = (x.fData.size : Int) by unfold szNChunk; omega)
  have hs0 : x.fData.size ≤ 140737488355328 := hw
  clear hw
  go_enter Try.func22, Try.ntmps22
  go_wp2
  all_goals (go_ret; exact ⟨ret_int (by rw [szR_of HF.out]; first | (rw [if_pos (by omega)]; try omega) | (rw [if_neg (by omega)])), (by repeat (first | exact Below.refl _ _ | (refine Below.setCell ?_ (by first | (simp; done) | (simp; omega)) _) | (refine Below.alloc ?_ (by first | (simp; done) | (simp; omega)) _)))⟩)

set_option maxHeartbeats 1000000 in
set_option maxRecDepth 100000 in
theorem eqChunk_calls (x : DChunk) (w : World) : Calls Try.prog 175 #[.agg #[.int .i64 x.fFile, .int .i64 x.fAt, .string x.fData, .int .u32 x.fSum], .agg #[.int .i64 x.fFile, .int .i64 x.fAt, .string x.fData, .int .u32 x.fSum]] w
    fun e w' => e = .returned (.bool true) ∧ Below w.heap.size w w' := by
  go_enter Try.func175, Try.ntmps175
  go_wp2
  go_ret
  exact ⟨rfl, (by repeat (first | exact Below.refl _ _ | (refine Below.setCell ?_ (by first | (simp; done) | (simp; omega)) _) | (refine Below.alloc ?_ (by first | (simp; done) | (simp; omega)) _)))⟩

set_option maxHeartbeats 1000000 in
set_option maxRecDepth 100000 in
theorem toChunk_calls (x : DChunk) (w : World) : Calls Try.prog 24 #[.agg #[.int .i64 x.fFile, .int .i64 x.fAt, .string x.fData, .int .u32 x.fSum]] w
    fun e w' => e = .returned (.agg #[.int .i64 x.fFile, .int .i64 x.fAt, .string x.fData, .int .u32 x.fSum]) ∧ Below w.heap.size w w' := by
  go_enter Try.func24, Try.ntmps24
  go_wp2
  exact bodyPost_ret (v := .agg #[.int .i64 x.fFile, .int .i64 x.fAt, .string x.fData, .int .u32 x.fSum]) (by simp [results, Try.results24, go_sem]) rfl ⟨rfl, (by repeat (first | exact Below.refl _ _ | (refine Below.setCell ?_ (by first | (simp; done) | (simp; omega)) _) | (refine Below.alloc ?_ (by first | (simp; done) | (simp; omega)) _)))⟩

theorem infoChunk : (Try.prog.info? 46).map (fun i => (i.zero, i.size, i.bytes)) = some (some (.agg #[.int .i64 0, .int .i64 0, .string ⟨#[]⟩, .int .u32 0]), 4, 40) := by kernel_rfl
def zChunk : DChunk := ⟨0, 0, ⟨#[]⟩, 0⟩

set_option maxHeartbeats 1000000 in
set_option maxRecDepth 100000 in
theorem szChunkS_calls (xs : List DChunk) (left : Int) (v : Value) (w : World) (h : kChunk.S w xs v) (h0 : 0 ≤ left) (h1 : left ≤ 140737488355328) (hw : ∀ x ∈ xs, wfChunk x) (hl : xs.length ≤ 140737488355328) :
    Calls Try.prog 79 #[v, .int .i64 left] w fun e w' => e = .returned (.int .i64 (szR (szL szNChunk xs) left)) ∧ Below w.heap.size w w' := by
  obtain ⟨A, c, rfl, hc, h⟩ := h
  have H := Lib.hid h; clear h
  have HW := Lib.hid hw; clear hw
  have HF := Lib.hid (show ((szL szNChunk xs : Nat) : Int) = xs.length + sumN szNChunk xs by unfold szL; omega)
  by_cases hq : (xs.length : Int) ≤ left
  · go_enter Try.func79, Try.ntmps79
    go_wp2
    go_loopw [1, 5] (fun l i wr => ∃ k : Nat, k ≤ xs.length ∧ i = .int .i64 k ∧ l = .int .i64 (left - xs.length - sumN szNChunk (xs.take k)) ∧ 0 ≤ left - xs.length - sumN szNChunk (xs.take k) ∧ Hid (Below w.heap.size w wr)) (fun _ i _ => xs.length - (intOf i).toNat)
    case atStart => exact ⟨0, Nat.zero_le _, rfl, by simp [sumN], by simp [sumN]; omega, Below.refl _ _⟩
    case round =>
      obtain ⟨k, hk, rfl, rfl, hs, HB⟩ := hrel
      by_cases hlt : k < xs.length
      · obtain ⟨b, o, cs, rfl, k1, q1⟩ := Rp.C_get H.out k hlt
        obtain rfl := kChunk_K k1
        have hx := HW.out xs[k] (List.getElem_mem hlt)
        have hs2 := sumN_take (f := szNChunk) hlt
        have hs3 := sumN_le (f := szNChunk) (xs := xs) (k + 1)
        generalize he : xs[k] = x at *
        generalize hs4 : sumN szNChunk (xs.take (k + 1)) = s1 at *
        generalize hs5 : sumN szNChunk (xs.take k) = s0 at *
        have HE := Lib.hid he; clear he
        have HS4 := Lib.hid hs4; clear hs4
        have HS5 := Lib.hid hs5; clear hs5
        have HS2 := Lib.hid hs2; clear hs2
        have a0 := (World.cell?_of_block (HB.out.block b (World.block_lt_of_cell? w _ (q1 0 _ rfl)))).trans (q1 0 _ rfl)
        simp only [kChunk_sz, Nat.add_zero] at a0
        have a1 := (World.cell?_of_block (HB.out.block b (World.block_lt_of_cell? w _ (q1 0 _ rfl)))).trans (q1 1 _ rfl)
        simp only [kChunk_sz, Nat.add_zero] at a1
        have a2 := (World.cell?_of_block (HB.out.block b (World.block_lt_of_cell? w _ (q1 0 _ rfl)))).trans (q1 2 _ rfl)
        simp only [kChunk_sz, Nat.add_zero] at a2
        have a3 := (World.cell?_of_block (HB.out.block b (World.block_lt_of_cell? w _ (q1 0 _ rfl)))).trans (q1 3 _ rfl)
        simp only [kChunk_sz, Nat.add_zero] at a3
        clear q1 k1
        have i1 : (0 : Int) ≤ (k : Int) := by omega
        have i2 : (k : Int) < (xs.length : Int) := by omega
        go_wp2_with fail
        (with_reducible refine (szChunk_calls x _ _ (by omega) (by omega) hx).mono ?_)
        rintro e w1 ⟨rfl, hb⟩
        have HB1 := Lib.hid (HB.out.trans (hb.mono HB.out.size)); clear hb
        by_cases hy : (szNChunk x : Int) ≤ left - xs.length - s0
        · rw [szR_yes hy]
          go_wp2
          exact ⟨⟨k + 1, by omega, by go_num, by rw [HS4.out, HS2.out]; go_num, by rw [HS4.out, HS2.out]; omega, HB1.out⟩, by simp [intOf]; omega⟩
        · rw [szR_no hy]
          go_wp2
          go_ret
          exact ⟨ret_int (by rw [szR_of HF.out, if_neg (by have := HS2.out; omega)]), HB1.out⟩
      · go_wp2
        go_ret
        obtain rfl : k = xs.length := by omega
        rw [sumN_all] at hs
        exact ⟨ret_int (by rw [szR_of HF.out, if_pos (by omega), sumN_all]; omega), HB.out⟩
  · go_enter Try.func79, Try.ntmps79
    go_wp2
    go_ret
    exact ⟨ret_int (by rw [szR_of HF.out, if_neg (by omega)]), Below.refl _ _⟩

set_option maxHeartbeats 1000000 in
set_option maxRecDepth 100000 in
theorem eqChunkS_calls (xs : List DChunk) (v1 v2 : Value) (w : World) (h1 : kChunk.S w xs v1) (h2 : kChunk.S w xs v2) (hl : xs.length ≤ 140737488355328) :
    Calls Try.prog 88 #[v1, v2] w fun e w' => e = .returned (.bool true) ∧ Below w.heap.size w w' := by
  obtain ⟨A1, c1, rfl, hc1, h1⟩ := h1
  obtain ⟨A2, c2, rfl, hc2, h2⟩ := h2
  have H1 := Lib.hid h1; clear h1
  have H2 := Lib.hid h2; clear h2
  go_enter Try.func88, Try.ntmps88
  go_wp2
  go_loopw [5] (fun i wr => ∃ k : Nat, k ≤ xs.length ∧ i = .int .i64 k ∧ Hid (Below w.heap.size w wr)) (fun i _ => xs.length - (intOf i).toNat)
  case atStart => exact ⟨0, Nat.zero_le _, rfl, Below.refl _ _⟩
  case round =>
    obtain ⟨k, hk, rfl, HB⟩ := hrel
    by_cases hlt : k < xs.length
    · obtain ⟨b1, o1, cs1, rfl, k1, q1⟩ := Rp.C_get H1.out k hlt
      obtain ⟨b2, o2, cs2, rfl, k2, q2⟩ := Rp.C_get H2.out k hlt
      obtain rfl := kChunk_K k1
      obtain rfl := kChunk_K k2
      generalize he : xs[k] = x at *
      have HE := Lib.hid he; clear he
      have a10 := regr HB.out (World.block_lt_of_cell? w _ (q1 0 _ rfl)) (q1 0 _ rfl)
      simp only [kChunk_sz, Nat.add_zero] at a10
      have a11 := regr HB.out (World.block_lt_of_cell? w _ (q1 1 _ rfl)) (q1 1 _ rfl)
      simp only [kChunk_sz, Nat.add_zero] at a11
      have a12 := regr HB.out (World.block_lt_of_cell? w _ (q1 2 _ rfl)) (q1 2 _ rfl)
      simp only [kChunk_sz, Nat.add_zero] at a12
      have a13 := regr HB.out (World.block_lt_of_cell? w _ (q1 3 _ rfl)) (q1 3 _ rfl)
      simp only [kChunk_sz, Nat.add_zero] at a13
      have a20 := regr HB.out (World.block_lt_of_cell? w _ (q2 0 _ rfl)) (q2 0 _ rfl)
      simp only [kChunk_sz, Nat.add_zero] at a20
      have a21 := regr HB.out (World.block_lt_of_cell? w _ (q2 1 _ rfl)) (q2 1 _ rfl)
      simp only [kChunk_sz, Nat.add_zero] at a21
      have a22 := regr HB.out (World.block_lt_of_cell? w _ (q2 2 _ rfl)) (q2 2 _ rfl)
      simp only [kChunk_sz, Nat.add_zero] at a22
      have a23 := regr HB.out (World.block_lt_of_cell? w _ (q2 3 _ rfl)) (q2 3 _ rfl)
      simp only [kChunk_sz, Nat.add_zero] at a23
      clear q1 q2 k1 k2
      have i1 : (0 : Int) ≤ (k : Int) := by omega
      have i2 : (k : Int) < (xs.length : Int) := by omega
      go_wp2
      refine wp_region_quiet_below (by kernel_rfl) (by kernel_rfl) ?_
      repeat (go_big_quiet_step (exact Calls.regrown_of (eqChunk_calls x _)))
      refine wpQuiet_nil ?_
      rintro w1 ⟨p, rfl⟩
      go_wp2
      exact ⟨⟨k + 1, by omega, by go_num, HB.out.trans ((below_regrown _ _ _).mono HB.out.size)⟩, by simp [intOf]; omega⟩
    · go_wp2
      go_ret
      exact ⟨rfl, HB.out⟩

set_option maxHeartbeats 1000000 in
set_option maxRecDepth 100000 in
theorem toChunkS_calls (xs : List DChunk) (v : Value) (w : World) (h : kChunk.S w xs v) (hl : xs.length ≤ 1048576) :
    Calls Try.prog 83 #[v] w fun e w' => ∃ v' F, e = .returned v' ∧ kChunk.Row 46 w' F xs v' ∧ (∀ b ∈ F, w.heap.size ≤ b) ∧ F.Nodup ∧ Below w.heap.size w w' := by
  obtain ⟨A, c, rfl, hc, h⟩ := h
  have H := Lib.hid h; clear h
  obtain ⟨w0, hmk, hR, hB, hlt0⟩ := mk_full w 31 46 kChunk zChunk Try.underlying31 infoChunk rfl (fun w => kChunk_mk w _) xs.length hl (by decide)
  have HR := Lib.hid hR; clear hR
  have HB := Lib.hid hB; clear hB
  go_enter Try.func83, Try.ntmps83
  go_wp2
  clear hmk
  go_loopw [4] (fun i wr => ∃ k : Nat, k ≤ xs.length ∧ i = .int .i64 k ∧ (∃ F, Hid (kChunk.Row 46 wr F (fillL xs zChunk k) (.slice (some ⟨w.heap.size, 0, none⟩) xs.length xs.length)) ∧ Hid (F.Nodup ∧ ∀ b ∈ F, w.heap.size ≤ b)) ∧ Hid (Below w.heap.size w wr)) (fun i _ => xs.length - (intOf i).toNat)
  case atStart => exact ⟨0, Nat.zero_le _, rfl, ⟨_, by rw [fillL_zero]; exact HR.out, by simp [Hid]⟩, HB.out⟩
  case round =>
    clear HR HB hlt0
    obtain ⟨k, hk, rfl, ⟨F, HR, HF⟩, HB⟩ := hrel
    by_cases hlt : k < xs.length
    · obtain ⟨b, o, cs, rfl, k1, q1⟩ := Rp.C_get H.out k hlt
      obtain rfl := kChunk_K k1
      have hs := fillL_set (z := zChunk) hlt
      generalize he : xs[k] = x at *
      have HS := Lib.hid hs; clear hs
      have HE := Lib.hid he; clear he
      have a0 := (World.cell?_of_block (HB.out.block b (World.block_lt_of_cell? w _ (q1 0 _ rfl)))).trans (q1 0 _ rfl)
      simp only [kChunk_sz, Nat.add_zero] at a0
      have a1 := (World.cell?_of_block (HB.out.block b (World.block_lt_of_cell? w _ (q1 1 _ rfl)))).trans (q1 1 _ rfl)
      simp only [kChunk_sz, Nat.add_zero] at a1
      have a2 := (World.cell?_of_block (HB.out.block b (World.block_lt_of_cell? w _ (q1 2 _ rfl)))).trans (q1 2 _ rfl)
      simp only [kChunk_sz, Nat.add_zero] at a2
      have a3 := (World.cell?_of_block (HB.out.block b (World.block_lt_of_cell? w _ (q1 3 _ rfl)))).trans (q1 3 _ rfl)
      simp only [kChunk_sz, Nat.add_zero] at a3
      clear q1 k1
      have i1 : (0 : Int) ≤ (k : Int) := by omega
      have i2 : (k : Int) < (xs.length : Int) := by omega
      go_wp2_with fail
      (with_reducible refine (toChunk_calls x _).mono ?_)
      rintro e w1 ⟨rfl, hb⟩
      have HR1 := Rp.Row_below HR.out hb
      have HB1 := HB.out.trans (hb.mono HB.out.size)
      clear hb HB HR
      have hk2 : k < (fillL xs zChunk k).length := by rw [fillL_len hk]; exact hlt
      obtain ⟨g, cap, cz, F1, q0, hgF, hgl, q2, _, _, q3, q4⟩ := Rp.Row_open HR1 HF.out.1 k hk2
      rw [fillL_get hlt hk2] at q2
      obtain ⟨rfl, rfl⟩ := kChunk_M q2
      obtain rfl : w.heap.size = g := by simp at q0; exact q0.1
      have z0 : w1.cell? ⟨w.heap.size, k * 4, none⟩ = some (.int .i64 0) := q3 0 _ rfl
      have z1 : w1.cell? ⟨w.heap.size, k * 4 + 1, none⟩ = some (.int .i64 0) := q3 1 _ rfl
      have z2 : w1.cell? ⟨w.heap.size, k * 4 + 2, none⟩ = some (.string ⟨#[]⟩) := q3 2 _ rfl
      have z3 : w1.cell? ⟨w.heap.size, k * 4 + 3, none⟩ = some (.int .u32 0) := q3 3 _ rfl
      have y0 : w1.frozen? ⟨w.heap.size, k * 4, none⟩ = false := q4 _
      have y1 : w1.frozen? ⟨w.heap.size, k * 4 + 1, none⟩ = false := q4 _
      have y2 : w1.frozen? ⟨w.heap.size, k * 4 + 2, none⟩ = false := q4 _
      have y3 : w1.frozen? ⟨w.heap.size, k * 4 + 3, none⟩ = false := q4 _
      have HP := Rp.Row_put HR1 HF.out.1 k hk2 x _ [] (kChunk_mk w1 x) (by simp) (by simp)
      rw [HS.out] at HP
      have HP := Lib.hid HP
      have HB1 := Lib.hid HB1
      clear q0 q2 q3 q4 hgF hgl hk2 HR1
      go_wp2
      obtain ⟨F', p1, p2, p3, p4⟩ := HP.out
      exact ⟨⟨k + 1, by omega, by go_num, ⟨F', p1, p2, fun b hb => HF.out.2 b (by simpa using p3 b hb)⟩, (Rp.setN_kept (F := F) p4 [.int .i64 x.fFile, .int .i64 x.fAt, .string x.fData, .int .u32 x.fSum] w1 (k * 4) (KeptF.refl _ _) |>.toBelow HB1.out.size HF.out.2 |> HB1.out.trans)⟩, by simp [intOf]; omega⟩
    · go_wp2
      go_ret
      obtain rfl : k = xs.length := by omega
      exact ⟨_, _, rfl, by simpa [fillL_all] using HR.out, HF.out.2, HF.out.1, HB.out⟩

def mkChunk (x : DChunk) (k : Int) : DChunk × Int := ((⟨k, (k + 1), (mtxt (k + 1 + 1)), (IntKind.u32.wrap (k + 1 + 1 + 1))⟩ : DChunk), k + 4)
theorem mkChunk_le (x : DChunk) (k : Int) : k ≤ (mkChunk x k).2 := by simp only [mkChunk]; omega

set_option maxHeartbeats 1000000 in
set_option maxRecDepth 100000 in
theorem markChunkS_calls (xs : List DChunk) (k : Int) (F : List Nat) (v : Value) (w : World) (h : kChunk.Row 46 w F xs v) (hnF : F.Nodup) (h0 : 0 ≤ k) (h1 : (mkL mkChunk xs k).2 ≤ 4611686018427387904) (hl : xs.length ≤ 140737488355328) :
    Calls Try.prog 90 #[v, .int .i64 k] w fun e w' => e = .returned (.int .i64 (mkL mkChunk xs k).2) ∧ kChunk.Row 46 w' F (mkL mkChunk xs k).1 v ∧ KeptF F w w' := by
  obtain ⟨A, c, rfl, hc, _⟩ := Rp.Row_K h
  have H := Lib.hid h; clear h
  have H1 := Lib.hid h1; clear h1
  go_enter Try.func90, Try.ntmps90
  go_wp2
  go_loopw [1, 5] (fun a n wr => ∃ i : Nat, i ≤ xs.length ∧ n = .int .i64 i ∧ a = .int .i64 (mkNo mkChunk xs k i) ∧ Hid (kChunk.Row 46 wr F (mkAt mkChunk xs k i) (.slice A xs.length c)) ∧ Hid (KeptF F w wr)) (fun _ n _ => xs.length - (intOf n).toNat)
  case atStart => exact ⟨0, Nat.zero_le _, rfl, by rw [mkNo_zero], by rw [mkAt_zero]; exact H.out, KeptF.refl _ _⟩
  case round =>
    obtain ⟨i, hi, rfl, rfl, HR, HK⟩ := hrel
    by_cases hlt : i < xs.length
    · have b1 := mkNo_ge (mk := mkChunk) (k := k) mkChunk_le (Nat.le_of_lt hlt)
      have b2 := mkNo_top (mk := mkChunk) (k := k) mkChunk_le (i := i + 1) hlt
      have b3 := mkNo_succ (mk := mkChunk) (k := k) hlt
      have b4 : mkNo mkChunk xs k (i + 1) = mkNo mkChunk xs k i + 4 := b3
      have b5 := H1.out
      have hset := mkAt_set (mk := mkChunk) (k := k) hlt
      have hl2 : i < (mkAt mkChunk xs k i).length := by rw [mkAt_len hi]; exact hlt
      have hy := mkAt_get' (mk := mkChunk) (k := k) hlt hl2
      have hR := HR.out
      clear HR
      have c1 : 0 ≤ mkNo mkChunk xs k i := by omega
      have c2 : mkNo mkChunk xs k i + 4 ≤ 4611686018427387904 := by omega
      clear b1 b2 b3 b5
      have B4 := Lib.hid b4; clear b4
      generalize mkNo mkChunk xs k i = kk at *
      generalize mkAt mkChunk xs k i = ys at *
      generalize he : xs[i] = x at *
      have HE := Lib.hid he; clear he
      have hset' : ys.set i (⟨kk, (kk + 1), (mtxt (kk + 1 + 1)), (IntKind.u32.wrap (kk + 1 + 1 + 1))⟩ : DChunk) = mkAt mkChunk xs k (i + 1) := hset
      have HS := Lib.hid hset'; clear hset hset'
      obtain ⟨g2, cap2, c2, F2, q0, gF, _, q2, _, _, q3, q4⟩ := Rp.Row_open hR hnF i hl2
      rw [hy] at q2
      obtain ⟨_, rfl⟩ := kChunk_M q2
      obtain ⟨g, rfl⟩ : ∃ g, A = some ⟨g, 0, none⟩ := ⟨g2, by simp at q0; exact q0.1⟩
      obtain rfl : g = g2 := by simp at q0; exact q0.1
      have z0_0 : wr.cell? ⟨g, i * 4, none⟩ = some (.int .i64 x.fFile) := q3 0 _ rfl
      have y0_0 : wr.frozen? ⟨g, i * 4, none⟩ = false := q4 _
      have z0_1 : wr.cell? ⟨g, i * 4 + 1, none⟩ = some (.int .i64 x.fAt) := q3 1 _ rfl
      have y0_1 : wr.frozen? ⟨g, i * 4 + 1, none⟩ = false := q4 _
      have z0_2 : wr.cell? ⟨g, i * 4 + 2, none⟩ = some (.string x.fData) := q3 2 _ rfl
      have y0_2 : wr.frozen? ⟨g, i * 4 + 2, none⟩ = false := q4 _
      have z0_3 : wr.cell? ⟨g, i * 4 + 3, none⟩ = some (.int .u32 x.fSum) := q3 3 _ rfl
      have y0_3 : wr.frozen? ⟨g, i * 4 + 3, none⟩ = false := q4 _
      clear q0 q2 q3 q4
      have HY := Lib.hid hy; clear hy
      have HRr := Lib.hid hR; clear hR
      have i1 : (0 : Int) ≤ (i : Int) := by omega
      have i2 : (i : Int) < (xs.length : Int) := by omega
      go_wp2_with fail
      (with_reducible refine (markText_calls _ _ (by omega)).mono ?_)
      rintro e w1 ⟨rfl, hb⟩
      have hy := HY.out
      have r0 := HRr.out
      have r1 := Rp.Row_store r0 hnF i hl2 0 (by decide) (.int .i64 kk) (⟨kk, x.fAt, x.fData, x.fSum⟩ : DChunk) (fun c F1 hM => by rw [hy] at hM; obtain ⟨rfl, rfl⟩ := kChunk_M hM; exact kChunk_mk _ _)
      have r2 := Rp.Row_store r1 hnF i (by rw [List.length_set]; exact hl2) 1 (by decide) (.int .i64 (kk + 1)) (⟨kk, (kk + 1), x.fData, x.fSum⟩ : DChunk) (fun c F1 hM => by rw [List.getElem_set_self] at hM; obtain ⟨rfl, rfl⟩ := kChunk_M hM; exact kChunk_mk _ _)
      rw [List.set_set] at r2
      have rb2 := Rp.Row_below r2 hb
      have HKb2 := Lib.hid (KeptF.below (F := F) (a := w) (by repeat (first | exact HK.out | (refine KeptF.set ?_ (show g ∈ F from gF) _))) hb)
      clear hb r0 r1 r2 z0_0 y0_0 z0_1 y0_1 z0_2 y0_2 z0_3 y0_3
      obtain ⟨g2, cap2, c2, F2, q0, _, _, q2, _, _, q3, q4⟩ := Rp.Row_open rb2 hnF i (by rw [List.length_set]; exact hl2)
      rw [List.getElem_set_self] at q2
      obtain ⟨_, rfl⟩ := kChunk_M q2
      obtain rfl : g = g2 := by simp at q0; exact q0.1
      have z2_0 : w1.cell? ⟨g, i * 4, none⟩ = some (.int .i64 kk) := q3 0 _ rfl
      have y2_0 : w1.frozen? ⟨g, i * 4, none⟩ = false := q4 _
      have z2_1 : w1.cell? ⟨g, i * 4 + 1, none⟩ = some (.int .i64 (kk + 1)) := q3 1 _ rfl
      have y2_1 : w1.frozen? ⟨g, i * 4 + 1, none⟩ = false := q4 _
      have z2_2 : w1.cell? ⟨g, i * 4 + 2, none⟩ = some (.string x.fData) := q3 2 _ rfl
      have y2_2 : w1.frozen? ⟨g, i * 4 + 2, none⟩ = false := q4 _
      have z2_3 : w1.cell? ⟨g, i * 4 + 3, none⟩ = some (.int .u32 x.fSum) := q3 3 _ rfl
      have y2_3 : w1.frozen? ⟨g, i * 4 + 3, none⟩ = false := q4 _
      clear q0 q2 q3 q4
      have HRr2 := Lib.hid rb2; clear rb2
      clear hy
      go_wp2
      have hy := HY.out
      have r2 := HRr2.out
      have r3 := Rp.Row_store r2 hnF i (by rw [List.length_set]; exact hl2) 2 (by decide) (.string (mtxt (kk + 1 + 1))) (⟨kk, (kk + 1), (mtxt (kk + 1 + 1)), x.fSum⟩ : DChunk) (fun c F1 hM => by rw [List.getElem_set_self] at hM; obtain ⟨rfl, rfl⟩ := kChunk_M hM; exact kChunk_mk _ _)
      rw [List.set_set] at r3
      have r4 := Rp.Row_store r3 hnF i (by rw [List.length_set]; exact hl2) 3 (by decide) (.int .u32 (IntKind.u32.wrap (kk + 1 + 1 + 1))) (⟨kk, (kk + 1), (mtxt (kk + 1 + 1)), (IntKind.u32.wrap (kk + 1 + 1 + 1))⟩ : DChunk) (fun c F1 hM => by rw [List.getElem_set_self] at hM; obtain ⟨rfl, rfl⟩ := kChunk_M hM; exact kChunk_mk _ _)
      rw [List.set_set] at r4
      rw [HS.out] at r4
      exact ⟨⟨i + 1, by omega, by go_num, by rw [B4.out]; go_num, r4, (by repeat (first | exact HKb2.out | (refine KeptF.set ?_ (show g ∈ F from gF) _)))⟩, by simp [intOf]; omega⟩
    · go_wp2
      go_ret
      obtain rfl : i = xs.length := by omega
      exact ⟨ret_int mkNo_all, by rw [← mkAt_all]; exact HR.out, HK.out⟩

set_option maxHeartbeats 1000000 in
set_option maxRecDepth 100000 in
theorem heldChunkS_calls (xs : List DChunk) (k : Int) (v : Value) (w : World) (h : kChunk.S w (mkL mkChunk xs k).1 v) (h0 : 0 ≤ k) (h1 : (mkL mkChunk xs k).2 ≤ 4611686018427387904) (hl : xs.length ≤ 140737488355328) :
    Calls Try.prog 96 #[v, .int .i64 k] w fun e w' => e = .returned (.int .i64 (mkL mkChunk xs k).2) ∧ Below w.heap.size w w' := by
  obtain ⟨A, c, rfl, hc, hC⟩ := h
  rw [mkL_len] at hc ⊢
  have H := Lib.hid hC; clear hC
  have H1 := Lib.hid h1; clear h1
  go_enter Try.func96, Try.ntmps96
  go_wp2
  go_loopw [1, 5] (fun a n wr => ∃ i : Nat, i ≤ xs.length ∧ n = .int .i64 i ∧ a = .int .i64 (mkNo mkChunk xs k i) ∧ Hid (Below w.heap.size w wr)) (fun _ n _ => xs.length - (intOf n).toNat)
  case atStart => exact ⟨0, Nat.zero_le _, rfl, by rw [mkNo_zero], Below.refl _ _⟩
  case round =>
    obtain ⟨i, hi, rfl, rfl, HB⟩ := hrel
    by_cases hlt : i < xs.length
    · have b1 := mkNo_ge (mk := mkChunk) (k := k) mkChunk_le (Nat.le_of_lt hlt)
      have b2 := mkNo_top (mk := mkChunk) (k := k) mkChunk_le (i := i + 1) hlt
      have b4 : mkNo mkChunk xs k (i + 1) = mkNo mkChunk xs k i + 4 := mkNo_succ (mk := mkChunk) (k := k) hlt
      have b5 := H1.out
      obtain ⟨b, o, cs, rfl, k1, q1⟩ := Rp.C_get H.out i (by rw [mkL_len]; exact hlt)
      rw [mkL_get' hlt] at k1
      obtain rfl := kChunk_K k1
      have Q := Lib.hid q1
      clear q1 k1
      have c1 : 0 ≤ mkNo mkChunk xs k i := by omega
      have c2 : mkNo mkChunk xs k i + 4 ≤ 4611686018427387904 := by omega
      clear b1 b2 b5
      have B4 := Lib.hid b4; clear b4
      generalize mkNo mkChunk xs k i = kk at *
      generalize xs[i] = x at *
      have a0_0 : wr.cell? ⟨b, o + i * 4, none⟩ = some (.int .i64 kk) := (World.cell?_of_block (HB.out.block b (World.block_lt_of_cell? w _ (Q.out 0 _ rfl)))).trans (Q.out 0 _ rfl)
      have g0_0 : ∀ d os, (grow (redrawn wr d) os).cell? ⟨b, o + i * 4, none⟩ = some (.int .i64 kk) := regr HB.out (World.block_lt_of_cell? w _ (Q.out 0 _ rfl)) (Q.out 0 _ rfl)
      have a0_1 : wr.cell? ⟨b, o + i * 4 + 1, none⟩ = some (.int .i64 (kk + 1)) := (World.cell?_of_block (HB.out.block b (World.block_lt_of_cell? w _ (Q.out 1 _ rfl)))).trans (Q.out 1 _ rfl)
      have g0_1 : ∀ d os, (grow (redrawn wr d) os).cell? ⟨b, o + i * 4 + 1, none⟩ = some (.int .i64 (kk + 1)) := regr HB.out (World.block_lt_of_cell? w _ (Q.out 1 _ rfl)) (Q.out 1 _ rfl)
      have a0_2 : wr.cell? ⟨b, o + i * 4 + 2, none⟩ = some (.string (mtxt (kk + 1 + 1))) := (World.cell?_of_block (HB.out.block b (World.block_lt_of_cell? w _ (Q.out 2 _ rfl)))).trans (Q.out 2 _ rfl)
      have g0_2 : ∀ d os, (grow (redrawn wr d) os).cell? ⟨b, o + i * 4 + 2, none⟩ = some (.string (mtxt (kk + 1 + 1))) := regr HB.out (World.block_lt_of_cell? w _ (Q.out 2 _ rfl)) (Q.out 2 _ rfl)
      have a0_3 : wr.cell? ⟨b, o + i * 4 + 3, none⟩ = some (.int .u32 (IntKind.u32.wrap (kk + 1 + 1 + 1))) := (World.cell?_of_block (HB.out.block b (World.block_lt_of_cell? w _ (Q.out 3 _ rfl)))).trans (Q.out 3 _ rfl)
      have g0_3 : ∀ d os, (grow (redrawn wr d) os).cell? ⟨b, o + i * 4 + 3, none⟩ = some (.int .u32 (IntKind.u32.wrap (kk + 1 + 1 + 1))) := regr HB.out (World.block_lt_of_cell? w _ (Q.out 3 _ rfl)) (Q.out 3 _ rfl)
      have i1 : (0 : Int) ≤ (i : Int) := by omega
      have i2 : (i : Int) < (xs.length : Int) := by omega
      go_wp2
      refine wp_region_quiet_below (by kernel_rfl) (by kernel_rfl) ?_
      repeat (go_big_quiet_step (exact Calls.regrown_of (markText_calls _ _ (by omega))))
      refine wpQuiet_nil ?_
      rintro w0 ⟨p, rfl⟩
      have HB3 := Lib.hid (HB.out.trans ((below_regrown wr p.d p.os).mono HB.out.size))
      clear a0_0 a0_1 a0_2 a0_3 g0_0 g0_1 g0_2 g0_3
      generalize grow (redrawn wr p.d) p.os = w3 at *
      have a3_0 : w3.cell? ⟨b, o + i * 4, none⟩ = some (.int .i64 kk) := (World.cell?_of_block (HB3.out.block b (World.block_lt_of_cell? w _ (Q.out 0 _ rfl)))).trans (Q.out 0 _ rfl)
      have a3_1 : w3.cell? ⟨b, o + i * 4 + 1, none⟩ = some (.int .i64 (kk + 1)) := (World.cell?_of_block (HB3.out.block b (World.block_lt_of_cell? w _ (Q.out 1 _ rfl)))).trans (Q.out 1 _ rfl)
      have a3_2 : w3.cell? ⟨b, o + i * 4 + 2, none⟩ = some (.string (mtxt (kk + 1 + 1))) := (World.cell?_of_block (HB3.out.block b (World.block_lt_of_cell? w _ (Q.out 2 _ rfl)))).trans (Q.out 2 _ rfl)
      have a3_3 : w3.cell? ⟨b, o + i * 4 + 3, none⟩ = some (.int .u32 (IntKind.u32.wrap (kk + 1 + 1 + 1))) := (World.cell?_of_block (HB3.out.block b (World.block_lt_of_cell? w _ (Q.out 3 _ rfl)))).trans (Q.out 3 _ rfl)
      go_wp2
      exact ⟨⟨i + 1, by omega, by go_num, by rw [B4.out]; go_num, HB3.out⟩, by simp [intOf]; omega⟩
    · go_wp2
      go_ret
      obtain rfl : i = xs.length := by omega
      exact ⟨ret_int mkNo_all, HB.out⟩

theorem kChunk_flat : kChunk.Flat := ⟨fun h => (kChunk_M h).1, fun h => by obtain rfl := kChunk_K h; exact kChunk_mk _ _⟩
set_option maxHeartbeats 1000000 in
set_option maxRecDepth 100000 in
theorem cloneChunk_calls (xs : List DChunk) (v : Value) (w : World) (g : kChunk.S w xs v) (hl : xs.length ≤ 16777216) : Calls Try.prog 177 #[v] w
    fun e w' => ∃ v' F, e = .returned v' ∧ kChunk.Row 46 w' F xs v' ∧ (∀ b ∈ F, w.heap.size ≤ b) ∧ F.Nodup ∧ Below w.heap.size w w' := by
  have g0 := g
  obtain ⟨A, c, rfl, hc, h⟩ := g
  have H := Lib.hid g0; clear g0 h
  cases A with
  | none =>
    have e1 := hc.2 rfl
    subst e1
    have e2 : xs = [] := List.length_eq_zero_iff.1 (Nat.le_zero.1 hc.1)
    subst e2
    clear hc H
    have he := Lib.run_eql_slice_nil (P := Try.prog) w 31 46 none 0 0 0 0 Try.underlying31
    go_enter Try.func177, Try.ntmps177
    go_wp2
    go_ret
    exact ⟨_, [], rfl, Rp.Row_nil _ _ _, by simp, by simp, Below.refl _ _⟩
  | some a =>
    have he := Lib.run_eql_slice_nil (P := Try.prog) w 31 46 (some a) xs.length c 0 0 Try.underlying31
    go_enter Try.func177, Try.ntmps177
    go_wp2_with (at_builtin; refine wp_append (d := kChunk) rfl _ _ 31 46 rfl Try.underlying31 infoChunk rfl (by decide) rfl (by decide) kChunk_flat (xs := []) (ys := xs) rfl rfl (Rp.Row_made0 _ _ _ (by simp)) (Rp.S_below H.out ((Below.refl _ _).alloc (Nat.le_refl _) _)) (by simpa using hl) ?_; intro v1 w1 r1 r2 r3 _; have R1 := Lib.hid r1; have R2 := Lib.hid r2; have R3 := Lib.hid r3; clear r1 r2 r3)
    go_ret
    exact ⟨_, _, rfl, R1.out, fun b hb => by rcases R3.out b hb with h | h <;> simp at h <;> omega, ofOwn_nodup _, R2.out.newBelow (Nat.le_refl _)⟩

structure DTaking where
  fWant : List (DWanted)
  fGot : List (DChunk)
def kTaking : Rp DTaking := Rp.iso (Rp.pair (Rp.slice 136 kWanted) (Rp.slice 46 kChunk)) (fun x => (x.fWant, x.fGot))
def szNTaking (x : DTaking) : Nat := szL szNWanted x.fWant + szL szNChunk x.fGot
def wfTaking (x : DTaking) : Prop := ((∀ y ∈ x.fWant, wfWanted y) ∧ x.fWant.length ≤ 140737488355328) ∧ ((∀ y ∈ x.fGot, wfChunk y) ∧ x.fGot.length ≤ 140737488355328)

set_option maxHeartbeats 1000000 in
set_option maxRecDepth 100000 in
theorem szTaking_calls (x : DTaking) (v0 v1 : Value) (left : Int) (w : World) (g0 : kWanted.S w x.fWant v0) (g1 : kChunk.S w x.fGot v1) (h0 : 0 ≤ left) (h1 : left ≤ 140737488355328) (hw : wfTaking x) : Calls Try.prog 13 #[.agg #[v0, v1], .int .i64 left] w
    fun e w' => e = .returned (.int .i64 (szR (szNTaking x) left)) ∧ Below w.heap.size w w' := by
  have HF := Lib.hid (show (szNTaking x : Int) = (szL szNWanted x.fWant : Int) + (szL szNChunk x.fGot : Int) by unfold szNTaking; omega)
  obtain ⟨⟨u0, l0⟩, ⟨u1, l1⟩⟩ := hw
  have G0 := Lib.hid g0; clear g0
  have U0 := Lib.hid u0; clear u0
  have G1 := Lib.hid g1; clear g1
  have U1 := Lib.hid u1; clear u1
  go_enter Try.func13, Try.ntmps13
  go_wp2_with fail
  (with_reducible refine (szWantedS_calls x.fWant _ v0 _ (by first | exact Rp.S_below G0.out (Below.alloc (Below.refl _ _) (Nat.le_refl _) _) | exact Rp.S_below G0.out HB.out) (by omega) (by omega) U0.out l0).mono ?_)
  rintro e w0 ⟨rfl, hb⟩
  have B0 : Box _ w.heap.size #[v0, v1] 25 := Box.below (Box.new rfl) hb
  have HB0 := Lib.hid (Below.trans (Below.alloc (Below.refl w.heap.size w) (Nat.le_refl _) _) (hb.mono (by simp)))
  clear hb
  have e0 := Int.natCast_nonneg (szL szNWanted x.fWant)
  by_cases q0 : (szL szNWanted x.fWant : Int) ≤ left
  · rw [szR_yes q0]
    have c0_1 := B0.cell 1 (v := v1) rfl
    go_wp2_with fail
    (with_reducible refine (szChunkS_calls x.fGot _ v1 _ (by first | exact Rp.S_below G1.out (Below.alloc (Below.refl _ _) (Nat.le_refl _) _) | exact Rp.S_below G1.out HB0.out) (by omega) (by omega) U1.out l1).mono ?_)
    rintro e w1 ⟨rfl, hb⟩
    have B0 := Box.below B0 hb
    have HB1 := Lib.hid (HB0.out.trans (hb.mono HB0.out.size))
    clear hb
    have e1 := Int.natCast_nonneg (szL szNChunk x.fGot)
    by_cases q1 : (szL szNChunk x.fGot : Int) ≤ left - szL szNWanted x.fWant
    · rw [szR_yes q1]
      clear B0
      go_wp2
      all_goals (go_ret; exact ⟨ret_int (by rw [szR_of HF.out]; first | (rw [if_pos (by omega)]; try omega) | (rw [if_neg (by omega)])), HB1.out⟩)
    · rw [szR_no q1]
      go_wp2
      all_goals (go_ret; exact ⟨ret_int (by rw [szR_of HF.out]; first | (rw [if_pos (by omega)]; try omega) | (rw [if_neg (by omega)])), HB1.out⟩)
  · rw [szR_no q0]
    go_wp2
    all_goals (go_ret; exact ⟨ret_int (by rw [szR_of HF.out]; first | (rw [if_pos (by omega)]; try omega) | (rw [if_neg (by omega)])), HB0.out⟩)

set_option maxHeartbeats 1000000 in
set_option maxRecDepth 100000 in
theorem eqTaking_calls (x : DTaking) (v0 v1 u0 u1 : Value) (w : World) (g0 : kWanted.S w x.fWant v0) (g1 : kChunk.S w x.fGot v1) (d0 : kWanted.S w x.fWant u0) (d1 : kChunk.S w x.fGot u1) (hl : x.fWant.length ≤ 140737488355328 ∧ x.fGot.length ≤ 140737488355328) : Calls Try.prog 18 #[.agg #[v0, v1], .agg #[u0, u1]] w
    fun e w' => e = .returned (.bool true) ∧ Below w.heap.size w w' := by
  obtain ⟨l0, l1⟩ := hl
  have G0 := Lib.hid g0; clear g0
  have D0 := Lib.hid d0; clear d0
  have G1 := Lib.hid g1; clear g1
  have D1 := Lib.hid d1; clear d1
  go_enter Try.func18, Try.ntmps18
  go_wp2_with fail
  (with_reducible refine (eqWantedS_calls x.fWant v0 u0 _ (by first | exact Rp.S_below G0.out (((Below.refl _ _).alloc (Nat.le_refl _) _).alloc (by simp) _) | exact Rp.S_below G0.out HB.out) (by first | exact Rp.S_below D0.out (((Below.refl _ _).alloc (Nat.le_refl _) _).alloc (by simp) _) | exact Rp.S_below D0.out HB.out) l0).mono ?_)
  rintro e w0 ⟨rfl, hb⟩
  have B0 : Box _ w.heap.size #[v0, v1] 33 := Box.below (Box.alloc (Box.new rfl)) hb
  have B1 : Box _ (w.heap.size + 1) #[u0, u1] 33 := Box.below (Box.new (by simp)) hb
  have HB0 := Lib.hid (Below.trans (((Below.refl w.heap.size w).alloc (Nat.le_refl _) _).alloc (by simp) _) (hb.mono (by simp; omega)))
  clear hb
  have c0_0_1 := B0.cell 1 (v := v1) rfl
  have c0_1_1 := B1.cell 1 (v := u1) rfl
  go_wp2_with fail
  (with_reducible refine (eqChunkS_calls x.fGot v1 u1 _ (by first | exact Rp.S_below G1.out (((Below.refl _ _).alloc (Nat.le_refl _) _).alloc (by simp) _) | exact Rp.S_below G1.out HB0.out) (by first | exact Rp.S_below D1.out (((Below.refl _ _).alloc (Nat.le_refl _) _).alloc (by simp) _) | exact Rp.S_below D1.out HB0.out) l1).mono ?_)
  rintro e w1 ⟨rfl, hb⟩
  have B0 := Box.below B0 hb
  have B1 := Box.below B1 hb
  have HB1 := Lib.hid (HB0.out.trans (hb.mono HB0.out.size))
  clear hb
  clear B0 B1
  go_wp2
  go_ret
  exact ⟨rfl, HB1.out⟩

theorem kTaking_open {w : World} {F : List Nat} {x : DTaking} {cs : List Value} (h : kTaking.M w F x cs) : ∃ v0 v1 F0 F1, cs = [v0, v1] ∧ F = F0 ++ (F1) ∧ kWanted.Row 136 w F0 x.fWant v0 ∧ kChunk.Row 46 w F1 x.fGot v1 := by
  obtain ⟨_, _, _, _, rfl, rfl, ⟨v0, rfl, r0⟩, ⟨v1, rfl, r1⟩⟩ := h
  exact ⟨v0, v1, _, _, rfl, by simp, r0, r1⟩
theorem kTaking_read {w : World} {x : DTaking} {cs : List Value} (h : kTaking.K w x cs) : ∃ v0 v1, cs = [v0, v1] ∧ kWanted.S w x.fWant v0 ∧ kChunk.S w x.fGot v1 := by
  obtain ⟨_, _, rfl, ⟨A0, c0, rfl, e0, r0⟩, ⟨A1, c1, rfl, e1, r1⟩⟩ := h
  exact ⟨_, _, rfl, ⟨A0, c0, rfl, e0, r0⟩, ⟨A1, c1, rfl, e1, r1⟩⟩
theorem kTaking_make {w : World} {x : DTaking} {v0 v1 : Value} {F0 F1 : List Nat} (r0 : kWanted.Row 136 w F0 x.fWant v0) (r1 : kChunk.Row 46 w F1 x.fGot v1) : kTaking.M w (F0 ++ (F1)) x [v0, v1] :=
  ⟨[v0], [v1], F0, F1, rfl, by simp, ⟨v0, rfl, r0⟩, ⟨v1, rfl, r1⟩⟩

set_option maxHeartbeats 1000000 in
set_option maxRecDepth 100000 in
theorem toTaking_calls (x : DTaking) (v0 v1 : Value) (w : World) (g0 : kWanted.S w x.fWant v0) (g1 : kChunk.S w x.fGot v1) (hl : x.fWant.length ≤ 1048576 ∧ x.fGot.length ≤ 1048576) : Calls Try.prog 15 #[.agg #[v0, v1]] w
    fun e w' => ∃ cs F, e = .returned (.agg cs.toArray) ∧ kTaking.M w' F x cs ∧ (∀ b ∈ F, w.heap.size ≤ b) ∧ F.Nodup ∧ Below w.heap.size w w' := by
  obtain ⟨l0, l1⟩ := hl
  have G0 := Lib.hid g0; clear g0
  have G1 := Lib.hid g1; clear g1
  go_enter Try.func15, Try.ntmps15
  go_wp2_with fail
  (with_reducible refine (toWantedS_calls x.fWant v0 _ (Rp.S_below G0.out ((((Below.refl _ _).alloc (Nat.le_refl _) _).alloc (by simp) _).alloc (by simp; omega) _)) l0).mono ?_)
  rintro e w0 ⟨p0, F0, rfl, hr, hfr, hnd, hb⟩
  have B0 : Box _ w.heap.size #[v0, v1] 25 := Box.below (Box.alloc (Box.alloc (Box.new rfl))) hb
  have B1 : Box _ (w.heap.size + 1) #[.slice none 0 0, .slice none 0 0] 33 := Box.below (Box.alloc (Box.new (by simp))) hb
  have B2 : Box _ (w.heap.size + 1 + 1) #[.slice none 0 0, .slice none 0 0] 33 := Box.below (Box.new (by simp)) hb
  have SZB := Lib.hid (show w.heap.size + 1 + 1 + 1 ≤ w0.heap.size by simpa using hb.size)
  have hB0 := Below.trans ((((Below.refl w.heap.size w).alloc (Nat.le_refl _) _).alloc (by simp) _).alloc (by simp; omega) _) (hb.mono (by simp; omega))
  have hf0 : ∀ b ∈ F0, w.heap.size + 1 + 1 + 1 ≤ b := by simpa using hfr
  have HB0 := Lib.hid hB0; clear hB0
  have Lt0 : ∀ b ∈ F0, b < w0.heap.size := Rp.Row_lt hr
  have LT0 := Lib.hid Lt0; clear Lt0
  obtain ⟨pa0, pc0, rfl, _, _⟩ := Rp.Row_K hr
  have hr0 := hr; clear hr
  have hn0 := Lib.hid hnd; clear hnd hfr hb
  have HF0 := Lib.hid hf0
  have c0_1_0 := B1.cell 0 (v := .slice none 0 0) rfl
  have c0_2_0 := B2.cell 0 (v := .slice none 0 0) rfl
  have c0_0_1 := B0.cell 1 (v := v1) rfl
  have c0_1_1 := B1.cell 1 (v := .slice none 0 0) rfl
  have c0_2_1 := B2.cell 1 (v := .slice none 0 0) rfl
  have f0_1 := B1.fro
  have f0_2 := B2.fro
  have HX0 := Lib.hid B0; have HX1 := Lib.hid B1; have HX2 := Lib.hid B2; clear B0 B1 B2
  have HR0 := Lib.hid hr0; clear hr0 hf0
  go_wp2_with fail
  have B0 := HX0.out; have B1 := HX1.out; have B2 := HX2.out; clear HX0 HX1 HX2
  have hr0 := HR0.out; clear HR0; have hf0 := HF0.out
  clear c0_0_1 c0_1_0 c0_1_1 c0_2_0 c0_2_1 f0_1 f0_2
  go_wp2_with fail
  (with_reducible refine (toChunkS_calls x.fGot v1 _ (by refine Rp.S_below G1.out ?_; exact (by repeat (first | exact HB0.out | (refine Below.setCell ?_ (by simp; omega) _)))) l1).mono ?_)
  rintro e w1 ⟨p1, F1, rfl, hr, hfr, hnd, hb⟩
  have hk : KeptF [w.heap.size + 1 + 1] w0 w1 := KeptF.below (by repeat (first | exact KeptF.refl _ _ | (refine KeptF.set ?_ (by simp) _))) hb
  have B2 : Box w1 (w.heap.size + 1 + 1) #[.slice pa0 x.fWant.length pc0, .slice none 0 0] 33 := Box.below (B2.set 0 (.slice pa0 x.fWant.length pc0)) hb
  have B0 := B0.kept hk (by simp; omega)
  have B1 := B1.kept hk (by simp)
  have hr0 := Rp.Row_kept hr0 hk (fun b hb => by have := hf0 b hb; have := SZB.out; simp; omega)
  have hf1 : ∀ b ∈ F1, w0.heap.size ≤ b := by simpa [World.setCell] using hfr
  have hB1 : Below w.heap.size w w1 := HB0.out.trans (hk.toBelow HB0.out.size (by simp; omega))
  have HB1 := Lib.hid hB1; clear hB1
  have SZ1 := Lib.hid hk.size
  have Lt1 : ∀ b ∈ F1, b < w1.heap.size := Rp.Row_lt hr
  have LT1 := Lib.hid Lt1; clear Lt1
  obtain ⟨pa1, pc1, rfl, _, _⟩ := Rp.Row_K hr
  have hr1 := hr; clear hr
  have hn1 := Lib.hid hnd; clear hnd hfr hb hk
  have HF1 := Lib.hid hf1
  have c1_1_0 := B1.cell 0 (v := .slice none 0 0) rfl
  have c1_2_0 := B2.cell 0 (v := .slice pa0 x.fWant.length pc0) rfl
  have c1_1_1 := B1.cell 1 (v := .slice none 0 0) rfl
  have c1_2_1 := B2.cell 1 (v := .slice none 0 0) rfl
  have f1_1 := B1.fro
  have f1_2 := B2.fro
  have HX0 := Lib.hid B0; have HX1 := Lib.hid B1; have HX2 := Lib.hid B2; clear B0 B1 B2
  have HR0 := Lib.hid hr0; clear hr0 hf0
  have HR1 := Lib.hid hr1; clear hr1 hf1
  go_upto_region 4 with fail
  have hkm : KeptF [(w.heap.size + 1 + 1)] w1 (Rp.setN w1 (w.heap.size + 1 + 1) 1 [.slice pa1 x.fGot.length pc1]) := Rp.setN_kept (by simp) _ _ _ (KeptF.refl _ _)
  have B2m : Box (Rp.setN w1 (w.heap.size + 1 + 1) 1 [.slice pa1 x.fGot.length pc1]) (w.heap.size + 1 + 1) #[.slice pa0 x.fWant.length pc0, .slice pa1 x.fGot.length pc1] 33 := Box.setN _ HX2.out 1
  have B1m : Box (Rp.setN w1 (w.heap.size + 1 + 1) 1 [.slice pa1 x.fGot.length pc1]) (w.heap.size + 1) #[.slice none 0 0, .slice none 0 0] 33 := Box.setN_other HX1.out _ _ _ (by omega)
  have q0 := Rp.Row_kept HR0.out hkm (fun b hb => by have := HF0.out b hb; have := HB0.out.size; have := SZB.out; have := SZ1.out; simp; omega)
  have q1 := Rp.Row_kept HR1.out hkm (fun b hb => by have := HF1.out b hb; have := HB0.out.size; have := SZB.out; have := SZ1.out; simp; omega)
  have HBm := Lib.hid (HB1.out.trans (hkm.toBelow HB1.out.size (by simp; omega)))
  change Code.wp _ _ _ _ (Rp.setN w1 (w.heap.size + 1 + 1) 1 [.slice pa1 x.fGot.length pc1])
  clear c1_1_0 c1_1_1 c1_2_0 c1_2_1 f1_1 f1_2 hkm
  generalize (Rp.setN w1 (w.heap.size + 1 + 1) 1 [.slice pa1 x.fGot.length pc1]) = wm at *
  have m0 := B2m.cell 0 (v := .slice pa0 x.fWant.length pc0) rfl
  have m1 := B2m.cell 1 (v := .slice pa1 x.fGot.length pc1) rfl
  have n0 := B1m.cell 0 (v := .slice none 0 0) rfl
  have n1 := B1m.cell 1 (v := .slice none 0 0) rfl
  have fm := B1m.fro
  have HXm := Lib.hid B1m
  clear B1m B2m
  have Q0 := Lib.hid q0; clear q0
  have Q1 := Lib.hid q1; clear q1
  go_wp2
  have hk : KeptF [(w.heap.size + 1)] wm (Rp.setN wm (w.heap.size + 1) 0 [.slice pa0 x.fWant.length pc0, .slice pa1 x.fGot.length pc1]) := Rp.setN_kept (by simp) _ _ _ (KeptF.refl _ _)
  have bf : Box (Rp.setN wm (w.heap.size + 1) 0 [.slice pa0 x.fWant.length pc0, .slice pa1 x.fGot.length pc1]) (w.heap.size + 1) #[.slice pa0 x.fWant.length pc0, .slice pa1 x.fGot.length pc1] 33 := by
    have h := Box.setN [.slice pa0 x.fWant.length pc0, .slice pa1 x.fGot.length pc1] HXm.out 0
    rw [setA_all (by rfl)] at h
    exact h
  have q0 := Rp.Row_kept Q0.out hk (fun b hb => by have := HF0.out b hb; have := HB0.out.size; have := SZB.out; have := SZ1.out; simp; omega)
  have q1 := Rp.Row_kept Q1.out hk (fun b hb => by have := HF1.out b hb; have := HB0.out.size; have := SZB.out; have := SZ1.out; simp; omega)
  change bodyPost _ _ _ _ _ (Rp.setN wm (w.heap.size + 1) 0 [.slice pa0 x.fWant.length pc0, .slice pa1 x.fGot.length pc1])
  clear m0 n0 m1 n1 fm
  generalize Rp.setN wm (w.heap.size + 1) 0 [.slice pa0 x.fWant.length pc0, .slice pa1 x.fGot.length pc1] = wf at *
  have d0 := bf.cell 0 (v := .slice pa0 x.fWant.length pc0) rfl
  have d1 := bf.cell 1 (v := .slice pa1 x.fGot.length pc1) rfl
  exact bodyPost_ret (v := .agg #[.slice pa0 x.fWant.length pc0, .slice pa1 x.fGot.length pc1]) (by simp [results, Try.results15, go_sem, d0, d1]) rfl ⟨_, _, rfl, kTaking_make q0 q1, (fun b hb => by simp only [List.mem_append] at hb; rcases hb with hb | hb <;> (first | (have := HF0.out b hb; have := HB0.out.size; have := HB1.out.size; omega) | (have := HF1.out b hb; have := HB0.out.size; have := HB1.out.size; omega))), (List.nodup_append.2 ⟨hn0.out, hn1.out, fun a ha b hb hab => by have h1 := LT0.out a ha; have := SZ1.out; (try simp only [List.mem_append] at hb); (first | (have h2 := HF1.out b hb; omega))⟩), HBm.out.trans (hk.toBelow HBm.out.size (by simp))⟩

def mkTaking (x : DTaking) (k : Int) : DTaking × Int :=
  let a0 := mkL mkWanted x.fWant k
  let a1 := mkL mkChunk x.fGot a0.2
  (⟨a0.1, a1.1⟩, a1.2)
theorem mkTaking_le (x : DTaking) (k : Int) : k ≤ (mkTaking x k).2 := by
  have h0 := mkL_le mkWanted_le x.fWant (k)
  have h1 := mkL_le mkChunk_le x.fGot ((mkL mkWanted x.fWant (k)).2)
  simp only [mkTaking]
  omega

set_option maxHeartbeats 1000000 in
set_option maxRecDepth 100000 in
theorem markTaking_calls (x : DTaking) (v0 v1 : Value) (F0 F1 : List Nat) (k : Int) (w : World) (r0 : kWanted.Row 136 w F0 x.fWant v0) (r1 : kChunk.Row 46 w F1 x.fGot v1) (hn : (F0 ++ (F1)).Nodup) (h0 : 0 ≤ k) (h1 : (mkTaking x k).2 ≤ 4611686018427387904) (hl : x.fWant.length ≤ 140737488355328 ∧ x.fGot.length ≤ 140737488355328) :
    Calls Try.prog 19 #[.agg #[v0, v1], .int .i64 k] w fun e w' => e = .returned (.int .i64 (mkTaking x k).2) ∧ kWanted.Row 136 w' F0 (mkTaking x k).1.fWant v0 ∧ kChunk.Row 46 w' F1 (mkTaking x k).1.fGot v1 ∧ KeptF (F0 ++ (F1)) w w' := by
  obtain ⟨l0, l1⟩ := hl
  have m0 := mkL_le mkWanted_le x.fWant k
  have m1 := mkL_le mkChunk_le x.fGot ((mkL mkWanted x.fWant k).2)
  have h2 : (mkL mkChunk x.fGot (mkL mkWanted x.fWant k).2).2 ≤ 4611686018427387904 := h1
  have M0 := Lib.hid m0
  have z0 : (mkL mkWanted x.fWant k).2 ≤ 4611686018427387904 := by omega
  have Z0 := Lib.hid z0
  have n0 : 0 ≤ k := by omega
  have N0 := Lib.hid n0
  have M1 := Lib.hid m1
  have z1 : (mkL mkChunk x.fGot (mkL mkWanted x.fWant k).2).2 ≤ 4611686018427387904 := by omega
  have Z1 := Lib.hid z1
  have n1 : 0 ≤ (mkL mkWanted x.fWant k).2 := by omega
  have N1 := Lib.hid n1
  clear h1 h2 m0 z0 n0 m1 z1 n1
  have R0 := Lib.hid r0
  have L0 := Lib.hid (fun b hb => Nat.ne_of_lt (Rp.Row_lt r0 b hb) : ∀ b ∈ F0, b ≠ w.heap.size)
  clear r0
  have R1 := Lib.hid r1
  have L1 := Lib.hid (fun b hb => Nat.ne_of_lt (Rp.Row_lt r1 b hb) : ∀ b ∈ F1, b ≠ w.heap.size)
  clear r1
  have HN := Lib.hid hn
  clear hn
  go_enter Try.func19, Try.ntmps19
  go_wp2_with fail
  (with_reducible refine (markWantedS_calls x.fWant _ F0 v0 _ (Rp.Row_below R0.out ((Below.refl _ _).alloc (Nat.le_refl _) _)) (List.nodup_append.1 HN.out).1 N0.out Z0.out l0).mono ?_)
  rintro e w0 ⟨rfl, hr, hk⟩
  have B0 : Box _ w.heap.size #[v0, v1] 33 := Box.kept (Box.new rfl) hk (fun hm => L0.out _ hm rfl)
  have hK : KeptF (F0 ++ (F1)) w w0 := ((KeptF.refl _ _).alloc _).trans (hk.mono (by intro b hb; simp [hb]))
  have S1 := Lib.hid (Rp.Row_kept (Rp.Row_below R1.out ((Below.refl _ _).alloc (Nat.le_refl _) _)) hk (fun b hb hc => (List.nodup_append.1 HN.out).2.2 b (by simp [hc]) b (by simp [hb]) rfl))
  have R1 := S1; clear S1
  have Q0 := Lib.hid hr
  have HK0 := Lib.hid hK
  clear hr hk hK
  have c0_1 := B0.cell 1 (v := v1) rfl
  have BX := Lib.hid B0; clear B0
  go_wp2_with fail
  (with_reducible refine (markChunkS_calls x.fGot _ F1 v1 _ R1.out (List.nodup_append.1 HN.out).2.1 N1.out Z1.out l1).mono ?_)
  rintro e w1 ⟨rfl, hr, hk⟩
  have B0 := BX.out.kept hk (fun hm => L1.out _ hm rfl)
  clear BX
  have hK : KeptF (F0 ++ (F1)) w w1 := HK0.out.trans (hk.mono (by intro b hb; simp [hb]))
  have T0 := Lib.hid (Rp.Row_kept Q0.out hk (fun b hb hc => (List.nodup_append.1 HN.out).2.2 b (by simp [hb]) b (by simp [hc]) rfl))
  have Q0 := T0; clear T0
  have Q1 := Lib.hid hr
  have HK1 := Lib.hid hK
  clear hr hk hK
  have BX := Lib.hid B0; clear B0
  clear c0_1
  go_wp2
  go_ret
  exact ⟨rfl, Q0.out, Q1.out, HK1.out⟩

set_option maxHeartbeats 1000000 in
set_option maxRecDepth 100000 in
theorem heldTaking_calls (x : DTaking) (v0 v1 : Value) (k : Int) (w : World) (g0 : kWanted.S w (mkTaking x k).1.fWant v0) (g1 : kChunk.S w (mkTaking x k).1.fGot v1) (h0 : 0 ≤ k) (h1 : (mkTaking x k).2 ≤ 4611686018427387904) (hl : x.fWant.length ≤ 140737488355328 ∧ x.fGot.length ≤ 140737488355328) :
    Calls Try.prog 26 #[.agg #[v0, v1], .int .i64 k] w fun e w' => e = .returned (.int .i64 (mkTaking x k).2) ∧ Below w.heap.size w w' := by
  obtain ⟨l0, l1⟩ := hl
  have m0 := mkL_le mkWanted_le x.fWant k
  have m1 := mkL_le mkChunk_le x.fGot ((mkL mkWanted x.fWant k).2)
  have h2 : (mkL mkChunk x.fGot (mkL mkWanted x.fWant k).2).2 ≤ 4611686018427387904 := h1
  have z0 : (mkL mkWanted x.fWant k).2 ≤ 4611686018427387904 := by omega
  have Z0 := Lib.hid z0
  have n0 : 0 ≤ k := by omega
  have N0 := Lib.hid n0
  have y0 : 0 ≤ (mkL mkWanted x.fWant k).2 := by omega
  have z1 : (mkL mkChunk x.fGot (mkL mkWanted x.fWant k).2).2 ≤ 4611686018427387904 := by omega
  have Z1 := Lib.hid z1
  have n1 : 0 ≤ (mkL mkWanted x.fWant k).2 := by omega
  have N1 := Lib.hid n1
  have y1 : 0 ≤ (mkL mkChunk x.fGot (mkL mkWanted x.fWant k).2).2 := by omega
  clear h1 h2 m0 z0 n0 m1 z1 n1
  have G0 : Hid (kWanted.S w (mkL mkWanted x.fWant k).1 v0) := Lib.hid g0
  clear g0
  have G1 : Hid (kChunk.S w (mkL mkChunk x.fGot (mkL mkWanted x.fWant k).2).1 v1) := Lib.hid g1
  clear g1
  go_enter Try.func26, Try.ntmps26
  go_wp2_with fail
  (with_reducible refine (heldWantedS_calls x.fWant _ v0 _ (by first | exact Rp.S_below G0.out ((Below.refl _ _).alloc (Nat.le_refl _) _) | exact Rp.S_below G0.out HB.out) N0.out Z0.out l0).mono ?_)
  rintro e w0 ⟨rfl, hb⟩
  have B0 : Box _ w.heap.size #[v0, v1] 33 := Box.below (Box.new rfl) hb
  have HB0 := Lib.hid (Below.trans ((Below.refl w.heap.size w).alloc (Nat.le_refl _) _) (hb.mono (by simp)))
  clear hb
  have c0_1 := B0.cell 1 (v := v1) rfl
  have BX := Lib.hid B0; clear B0
  go_wp2_with fail
  (with_reducible refine (heldChunkS_calls x.fGot _ v1 _ (by first | exact Rp.S_below G1.out ((Below.refl _ _).alloc (Nat.le_refl _) _) | exact Rp.S_below G1.out HB0.out) N1.out Z1.out l1).mono ?_)
  rintro e w1 ⟨rfl, hb⟩
  have B0 := BX.out.below hb; clear BX
  have HB1 := Lib.hid (HB0.out.trans (hb.mono HB0.out.size))
  clear hb
  have BX := Lib.hid B0; clear B0
  clear c0_1
  go_wp2
  go_ret
  exact ⟨rfl, HB1.out⟩

end Go.Proofs.Ytioelmhikablcaa
