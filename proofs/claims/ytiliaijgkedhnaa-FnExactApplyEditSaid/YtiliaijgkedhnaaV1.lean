/- The laws' own functions of some types, one by one. -/
import Derived.Test.YtiliaijgkedhnaaInt
namespace Go.Proofs.Ytiliaijgkedhnaa
open Go Go.RowKit Go.Sort
set_option linter.unusedVariables false
set_option linter.unusedSimpArgs false

structure DMeta where
  fNumber : Int
  fLevel : Int
  fLeast : ByteArray
  fMost : ByteArray
def kMeta : Rp DMeta := Rp.iso (Rp.pair (Rp.int .i64) (Rp.pair (Rp.int .i64) (Rp.pair (Rp.str) (Rp.str)))) (fun x => (x.fNumber, x.fLevel, x.fLeast, x.fMost))
theorem kMeta_sz : kMeta.sz = 4 := rfl
theorem kMeta_K {w : World} {x : DMeta} {cs : List Value} (h : kMeta.K w x cs) : cs = [.int .i64 x.fNumber, .int .i64 x.fLevel, .string x.fLeast, .string x.fMost] := by
  obtain ⟨_, _, rfl, rfl, ⟨_, _, rfl, rfl, ⟨_, _, rfl, rfl, rfl⟩⟩⟩ := h
  rfl
theorem kMeta_M {w : World} {F : List Nat} {x : DMeta} {cs : List Value} (h : kMeta.M w F x cs) : F = [] ∧ cs = [.int .i64 x.fNumber, .int .i64 x.fLevel, .string x.fLeast, .string x.fMost] := by
  obtain ⟨_, _, _, _, rfl, rfl, ⟨rfl, rfl⟩, ⟨_, _, _, _, rfl, rfl, ⟨rfl, rfl⟩, ⟨_, _, _, _, rfl, rfl, ⟨rfl, rfl⟩, ⟨rfl, rfl⟩⟩⟩⟩ := h
  exact ⟨rfl, rfl⟩
theorem kMeta_mk (w : World) (x : DMeta) : kMeta.M w [] x [.int .i64 x.fNumber, .int .i64 x.fLevel, .string x.fLeast, .string x.fMost] := ⟨[.int .i64 x.fNumber], [.int .i64 x.fLevel, .string x.fLeast, .string x.fMost], [], [], rfl, rfl, ⟨rfl, rfl⟩, ⟨[.int .i64 x.fLevel], [.string x.fLeast, .string x.fMost], [], [], rfl, rfl, ⟨rfl, rfl⟩, ⟨[.string x.fLeast], [.string x.fMost], [], [], rfl, rfl, ⟨rfl, rfl⟩, ⟨rfl, rfl⟩⟩⟩⟩
theorem kMeta_mkK (w : World) (x : DMeta) : kMeta.K w x [.int .i64 x.fNumber, .int .i64 x.fLevel, .string x.fLeast, .string x.fMost] := kMeta.M_K (kMeta_mk w x)

def szNMeta (x : DMeta) : Nat := x.fLeast.size + x.fMost.size

def wfMeta (x : DMeta) : Prop := x.fLeast.size ≤ 140737488355328 ∧ x.fMost.size ≤ 140737488355328

set_option maxHeartbeats 1000000 in
set_option maxRecDepth 100000 in
theorem szMeta_calls (x : DMeta) (left : Int) (w : World) (h0 : 0 ≤ left) (h1 : left ≤ 140737488355328) (hw : wfMeta x) : Calls Try.prog 34 #[.agg #[.int .i64 x.fNumber, .int .i64 x.fLevel, .string x.fLeast, .string x.fMost], .int .i64 left] w
    fun e w' => e = .returned (.int .i64 (szR (szNMeta x) left)) ∧ Below w.heap.size w w' := by
  have HF := Lib.hid (show (szNMeta x : Int) = (x.fLeast.size : Int) + (x.fMost.size : Int) by unfold szNMeta; omega)
  obtain ⟨hs0, hs1⟩ := hw
  go_enter Try.func34, Try.ntmps34
  go_wp2
  all_goals (go_ret; exact ⟨ret_int (by rw [szR_of HF.out]; first | (rw [if_pos (by omega)]; try omega) | (rw [if_neg (by omega)])), (by repeat (first | exact Below.refl _ _ | (refine Below.setCell ?_ (by first | (simp; done) | (simp; omega)) _) | (refine Below.alloc ?_ (by first | (simp; done) | (simp; omega)) _)))⟩)

set_option maxHeartbeats 1000000 in
set_option maxRecDepth 100000 in
theorem eqMeta_calls (x : DMeta) (w : World) : Calls Try.prog 50 #[.agg #[.int .i64 x.fNumber, .int .i64 x.fLevel, .string x.fLeast, .string x.fMost], .agg #[.int .i64 x.fNumber, .int .i64 x.fLevel, .string x.fLeast, .string x.fMost]] w
    fun e w' => e = .returned (.bool true) ∧ Below w.heap.size w w' := by
  go_enter Try.func50, Try.ntmps50
  go_wp2
  go_ret
  exact ⟨rfl, (by repeat (first | exact Below.refl _ _ | (refine Below.setCell ?_ (by first | (simp; done) | (simp; omega)) _) | (refine Below.alloc ?_ (by first | (simp; done) | (simp; omega)) _)))⟩

set_option maxHeartbeats 1000000 in
set_option maxRecDepth 100000 in
theorem toMeta_calls (x : DMeta) (w : World) : Calls Try.prog 38 #[.agg #[.int .i64 x.fNumber, .int .i64 x.fLevel, .string x.fLeast, .string x.fMost]] w
    fun e w' => e = .returned (.agg #[.int .i64 x.fNumber, .int .i64 x.fLevel, .string x.fLeast, .string x.fMost]) ∧ Below w.heap.size w w' := by
  go_enter Try.func38, Try.ntmps38
  go_wp2
  exact bodyPost_ret (v := .agg #[.int .i64 x.fNumber, .int .i64 x.fLevel, .string x.fLeast, .string x.fMost]) (by simp [results, Try.results38, go_sem]) rfl ⟨rfl, (by repeat (first | exact Below.refl _ _ | (refine Below.setCell ?_ (by first | (simp; done) | (simp; omega)) _) | (refine Below.alloc ?_ (by first | (simp; done) | (simp; omega)) _)))⟩

theorem infoMeta : (Try.prog.info? 52).map (fun i => (i.zero, i.size, i.bytes)) = some (some (.agg #[.int .i64 0, .int .i64 0, .string ⟨#[]⟩, .string ⟨#[]⟩]), 4, 48) := by kernel_rfl
def zMeta : DMeta := ⟨0, 0, ⟨#[]⟩, ⟨#[]⟩⟩

set_option maxHeartbeats 1000000 in
set_option maxRecDepth 100000 in
theorem szMetaS_calls (xs : List DMeta) (left : Int) (v : Value) (w : World) (h : kMeta.S w xs v) (h0 : 0 ≤ left) (h1 : left ≤ 140737488355328) (hw : ∀ x ∈ xs, wfMeta x) (hl : xs.length ≤ 140737488355328) :
    Calls Try.prog 15 #[v, .int .i64 left] w fun e w' => e = .returned (.int .i64 (szR (szL szNMeta xs) left)) ∧ Below w.heap.size w w' := by
  obtain ⟨A, c, rfl, hc, h⟩ := h
  have H := Lib.hid h; clear h
  have HW := Lib.hid hw; clear hw
  have HF := Lib.hid (show ((szL szNMeta xs : Nat) : Int) = xs.length + sumN szNMeta xs by unfold szL; omega)
  by_cases hq : (xs.length : Int) ≤ left
  · go_enter Try.func15, Try.ntmps15
    go_wp2
    go_loopw [1, 5] (fun l i wr => ∃ k : Nat, k ≤ xs.length ∧ i = .int .i64 k ∧ l = .int .i64 (left - xs.length - sumN szNMeta (xs.take k)) ∧ 0 ≤ left - xs.length - sumN szNMeta (xs.take k) ∧ Hid (Below w.heap.size w wr)) (fun _ i _ => xs.length - (intOf i).toNat)
    case atStart => exact ⟨0, Nat.zero_le _, rfl, by simp [sumN], by simp [sumN]; omega, Below.refl _ _⟩
    case round =>
      obtain ⟨k, hk, rfl, rfl, hs, HB⟩ := hrel
      by_cases hlt : k < xs.length
      · obtain ⟨b, o, cs, rfl, k1, q1⟩ := Rp.C_get H.out k hlt
        obtain rfl := kMeta_K k1
        have hx := HW.out xs[k] (List.getElem_mem hlt)
        have hs2 := sumN_take (f := szNMeta) hlt
        have hs3 := sumN_le (f := szNMeta) (xs := xs) (k + 1)
        generalize he : xs[k] = x at *
        generalize hs4 : sumN szNMeta (xs.take (k + 1)) = s1 at *
        generalize hs5 : sumN szNMeta (xs.take k) = s0 at *
        have HE := Lib.hid he; clear he
        have HS4 := Lib.hid hs4; clear hs4
        have HS5 := Lib.hid hs5; clear hs5
        have HS2 := Lib.hid hs2; clear hs2
        have a0 := (World.cell?_of_block (HB.out.block b (World.block_lt_of_cell? w _ (q1 0 _ rfl)))).trans (q1 0 _ rfl)
        simp only [kMeta_sz, Nat.add_zero] at a0
        have a1 := (World.cell?_of_block (HB.out.block b (World.block_lt_of_cell? w _ (q1 0 _ rfl)))).trans (q1 1 _ rfl)
        simp only [kMeta_sz, Nat.add_zero] at a1
        have a2 := (World.cell?_of_block (HB.out.block b (World.block_lt_of_cell? w _ (q1 0 _ rfl)))).trans (q1 2 _ rfl)
        simp only [kMeta_sz, Nat.add_zero] at a2
        have a3 := (World.cell?_of_block (HB.out.block b (World.block_lt_of_cell? w _ (q1 0 _ rfl)))).trans (q1 3 _ rfl)
        simp only [kMeta_sz, Nat.add_zero] at a3
        clear q1 k1
        have i1 : (0 : Int) ≤ (k : Int) := by omega
        have i2 : (k : Int) < (xs.length : Int) := by omega
        go_wp2_with fail
        (with_reducible refine (szMeta_calls x _ _ (by omega) (by omega) hx).mono ?_)
        rintro e w1 ⟨rfl, hb⟩
        have HB1 := Lib.hid (HB.out.trans (hb.mono HB.out.size)); clear hb
        by_cases hy : (szNMeta x : Int) ≤ left - xs.length - s0
        · rw [szR_yes hy]
          go_wp2
          exact ⟨⟨k + 1, by omega, by go_num, by rw [HS4.out, HS2.out]; go_num, by rw [HS4.out, HS2.out]; omega, HB1.out⟩, by simp [intOf]; omega⟩
        · rw [szR_no hy]
          go_wp2
          go_ret
          exact ⟨ret_int (by rw [szR_of HF.out, if_neg (by have := HS2.out; omega)]), HB1.out⟩
      · go_wp2
        go_ret
        obtain rfl : k = xs.length := by omega
        rw [sumN_all] at hs
        exact ⟨ret_int (by rw [szR_of HF.out, if_pos (by omega), sumN_all]; omega), HB.out⟩
  · go_enter Try.func15, Try.ntmps15
    go_wp2
    go_ret
    exact ⟨ret_int (by rw [szR_of HF.out, if_neg (by omega)]), Below.refl _ _⟩

set_option maxHeartbeats 1000000 in
set_option maxRecDepth 100000 in
theorem eqMetaS_calls (xs : List DMeta) (v1 v2 : Value) (w : World) (h1 : kMeta.S w xs v1) (h2 : kMeta.S w xs v2) (hl : xs.length ≤ 140737488355328) :
    Calls Try.prog 29 #[v1, v2] w fun e w' => e = .returned (.bool true) ∧ Below w.heap.size w w' := by
  obtain ⟨A1, c1, rfl, hc1, h1⟩ := h1
  obtain ⟨A2, c2, rfl, hc2, h2⟩ := h2
  have H1 := Lib.hid h1; clear h1
  have H2 := Lib.hid h2; clear h2
  go_enter Try.func29, Try.ntmps29
  go_wp2
  go_loopw [5] (fun i wr => ∃ k : Nat, k ≤ xs.length ∧ i = .int .i64 k ∧ Hid (Below w.heap.size w wr)) (fun i _ => xs.length - (intOf i).toNat)
  case atStart => exact ⟨0, Nat.zero_le _, rfl, Below.refl _ _⟩
  case round =>
    obtain ⟨k, hk, rfl, HB⟩ := hrel
    by_cases hlt : k < xs.length
    · obtain ⟨b1, o1, cs1, rfl, k1, q1⟩ := Rp.C_get H1.out k hlt
      obtain ⟨b2, o2, cs2, rfl, k2, q2⟩ := Rp.C_get H2.out k hlt
      obtain rfl := kMeta_K k1
      obtain rfl := kMeta_K k2
      generalize he : xs[k] = x at *
      have HE := Lib.hid he; clear he
      have a10 := regr HB.out (World.block_lt_of_cell? w _ (q1 0 _ rfl)) (q1 0 _ rfl)
      simp only [kMeta_sz, Nat.add_zero] at a10
      have a11 := regr HB.out (World.block_lt_of_cell? w _ (q1 1 _ rfl)) (q1 1 _ rfl)
      simp only [kMeta_sz, Nat.add_zero] at a11
      have a12 := regr HB.out (World.block_lt_of_cell? w _ (q1 2 _ rfl)) (q1 2 _ rfl)
      simp only [kMeta_sz, Nat.add_zero] at a12
      have a13 := regr HB.out (World.block_lt_of_cell? w _ (q1 3 _ rfl)) (q1 3 _ rfl)
      simp only [kMeta_sz, Nat.add_zero] at a13
      have a20 := regr HB.out (World.block_lt_of_cell? w _ (q2 0 _ rfl)) (q2 0 _ rfl)
      simp only [kMeta_sz, Nat.add_zero] at a20
      have a21 := regr HB.out (World.block_lt_of_cell? w _ (q2 1 _ rfl)) (q2 1 _ rfl)
      simp only [kMeta_sz, Nat.add_zero] at a21
      have a22 := regr HB.out (World.block_lt_of_cell? w _ (q2 2 _ rfl)) (q2 2 _ rfl)
      simp only [kMeta_sz, Nat.add_zero] at a22
      have a23 := regr HB.out (World.block_lt_of_cell? w _ (q2 3 _ rfl)) (q2 3 _ rfl)
      simp only [kMeta_sz, Nat.add_zero] at a23
      clear q1 q2 k1 k2
      have i1 : (0 : Int) ≤ (k : Int) := by omega
      have i2 : (k : Int) < (xs.length : Int) := by omega
      go_wp2
      refine wp_region_quiet_below (by kernel_rfl) (by kernel_rfl) ?_
      repeat (go_big_quiet_step (exact Calls.regrown_of (eqMeta_calls x _)))
      refine wpQuiet_nil ?_
      rintro w1 ⟨p, rfl⟩
      go_wp2
      exact ⟨⟨k + 1, by omega, by go_num, HB.out.trans ((below_regrown _ _ _).mono HB.out.size)⟩, by simp [intOf]; omega⟩
    · go_wp2
      go_ret
      exact ⟨rfl, HB.out⟩

set_option maxHeartbeats 1000000 in
set_option maxRecDepth 100000 in
theorem toMetaS_calls (xs : List DMeta) (v : Value) (w : World) (h : kMeta.S w xs v) (hl : xs.length ≤ 1048576) :
    Calls Try.prog 19 #[v] w fun e w' => ∃ v' F, e = .returned v' ∧ kMeta.Row 52 w' F xs v' ∧ (∀ b ∈ F, w.heap.size ≤ b) ∧ F.Nodup ∧ Below w.heap.size w w' := by
  obtain ⟨A, c, rfl, hc, h⟩ := h
  have H := Lib.hid h; clear h
  obtain ⟨w0, hmk, hR, hB, hlt0⟩ := mk_full w 30 52 kMeta zMeta Try.underlying30 infoMeta rfl (fun w => kMeta_mk w _) xs.length hl (by decide)
  have HR := Lib.hid hR; clear hR
  have HB := Lib.hid hB; clear hB
  go_enter Try.func19, Try.ntmps19
  go_wp2
  clear hmk
  go_loopw [4] (fun i wr => ∃ k : Nat, k ≤ xs.length ∧ i = .int .i64 k ∧ (∃ F, Hid (kMeta.Row 52 wr F (fillL xs zMeta k) (.slice (some ⟨w.heap.size, 0, none⟩) xs.length xs.length)) ∧ Hid (F.Nodup ∧ ∀ b ∈ F, w.heap.size ≤ b)) ∧ Hid (Below w.heap.size w wr)) (fun i _ => xs.length - (intOf i).toNat)
  case atStart => exact ⟨0, Nat.zero_le _, rfl, ⟨_, by rw [fillL_zero]; exact HR.out, by simp [Hid]⟩, HB.out⟩
  case round =>
    clear HR HB hlt0
    obtain ⟨k, hk, rfl, ⟨F, HR, HF⟩, HB⟩ := hrel
    by_cases hlt : k < xs.length
    · obtain ⟨b, o, cs, rfl, k1, q1⟩ := Rp.C_get H.out k hlt
      obtain rfl := kMeta_K k1
      have hs := fillL_set (z := zMeta) hlt
      generalize he : xs[k] = x at *
      have HS := Lib.hid hs; clear hs
      have HE := Lib.hid he; clear he
      have a0 := (World.cell?_of_block (HB.out.block b (World.block_lt_of_cell? w _ (q1 0 _ rfl)))).trans (q1 0 _ rfl)
      simp only [kMeta_sz, Nat.add_zero] at a0
      have a1 := (World.cell?_of_block (HB.out.block b (World.block_lt_of_cell? w _ (q1 1 _ rfl)))).trans (q1 1 _ rfl)
      simp only [kMeta_sz, Nat.add_zero] at a1
      have a2 := (World.cell?_of_block (HB.out.block b (World.block_lt_of_cell? w _ (q1 2 _ rfl)))).trans (q1 2 _ rfl)
      simp only [kMeta_sz, Nat.add_zero] at a2
      have a3 := (World.cell?_of_block (HB.out.block b (World.block_lt_of_cell? w _ (q1 3 _ rfl)))).trans (q1 3 _ rfl)
      simp only [kMeta_sz, Nat.add_zero] at a3
      clear q1 k1
      have i1 : (0 : Int) ≤ (k : Int) := by omega
      have i2 : (k : Int) < (xs.length : Int) := by omega
      go_wp2_with fail
      (with_reducible refine (toMeta_calls x _).mono ?_)
      rintro e w1 ⟨rfl, hb⟩
      have HR1 := Rp.Row_below HR.out hb
      have HB1 := HB.out.trans (hb.mono HB.out.size)
      clear hb HB HR
      have hk2 : k < (fillL xs zMeta k).length := by rw [fillL_len hk]; exact hlt
      obtain ⟨g, cap, cz, F1, q0, hgF, hgl, q2, _, _, q3, q4⟩ := Rp.Row_open HR1 HF.out.1 k hk2
      rw [fillL_get hlt hk2] at q2
      obtain ⟨rfl, rfl⟩ := kMeta_M q2
      obtain rfl : w.heap.size = g := by simp at q0; exact q0.1
      have z0 : w1.cell? ⟨w.heap.size, k * 4, none⟩ = some (.int .i64 0) := q3 0 _ rfl
      have z1 : w1.cell? ⟨w.heap.size, k * 4 + 1, none⟩ = some (.int .i64 0) := q3 1 _ rfl
      have z2 : w1.cell? ⟨w.heap.size, k * 4 + 2, none⟩ = some (.string ⟨#[]⟩) := q3 2 _ rfl
      have z3 : w1.cell? ⟨w.heap.size, k * 4 + 3, none⟩ = some (.string ⟨#[]⟩) := q3 3 _ rfl
      have y0 : w1.frozen? ⟨w.heap.size, k * 4, none⟩ = false := q4 _
      have y1 : w1.frozen? ⟨w.heap.size, k * 4 + 1, none⟩ = false := q4 _
      have y2 : w1.frozen? ⟨w.heap.size, k * 4 + 2, none⟩ = false := q4 _
      have y3 : w1.frozen? ⟨w.heap.size, k * 4 + 3, none⟩ = false := q4 _
      have HP := Rp.Row_put HR1 HF.out.1 k hk2 x _ [] (kMeta_mk w1 x) (by simp) (by simp)
      rw [HS.out] at HP
      have HP := Lib.hid HP
      have HB1 := Lib.hid HB1
      clear q0 q2 q3 q4 hgF hgl hk2 HR1
      go_wp2
      obtain ⟨F', p1, p2, p3, p4⟩ := HP.out
      exact ⟨⟨k + 1, by omega, by go_num, ⟨F', p1, p2, fun b hb => HF.out.2 b (by simpa using p3 b hb)⟩, (Rp.setN_kept (F := F) p4 [.int .i64 x.fNumber, .int .i64 x.fLevel, .string x.fLeast, .string x.fMost] w1 (k * 4) (KeptF.refl _ _) |>.toBelow HB1.out.size HF.out.2 |> HB1.out.trans)⟩, by simp [intOf]; omega⟩
    · go_wp2
      go_ret
      obtain rfl : k = xs.length := by omega
      exact ⟨_, _, rfl, by simpa [fillL_all] using HR.out, HF.out.2, HF.out.1, HB.out⟩

def mkMeta (x : DMeta) (k : Int) : DMeta × Int := ((⟨k, (k + 1), (mtxt (k + 1 + 1)), (mtxt (k + 1 + 1 + 1))⟩ : DMeta), k + 4)
theorem mkMeta_le (x : DMeta) (k : Int) : k ≤ (mkMeta x k).2 := by simp only [mkMeta]; omega

set_option maxHeartbeats 1000000 in
set_option maxRecDepth 100000 in
theorem markMetaS_calls (xs : List DMeta) (k : Int) (F : List Nat) (v : Value) (w : World) (h : kMeta.Row 52 w F xs v) (hnF : F.Nodup) (h0 : 0 ≤ k) (h1 : (mkL mkMeta xs k).2 ≤ 4611686018427387904) (hl : xs.length ≤ 140737488355328) :
    Calls Try.prog 31 #[v, .int .i64 k] w fun e w' => e = .returned (.int .i64 (mkL mkMeta xs k).2) ∧ kMeta.Row 52 w' F (mkL mkMeta xs k).1 v ∧ KeptF F w w' := by
  obtain ⟨A, c, rfl, hc, _⟩ := Rp.Row_K h
  have H := Lib.hid h; clear h
  have H1 := Lib.hid h1; clear h1
  go_enter Try.func31, Try.ntmps31
  go_wp2
  go_loopw [1, 5] (fun a n wr => ∃ i : Nat, i ≤ xs.length ∧ n = .int .i64 i ∧ a = .int .i64 (mkNo mkMeta xs k i) ∧ Hid (kMeta.Row 52 wr F (mkAt mkMeta xs k i) (.slice A xs.length c)) ∧ Hid (KeptF F w wr)) (fun _ n _ => xs.length - (intOf n).toNat)
  case atStart => exact ⟨0, Nat.zero_le _, rfl, by rw [mkNo_zero], by rw [mkAt_zero]; exact H.out, KeptF.refl _ _⟩
  case round =>
    obtain ⟨i, hi, rfl, rfl, HR, HK⟩ := hrel
    by_cases hlt : i < xs.length
    · have b1 := mkNo_ge (mk := mkMeta) (k := k) mkMeta_le (Nat.le_of_lt hlt)
      have b2 := mkNo_top (mk := mkMeta) (k := k) mkMeta_le (i := i + 1) hlt
      have b3 := mkNo_succ (mk := mkMeta) (k := k) hlt
      have b4 : mkNo mkMeta xs k (i + 1) = mkNo mkMeta xs k i + 4 := b3
      have b5 := H1.out
      have hset := mkAt_set (mk := mkMeta) (k := k) hlt
      have hl2 : i < (mkAt mkMeta xs k i).length := by rw [mkAt_len hi]; exact hlt
      have hy := mkAt_get' (mk := mkMeta) (k := k) hlt hl2
      have hR := HR.out
      clear HR
      have c1 : 0 ≤ mkNo mkMeta xs k i := by omega
      have c2 : mkNo mkMeta xs k i + 4 ≤ 4611686018427387904 := by omega
      clear b1 b2 b3 b5
      have B4 := Lib.hid b4; clear b4
      generalize mkNo mkMeta xs k i = kk at *
      generalize mkAt mkMeta xs k i = ys at *
      generalize he : xs[i] = x at *
      have HE := Lib.hid he; clear he
      have hset' : ys.set i (⟨kk, (kk + 1), (mtxt (kk + 1 + 1)), (mtxt (kk + 1 + 1 + 1))⟩ : DMeta) = mkAt mkMeta xs k (i + 1) := hset
      have HS := Lib.hid hset'; clear hset hset'
      obtain ⟨g2, cap2, c2, F2, q0, gF, _, q2, _, _, q3, q4⟩ := Rp.Row_open hR hnF i hl2
      rw [hy] at q2
      obtain ⟨_, rfl⟩ := kMeta_M q2
      obtain ⟨g, rfl⟩ : ∃ g, A = some ⟨g, 0, none⟩ := ⟨g2, by simp at q0; exact q0.1⟩
      obtain rfl : g = g2 := by simp at q0; exact q0.1
      have z0_0 : wr.cell? ⟨g, i * 4, none⟩ = some (.int .i64 x.fNumber) := q3 0 _ rfl
      have y0_0 : wr.frozen? ⟨g, i * 4, none⟩ = false := q4 _
      have z0_1 : wr.cell? ⟨g, i * 4 + 1, none⟩ = some (.int .i64 x.fLevel) := q3 1 _ rfl
      have y0_1 : wr.frozen? ⟨g, i * 4 + 1, none⟩ = false := q4 _
      have z0_2 : wr.cell? ⟨g, i * 4 + 2, none⟩ = some (.string x.fLeast) := q3 2 _ rfl
      have y0_2 : wr.frozen? ⟨g, i * 4 + 2, none⟩ = false := q4 _
      have z0_3 : wr.cell? ⟨g, i * 4 + 3, none⟩ = some (.string x.fMost) := q3 3 _ rfl
      have y0_3 : wr.frozen? ⟨g, i * 4 + 3, none⟩ = false := q4 _
      clear q0 q2 q3 q4
      have HY := Lib.hid hy; clear hy
      have HRr := Lib.hid hR; clear hR
      have i1 : (0 : Int) ≤ (i : Int) := by omega
      have i2 : (i : Int) < (xs.length : Int) := by omega
      go_wp2_with fail
      (with_reducible refine (markText_calls _ _ (by omega)).mono ?_)
      rintro e w1 ⟨rfl, hb⟩
      have hy := HY.out
      have r0 := HRr.out
      have r1 := Rp.Row_store r0 hnF i hl2 0 (by decide) (.int .i64 kk) (⟨kk, x.fLevel, x.fLeast, x.fMost⟩ : DMeta) (fun c F1 hM => by rw [hy] at hM; obtain ⟨rfl, rfl⟩ := kMeta_M hM; exact kMeta_mk _ _)
      have r2 := Rp.Row_store r1 hnF i (by rw [List.length_set]; exact hl2) 1 (by decide) (.int .i64 (kk + 1)) (⟨kk, (kk + 1), x.fLeast, x.fMost⟩ : DMeta) (fun c F1 hM => by rw [List.getElem_set_self] at hM; obtain ⟨rfl, rfl⟩ := kMeta_M hM; exact kMeta_mk _ _)
      rw [List.set_set] at r2
      have rb2 := Rp.Row_below r2 hb
      have HKb2 := Lib.hid (KeptF.below (F := F) (a := w) (by repeat (first | exact HK.out | (refine KeptF.set ?_ (show g ∈ F from gF) _))) hb)
      clear hb r0 r1 r2 z0_0 y0_0 z0_1 y0_1 z0_2 y0_2 z0_3 y0_3
      obtain ⟨g2, cap2, c2, F2, q0, _, _, q2, _, _, q3, q4⟩ := Rp.Row_open rb2 hnF i (by rw [List.length_set]; exact hl2)
      rw [List.getElem_set_self] at q2
      obtain ⟨_, rfl⟩ := kMeta_M q2
      obtain rfl : g = g2 := by simp at q0; exact q0.1
      have z2_0 : w1.cell? ⟨g, i * 4, none⟩ = some (.int .i64 kk) := q3 0 _ rfl
      have y2_0 : w1.frozen? ⟨g, i * 4, none⟩ = false := q4 _
      have z2_1 : w1.cell? ⟨g, i * 4 + 1, none⟩ = some (.int .i64 (kk + 1)) := q3 1 _ rfl
      have y2_1 : w1.frozen? ⟨g, i * 4 + 1, none⟩ = false := q4 _
      have z2_2 : w1.cell? ⟨g, i * 4 + 2, none⟩ = some (.string x.fLeast) := q3 2 _ rfl
      have y2_2 : w1.frozen? ⟨g, i * 4 + 2, none⟩ = false := q4 _
      have z2_3 : w1.cell? ⟨g, i * 4 + 3, none⟩ = some (.string x.fMost) := q3 3 _ rfl
      have y2_3 : w1.frozen? ⟨g, i * 4 + 3, none⟩ = false := q4 _
      clear q0 q2 q3 q4
      have HRr2 := Lib.hid rb2; clear rb2
      clear hy
      go_wp2_with fail
      (with_reducible refine (markText_calls _ _ (by omega)).mono ?_)
      rintro e w2 ⟨rfl, hb⟩
      have hy := HY.out
      have r2 := HRr2.out
      have r3 := Rp.Row_store r2 hnF i (by rw [List.length_set]; exact hl2) 2 (by decide) (.string (mtxt (kk + 1 + 1))) (⟨kk, (kk + 1), (mtxt (kk + 1 + 1)), x.fMost⟩ : DMeta) (fun c F1 hM => by rw [List.getElem_set_self] at hM; obtain ⟨rfl, rfl⟩ := kMeta_M hM; exact kMeta_mk _ _)
      rw [List.set_set] at r3
      have rb3 := Rp.Row_below r3 hb
      have HKb3 := Lib.hid (KeptF.below (F := F) (a := w) (by repeat (first | exact HKb2.out | (refine KeptF.set ?_ (show g ∈ F from gF) _))) hb)
      clear hb r2 r3 z2_0 y2_0 z2_1 y2_1 z2_2 y2_2 z2_3 y2_3
      obtain ⟨g2, cap2, c2, F2, q0, _, _, q2, _, _, q3, q4⟩ := Rp.Row_open rb3 hnF i (by rw [List.length_set]; exact hl2)
      rw [List.getElem_set_self] at q2
      obtain ⟨_, rfl⟩ := kMeta_M q2
      obtain rfl : g = g2 := by simp at q0; exact q0.1
      have z3_0 : w2.cell? ⟨g, i * 4, none⟩ = some (.int .i64 kk) := q3 0 _ rfl
      have y3_0 : w2.frozen? ⟨g, i * 4, none⟩ = false := q4 _
      have z3_1 : w2.cell? ⟨g, i * 4 + 1, none⟩ = some (.int .i64 (kk + 1)) := q3 1 _ rfl
      have y3_1 : w2.frozen? ⟨g, i * 4 + 1, none⟩ = false := q4 _
      have z3_2 : w2.cell? ⟨g, i * 4 + 2, none⟩ = some (.string (mtxt (kk + 1 + 1))) := q3 2 _ rfl
      have y3_2 : w2.frozen? ⟨g, i * 4 + 2, none⟩ = false := q4 _
      have z3_3 : w2.cell? ⟨g, i * 4 + 3, none⟩ = some (.string x.fMost) := q3 3 _ rfl
      have y3_3 : w2.frozen? ⟨g, i * 4 + 3, none⟩ = false := q4 _
      clear q0 q2 q3 q4
      have HRr3 := Lib.hid rb3; clear rb3
      clear hy
      go_wp2
      have hy := HY.out
      have r3 := HRr3.out
      have r4 := Rp.Row_store r3 hnF i (by rw [List.length_set]; exact hl2) 3 (by decide) (.string (mtxt (kk + 1 + 1 + 1))) (⟨kk, (kk + 1), (mtxt (kk + 1 + 1)), (mtxt (kk + 1 + 1 + 1))⟩ : DMeta) (fun c F1 hM => by rw [List.getElem_set_self] at hM; obtain ⟨rfl, rfl⟩ := kMeta_M hM; exact kMeta_mk _ _)
      rw [List.set_set] at r4
      rw [HS.out] at r4
      exact ⟨⟨i + 1, by omega, by go_num, by rw [B4.out]; go_num, r4, (by repeat (first | exact HKb3.out | (refine KeptF.set ?_ (show g ∈ F from gF) _)))⟩, by simp [intOf]; omega⟩
    · go_wp2
      go_ret
      obtain rfl : i = xs.length := by omega
      exact ⟨ret_int mkNo_all, by rw [← mkAt_all]; exact HR.out, HK.out⟩

set_option maxHeartbeats 1000000 in
set_option maxRecDepth 100000 in
theorem heldMetaS_calls (xs : List DMeta) (k : Int) (v : Value) (w : World) (h : kMeta.S w (mkL mkMeta xs k).1 v) (h0 : 0 ≤ k) (h1 : (mkL mkMeta xs k).2 ≤ 4611686018427387904) (hl : xs.length ≤ 140737488355328) :
    Calls Try.prog 33 #[v, .int .i64 k] w fun e w' => e = .returned (.int .i64 (mkL mkMeta xs k).2) ∧ Below w.heap.size w w' := by
  obtain ⟨A, c, rfl, hc, hC⟩ := h
  rw [mkL_len] at hc ⊢
  have H := Lib.hid hC; clear hC
  have H1 := Lib.hid h1; clear h1
  go_enter Try.func33, Try.ntmps33
  go_wp2
  go_loopw [1, 5] (fun a n wr => ∃ i : Nat, i ≤ xs.length ∧ n = .int .i64 i ∧ a = .int .i64 (mkNo mkMeta xs k i) ∧ Hid (Below w.heap.size w wr)) (fun _ n _ => xs.length - (intOf n).toNat)
  case atStart => exact ⟨0, Nat.zero_le _, rfl, by rw [mkNo_zero], Below.refl _ _⟩
  case round =>
    obtain ⟨i, hi, rfl, rfl, HB⟩ := hrel
    by_cases hlt : i < xs.length
    · have b1 := mkNo_ge (mk := mkMeta) (k := k) mkMeta_le (Nat.le_of_lt hlt)
      have b2 := mkNo_top (mk := mkMeta) (k := k) mkMeta_le (i := i + 1) hlt
      have b4 : mkNo mkMeta xs k (i + 1) = mkNo mkMeta xs k i + 4 := mkNo_succ (mk := mkMeta) (k := k) hlt
      have b5 := H1.out
      obtain ⟨b, o, cs, rfl, k1, q1⟩ := Rp.C_get H.out i (by rw [mkL_len]; exact hlt)
      rw [mkL_get' hlt] at k1
      obtain rfl := kMeta_K k1
      have Q := Lib.hid q1
      clear q1 k1
      have c1 : 0 ≤ mkNo mkMeta xs k i := by omega
      have c2 : mkNo mkMeta xs k i + 4 ≤ 4611686018427387904 := by omega
      clear b1 b2 b5
      have B4 := Lib.hid b4; clear b4
      generalize mkNo mkMeta xs k i = kk at *
      generalize xs[i] = x at *
      have a0_0 : wr.cell? ⟨b, o + i * 4, none⟩ = some (.int .i64 kk) := (World.cell?_of_block (HB.out.block b (World.block_lt_of_cell? w _ (Q.out 0 _ rfl)))).trans (Q.out 0 _ rfl)
      have g0_0 : ∀ d os, (grow (redrawn wr d) os).cell? ⟨b, o + i * 4, none⟩ = some (.int .i64 kk) := regr HB.out (World.block_lt_of_cell? w _ (Q.out 0 _ rfl)) (Q.out 0 _ rfl)
      have a0_1 : wr.cell? ⟨b, o + i * 4 + 1, none⟩ = some (.int .i64 (kk + 1)) := (World.cell?_of_block (HB.out.block b (World.block_lt_of_cell? w _ (Q.out 1 _ rfl)))).trans (Q.out 1 _ rfl)
      have g0_1 : ∀ d os, (grow (redrawn wr d) os).cell? ⟨b, o + i * 4 + 1, none⟩ = some (.int .i64 (kk + 1)) := regr HB.out (World.block_lt_of_cell? w _ (Q.out 1 _ rfl)) (Q.out 1 _ rfl)
      have a0_2 : wr.cell? ⟨b, o + i * 4 + 2, none⟩ = some (.string (mtxt (kk + 1 + 1))) := (World.cell?_of_block (HB.out.block b (World.block_lt_of_cell? w _ (Q.out 2 _ rfl)))).trans (Q.out 2 _ rfl)
      have g0_2 : ∀ d os, (grow (redrawn wr d) os).cell? ⟨b, o + i * 4 + 2, none⟩ = some (.string (mtxt (kk + 1 + 1))) := regr HB.out (World.block_lt_of_cell? w _ (Q.out 2 _ rfl)) (Q.out 2 _ rfl)
      have a0_3 : wr.cell? ⟨b, o + i * 4 + 3, none⟩ = some (.string (mtxt (kk + 1 + 1 + 1))) := (World.cell?_of_block (HB.out.block b (World.block_lt_of_cell? w _ (Q.out 3 _ rfl)))).trans (Q.out 3 _ rfl)
      have g0_3 : ∀ d os, (grow (redrawn wr d) os).cell? ⟨b, o + i * 4 + 3, none⟩ = some (.string (mtxt (kk + 1 + 1 + 1))) := regr HB.out (World.block_lt_of_cell? w _ (Q.out 3 _ rfl)) (Q.out 3 _ rfl)
      have i1 : (0 : Int) ≤ (i : Int) := by omega
      have i2 : (i : Int) < (xs.length : Int) := by omega
      go_wp2
      refine wp_region_quiet_below (by kernel_rfl) (by kernel_rfl) ?_
      repeat (go_big_quiet_step (exact Calls.regrown_of (markText_calls _ _ (by omega))))
      refine wpQuiet_nil ?_
      rintro w0 ⟨p, rfl⟩
      have HB3 := Lib.hid (HB.out.trans ((below_regrown wr p.d p.os).mono HB.out.size))
      clear a0_0 a0_1 a0_2 a0_3 g0_0 g0_1 g0_2 g0_3
      generalize grow (redrawn wr p.d) p.os = w3 at *
      have a3_0 : w3.cell? ⟨b, o + i * 4, none⟩ = some (.int .i64 kk) := (World.cell?_of_block (HB3.out.block b (World.block_lt_of_cell? w _ (Q.out 0 _ rfl)))).trans (Q.out 0 _ rfl)
      have g3_0 : ∀ d os, (grow (redrawn w3 d) os).cell? ⟨b, o + i * 4, none⟩ = some (.int .i64 kk) := regr HB3.out (World.block_lt_of_cell? w _ (Q.out 0 _ rfl)) (Q.out 0 _ rfl)
      have a3_1 : w3.cell? ⟨b, o + i * 4 + 1, none⟩ = some (.int .i64 (kk + 1)) := (World.cell?_of_block (HB3.out.block b (World.block_lt_of_cell? w _ (Q.out 1 _ rfl)))).trans (Q.out 1 _ rfl)
      have g3_1 : ∀ d os, (grow (redrawn w3 d) os).cell? ⟨b, o + i * 4 + 1, none⟩ = some (.int .i64 (kk + 1)) := regr HB3.out (World.block_lt_of_cell? w _ (Q.out 1 _ rfl)) (Q.out 1 _ rfl)
      have a3_2 : w3.cell? ⟨b, o + i * 4 + 2, none⟩ = some (.string (mtxt (kk + 1 + 1))) := (World.cell?_of_block (HB3.out.block b (World.block_lt_of_cell? w _ (Q.out 2 _ rfl)))).trans (Q.out 2 _ rfl)
      have g3_2 : ∀ d os, (grow (redrawn w3 d) os).cell? ⟨b, o + i * 4 + 2, none⟩ = some (.string (mtxt (kk + 1 + 1))) := regr HB3.out (World.block_lt_of_cell? w _ (Q.out 2 _ rfl)) (Q.out 2 _ rfl)
      have a3_3 : w3.cell? ⟨b, o + i * 4 + 3, none⟩ = some (.string (mtxt (kk + 1 + 1 + 1))) := (World.cell?_of_block (HB3.out.block b (World.block_lt_of_cell? w _ (Q.out 3 _ rfl)))).trans (Q.out 3 _ rfl)
      have g3_3 : ∀ d os, (grow (redrawn w3 d) os).cell? ⟨b, o + i * 4 + 3, none⟩ = some (.string (mtxt (kk + 1 + 1 + 1))) := regr HB3.out (World.block_lt_of_cell? w _ (Q.out 3 _ rfl)) (Q.out 3 _ rfl)
      go_wp2
      refine wp_region_quiet_below (by kernel_rfl) (by kernel_rfl) ?_
      repeat (go_big_quiet_step (exact Calls.regrown_of (markText_calls _ _ (by omega))))
      refine wpQuiet_nil ?_
      rintro w0 ⟨p, rfl⟩
      have HB4 := Lib.hid (HB3.out.trans ((below_regrown w3 p.d p.os).mono HB3.out.size))
      clear a3_0 a3_1 a3_2 a3_3 g3_0 g3_1 g3_2 g3_3
      generalize grow (redrawn w3 p.d) p.os = w4 at *
      have a4_0 : w4.cell? ⟨b, o + i * 4, none⟩ = some (.int .i64 kk) := (World.cell?_of_block (HB4.out.block b (World.block_lt_of_cell? w _ (Q.out 0 _ rfl)))).trans (Q.out 0 _ rfl)
      have a4_1 : w4.cell? ⟨b, o + i * 4 + 1, none⟩ = some (.int .i64 (kk + 1)) := (World.cell?_of_block (HB4.out.block b (World.block_lt_of_cell? w _ (Q.out 1 _ rfl)))).trans (Q.out 1 _ rfl)
      have a4_2 : w4.cell? ⟨b, o + i * 4 + 2, none⟩ = some (.string (mtxt (kk + 1 + 1))) := (World.cell?_of_block (HB4.out.block b (World.block_lt_of_cell? w _ (Q.out 2 _ rfl)))).trans (Q.out 2 _ rfl)
      have a4_3 : w4.cell? ⟨b, o + i * 4 + 3, none⟩ = some (.string (mtxt (kk + 1 + 1 + 1))) := (World.cell?_of_block (HB4.out.block b (World.block_lt_of_cell? w _ (Q.out 3 _ rfl)))).trans (Q.out 3 _ rfl)
      go_wp2
      exact ⟨⟨i + 1, by omega, by go_num, by rw [B4.out]; go_num, HB4.out⟩, by simp [intOf]; omega⟩
    · go_wp2
      go_ret
      obtain rfl : i = xs.length := by omega
      exact ⟨ret_int mkNo_all, HB.out⟩

theorem kMeta_flat : kMeta.Flat := ⟨fun h => (kMeta_M h).1, fun h => by obtain rfl := kMeta_K h; exact kMeta_mk _ _⟩
set_option maxHeartbeats 1000000 in
set_option maxRecDepth 100000 in
theorem cloneMeta_calls (xs : List DMeta) (v : Value) (w : World) (g : kMeta.S w xs v) (hl : xs.length ≤ 16777216) : Calls Try.prog 23 #[v] w
    fun e w' => ∃ v' F, e = .returned v' ∧ kMeta.Row 52 w' F xs v' ∧ (∀ b ∈ F, w.heap.size ≤ b) ∧ F.Nodup ∧ Below w.heap.size w w' := by
  have g0 := g
  obtain ⟨A, c, rfl, hc, h⟩ := g
  have H := Lib.hid g0; clear g0 h
  cases A with
  | none =>
    have e1 := hc.2 rfl
    subst e1
    have e2 : xs = [] := List.length_eq_zero_iff.1 (Nat.le_zero.1 hc.1)
    subst e2
    clear hc H
    have he := Lib.run_eql_slice_nil (P := Try.prog) w 30 52 none 0 0 0 0 Try.underlying30
    go_enter Try.func23, Try.ntmps23
    go_wp2
    go_ret
    exact ⟨_, [], rfl, Rp.Row_nil _ _ _, by simp, by simp, Below.refl _ _⟩
  | some a =>
    have he := Lib.run_eql_slice_nil (P := Try.prog) w 30 52 (some a) xs.length c 0 0 Try.underlying30
    go_enter Try.func23, Try.ntmps23
    go_wp2_with (at_builtin; refine wp_append (d := kMeta) rfl _ _ 30 52 rfl Try.underlying30 infoMeta rfl (by decide) rfl (by decide) kMeta_flat (xs := []) (ys := xs) rfl rfl (Rp.Row_made0 _ _ _ (by simp)) (Rp.S_below H.out ((Below.refl _ _).alloc (Nat.le_refl _) _)) (by simpa using hl) ?_; intro v1 w1 r1 r2 r3 _; have R1 := Lib.hid r1; have R2 := Lib.hid r2; have R3 := Lib.hid r3; clear r1 r2 r3)
    go_ret
    exact ⟨_, _, rfl, R1.out, fun b hb => by rcases R3.out b hb with h | h <;> simp at h <;> omega, ofOwn_nodup _, R2.out.newBelow (Nat.le_refl _)⟩

structure DVersion where
  fNext : Int
  fSeq : Int
  fMetas : List (DMeta)
def kVersion : Rp DVersion := Rp.iso (Rp.pair (Rp.int .i64) (Rp.pair (Rp.int .i64) (Rp.slice 52 kMeta))) (fun x => (x.fNext, x.fSeq, x.fMetas))
def szNVersion (x : DVersion) : Nat := szL szNMeta x.fMetas
def wfVersion (x : DVersion) : Prop := ((∀ y ∈ x.fMetas, wfMeta y) ∧ x.fMetas.length ≤ 140737488355328)

set_option maxHeartbeats 1000000 in
set_option maxRecDepth 100000 in
theorem szVersion_calls (x : DVersion) (v2 : Value) (left : Int) (w : World) (g2 : kMeta.S w x.fMetas v2) (h0 : 0 ≤ left) (h1 : left ≤ 140737488355328) (hw : wfVersion x) : Calls Try.prog 4 #[.agg #[.int .i64 x.fNext, .int .i64 x.fSeq, v2], .int .i64 left] w
    fun e w' => e = .returned (.int .i64 (szR (szNVersion x) left)) ∧ Below w.heap.size w w' := by
  have HF := Lib.hid (show (szNVersion x : Int) = (szL szNMeta x.fMetas : Int) by unfold szNVersion; omega)
  obtain ⟨u2, l2⟩ := hw
  have G2 := Lib.hid g2; clear g2
  have U2 := Lib.hid u2; clear u2
  go_enter Try.func4, Try.ntmps4
  go_wp2_with fail
  (with_reducible refine (szMetaS_calls x.fMetas _ v2 _ (by first | exact Rp.S_below G2.out (Below.alloc (Below.refl _ _) (Nat.le_refl _) _) | exact Rp.S_below G2.out HB.out) (by omega) (by omega) U2.out l2).mono ?_)
  rintro e w2 ⟨rfl, hb⟩
  have B0 : Box _ w.heap.size #[.int .i64 x.fNext, .int .i64 x.fSeq, v2] 24 := Box.below (Box.new rfl) hb
  have HB2 := Lib.hid (Below.trans (Below.alloc (Below.refl w.heap.size w) (Nat.le_refl _) _) (hb.mono (by simp)))
  clear hb
  have e2 := Int.natCast_nonneg (szL szNMeta x.fMetas)
  by_cases q2 : (szL szNMeta x.fMetas : Int) ≤ left
  · rw [szR_yes q2]
    clear B0
    go_wp2
    all_goals (go_ret; exact ⟨ret_int (by rw [szR_of HF.out]; first | (rw [if_pos (by omega)]; try omega) | (rw [if_neg (by omega)])), HB2.out⟩)
  · rw [szR_no q2]
    go_wp2
    all_goals (go_ret; exact ⟨ret_int (by rw [szR_of HF.out]; first | (rw [if_pos (by omega)]; try omega) | (rw [if_neg (by omega)])), HB2.out⟩)

set_option maxHeartbeats 1000000 in
set_option maxRecDepth 100000 in
theorem eqVersion_calls (x : DVersion) (v2 u2 : Value) (w : World) (g2 : kMeta.S w x.fMetas v2) (d2 : kMeta.S w x.fMetas u2) (hl : x.fMetas.length ≤ 140737488355328) : Calls Try.prog 10 #[.agg #[.int .i64 x.fNext, .int .i64 x.fSeq, v2], .agg #[.int .i64 x.fNext, .int .i64 x.fSeq, u2]] w
    fun e w' => e = .returned (.bool true) ∧ Below w.heap.size w w' := by
  have l2 := hl
  clear hl
  have G2 := Lib.hid g2; clear g2
  have D2 := Lib.hid d2; clear d2
  go_enter Try.func10, Try.ntmps10
  go_wp2_with fail
  (with_reducible refine (eqMetaS_calls x.fMetas v2 u2 _ (by first | exact Rp.S_below G2.out (((Below.refl _ _).alloc (Nat.le_refl _) _).alloc (by simp) _) | exact Rp.S_below G2.out HB.out) (by first | exact Rp.S_below D2.out (((Below.refl _ _).alloc (Nat.le_refl _) _).alloc (by simp) _) | exact Rp.S_below D2.out HB.out) l2).mono ?_)
  rintro e w2 ⟨rfl, hb⟩
  have B0 : Box _ w.heap.size #[.int .i64 x.fNext, .int .i64 x.fSeq, v2] 32 := Box.below (Box.alloc (Box.new rfl)) hb
  have B1 : Box _ (w.heap.size + 1) #[.int .i64 x.fNext, .int .i64 x.fSeq, u2] 32 := Box.below (Box.new (by simp)) hb
  have HB2 := Lib.hid (Below.trans (((Below.refl w.heap.size w).alloc (Nat.le_refl _) _).alloc (by simp) _) (hb.mono (by simp; omega)))
  clear hb
  clear B0 B1
  go_wp2
  go_ret
  exact ⟨rfl, HB2.out⟩

theorem kVersion_open {w : World} {F : List Nat} {x : DVersion} {cs : List Value} (h : kVersion.M w F x cs) : ∃ v2 F2, cs = [.int .i64 x.fNext, .int .i64 x.fSeq, v2] ∧ F = F2 ∧ kMeta.Row 52 w F2 x.fMetas v2 := by
  obtain ⟨_, _, _, _, rfl, rfl, ⟨rfl, rfl⟩, ⟨_, _, _, _, rfl, rfl, ⟨rfl, rfl⟩, ⟨v2, rfl, r2⟩⟩⟩ := h
  exact ⟨v2, _, rfl, by simp, r2⟩
theorem kVersion_read {w : World} {x : DVersion} {cs : List Value} (h : kVersion.K w x cs) : ∃ v2, cs = [.int .i64 x.fNext, .int .i64 x.fSeq, v2] ∧ kMeta.S w x.fMetas v2 := by
  obtain ⟨_, _, rfl, rfl, ⟨_, _, rfl, rfl, ⟨A2, c2, rfl, e2, r2⟩⟩⟩ := h
  exact ⟨_, rfl, ⟨A2, c2, rfl, e2, r2⟩⟩
theorem kVersion_make {w : World} {x : DVersion} {v2 : Value} {F2 : List Nat} (r2 : kMeta.Row 52 w F2 x.fMetas v2) : kVersion.M w (F2) x [.int .i64 x.fNext, .int .i64 x.fSeq, v2] :=
  ⟨[.int .i64 x.fNext], [.int .i64 x.fSeq, v2], [], F2, rfl, by simp, ⟨rfl, rfl⟩, ⟨[.int .i64 x.fSeq], [v2], [], F2, rfl, by simp, ⟨rfl, rfl⟩, ⟨v2, rfl, r2⟩⟩⟩

set_option maxHeartbeats 1000000 in
set_option maxRecDepth 100000 in
theorem toVersion_calls (x : DVersion) (v2 : Value) (w : World) (g2 : kMeta.S w x.fMetas v2) (hl : x.fMetas.length ≤ 1048576) : Calls Try.prog 7 #[.agg #[.int .i64 x.fNext, .int .i64 x.fSeq, v2]] w
    fun e w' => ∃ cs F, e = .returned (.agg cs.toArray) ∧ kVersion.M w' F x cs ∧ (∀ b ∈ F, w.heap.size ≤ b) ∧ F.Nodup ∧ Below w.heap.size w w' := by
  have l2 := hl
  clear hl
  have G2 := Lib.hid g2; clear g2
  go_enter Try.func7, Try.ntmps7
  go_wp2_with fail
  (with_reducible refine (toMetaS_calls x.fMetas v2 _ (Rp.S_below G2.out ((((Below.refl _ _).alloc (Nat.le_refl _) _).alloc (by simp) _).alloc (by simp; omega) _)) l2).mono ?_)
  rintro e w2 ⟨p2, F2, rfl, hr, hfr, hnd, hb⟩
  have B0 : Box _ w.heap.size #[.int .i64 x.fNext, .int .i64 x.fSeq, v2] 24 := Box.below (Box.alloc (Box.alloc (Box.new rfl))) hb
  have B1 : Box _ (w.heap.size + 1) #[.int .i64 0, .int .i64 0, .slice none 0 0] 32 := Box.below (Box.alloc (Box.new (by simp))) hb
  have B2 : Box _ (w.heap.size + 1 + 1) #[.int .i64 x.fNext, .int .i64 x.fSeq, .slice none 0 0] 32 := Box.below (Box.new (by simp)) hb
  have SZB := Lib.hid (show w.heap.size + 1 + 1 + 1 ≤ w2.heap.size by simpa using hb.size)
  have hB2 := Below.trans ((((Below.refl w.heap.size w).alloc (Nat.le_refl _) _).alloc (by simp) _).alloc (by simp; omega) _) (hb.mono (by simp; omega))
  have hf2 : ∀ b ∈ F2, w.heap.size + 1 + 1 + 1 ≤ b := by simpa using hfr
  have HB2 := Lib.hid hB2; clear hB2
  have Lt2 : ∀ b ∈ F2, b < w2.heap.size := Rp.Row_lt hr
  have LT2 := Lib.hid Lt2; clear Lt2
  obtain ⟨pa2, pc2, rfl, _, _⟩ := Rp.Row_K hr
  have hr2 := hr; clear hr
  have hn2 := Lib.hid hnd; clear hnd hfr hb
  have HF2 := Lib.hid hf2
  have c2_1_0 := B1.cell 0 (v := .int .i64 0) rfl
  have c2_2_0 := B2.cell 0 (v := .int .i64 x.fNext) rfl
  have c2_1_1 := B1.cell 1 (v := .int .i64 0) rfl
  have c2_2_1 := B2.cell 1 (v := .int .i64 x.fSeq) rfl
  have c2_1_2 := B1.cell 2 (v := .slice none 0 0) rfl
  have c2_2_2 := B2.cell 2 (v := .slice none 0 0) rfl
  have f2_1 := B1.fro
  have f2_2 := B2.fro
  have HX0 := Lib.hid B0; have HX1 := Lib.hid B1; have HX2 := Lib.hid B2; clear B0 B1 B2
  have HR2 := Lib.hid hr2; clear hr2 hf2
  go_wp2
  have hk : KeptF [w.heap.size + 1, w.heap.size + 1 + 1] w2 (Rp.setN (Rp.setN w2 (w.heap.size + 1 + 1) 2 [.slice pa2 x.fMetas.length pc2]) (w.heap.size + 1) 0 [.int .i64 x.fNext, .int .i64 x.fSeq, .slice pa2 x.fMetas.length pc2]) := Rp.setN_kept (by simp) _ _ _ (Rp.setN_kept (by simp) _ _ _ (KeptF.refl _ _))
  have q2 := Rp.Row_kept HR2.out hk (fun b hb => by have := HF2.out b hb; have := HB2.out.size; have := SZB.out; simp; omega)
  have bf : Box (Rp.setN (Rp.setN w2 (w.heap.size + 1 + 1) 2 [.slice pa2 x.fMetas.length pc2]) (w.heap.size + 1) 0 [.int .i64 x.fNext, .int .i64 x.fSeq, .slice pa2 x.fMetas.length pc2]) (w.heap.size + 1) #[.int .i64 x.fNext, .int .i64 x.fSeq, .slice pa2 x.fMetas.length pc2] 32 := Box.setN _ (Box.setN_other HX1.out _ _ _ (by omega)) 0
  change bodyPost _ _ _ _ _ (Rp.setN (Rp.setN w2 (w.heap.size + 1 + 1) 2 [.slice pa2 x.fMetas.length pc2]) (w.heap.size + 1) 0 [.int .i64 x.fNext, .int .i64 x.fSeq, .slice pa2 x.fMetas.length pc2])
  generalize Rp.setN (Rp.setN w2 (w.heap.size + 1 + 1) 2 [.slice pa2 x.fMetas.length pc2]) (w.heap.size + 1) 0 [.int .i64 x.fNext, .int .i64 x.fSeq, .slice pa2 x.fMetas.length pc2] = wf at *
  have d0 := bf.cell 0 (v := .int .i64 x.fNext) rfl
  have d1 := bf.cell 1 (v := .int .i64 x.fSeq) rfl
  have d2 := bf.cell 2 (v := .slice pa2 x.fMetas.length pc2) rfl
  exact bodyPost_ret (v := .agg #[.int .i64 x.fNext, .int .i64 x.fSeq, .slice pa2 x.fMetas.length pc2]) (by simp [results, Try.results7, go_sem, d0, d1, d2]) rfl ⟨_, _, rfl, kVersion_make q2, (fun b hb => by (first | (have := HF2.out b hb; have := HB2.out.size; omega))), hn2.out, HB2.out.trans (hk.toBelow HB2.out.size (by simp; omega))⟩

def mkVersion (x : DVersion) (k : Int) : DVersion × Int :=
  let a2 := mkL mkMeta x.fMetas k
  (⟨x.fNext, x.fSeq, a2.1⟩, a2.2)
theorem mkVersion_le (x : DVersion) (k : Int) : k ≤ (mkVersion x k).2 := by
  have h2 := mkL_le mkMeta_le x.fMetas (k)
  simp only [mkVersion]
  omega

set_option maxHeartbeats 1000000 in
set_option maxRecDepth 100000 in
theorem markVersion_calls (x : DVersion) (v2 : Value) (F2 : List Nat) (k : Int) (w : World) (r2 : kMeta.Row 52 w F2 x.fMetas v2) (hn : (F2).Nodup) (h0 : 0 ≤ k) (h1 : (mkVersion x k).2 ≤ 4611686018427387904) (hl : x.fMetas.length ≤ 140737488355328) :
    Calls Try.prog 12 #[.agg #[.int .i64 x.fNext, .int .i64 x.fSeq, v2], .int .i64 k] w fun e w' => e = .returned (.int .i64 (mkVersion x k).2) ∧ kMeta.Row 52 w' F2 (mkVersion x k).1.fMetas v2 ∧ KeptF (F2) w w' := by
  have l2 := hl
  clear hl
  have m2 := mkL_le mkMeta_le x.fMetas k
  have h2 : (mkL mkMeta x.fMetas k).2 ≤ 4611686018427387904 := h1
  have M2 := Lib.hid m2
  have z2 : (mkL mkMeta x.fMetas k).2 ≤ 4611686018427387904 := by omega
  have Z2 := Lib.hid z2
  have n2 : 0 ≤ k := by omega
  have N2 := Lib.hid n2
  clear h1 h2 m2 z2 n2
  have R2 := Lib.hid r2
  have L2 := Lib.hid (fun b hb => Nat.ne_of_lt (Rp.Row_lt r2 b hb) : ∀ b ∈ F2, b ≠ w.heap.size)
  clear r2
  have HN := Lib.hid hn
  clear hn
  go_enter Try.func12, Try.ntmps12
  go_wp2_with fail
  (with_reducible refine (markMetaS_calls x.fMetas _ F2 v2 _ (Rp.Row_below R2.out ((Below.refl _ _).alloc (Nat.le_refl _) _)) HN.out N2.out Z2.out l2).mono ?_)
  rintro e w2 ⟨rfl, hr, hk⟩
  have B0 : Box _ w.heap.size #[.int .i64 x.fNext, .int .i64 x.fSeq, v2] 32 := Box.kept (Box.new rfl) hk (fun hm => L2.out _ hm rfl)
  have hK : KeptF (F2) w w2 := ((KeptF.refl _ _).alloc _).trans (hk.mono (by intro b hb; simp [hb]))
  have Q2 := Lib.hid hr
  have HK2 := Lib.hid hK
  clear hr hk hK
  have BX := Lib.hid B0; clear B0
  go_wp2
  go_ret
  exact ⟨rfl, Q2.out, HK2.out⟩

set_option maxHeartbeats 1000000 in
set_option maxRecDepth 100000 in
theorem heldVersion_calls (x : DVersion) (v2 : Value) (k : Int) (w : World) (g2 : kMeta.S w (mkVersion x k).1.fMetas v2) (h0 : 0 ≤ k) (h1 : (mkVersion x k).2 ≤ 4611686018427387904) (hl : x.fMetas.length ≤ 140737488355328) :
    Calls Try.prog 14 #[.agg #[.int .i64 x.fNext, .int .i64 x.fSeq, v2], .int .i64 k] w fun e w' => e = .returned (.int .i64 (mkVersion x k).2) ∧ Below w.heap.size w w' := by
  have l2 := hl
  clear hl
  have m2 := mkL_le mkMeta_le x.fMetas k
  have h2 : (mkL mkMeta x.fMetas k).2 ≤ 4611686018427387904 := h1
  have z2 : (mkL mkMeta x.fMetas k).2 ≤ 4611686018427387904 := by omega
  have Z2 := Lib.hid z2
  have n2 : 0 ≤ k := by omega
  have N2 := Lib.hid n2
  have y2 : 0 ≤ (mkL mkMeta x.fMetas k).2 := by omega
  clear h1 h2 m2 z2 n2
  have G2 : Hid (kMeta.S w (mkL mkMeta x.fMetas k).1 v2) := Lib.hid g2
  clear g2
  go_enter Try.func14, Try.ntmps14
  go_wp2_with fail
  (with_reducible refine (heldMetaS_calls x.fMetas _ v2 _ (by first | exact Rp.S_below G2.out ((Below.refl _ _).alloc (Nat.le_refl _) _) | exact Rp.S_below G2.out HB.out) N2.out Z2.out l2).mono ?_)
  rintro e w2 ⟨rfl, hb⟩
  have B0 : Box _ w.heap.size #[.int .i64 x.fNext, .int .i64 x.fSeq, v2] 32 := Box.below (Box.new rfl) hb
  have HB2 := Lib.hid (Below.trans ((Below.refl w.heap.size w).alloc (Nat.le_refl _) _) (hb.mono (by simp)))
  clear hb
  have BX := Lib.hid B0; clear B0
  go_wp2
  go_ret
  exact ⟨rfl, HB2.out⟩

end Go.Proofs.Ytiliaijgkedhnaa
