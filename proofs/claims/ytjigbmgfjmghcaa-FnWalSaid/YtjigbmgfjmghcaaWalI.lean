/- Logs: what is dropped in front, walked. -/
import Derived.Test.YtjigbmgfjmghcaaWalH
namespace Go.Proofs.Ytjigbmgfjmghcaa
open Go Go.RowKit Go.Sort
set_option linter.unusedVariables false
set_option linter.unusedSimpArgs false

theorem restW_ent (x : DWal) (k : Nat) : (restW x (k + 1)).fEntries = x.fEntries.drop (k + 1) := rfl
theorem restW_first (x : DWal) (k : Nat) : (restW x (k + 1)).fFirst = x.fFirst + k + 1 := by
  show x.fFirst + ((k + 1 : Nat) : Int) = _
  omega
theorem restW_bef {x : DWal} {k : Nat} (h : k < x.fEntries.length) : (restW x (k + 1)).fBefore = x.fEntries[k].fTerm := by
  show (x.fEntries[k + 1 - 1]?.map (·.fTerm)).getD 0 = _
  rw [Nat.add_sub_cancel, List.getElem?_eq_getElem h]
  rfl
theorem goodWal_len {x : DWal} (h : goodWal x = true) : x.fEntries.length ≤ 60 := by
  simp only [goodWal, headOk, Bool.and_eq_true, decide_eq_true_eq] at h
  exact h.1.2

set_option maxHeartbeats 4000000 in
set_option maxRecDepth 100000 in
theorem iDropWal_calls (x : DWal) (n : Int) (v2 : Value) (w : World) (g2 : kEntry.S w x.fEntries v2) (hl : x.fEntries.length ≤ 1048576) : Calls Try.prog 12 #[.agg #[.int .i64 x.fFirst, .int .i64 x.fBefore, v2], .int .i64 n] w
    fun e w' => ∃ v, e = .returned (.tuple #[v, .bool (dropB x n)]) ∧ MadeW w w' (dropW x n) v := by
  have G := Lib.hid g2; clear g2
  by_cases hg : goodWal x = true
  case neg =>
    have HG := Lib.hid (show goodWal x = false by simpa using hg)
    have HI := Lib.hid (Eq.refl true)
    have hin : False → inB x.fFirst 1 1000000 = true := fun h => h.elim
    clear hg
    go_enter Try.func12, Try.ntmps12
    go_upto_region 1 with fail
    have HB := Lib.hid (((Below.refl w.heap.size w).alloc (Nat.le_refl _) (.cells #[.int .i64 x.fFirst, .int .i64 x.fBefore, v2] 25)).alloc (by simp) (.cells #[.int .i64 0, .int .i64 0, .slice none 0 0] 25))
    have B0 : Box ((w.alloc (.cells #[.int .i64 x.fFirst, .int .i64 x.fBefore, v2] 25)).alloc (.cells #[.int .i64 0, .int .i64 0, .slice none 0 0] 25)) w.heap.size #[.int .i64 x.fFirst, .int .i64 x.fBefore, v2] 25 := Box.alloc (Box.new rfl)
    have B2 : Box ((w.alloc (.cells #[.int .i64 x.fFirst, .int .i64 x.fBefore, v2] 25)).alloc (.cells #[.int .i64 0, .int .i64 0, .slice none 0 0] 25)) (w.heap.size + 1) #[.int .i64 0, .int .i64 0, .slice none 0 0] 25 := Box.new (by simp)
    have hs : w.heap.size + 1 + 1 ≤ ((w.alloc (.cells #[.int .i64 x.fFirst, .int .i64 x.fBefore, v2] 25)).alloc (.cells #[.int .i64 0, .int .i64 0, .slice none 0 0] 25)).heap.size := by simp
    generalize (w.alloc (.cells #[.int .i64 x.fFirst, .int .i64 x.fBefore, v2] 25)).alloc (.cells #[.int .i64 0, .int .i64 0, .slice none 0 0] 25) = w1 at *
    obtain ⟨A, c, rfl, hc, hC⟩ := G.out
    have GS := Lib.hid (Rp.S_below G.out HB.out)
    have c0_0 := B0.cell 0 (v := .int .i64 x.fFirst) rfl
    have c0_2 := B0.cell 2 (v := .slice A x.fEntries.length c) rfl
    have r0 := regr (Below.refl _ w1) B0.lt c0_0
    have r1 := regr (Below.refl _ w1) B0.lt (B0.cell 1 (v := .int .i64 x.fBefore) rfl)
    have r2 := regr (Below.refl _ w1) B0.lt c0_2
    have X0 := Lib.hid B0
    have X2 := Lib.hid B2
    clear B0 B2 c0_0 c0_2
    refine wp_region_quiet_below (by kernel_rfl) (by kernel_rfl) ?_
    repeat (go_big_quiet_step (first | exact Calls.regrown_of ((iGoodWal_calls x _ _ (Rp.S_below GS.out (below_regrown _ _ _)) (by omega)).mono (fun e w' h => ⟨by rw [h.1, HG.out], h.2⟩)) | exact Calls.regrown_of (iNext_calls _ _ _ _ _ _ (r0 _ _) (r2 _ _) hin (by omega)) | exact Calls.regrown_of ((iIn_calls _ _ _ _).mono (fun e w' h => ⟨by rw [h.1, HI.out], by rw [h.2]; exact Below.refl _ _⟩))))
    refine wpQuiet_nil ?_
    rintro w2 ⟨p, rfl⟩
    have hb := below_regrown w1 p.d p.os
    have B0 := X0.out.below hb
    have B2 := X2.out.below hb
    have HB2 := Lib.hid (HB.out.trans (hb.mono HB.out.size))
    have hs2 := Nat.le_trans hs hb.size
    clear X0 X2 HB hs r0 r1 r2 hb
    generalize grow (redrawn w1 p.d) p.os = w2 at *
    clear GS
    have c2_0 := B2.cell 0 (v := .int .i64 0) rfl
    have c2_1 := B2.cell 1 (v := .int .i64 0) rfl
    have c2_2 := B2.cell 2 (v := .slice none 0 0) rfl
    have f2 := B2.fro
    have X2 := Lib.hid B2
    clear B2 B0
    go_wp2
    obtain ⟨hk, bf⟩ := X2.out.stored [.int .i64 0, .int .i64 0, .slice none 0 0] 0
    change bodyPost _ _ _ _ _ (Rp.setN w2 (w.heap.size + 1) 0 [.int .i64 0, .int .i64 0, .slice none 0 0])
    clear c2_0 c2_1 c2_2 f2
    generalize Rp.setN w2 (w.heap.size + 1) 0 [.int .i64 0, .int .i64 0, .slice none 0 0] = wf at *
    have d0 := bf.cell 0 (v := .int .i64 0) rfl
    have d1 := bf.cell 1 (v := .int .i64 0) rfl
    have d2 := bf.cell 2 (v := .slice none 0 0) rfl
    refine bodyPost_ret (v := .tuple #[.agg #[.int .i64 0, .int .i64 0, .slice none 0 0], .bool false]) (by simp [results, Try.results12, go_sem, d0, d1, d2]) rfl ⟨_, by rw [dropB, HG.out, Bool.false_and, Bool.false_and], ?_⟩
    rw [show dropW x n = zWal by rw [dropW, dropB, HG.out, Bool.false_and, Bool.false_and]; rfl]
    exact MadeW.zero _ _ (HB2.out.trans (hk.toBelow (by omega) (by simp)))
  case pos =>
  have hin := goodWal_first hg
  have HG := Lib.hid hg
  clear hg
  have hin2 : 1 ≤ x.fFirst ∧ x.fFirst ≤ 1000000 := by simpa [inB] using hin
  obtain ⟨i1, i2⟩ := hin2
  have hw1 : IntKind.i64.wrap (x.fFirst - 1) = x.fFirst - 1 := by rw [IntKind.wrap_i64]; omega
  have hw2 : IntKind.i64.wrap (x.fFirst + x.fEntries.length - 1) = x.fFirst + x.fEntries.length - 1 := by rw [IntKind.wrap_i64]; omega
  by_cases hi : inB n (x.fFirst - 1) (x.fFirst + x.fEntries.length - 1) = true
  case neg =>
    have HI := Lib.hid (show inB n (x.fFirst - 1) (x.fFirst + x.fEntries.length - 1) = false by simpa using hi)
    clear hi
    go_enter Try.func12, Try.ntmps12
    go_upto_region 1 with fail
    have HB := Lib.hid (((Below.refl w.heap.size w).alloc (Nat.le_refl _) (.cells #[.int .i64 x.fFirst, .int .i64 x.fBefore, v2] 25)).alloc (by simp) (.cells #[.int .i64 0, .int .i64 0, .slice none 0 0] 25))
    have B0 : Box ((w.alloc (.cells #[.int .i64 x.fFirst, .int .i64 x.fBefore, v2] 25)).alloc (.cells #[.int .i64 0, .int .i64 0, .slice none 0 0] 25)) w.heap.size #[.int .i64 x.fFirst, .int .i64 x.fBefore, v2] 25 := Box.alloc (Box.new rfl)
    have B2 : Box ((w.alloc (.cells #[.int .i64 x.fFirst, .int .i64 x.fBefore, v2] 25)).alloc (.cells #[.int .i64 0, .int .i64 0, .slice none 0 0] 25)) (w.heap.size + 1) #[.int .i64 0, .int .i64 0, .slice none 0 0] 25 := Box.new (by simp)
    have hs : w.heap.size + 1 + 1 ≤ ((w.alloc (.cells #[.int .i64 x.fFirst, .int .i64 x.fBefore, v2] 25)).alloc (.cells #[.int .i64 0, .int .i64 0, .slice none 0 0] 25)).heap.size := by simp
    generalize (w.alloc (.cells #[.int .i64 x.fFirst, .int .i64 x.fBefore, v2] 25)).alloc (.cells #[.int .i64 0, .int .i64 0, .slice none 0 0] 25) = w1 at *
    obtain ⟨A, c, rfl, hc, hC⟩ := G.out
    have GS := Lib.hid (Rp.S_below G.out HB.out)
    have c0_0 := B0.cell 0 (v := .int .i64 x.fFirst) rfl
    have c0_2 := B0.cell 2 (v := .slice A x.fEntries.length c) rfl
    have r0 := regr (Below.refl _ w1) B0.lt c0_0
    have r1 := regr (Below.refl _ w1) B0.lt (B0.cell 1 (v := .int .i64 x.fBefore) rfl)
    have r2 := regr (Below.refl _ w1) B0.lt c0_2
    have X0 := Lib.hid B0
    have X2 := Lib.hid B2
    clear B0 B2 c0_0 c0_2
    refine wp_region_quiet_below (by kernel_rfl) (by kernel_rfl) ?_
    repeat (go_big_quiet_step (first | exact Calls.regrown_of ((iGoodWal_calls x _ _ (Rp.S_below GS.out (below_regrown _ _ _)) (by omega)).mono (fun e w' h => ⟨by rw [h.1, HG.out], h.2⟩)) | exact Calls.regrown_of (iNext_calls _ _ _ _ _ _ (r0 _ _) (r2 _ _) hin (by omega)) | exact Calls.regrown_of ((iIn_calls _ _ _ _).mono (fun e w' h => ⟨by rw [h.1, HI.out], by rw [h.2]; exact Below.refl _ _⟩))))
    refine wpQuiet_nil ?_
    rintro w2 ⟨p, rfl⟩
    have hb := below_regrown w1 p.d p.os
    have B0 := X0.out.below hb
    have B2 := X2.out.below hb
    have HB2 := Lib.hid (HB.out.trans (hb.mono HB.out.size))
    have hs2 := Nat.le_trans hs hb.size
    clear X0 X2 HB hs r0 r1 r2 hb
    generalize grow (redrawn w1 p.d) p.os = w2 at *
    clear GS
    have c2_0 := B2.cell 0 (v := .int .i64 0) rfl
    have c2_1 := B2.cell 1 (v := .int .i64 0) rfl
    have c2_2 := B2.cell 2 (v := .slice none 0 0) rfl
    have f2 := B2.fro
    have X2 := Lib.hid B2
    clear B2 B0
    go_wp2
    obtain ⟨hk, bf⟩ := X2.out.stored [.int .i64 0, .int .i64 0, .slice none 0 0] 0
    change bodyPost _ _ _ _ _ (Rp.setN w2 (w.heap.size + 1) 0 [.int .i64 0, .int .i64 0, .slice none 0 0])
    clear c2_0 c2_1 c2_2 f2
    generalize Rp.setN w2 (w.heap.size + 1) 0 [.int .i64 0, .int .i64 0, .slice none 0 0] = wf at *
    have d0 := bf.cell 0 (v := .int .i64 0) rfl
    have d1 := bf.cell 1 (v := .int .i64 0) rfl
    have d2 := bf.cell 2 (v := .slice none 0 0) rfl
    refine bodyPost_ret (v := .tuple #[.agg #[.int .i64 0, .int .i64 0, .slice none 0 0], .bool false]) (by simp [results, Try.results12, go_sem, d0, d1, d2]) rfl ⟨_, by rw [dropB, HG.out, HI.out, Bool.and_false, Bool.false_and], ?_⟩
    rw [show dropW x n = zWal by rw [dropW, dropB, HG.out, HI.out, Bool.and_false, Bool.false_and]; rfl]
    exact MadeW.zero _ _ (HB2.out.trans (hk.toBelow (by omega) (by simp)))
  case pos =>
    have HI := Lib.hid hi
    have hj : x.fFirst - 1 ≤ n ∧ n ≤ x.fFirst + x.fEntries.length - 1 := by simpa [inB] using hi
    obtain ⟨j1, j2⟩ := hj
    clear hi
    by_cases hn : n < x.fFirst
    case pos =>
      obtain rfl : n = x.fFirst - 1 := by omega
      go_enter Try.func12, Try.ntmps12
      go_upto_region 1 with fail
      have HB := Lib.hid (((Below.refl w.heap.size w).alloc (Nat.le_refl _) (.cells #[.int .i64 x.fFirst, .int .i64 x.fBefore, v2] 25)).alloc (by simp) (.cells #[.int .i64 0, .int .i64 0, .slice none 0 0] 25))
      have B0 : Box ((w.alloc (.cells #[.int .i64 x.fFirst, .int .i64 x.fBefore, v2] 25)).alloc (.cells #[.int .i64 0, .int .i64 0, .slice none 0 0] 25)) w.heap.size #[.int .i64 x.fFirst, .int .i64 x.fBefore, v2] 25 := Box.alloc (Box.new rfl)
      have B2 : Box ((w.alloc (.cells #[.int .i64 x.fFirst, .int .i64 x.fBefore, v2] 25)).alloc (.cells #[.int .i64 0, .int .i64 0, .slice none 0 0] 25)) (w.heap.size + 1) #[.int .i64 0, .int .i64 0, .slice none 0 0] 25 := Box.new (by simp)
      have hs : w.heap.size + 1 + 1 ≤ ((w.alloc (.cells #[.int .i64 x.fFirst, .int .i64 x.fBefore, v2] 25)).alloc (.cells #[.int .i64 0, .int .i64 0, .slice none 0 0] 25)).heap.size := by simp
      generalize (w.alloc (.cells #[.int .i64 x.fFirst, .int .i64 x.fBefore, v2] 25)).alloc (.cells #[.int .i64 0, .int .i64 0, .slice none 0 0] 25) = w1 at *
      obtain ⟨A, c, rfl, hc, hC⟩ := G.out
      have GS := Lib.hid (Rp.S_below G.out HB.out)
      have c0_0 := B0.cell 0 (v := .int .i64 x.fFirst) rfl
      have c0_2 := B0.cell 2 (v := .slice A x.fEntries.length c) rfl
      have r0 := regr (Below.refl _ w1) B0.lt c0_0
      have r1 := regr (Below.refl _ w1) B0.lt (B0.cell 1 (v := .int .i64 x.fBefore) rfl)
      have r2 := regr (Below.refl _ w1) B0.lt c0_2
      have X0 := Lib.hid B0
      have X2 := Lib.hid B2
      clear B0 B2 c0_0 c0_2
      refine wp_region_quiet_below (by kernel_rfl) (by kernel_rfl) ?_
      repeat (go_big_quiet_step (first | exact Calls.regrown_of ((iGoodWal_calls x _ _ (Rp.S_below GS.out (below_regrown _ _ _)) (by omega)).mono (fun e w' h => ⟨by rw [h.1, HG.out], h.2⟩)) | exact Calls.regrown_of (iNext_calls _ _ _ _ _ _ (r0 _ _) (r2 _ _) hin (by omega)) | exact Calls.regrown_of ((iIn_calls _ _ _ _).mono (fun e w' h => ⟨by rw [h.1, HI.out], by rw [h.2]; exact Below.refl _ _⟩))))
      refine wpQuiet_nil ?_
      rintro w2 ⟨p, rfl⟩
      have hb := below_regrown w1 p.d p.os
      have B0 := X0.out.below hb
      have B2 := X2.out.below hb
      have HB2 := Lib.hid (HB.out.trans (hb.mono HB.out.size))
      have hs2 := Nat.le_trans hs hb.size
      clear X0 X2 HB hs r0 r1 r2 hb
      generalize grow (redrawn w1 p.d) p.os = w2 at *
      clear GS
      have c0_0 := B0.cell 0 (v := .int .i64 x.fFirst) rfl
      have c0_1 := B0.cell 1 (v := .int .i64 x.fBefore) rfl
      have c0_2 := B0.cell 2 (v := .slice A x.fEntries.length c) rfl
      have X2 := Lib.hid B2
      clear B0 B2
      go_wp2_with fail
      (with_reducible refine (cloneWal_calls x _ _ (Rp.S_below G.out HB2.out) (by omega)).mono ?_)
      rintro e w4 ⟨v5, rfl, v6, F6, rfl, t2, t3, t4, hc⟩
      obtain ⟨pa, pc, rfl, _, _⟩ := Rp.Row_K t2
      have B2 := X2.out.below hc
      have c2_0 := B2.cell 0 (v := .int .i64 0) rfl
      have c2_1 := B2.cell 1 (v := .int .i64 0) rfl
      have c2_2 := B2.cell 2 (v := .slice none 0 0) rfl
      have f2 := B2.fro
      go_wp2
      have HK : Below w.heap.size w w4 := HB2.out.trans (hc.mono HB2.out.size)
      obtain ⟨hk, bf⟩ := B2.stored [.int .i64 x.fFirst, .int .i64 x.fBefore, .slice pa x.fEntries.length pc] 0
      have q := Rp.Row_kept t2 hk (fun b hm => by have := t3 b hm; simp; omega)
      change bodyPost _ _ _ _ _ (Rp.setN w4 (w.heap.size + 1) 0 [.int .i64 x.fFirst, .int .i64 x.fBefore, .slice pa x.fEntries.length pc])
      clear c2_0 c2_1 c2_2 f2 B2 t2 c0_0 c0_1 c0_2
      generalize Rp.setN w4 (w.heap.size + 1) 0 [.int .i64 x.fFirst, .int .i64 x.fBefore, .slice pa x.fEntries.length pc] = wf at *
      have d0 := bf.cell 0 (v := .int .i64 x.fFirst) rfl
      have d1 := bf.cell 1 (v := .int .i64 x.fBefore) rfl
      have d2 := bf.cell 2 (v := .slice pa x.fEntries.length pc) rfl
      have e1 : decide (x.fFirst - 1 < 1000000) = true := by simp; omega
      refine bodyPost_ret (v := .tuple #[.agg #[.int .i64 x.fFirst, .int .i64 x.fBefore, .slice pa x.fEntries.length pc], .bool true]) (by simp [results, Try.results12, go_sem, d0, d1, d2]) rfl ⟨_, by rw [dropB, HG.out, HI.out, e1]; rfl, ?_⟩
      rw [show dropW x (x.fFirst - 1) = x by rw [dropW, dropB, HG.out, HI.out, e1, show (x.fFirst - 1 - x.fFirst + 1).toNat = 0 by omega]; rfl]
      exact ⟨_, F6, rfl, q, fun b hm => by have := t3 b hm; omega, t4, HK.trans (hk.toBelow (by have := HK.size; have := hc.size; omega) (by simp))⟩
    case neg =>
      obtain ⟨k, rfl⟩ : ∃ k : Nat, n = x.fFirst + k := ⟨(n - x.fFirst).toNat, by omega⟩
      have hkl : k < x.fEntries.length := by omega
      have i60 : x.fEntries.length ≤ 60 := goodWal_len HG.out
      have hw3 : IntKind.i64.wrap (x.fFirst + k - x.fFirst) = k := by
        rw [show x.fFirst + (k : Int) - x.fFirst = k by omega, IntKind.wrap_i64]
        omega
      have hw4 : IntKind.i64.wrap ((k : Int) + 1) = k + 1 := by rw [IntKind.wrap_i64]; omega
      have hw5 : IntKind.i64.wrap ((k : Int) + 1 - 1) = k := by rw [show (k : Int) + 1 - 1 = k by omega, IntKind.wrap_i64]; omega
      have hw7 : IntKind.i64.wrap (k : Int) = k := by rw [IntKind.wrap_i64]; omega
      have hw6 : IntKind.i64.wrap (x.fFirst + k + 1) = x.fFirst + k + 1 := by rw [IntKind.wrap_i64]; omega
      have k0 : (0 : Int) ≤ (k : Int) := by omega
      have k1 : (k : Int) < (x.fEntries.length : Int) := by omega
      have k2 : (k : Int) + 1 ≤ (x.fEntries.length : Int) := by omega
      have k3 : (0 : Int) ≤ (k : Int) + 1 := by omega
      go_enter Try.func12, Try.ntmps12
      go_upto_region 1 with fail
      have HB := Lib.hid (((Below.refl w.heap.size w).alloc (Nat.le_refl _) (.cells #[.int .i64 x.fFirst, .int .i64 x.fBefore, v2] 25)).alloc (by simp) (.cells #[.int .i64 0, .int .i64 0, .slice none 0 0] 25))
      have B0 : Box ((w.alloc (.cells #[.int .i64 x.fFirst, .int .i64 x.fBefore, v2] 25)).alloc (.cells #[.int .i64 0, .int .i64 0, .slice none 0 0] 25)) w.heap.size #[.int .i64 x.fFirst, .int .i64 x.fBefore, v2] 25 := Box.alloc (Box.new rfl)
      have B2 : Box ((w.alloc (.cells #[.int .i64 x.fFirst, .int .i64 x.fBefore, v2] 25)).alloc (.cells #[.int .i64 0, .int .i64 0, .slice none 0 0] 25)) (w.heap.size + 1) #[.int .i64 0, .int .i64 0, .slice none 0 0] 25 := Box.new (by simp)
      have hs : w.heap.size + 1 + 1 ≤ ((w.alloc (.cells #[.int .i64 x.fFirst, .int .i64 x.fBefore, v2] 25)).alloc (.cells #[.int .i64 0, .int .i64 0, .slice none 0 0] 25)).heap.size := by simp
      generalize (w.alloc (.cells #[.int .i64 x.fFirst, .int .i64 x.fBefore, v2] 25)).alloc (.cells #[.int .i64 0, .int .i64 0, .slice none 0 0] 25) = w1 at *
      obtain ⟨A, c, rfl, hc, hC⟩ := G.out
      have GS := Lib.hid (Rp.S_below G.out HB.out)
      have c0_0 := B0.cell 0 (v := .int .i64 x.fFirst) rfl
      have c0_2 := B0.cell 2 (v := .slice A x.fEntries.length c) rfl
      have r0 := regr (Below.refl _ w1) B0.lt c0_0
      have r1 := regr (Below.refl _ w1) B0.lt (B0.cell 1 (v := .int .i64 x.fBefore) rfl)
      have r2 := regr (Below.refl _ w1) B0.lt c0_2
      have X0 := Lib.hid B0
      have X2 := Lib.hid B2
      clear B0 B2 c0_0 c0_2
      refine wp_region_quiet_below (by kernel_rfl) (by kernel_rfl) ?_
      repeat (go_big_quiet_step (first | exact Calls.regrown_of ((iGoodWal_calls x _ _ (Rp.S_below GS.out (below_regrown _ _ _)) (by omega)).mono (fun e w' h => ⟨by rw [h.1, HG.out], h.2⟩)) | exact Calls.regrown_of (iNext_calls _ _ _ _ _ _ (r0 _ _) (r2 _ _) hin (by omega)) | exact Calls.regrown_of ((iIn_calls _ _ _ _).mono (fun e w' h => ⟨by rw [h.1, HI.out], by rw [h.2]; exact Below.refl _ _⟩))))
      refine wpQuiet_nil ?_
      rintro w2 ⟨p, rfl⟩
      have hb := below_regrown w1 p.d p.os
      have B0 := X0.out.below hb
      have B2 := X2.out.below hb
      have HB2 := Lib.hid (HB.out.trans (hb.mono HB.out.size))
      have hs2 := Nat.le_trans hs hb.size
      clear X0 X2 HB hs r0 r1 r2 hb
      generalize grow (redrawn w1 p.d) p.os = w2 at *
      clear GS
      have c0_0 := B0.cell 0 (v := .int .i64 x.fFirst) rfl
      have c0_1 := B0.cell 1 (v := .int .i64 x.fBefore) rfl
      have c0_2 := B0.cell 2 (v := .slice A x.fEntries.length c) rfl
      have X2 := Lib.hid B2
      clear B0 B2
      obtain ⟨b, o, cs, rfl, kk1, kq1⟩ := Rp.C_get hC k hkl
      obtain rfl := kEntry_K kk1
      have k4 : (k : Int) + 1 ≤ (c : Int) := by have := hc.1; omega
      have k5 : (x.fEntries.length : Int) ≤ (c : Int) := by have := hc.1; omega
      have hbw := World.block_lt_of_cell? w _ (kq1 0 _ rfl)
      have a0 := (HB2.out.cell hbw).trans (kq1 0 _ rfl)
      simp only [kEntry_sz, Nat.add_zero] at a0 hbw
      have hbw1 : b < w.heap.size + 1 := by omega
      have hB : w.heap.size + 1 ≤ w2.heap.size := by omega
      have hx0 : w.heap.size < w.heap.size + 1 := by omega
      clear kq1 kk1
      have TA : ∀ (v : Value) (W : World), kEntry.S W (x.fEntries.drop (k + 1)) v → Calls Try.prog 19 #[.agg #[.int .i64 (x.fFirst + k + 1), .int .i64 x.fEntries[k].fTerm, v]] W
          fun e w' => ∃ v, e = .returned (.tuple #[v, .bool (goodWal (restW x (k + 1)))]) ∧ MadeW W w' (toldW (restW x (k + 1))) v := fun v W h => by
        have C4 := told_calls (restW x (k + 1)) v W h (by rw [restW_ent, List.length_drop]; omega)
        rwa [restW_first, restW_bef hkl] at C4
      by_cases hck : c = k + 1
      all_goals
        go_upto_region 6 with fail
        go_region_held3 (fun w' => Below (w.heap.size + 1) w2 w' ∧ ∀ b j, b < w.heap.size + 1 → w'.cell? ⟨b, j, none⟩ = w2.cell? ⟨b, j, none⟩)
          (first | ((try go_split_ands); refine SBofB ?_; repeat (first | assumption | (with_reducible exact Below.refl _ _) | (with_reducible refine below_callB hB ?_ hc4) | (with_reducible refine Below.drew ?_) | (with_reducible refine Below.setCell ?_ (by first | (simp; done) | omega | (simp; omega)) _))))
          (first
            | (go_at_call 19; go_loud ((first | refine (TA _ _ (Rp.S_dropE (k + 1) (by have := hc.1; omega) _ _ _ (by simp))).mono ?_ | refine (TA _ _ (Rp.S_dropN (Rp.S_below G.out (Below.drew HB2.out)) (k + 1) (by omega) _ rfl)).mono ?_); rintro e w4 ⟨v5, rfl, v6, F6, rfl, t2, t3, t4, hc4⟩; obtain ⟨pa6, pc6, rfl, _, _⟩ := Rp.Row_K t2; have B2 := Box.below (Box.drew X2.out) hc4; have c2_0 := B2.cell 0 (v := .int .i64 0) rfl; have c2_1 := B2.cell 1 (v := .int .i64 0) rfl; have c2_2 := B2.cell 2 (v := .slice none 0 0) rfl; have f2 := B2.fro)))
        go_wp2
        have HK : Below w.heap.size w w4 := HB2.out.trans ((Below.trans (Below.refl _ _).drew hc4).mono HB2.out.size)
        have z4 := hc4.size
        obtain ⟨hk, bf⟩ := B2.stored [.int .i64 (toldW (restW x (k + 1))).fFirst, .int .i64 (toldW (restW x (k + 1))).fBefore, .slice pa6 (toldW (restW x (k + 1))).fEntries.length pc6] 0
        have q := Rp.Row_kept t2 hk (fun b hm => by have := t3 b hm; simp at this ⊢; omega)
        change bodyPost _ _ _ _ _ (Rp.setN w4 (w.heap.size + 1) 0 [.int .i64 (toldW (restW x (k + 1))).fFirst, .int .i64 (toldW (restW x (k + 1))).fBefore, .slice pa6 (toldW (restW x (k + 1))).fEntries.length pc6])
        clear c2_0 c2_1 c2_2 f2 B2 t2
        generalize Rp.setN w4 (w.heap.size + 1) 0 [.int .i64 (toldW (restW x (k + 1))).fFirst, .int .i64 (toldW (restW x (k + 1))).fBefore, .slice pa6 (toldW (restW x (k + 1))).fEntries.length pc6] = wf at *
        have d0 := bf.cell 0 (v := .int .i64 (toldW (restW x (k + 1))).fFirst) rfl
        have d1 := bf.cell 1 (v := .int .i64 (toldW (restW x (k + 1))).fBefore) rfl
        have d2 := bf.cell 2 (v := .slice pa6 (toldW (restW x (k + 1))).fEntries.length pc6) rfl
        have e1 : goodWal (restW x (k + 1)) = decide (x.fFirst + k < 1000000) := by rw [goodWal_rest HG.out (by omega)]; congr 1; simp; omega
        have e2 : (x.fFirst + (k : Int) - x.fFirst + 1).toNat = k + 1 := by omega
        refine bodyPost_ret (v := .tuple #[.agg #[.int .i64 (toldW (restW x (k + 1))).fFirst, .int .i64 (toldW (restW x (k + 1))).fBefore, .slice pa6 (toldW (restW x (k + 1))).fEntries.length pc6], .bool (goodWal (restW x (k + 1)))]) (by simp [results, Try.results12, go_sem, d0, d1, d2]) rfl ⟨_, by rw [dropB, HG.out, HI.out, e1]; rfl, ?_⟩
        rw [show dropW x (x.fFirst + k) = toldW (restW x (k + 1)) by rw [dropW, toldW, dropB, HG.out, HI.out, e1, e2]; rfl]
        exact ⟨_, F6, rfl, q, fun b hm => by have := t3 b hm; simp at this; omega, t4, HK.trans (hk.toBelow (by have := HK.size; omega) (by simp))⟩
end Go.Proofs.Ytjigbmgfjmghcaa
