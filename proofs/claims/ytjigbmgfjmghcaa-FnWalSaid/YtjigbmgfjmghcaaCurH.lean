/- What is read off logs: the same, the last, one entry. -/
import Derived.Test.YtjigbmgfjmghcaaCurG
import Derived.Test.YtjigbmgfjmghcaaWalL
namespace Go.Proofs.Ytjigbmgfjmghcaa
open Go Go.RowKit Go.Sort
set_option linter.unusedVariables false
set_option linter.unusedSimpArgs false

theorem toL_injC {a b : ByteArray} (h : a.toList = b.toList) : a = b := by
  rw [ByteArray.toList_eq, ByteArray.toList_eq] at h
  cases a; cases b
  congr 1
  exact Array.ext' h
theorem entD {w : World} {A : Option Addr} {xs : List DEntry} (h : kEntry.C w A xs) (k : Nat) (hk : k < xs.length) : ∃ b o, A = some ⟨b, o, none⟩ ∧ w.cell? ⟨b, o + k * 2, none⟩ = some (.int .i64 xs[k].fTerm) ∧ w.cell? ⟨b, o + k * 2 + 1, none⟩ = some (.string xs[k].fData) := by
  obtain ⟨b, o, cs, rfl, k1, q1⟩ := Rp.C_get h k hk
  obtain rfl := kEntry_K k1
  refine ⟨b, o, rfl, ?_, ?_⟩
  · have := q1 0 _ rfl
    simpa [kEntry_sz] using this
  · have := q1 1 _ rfl
    simpa [kEntry_sz] using this
set_option maxHeartbeats 4000000 in
set_option maxRecDepth 100000 in
theorem iTermP_calls (x : DWal) (b : Nat) (A2 : Option Addr) (c2 : Nat) (w : World) (k1 : w.cell? ⟨b, 1, none⟩ = some (.int .i64 x.fBefore)) (k2 : w.cell? ⟨b, 2, none⟩ = some (.slice A2 x.fEntries.length c2)) (g2 : kEntry.S w x.fEntries (.slice A2 x.fEntries.length c2)) (hl : x.fEntries.length ≤ 1048576) : Calls Try.prog 24 #[.pointer (some ⟨b, 0, none⟩)] w
    fun e w' => e = .returned (.int .i64 (termW x)) ∧ w' = w := by
  obtain ⟨A_, c_, e_, _, hC⟩ := g2
  obtain ⟨rfl, _, rfl⟩ := Value.slice.inj e_
  clear e_
  by_cases hz : x.fEntries.length = 0
  · have HT := Lib.hid (termW_none hz)
    rw [hz] at k2
    go_enter Try.func24, Try.ntmps24
    go_wp2
    go_ret
    exact ⟨by rw [HT.out]; rfl, rfl⟩
  · have HT := Lib.hid (termW_some (x := x) (by omega))
    obtain ⟨g, o, rfl, a0, _⟩ := entD hC (x.fEntries.length - 1) (by omega)
    generalize (x.fEntries[x.fEntries.length - 1]).fTerm = t at *
    obtain ⟨n, hn⟩ : ∃ n, x.fEntries.length = n + 1 := ⟨x.fEntries.length - 1, by omega⟩
    rw [hn] at a0 k2 hl
    rw [show n + 1 - 1 = n by omega] at a0
    have i1 : (0 : Int) < (n : Int) + 1 := by omega
    have i2 : (n : Int) ≤ 1048576 := by omega
    clear hC hn
    go_enter Try.func24, Try.ntmps24
    go_wp2
    go_ret
    exact ⟨by rw [HT.out]; rfl, rfl⟩
set_option maxHeartbeats 4000000 in
set_option maxRecDepth 100000 in
theorem same_calls (x : DWal) (v1 v2 : Value) (w : World) (g1 : kEntry.S w x.fEntries v1) (g2 : kEntry.S w x.fEntries v2) (hl : x.fEntries.length ≤ 1048576) : Calls Try.prog 7 #[.agg #[.int .i64 x.fFirst, .int .i64 x.fBefore, v1], .agg #[.int .i64 x.fFirst, .int .i64 x.fBefore, v2]] w
    fun e w' => e = .returned (.bool true) ∧ Below w.heap.size w w' := by
  obtain ⟨A1, c1, rfl, _, h1⟩ := g1
  obtain ⟨A2, c2, rfl, _, h2⟩ := g2
  have H1 := Lib.hid h1; have H2 := Lib.hid h2
  clear h1 h2
  have y1 : Box ((w.alloc (.cells #[.int .i64 x.fFirst, .int .i64 x.fBefore, .slice A1 x.fEntries.length c1] 25)).alloc (.cells #[.int .i64 x.fFirst, .int .i64 x.fBefore, .slice A2 x.fEntries.length c2] 25)) w.heap.size #[.int .i64 x.fFirst, .int .i64 x.fBefore, .slice A1 x.fEntries.length c1] 25 := Box.alloc (Box.new rfl)
  have y2 : Box ((w.alloc (.cells #[.int .i64 x.fFirst, .int .i64 x.fBefore, .slice A1 x.fEntries.length c1] 25)).alloc (.cells #[.int .i64 x.fFirst, .int .i64 x.fBefore, .slice A2 x.fEntries.length c2] 25)) (w.heap.size + 1) #[.int .i64 x.fFirst, .int .i64 x.fBefore, .slice A2 x.fEntries.length c2] 25 := Box.new (by simp)
  have hb1 : Below w.heap.size w ((w.alloc (.cells #[.int .i64 x.fFirst, .int .i64 x.fBefore, .slice A1 x.fEntries.length c1] 25)).alloc (.cells #[.int .i64 x.fFirst, .int .i64 x.fBefore, .slice A2 x.fEntries.length c2] 25)) := Below.alloc ((Below.refl w.heap.size w).alloc (Nat.le_refl _) _) (by simp) _
  go_enter Try.func7, Try.ntmps7
  go_upto_region 1 with fail
  generalize (w.alloc (.cells #[.int .i64 x.fFirst, .int .i64 x.fBefore, .slice A1 x.fEntries.length c1] 25)).alloc (.cells #[.int .i64 x.fFirst, .int .i64 x.fBefore, .slice A2 x.fEntries.length c2] 25) = w1 at *
  have Y1 := Lib.hid y1; have Y2 := Lib.hid y2; have HB := Lib.hid hb1
  have e10 := y1.cell 0 (v := .int .i64 x.fFirst) rfl; have e11 := y1.cell 1 (v := .int .i64 x.fBefore) rfl; have e12 := y1.cell 2 (v := .slice A1 x.fEntries.length c1) rfl
  have e20 := y2.cell 0 (v := .int .i64 x.fFirst) rfl; have e21 := y2.cell 1 (v := .int .i64 x.fBefore) rfl; have e22 := y2.cell 2 (v := .slice A2 x.fEntries.length c2) rfl
  clear y1 y2 hb1
  go_wp2
  go_loopw [30] (fun i wr => ∃ k : Nat, k ≤ x.fEntries.length ∧ i = .int .i64 k ∧ Hid (Below w.heap.size w wr) ∧ Hid (Box wr w.heap.size #[.int .i64 x.fFirst, .int .i64 x.fBefore, .slice A1 x.fEntries.length c1] 25) ∧ Hid (Box wr (w.heap.size + 1) #[.int .i64 x.fFirst, .int .i64 x.fBefore, .slice A2 x.fEntries.length c2] 25)) (fun i _ => x.fEntries.length - (intOf i).toNat)
  case atStart => exact ⟨0, Nat.zero_le _, rfl, HB.out, Y1.out, Y2.out⟩
  case round =>
    clear HB Y1 Y2 e10 e11 e12 e20 e21 e22
    obtain ⟨k, hk, rfl, HB, Y1, Y2⟩ := hrel
    by_cases hlt : k < x.fEntries.length
    · have i1 : (0 : Int) ≤ (k : Int) := by omega
      have i2 : (k : Int) < (x.fEntries.length : Int) := by omega
      obtain ⟨g1, o1, rfl, a10, a11⟩ := entD (Rp.C_below HB.out.block H1.out) k hlt
      obtain ⟨g2, o2, rfl, a20, a21⟩ := entD (Rp.C_below HB.out.block H2.out) k hlt
      generalize x.fEntries[k] = y at *
      have e12 := Y1.out.cell 2 (v := .slice (some ⟨g1, o1, none⟩) x.fEntries.length c1) rfl
      have e22 := Y2.out.cell 2 (v := .slice (some ⟨g2, o2, none⟩) x.fEntries.length c2) rfl
      go_upto_region 6 with fail
      refine wp_region_still_lit (by kernel_rfl) (by kernel_rfl) ?_
      repeat still_step
      refine wpStill_nil ?_
      change Exit.then _ _ _ _ wr.drew
      have HB := Lib.hid HB.out.drew; have Y1 := Lib.hid Y1.out.drew; have Y2 := Lib.hid Y2.out.drew
      clear a10 a11 a20 a21 e12 e22
      generalize wr.drew = wd at *
      go_wp2
      exact ⟨⟨k + 1, by omega, by go_num, HB.out, Y1.out, Y2.out⟩, by simp [intOf]; omega⟩
    · have i2 : ¬ (k : Int) < (x.fEntries.length : Int) := by omega
      go_wp2
      go_ret
      exact ⟨rfl, HB.out⟩
set_option maxHeartbeats 4000000 in
set_option maxRecDepth 100000 in
theorem last_calls (x : DWal) (v2 : Value) (w : World) (hg : goodWal x = true) (g2 : kEntry.S w x.fEntries v2) : Calls Try.prog 8 #[.agg #[.int .i64 x.fFirst, .int .i64 x.fBefore, v2]] w
    fun e w' => e = .returned (.tuple #[.int .i64 (x.fFirst + x.fEntries.length - 1), .int .i64 (termW x), .bool true]) ∧ Below w.heap.size w w' := by
  have hl := goodWal_len hg
  have hf := goodWal_first hg
  have HF := Lib.hid hf
  obtain ⟨z1, z2⟩ := inB_iff.1 hf
  have G := Lib.hid g2
  obtain ⟨A2, c2, rfl, _, _⟩ := g2
  have HG := Lib.hid hg
  have y1 : Box (w.alloc (.cells #[.int .i64 x.fFirst, .int .i64 x.fBefore, .slice A2 x.fEntries.length c2] 25)) w.heap.size #[.int .i64 x.fFirst, .int .i64 x.fBefore, .slice A2 x.fEntries.length c2] 25 := Box.new rfl
  have hb1 := (Below.refl w.heap.size w).alloc (Nat.le_refl _) (.cells #[.int .i64 x.fFirst, .int .i64 x.fBefore, .slice A2 x.fEntries.length c2] 25)
  clear hg hf
  go_enter Try.func8, Try.ntmps8
  go_upto_region 1 with fail
  generalize w.alloc (.cells #[.int .i64 x.fFirst, .int .i64 x.fBefore, .slice A2 x.fEntries.length c2] 25) = w1 at *
  have Y1 := Lib.hid y1; have HB := Lib.hid hb1; have G := Lib.hid (Rp.S_below G.out hb1)
  have e10 := y1.cell 0 (v := .int .i64 x.fFirst) rfl; have e11 := y1.cell 1 (v := .int .i64 x.fBefore) rfl; have e12 := y1.cell 2 (v := .slice A2 x.fEntries.length c2) rfl
  clear y1 hb1
  go_wp2_with fail
  (with_reducible refine (iGoodWal_calls x _ _ G.out (by omega)).mono ?_)
  rintro e w2 ⟨rfl, hb⟩
  rw [HG.out]
  have Y1 := Lib.hid (Y1.out.below hb); have HB := Lib.hid (HB.out.trans (hb.mono HB.out.size)); have G := Lib.hid (Rp.S_below G.out hb)
  clear hb e10 e11 e12
  go_wp2_with fail
  (with_reducible refine (iNext_calls x.fFirst w.heap.size x.fEntries.length c2 A2 _ (Y1.out.cell 0 (v := .int .i64 x.fFirst) rfl) (Y1.out.cell 2 (v := .slice A2 x.fEntries.length c2) rfl) HF.out (by omega)).mono ?_)
  rintro e w3 ⟨rfl, hb⟩
  have Y1 := Lib.hid (Y1.out.below hb); have HB := Lib.hid (HB.out.trans (hb.mono HB.out.size)); have G := Lib.hid (Rp.S_below G.out hb)
  clear hb
  go_wp2_with fail
  (with_reducible refine (iTermP_calls x w.heap.size A2 c2 _ (Y1.out.cell 1 (v := .int .i64 x.fBefore) rfl) (Y1.out.cell 2 (v := .slice A2 x.fEntries.length c2) rfl) G.out (by omega)).mono ?_)
  rintro e w4 ⟨rfl, hw⟩
  rw [hw]
  clear hw
  go_wp2
  exact bodyPost_ret (v := .tuple #[.int .i64 (x.fFirst + x.fEntries.length - 1), .int .i64 (termW x), .bool true]) (by simp [results, Try.results8, go_sem]) rfl ⟨rfl, HB.out⟩
set_option maxHeartbeats 4000000 in
set_option maxRecDepth 100000 in
theorem entryAt_calls (x : DWal) (k : Nat) (v2 : Value) (w : World) (hg : goodWal x = true) (hk : k < x.fEntries.length) (g2 : kEntry.S w x.fEntries v2) : Calls Try.prog 9 #[.agg #[.int .i64 x.fFirst, .int .i64 x.fBefore, v2], .int .i64 (x.fFirst + (k : Int))] w
    fun e w' => e = .returned (.tuple #[.agg #[.int .i64 x.fEntries[k].fTerm, .string x.fEntries[k].fData], .bool true]) ∧ Below w.heap.size w w' := by
  have hl := goodWal_len hg
  have hin := goodWal_first hg
  obtain ⟨z1, z2⟩ := inB_iff.1 hin
  have G := Lib.hid g2
  obtain ⟨A2, c2, rfl, _, _⟩ := g2
  have HG := Lib.hid hg
  have HI := Lib.hid (show inB (x.fFirst + (k : Int)) x.fFirst (x.fFirst + x.fEntries.length - 1) = true from inB_yes (by omega) (by omega))
  have y1 : Box ((w.alloc (.cells #[.int .i64 x.fFirst, .int .i64 x.fBefore, .slice A2 x.fEntries.length c2] 25)).alloc (.cells #[.int .i64 0, .string ⟨#[]⟩] 27)) w.heap.size #[.int .i64 x.fFirst, .int .i64 x.fBefore, .slice A2 x.fEntries.length c2] 25 := Box.alloc (Box.new rfl)
  have y2 : Box ((w.alloc (.cells #[.int .i64 x.fFirst, .int .i64 x.fBefore, .slice A2 x.fEntries.length c2] 25)).alloc (.cells #[.int .i64 0, .string ⟨#[]⟩] 27)) (w.heap.size + 1) #[.int .i64 0, .string ⟨#[]⟩] 27 := Box.new (by simp)
  have hb1 : Below w.heap.size w ((w.alloc (.cells #[.int .i64 x.fFirst, .int .i64 x.fBefore, .slice A2 x.fEntries.length c2] 25)).alloc (.cells #[.int .i64 0, .string ⟨#[]⟩] 27)) := Below.alloc ((Below.refl w.heap.size w).alloc (Nat.le_refl _) _) (by simp) _
  clear hg
  go_enter Try.func9, Try.ntmps9
  go_upto_region 1 with fail
  generalize (w.alloc (.cells #[.int .i64 x.fFirst, .int .i64 x.fBefore, .slice A2 x.fEntries.length c2] 25)).alloc (.cells #[.int .i64 0, .string ⟨#[]⟩] 27) = w1 at *
  have HB := Lib.hid hb1; have GS := Lib.hid (Rp.S_below G.out hb1); have X0 := Lib.hid y1; have X2 := Lib.hid y2
  have r0 := regr (Below.refl _ w1) y1.lt (y1.cell 0 (v := .int .i64 x.fFirst) rfl)
  have r1 := regr (Below.refl _ w1) y1.lt (y1.cell 1 (v := .int .i64 x.fBefore) rfl)
  have r2 := regr (Below.refl _ w1) y1.lt (y1.cell 2 (v := .slice A2 x.fEntries.length c2) rfl)
  clear y1 y2 hb1
  refine wp_region_quiet_below (by kernel_rfl) (by kernel_rfl) ?_
  repeat (go_big_quiet_step (first | exact Calls.regrown_of ((iGoodWal_calls x _ _ (Rp.S_below GS.out (below_regrown _ _ _)) (by omega)).mono (fun e w' h => ⟨by rw [h.1, HG.out], h.2⟩)) | exact Calls.regrown_of (iNext_calls _ _ _ _ _ _ (r0 _ _) (r2 _ _) hin (by omega)) | exact Calls.regrown_of ((iIn_calls _ _ _ _).mono (fun e w' h => ⟨by rw [h.1, HI.out], by rw [h.2]; exact Below.refl _ _⟩))))
  refine wpQuiet_nil ?_
  rintro w2_ ⟨p, rfl⟩
  have hb := below_regrown w1 p.d p.os
  have X0 := Lib.hid (X0.out.below hb); have X2 := Lib.hid (X2.out.below hb); have HB := Lib.hid (HB.out.trans (hb.mono HB.out.size)); have GS := Lib.hid (Rp.S_below GS.out hb)
  clear r0 r1 r2 hb
  generalize grow (redrawn w1 p.d) p.os = w2 at *
  obtain ⟨A_, c_, e_, _, hC⟩ := GS.out
  obtain ⟨rfl, _, rfl⟩ := Value.slice.inj e_
  obtain ⟨g, o, rfl, a0, a1⟩ := entD hC k hk
  clear hC e_
  obtain ⟨y, hy⟩ : ∃ y, y = x.fEntries[k] := ⟨_, rfl⟩
  rw [← hy] at a0 a1
  have HY := Lib.hid hy; clear hy
  have e0 := X0.out.cell 0 (v := .int .i64 x.fFirst) rfl; have e2 := X0.out.cell 2 (v := .slice (some ⟨g, o, none⟩) x.fEntries.length c2) rfl
  have d0 := X2.out.cell 0 (v := .int .i64 0) rfl; have d1 := X2.out.cell 1 (v := .string ⟨#[]⟩) rfl
  have f2 := X2.out.fro
  have hsub : x.fFirst + (k : Int) - x.fFirst = (k : Int) := by omega
  have i1 : (0 : Int) ≤ (k : Int) := by omega
  have i2 : (k : Int) < (x.fEntries.length : Int) := by omega
  go_wp2
  have hk2 : KeptF [w.heap.size + 1] w2 (Rp.setN w2 (w.heap.size + 1) 0 [.int .i64 y.fTerm, .string y.fData]) := Rp.setN_kept (by simp) _ _ _ (KeptF.refl _ _)
  have bf : Box (Rp.setN w2 (w.heap.size + 1) 0 [.int .i64 y.fTerm, .string y.fData]) (w.heap.size + 1) #[.int .i64 y.fTerm, .string y.fData] 27 := by
    have h := Box.setN [.int .i64 y.fTerm, .string y.fData] X2.out 0
    rw [setA_all (by rfl)] at h
    exact h
  change bodyPost _ _ _ _ _ (Rp.setN w2 (w.heap.size + 1) 0 [.int .i64 y.fTerm, .string y.fData])
  have HF := Lib.hid (HB.out.trans (hk2.toBelow HB.out.size (by simp)))
  clear d0 d1 f2 hk2 a0 a1 e0 e2
  generalize Rp.setN w2 (w.heap.size + 1) 0 [.int .i64 y.fTerm, .string y.fData] = wf at *
  have d0 := bf.cell 0 (v := .int .i64 y.fTerm) rfl; have d1 := bf.cell 1 (v := .string y.fData) rfl
  exact bodyPost_ret (v := .tuple #[.agg #[.int .i64 y.fTerm, .string y.fData], .bool true]) (by simp [results, Try.results9, go_sem, d0, d1]) rfl ⟨by rw [← HY.out], HF.out⟩
end Go.Proofs.Ytjigbmgfjmghcaa
