/- Logs: what is cut off behind. -/
import Derived.Test.YtjigbmgfjmghcaaWalD
import Derived.Test.YtjigbmgfjmghcaaKitB
namespace Go.Proofs.Ytjigbmgfjmghcaa
open Go Go.RowKit Go.Sort
set_option linter.unusedVariables false
set_option linter.unusedSimpArgs false

def cutB (x : DWal) (n : Int) : Bool := goodWal x && inB n x.fFirst (x.fFirst + x.fEntries.length)
def takeW (x : DWal) (n : Int) : DWal := ⟨x.fFirst, x.fBefore, x.fEntries.take (n - x.fFirst).toNat⟩
def cutW (x : DWal) (n : Int) : DWal := if cutB x n then takeW x n else zWal

theorem takeW_at (x : DWal) (k : Nat) : (takeW x (x.fFirst + k)).fEntries = x.fEntries.take k := by
  simp only [takeW]
  congr 1
  omega
/-- The method next. -/
theorem iNext_calls (f : Int) (b n c : Nat) (A : Option Addr) (w : World) (c0 : w.cell? ⟨b, 0, none⟩ = some (.int .i64 f)) (c2 : w.cell? ⟨b, 2, none⟩ = some (.slice A n c)) (hx : inB f 1 1000000 = true) (hl : n ≤ 2097152) : Calls Try.prog 23 #[.pointer (some ⟨b, 0, none⟩)] w
    fun e w' => e = .returned (.int .i64 (f + n)) ∧ Below w.heap.size w w' := by
  simp only [inB, Bool.and_eq_true, decide_eq_true_eq] at hx
  obtain ⟨h1, h2⟩ := hx
  have r0 : ∀ d os, (grow (redrawn w d) os).cell? ⟨b, 0, none⟩ = some (.int .i64 f) := regr (Below.refl _ _) (World.block_lt_of_cell? w _ c0) c0
  have r2 : ∀ d os, (grow (redrawn w d) os).cell? ⟨b, 2, none⟩ = some (.slice A n c) := regr (Below.refl _ _) (World.block_lt_of_cell? w _ c2) c2
  go_enter Try.func23, Try.ntmps23
  go_wp2
  refine wp_region_quiet_below (by kernel_rfl) (by kernel_rfl) ?_
  repeat (go_big_quiet_step (fail))
  refine wpQuiet_nil ?_
  rintro w1 ⟨p, rfl⟩
  go_wp2
  go_ret
  exact ⟨ret_int (by go_num), below_regrown _ _ _⟩

theorem entriesOk_take : ∀ (k : Nat) (t : Int) (es : List DEntry), entriesOk t es = true → entriesOk t (es.take k) = true
  | 0, _, _, _ => rfl
  | _ + 1, _, [], _ => rfl
  | k + 1, t, e :: es, h => by
    simp only [List.take_succ_cons, entriesOk, Bool.and_eq_true] at h ⊢
    exact ⟨h.1, entriesOk_take k _ es h.2⟩
theorem goodWal_take {x : DWal} (h : goodWal x = true) (n : Int) : goodWal (takeW x n) = true := by
  simp only [goodWal, headOk, Bool.and_eq_true, takeW] at h ⊢
  refine ⟨⟨h.1.1, ?_⟩, entriesOk_take _ _ _ h.2⟩
  have h1 := h.1.2
  simp only [decide_eq_true_eq, List.length_take] at h1 ⊢
  omega
theorem goodWal_first {x : DWal} (h : goodWal x = true) : inB x.fFirst 1 1000000 = true := by
  simp only [goodWal, headOk, Bool.and_eq_true] at h
  exact h.1.1.1.1

set_option maxHeartbeats 4000000 in
set_option maxRecDepth 100000 in
theorem iCutWal_calls (x : DWal) (n : Int) (v2 : Value) (w : World) (g2 : kEntry.S w x.fEntries v2) (hl : x.fEntries.length ≤ 1048576) : Calls Try.prog 10 #[.agg #[.int .i64 x.fFirst, .int .i64 x.fBefore, v2], .int .i64 n] w
    fun e w' => ∃ v, e = .returned (.tuple #[v, .bool (cutB x n)]) ∧ MadeW w w' (cutW x n) v := by
  have G := Lib.hid g2; clear g2
  by_cases hg : goodWal x = true
  case neg =>
    have HG := Lib.hid (show goodWal x = false by simpa using hg)
    have HI := Lib.hid (Eq.refl true)
    have hin : False → inB x.fFirst 1 1000000 = true := fun h => h.elim
    clear hg
    go_enter Try.func10, Try.ntmps10
    go_upto_region 1 with fail
    have HB := Lib.hid (((Below.refl w.heap.size w).alloc (Nat.le_refl _) (.cells #[.int .i64 x.fFirst, .int .i64 x.fBefore, v2] 25)).alloc (by simp) (.cells #[.int .i64 0, .int .i64 0, .slice none 0 0] 25))
    have B0 : Box ((w.alloc (.cells #[.int .i64 x.fFirst, .int .i64 x.fBefore, v2] 25)).alloc (.cells #[.int .i64 0, .int .i64 0, .slice none 0 0] 25)) w.heap.size #[.int .i64 x.fFirst, .int .i64 x.fBefore, v2] 25 := Box.alloc (Box.new rfl)
    have B2 : Box ((w.alloc (.cells #[.int .i64 x.fFirst, .int .i64 x.fBefore, v2] 25)).alloc (.cells #[.int .i64 0, .int .i64 0, .slice none 0 0] 25)) (w.heap.size + 1) #[.int .i64 0, .int .i64 0, .slice none 0 0] 25 := Box.new (by simp)
    have hs : w.heap.size + 1 + 1 ≤ ((w.alloc (.cells #[.int .i64 x.fFirst, .int .i64 x.fBefore, v2] 25)).alloc (.cells #[.int .i64 0, .int .i64 0, .slice none 0 0] 25)).heap.size := by simp
    generalize (w.alloc (.cells #[.int .i64 x.fFirst, .int .i64 x.fBefore, v2] 25)).alloc (.cells #[.int .i64 0, .int .i64 0, .slice none 0 0] 25) = w1 at *
    obtain ⟨A, c, rfl, hc, hC⟩ := G.out
    have GS := Lib.hid (Rp.S_below G.out HB.out)
    have c0_0 := B0.cell 0 (v := .int .i64 x.fFirst) rfl
    have c0_2 := B0.cell 2 (v := .slice A x.fEntries.length c) rfl
    have r0 := regr (Below.refl _ w1) B0.lt c0_0
    have r1 := regr (Below.refl _ w1) B0.lt (B0.cell 1 (v := .int .i64 x.fBefore) rfl)
    have r2 := regr (Below.refl _ w1) B0.lt c0_2
    have X0 := Lib.hid B0
    have X2 := Lib.hid B2
    clear B0 B2 c0_0 c0_2
    refine wp_region_quiet_below (by kernel_rfl) (by kernel_rfl) ?_
    repeat (go_big_quiet_step (first | exact Calls.regrown_of ((iGoodWal_calls x _ _ (Rp.S_below GS.out (below_regrown _ _ _)) (by omega)).mono (fun e w' h => ⟨by rw [h.1, HG.out], h.2⟩)) | exact Calls.regrown_of (iNext_calls _ _ _ _ _ _ (r0 _ _) (r2 _ _) hin (by omega)) | exact Calls.regrown_of ((iIn_calls _ _ _ _).mono (fun e w' h => ⟨by rw [h.1, HI.out], by rw [h.2]; exact Below.refl _ _⟩))))
    refine wpQuiet_nil ?_
    rintro w2 ⟨p, rfl⟩
    have hb := below_regrown w1 p.d p.os
    have B0 := X0.out.below hb
    have B2 := X2.out.below hb
    have HB2 := Lib.hid (HB.out.trans (hb.mono HB.out.size))
    have hs2 := Nat.le_trans hs hb.size
    clear X0 X2 HB hs r0 r1 r2 hb
    generalize grow (redrawn w1 p.d) p.os = w2 at *
    clear GS
    have c2_0 := B2.cell 0 (v := .int .i64 0) rfl
    have c2_1 := B2.cell 1 (v := .int .i64 0) rfl
    have c2_2 := B2.cell 2 (v := .slice none 0 0) rfl
    have f2 := B2.fro
    have X2 := Lib.hid B2
    clear B2 B0
    go_wp2
    obtain ⟨hk, bf⟩ := X2.out.stored [.int .i64 0, .int .i64 0, .slice none 0 0] 0
    change bodyPost _ _ _ _ _ (Rp.setN w2 (w.heap.size + 1) 0 [.int .i64 0, .int .i64 0, .slice none 0 0])
    clear c2_0 c2_1 c2_2 f2
    generalize Rp.setN w2 (w.heap.size + 1) 0 [.int .i64 0, .int .i64 0, .slice none 0 0] = wf at *
    have d0 := bf.cell 0 (v := .int .i64 0) rfl
    have d1 := bf.cell 1 (v := .int .i64 0) rfl
    have d2 := bf.cell 2 (v := .slice none 0 0) rfl
    refine bodyPost_ret (v := .tuple #[.agg #[.int .i64 0, .int .i64 0, .slice none 0 0], .bool false]) (by simp [results, Try.results10, go_sem, d0, d1, d2]) rfl ⟨_, by rw [cutB, HG.out, Bool.false_and], ?_⟩
    rw [show cutW x n = zWal by rw [cutW, cutB, HG.out, Bool.false_and]; rfl]
    exact MadeW.zero _ _ (HB2.out.trans (hk.toBelow (by omega) (by simp)))
  case pos =>
  have hin := goodWal_first hg
  have HG := Lib.hid hg
  clear hg
  by_cases hi : inB n x.fFirst (x.fFirst + x.fEntries.length) = true
  case neg =>
    have HI := Lib.hid (show inB n x.fFirst (x.fFirst + x.fEntries.length) = false by simpa using hi)
    clear hi
    go_enter Try.func10, Try.ntmps10
    go_upto_region 1 with fail
    have HB := Lib.hid (((Below.refl w.heap.size w).alloc (Nat.le_refl _) (.cells #[.int .i64 x.fFirst, .int .i64 x.fBefore, v2] 25)).alloc (by simp) (.cells #[.int .i64 0, .int .i64 0, .slice none 0 0] 25))
    have B0 : Box ((w.alloc (.cells #[.int .i64 x.fFirst, .int .i64 x.fBefore, v2] 25)).alloc (.cells #[.int .i64 0, .int .i64 0, .slice none 0 0] 25)) w.heap.size #[.int .i64 x.fFirst, .int .i64 x.fBefore, v2] 25 := Box.alloc (Box.new rfl)
    have B2 : Box ((w.alloc (.cells #[.int .i64 x.fFirst, .int .i64 x.fBefore, v2] 25)).alloc (.cells #[.int .i64 0, .int .i64 0, .slice none 0 0] 25)) (w.heap.size + 1) #[.int .i64 0, .int .i64 0, .slice none 0 0] 25 := Box.new (by simp)
    have hs : w.heap.size + 1 + 1 ≤ ((w.alloc (.cells #[.int .i64 x.fFirst, .int .i64 x.fBefore, v2] 25)).alloc (.cells #[.int .i64 0, .int .i64 0, .slice none 0 0] 25)).heap.size := by simp
    generalize (w.alloc (.cells #[.int .i64 x.fFirst, .int .i64 x.fBefore, v2] 25)).alloc (.cells #[.int .i64 0, .int .i64 0, .slice none 0 0] 25) = w1 at *
    obtain ⟨A, c, rfl, hc, hC⟩ := G.out
    have GS := Lib.hid (Rp.S_below G.out HB.out)
    have c0_0 := B0.cell 0 (v := .int .i64 x.fFirst) rfl
    have c0_2 := B0.cell 2 (v := .slice A x.fEntries.length c) rfl
    have r0 := regr (Below.refl _ w1) B0.lt c0_0
    have r1 := regr (Below.refl _ w1) B0.lt (B0.cell 1 (v := .int .i64 x.fBefore) rfl)
    have r2 := regr (Below.refl _ w1) B0.lt c0_2
    have X0 := Lib.hid B0
    have X2 := Lib.hid B2
    clear B0 B2 c0_0 c0_2
    refine wp_region_quiet_below (by kernel_rfl) (by kernel_rfl) ?_
    repeat (go_big_quiet_step (first | exact Calls.regrown_of ((iGoodWal_calls x _ _ (Rp.S_below GS.out (below_regrown _ _ _)) (by omega)).mono (fun e w' h => ⟨by rw [h.1, HG.out], h.2⟩)) | exact Calls.regrown_of (iNext_calls _ _ _ _ _ _ (r0 _ _) (r2 _ _) hin (by omega)) | exact Calls.regrown_of ((iIn_calls _ _ _ _).mono (fun e w' h => ⟨by rw [h.1, HI.out], by rw [h.2]; exact Below.refl _ _⟩))))
    refine wpQuiet_nil ?_
    rintro w2 ⟨p, rfl⟩
    have hb := below_regrown w1 p.d p.os
    have B0 := X0.out.below hb
    have B2 := X2.out.below hb
    have HB2 := Lib.hid (HB.out.trans (hb.mono HB.out.size))
    have hs2 := Nat.le_trans hs hb.size
    clear X0 X2 HB hs r0 r1 r2 hb
    generalize grow (redrawn w1 p.d) p.os = w2 at *
    clear GS
    have c2_0 := B2.cell 0 (v := .int .i64 0) rfl
    have c2_1 := B2.cell 1 (v := .int .i64 0) rfl
    have c2_2 := B2.cell 2 (v := .slice none 0 0) rfl
    have f2 := B2.fro
    have X2 := Lib.hid B2
    clear B2 B0
    go_wp2
    obtain ⟨hk, bf⟩ := X2.out.stored [.int .i64 0, .int .i64 0, .slice none 0 0] 0
    change bodyPost _ _ _ _ _ (Rp.setN w2 (w.heap.size + 1) 0 [.int .i64 0, .int .i64 0, .slice none 0 0])
    clear c2_0 c2_1 c2_2 f2
    generalize Rp.setN w2 (w.heap.size + 1) 0 [.int .i64 0, .int .i64 0, .slice none 0 0] = wf at *
    have d0 := bf.cell 0 (v := .int .i64 0) rfl
    have d1 := bf.cell 1 (v := .int .i64 0) rfl
    have d2 := bf.cell 2 (v := .slice none 0 0) rfl
    refine bodyPost_ret (v := .tuple #[.agg #[.int .i64 0, .int .i64 0, .slice none 0 0], .bool false]) (by simp [results, Try.results10, go_sem, d0, d1, d2]) rfl ⟨_, by rw [cutB, HG.out, HI.out, Bool.and_false], ?_⟩
    rw [show cutW x n = zWal by rw [cutW, cutB, HG.out, HI.out, Bool.and_false]; rfl]
    exact MadeW.zero _ _ (HB2.out.trans (hk.toBelow (by omega) (by simp)))
  case pos =>
    have HI := Lib.hid hi
    have hj : x.fFirst ≤ n ∧ n ≤ x.fFirst + x.fEntries.length := by simpa [inB] using hi
    obtain ⟨j1, j2⟩ := hj
    have hin2 : 1 ≤ x.fFirst ∧ x.fFirst ≤ 1000000 := by simpa [inB] using hin
    obtain ⟨i1, i2⟩ := hin2
    clear hi
    obtain ⟨k, rfl⟩ : ∃ k : Nat, n = x.fFirst + k := ⟨(n - x.fFirst).toNat, by omega⟩
    have hwr : IntKind.i64.wrap (x.fFirst + k - x.fFirst) = k := by
      rw [show x.fFirst + (k : Int) - x.fFirst = k by omega]
      rw [IntKind.wrap_i64]
      omega
    have k0 : (0 : Int) ≤ (k : Int) := by omega
    have k1 : (k : Int) ≤ (x.fEntries.length : Int) := by omega
    go_enter Try.func10, Try.ntmps10
    go_upto_region 1 with fail
    have HB := Lib.hid (((Below.refl w.heap.size w).alloc (Nat.le_refl _) (.cells #[.int .i64 x.fFirst, .int .i64 x.fBefore, v2] 25)).alloc (by simp) (.cells #[.int .i64 0, .int .i64 0, .slice none 0 0] 25))
    have B0 : Box ((w.alloc (.cells #[.int .i64 x.fFirst, .int .i64 x.fBefore, v2] 25)).alloc (.cells #[.int .i64 0, .int .i64 0, .slice none 0 0] 25)) w.heap.size #[.int .i64 x.fFirst, .int .i64 x.fBefore, v2] 25 := Box.alloc (Box.new rfl)
    have B2 : Box ((w.alloc (.cells #[.int .i64 x.fFirst, .int .i64 x.fBefore, v2] 25)).alloc (.cells #[.int .i64 0, .int .i64 0, .slice none 0 0] 25)) (w.heap.size + 1) #[.int .i64 0, .int .i64 0, .slice none 0 0] 25 := Box.new (by simp)
    have hs : w.heap.size + 1 + 1 ≤ ((w.alloc (.cells #[.int .i64 x.fFirst, .int .i64 x.fBefore, v2] 25)).alloc (.cells #[.int .i64 0, .int .i64 0, .slice none 0 0] 25)).heap.size := by simp
    generalize (w.alloc (.cells #[.int .i64 x.fFirst, .int .i64 x.fBefore, v2] 25)).alloc (.cells #[.int .i64 0, .int .i64 0, .slice none 0 0] 25) = w1 at *
    obtain ⟨A, c, rfl, hc, hC⟩ := G.out
    have GS := Lib.hid (Rp.S_below G.out HB.out)
    have c0_0 := B0.cell 0 (v := .int .i64 x.fFirst) rfl
    have c0_2 := B0.cell 2 (v := .slice A x.fEntries.length c) rfl
    have r0 := regr (Below.refl _ w1) B0.lt c0_0
    have r1 := regr (Below.refl _ w1) B0.lt (B0.cell 1 (v := .int .i64 x.fBefore) rfl)
    have r2 := regr (Below.refl _ w1) B0.lt c0_2
    have X0 := Lib.hid B0
    have X2 := Lib.hid B2
    clear B0 B2 c0_0 c0_2
    refine wp_region_quiet_below (by kernel_rfl) (by kernel_rfl) ?_
    repeat (go_big_quiet_step (first | exact Calls.regrown_of ((iGoodWal_calls x _ _ (Rp.S_below GS.out (below_regrown _ _ _)) (by omega)).mono (fun e w' h => ⟨by rw [h.1, HG.out], h.2⟩)) | exact Calls.regrown_of (iNext_calls _ _ _ _ _ _ (r0 _ _) (r2 _ _) hin (by omega)) | exact Calls.regrown_of ((iIn_calls _ _ _ _).mono (fun e w' h => ⟨by rw [h.1, HI.out], by rw [h.2]; exact Below.refl _ _⟩))))
    refine wpQuiet_nil ?_
    rintro w2 ⟨p, rfl⟩
    have hb := below_regrown w1 p.d p.os
    have B0 := X0.out.below hb
    have B2 := X2.out.below hb
    have HB2 := Lib.hid (HB.out.trans (hb.mono HB.out.size))
    have hs2 := Nat.le_trans hs hb.size
    clear X0 X2 HB hs r0 r1 r2 hb
    generalize grow (redrawn w1 p.d) p.os = w2 at *
    clear GS
    have c0_0 := B0.cell 0 (v := .int .i64 x.fFirst) rfl
    have c0_1 := B0.cell 1 (v := .int .i64 x.fBefore) rfl
    have c0_2 := B0.cell 2 (v := .slice A x.fEntries.length c) rfl
    have X2 := Lib.hid B2
    clear B0 B2
    have k2 : (k : Int) ≤ (c : Int) := by have := hc.1; omega
    have hlt : w.heap.size < w2.heap.size := by omega
    go_upto_region 3 with fail
    have hB : w.heap.size + 1 ≤ w2.heap.size := by omega
    have hx0 : w.heap.size < w.heap.size + 1 := by omega
    go_region_held3 (fun w' => Below (w.heap.size + 1) w2 w' ∧ ∀ b j, b < w.heap.size + 1 → w'.cell? ⟨b, j, none⟩ = w2.cell? ⟨b, j, none⟩)
      (first | ((try go_split_ands); refine SBofB ?_; repeat (first | assumption | (with_reducible exact Below.refl _ _) | (with_reducible refine below_callB hB ?_ hc) | (with_reducible refine Below.drew ?_) | (with_reducible refine Below.setCell ?_ (by first | (simp; done) | omega | (simp; omega)) _))))
      (first
        | (go_at_call 19; go_loud (refine (told_calls (takeW x (x.fFirst + k)) (.slice A k c) _ (by rw [takeW_at]; exact Rp.S_take (Rp.S_below G.out (Below.drew HB2.out)) k (by omega)) (by rw [takeW_at]; simp; omega)).mono ?_; rintro e w4 ⟨v5, rfl, v6, F6, rfl, t2, t3, t4, hc⟩; obtain ⟨pa6, pc6, rfl, _, _⟩ := Rp.Row_K t2; have B2 := Box.below (Box.drew X2.out) hc; have c2_0 := B2.cell 0 (v := .int .i64 0) rfl; have c2_1 := B2.cell 1 (v := .int .i64 0) rfl; have c2_2 := B2.cell 2 (v := .slice none 0 0) rfl; have f2 := B2.fro)))
    go_wp2
    have HK : Below w.heap.size w w4 := HB2.out.trans ((Below.trans (Below.refl _ _).drew hc).mono HB2.out.size)
    have z4 := hc.size
    obtain ⟨hk, bf⟩ := B2.stored [.int .i64 (toldW (takeW x (x.fFirst + k))).fFirst, .int .i64 (toldW (takeW x (x.fFirst + k))).fBefore, .slice pa6 (toldW (takeW x (x.fFirst + k))).fEntries.length pc6] 0
    have q := Rp.Row_kept t2 hk (fun b hm => by have := t3 b hm; simp at this ⊢; omega)
    change bodyPost _ _ _ _ _ (Rp.setN w4 (w.heap.size + 1) 0 [.int .i64 (toldW (takeW x (x.fFirst + k))).fFirst, .int .i64 (toldW (takeW x (x.fFirst + k))).fBefore, .slice pa6 (toldW (takeW x (x.fFirst + k))).fEntries.length pc6])
    clear c2_0 c2_1 c2_2 f2 B2 t2
    generalize Rp.setN w4 (w.heap.size + 1) 0 [.int .i64 (toldW (takeW x (x.fFirst + k))).fFirst, .int .i64 (toldW (takeW x (x.fFirst + k))).fBefore, .slice pa6 (toldW (takeW x (x.fFirst + k))).fEntries.length pc6] = wf at *
    have d0 := bf.cell 0 (v := .int .i64 (toldW (takeW x (x.fFirst + k))).fFirst) rfl
    have d1 := bf.cell 1 (v := .int .i64 (toldW (takeW x (x.fFirst + k))).fBefore) rfl
    have d2 := bf.cell 2 (v := .slice pa6 (toldW (takeW x (x.fFirst + k))).fEntries.length pc6) rfl
    have e1 : goodWal (takeW x (x.fFirst + k)) = true := goodWal_take HG.out _
    refine bodyPost_ret (v := .tuple #[.agg #[.int .i64 (toldW (takeW x (x.fFirst + k))).fFirst, .int .i64 (toldW (takeW x (x.fFirst + k))).fBefore, .slice pa6 (toldW (takeW x (x.fFirst + k))).fEntries.length pc6], .bool (goodWal (takeW x (x.fFirst + k)))]) (by simp [results, Try.results10, go_sem, d0, d1, d2]) rfl ⟨_, by rw [cutB, HG.out, HI.out, e1]; rfl, ?_⟩
    rw [show cutW x (x.fFirst + k) = toldW (takeW x (x.fFirst + k)) by rw [cutW, toldW, cutB, HG.out, HI.out, e1]; rfl]
    exact ⟨_, F6, rfl, q, fun b hm => by have := t3 b hm; simp at this; omega, t4, HK.trans (hk.toBelow (by have := HK.size; omega) (by simp))⟩
end Go.Proofs.Ytjigbmgfjmghcaa
