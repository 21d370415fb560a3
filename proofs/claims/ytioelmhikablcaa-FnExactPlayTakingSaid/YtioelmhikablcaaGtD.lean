/- Good takings: one chunk, by the specification. -/
import Derived.Test.YtioelmhikablcaaGtC
import Derived.Test.YtioelmhikablcaaChk
namespace Go.Proofs.Ytioelmhikablcaa
open Go Go.RowKit Go.Sort
set_option linter.unusedVariables false
set_option linter.unusedSimpArgs false

set_option maxHeartbeats 1000000 in
theorem sLess_calls (x y : DChunk) (w : World) : Calls Try.prog 165 #[.agg #[.int .i64 x.fFile, .int .i64 x.fAt, .string x.fData, .int .u32 x.fSum], .agg #[.int .i64 y.fFile, .int .i64 y.fAt, .string y.fData, .int .u32 y.fSum]] w fun e w' => e = .returned (.bool (chLess x y)) ∧ Below w.heap.size w w' := by
  go_enter Try.func165, Try.ntmps165
  by_cases h1 : x.fFile < y.fFile
  · go_wp2
    go_ret
    exact ⟨by simp [chLess, h1], ((Below.refl w.heap.size w).alloc (Nat.le_refl _) _).alloc (by simp) _⟩
  · by_cases h2 : x.fFile = y.fFile
    · go_wp2
      all_goals go_ret
      all_goals exact ⟨by simp [chLess, h1, h2], ((Below.refl w.heap.size w).alloc (Nat.le_refl _) _).alloc (by simp) _⟩
    · go_wp2
      all_goals go_ret
      all_goals exact ⟨by simp [chLess, h1, h2], ((Below.refl w.heap.size w).alloc (Nat.le_refl _) _).alloc (by simp) _⟩

set_option maxHeartbeats 4000000 in
set_option maxRecDepth 100000 in
theorem sGood1_calls (ws : List DWanted) (y : DChunk) (v0 v1 : Value) (w : World) (G : kWanted.S w ws v0) (hw : ws.length ≤ 12 ∧ ∀ m ∈ ws, wantB m = false) :
    Calls Try.prog 164 #[.agg #[v0, v1], .agg #[.int .i64 y.fFile, .int .i64 y.fAt, .string y.fData, .int .u32 y.fSum]] w fun e w' => e = .returned (.bool (chGood ws y)) ∧ Below w.heap.size w w' := by
  obtain ⟨A0, c0, rfl, hcap, hG⟩ := G
  go_enter Try.func164, Try.ntmps164
  go_upto_region 1 with fail
  have HC := Lib.hid (((Below.refl w.heap.size w).alloc (Nat.le_refl _) (.cells #[.slice A0 ws.length c0, v1] 33)).alloc (by simp) (.cells #[.int .i64 y.fFile, .int .i64 y.fAt, .string y.fData, .int .u32 y.fSum] 46))
  have X := Lib.hid (show Box ((w.alloc (.cells #[.slice A0 ws.length c0, v1] 33)).alloc (.cells #[.int .i64 y.fFile, .int .i64 y.fAt, .string y.fData, .int .u32 y.fSum] 46)) w.heap.size #[.slice A0 ws.length c0, v1] 33 from Box.alloc (Box.new rfl))
  have Y := Lib.hid (show Box ((w.alloc (.cells #[.slice A0 ws.length c0, v1] 33)).alloc (.cells #[.int .i64 y.fFile, .int .i64 y.fAt, .string y.fData, .int .u32 y.fSum] 46)) (w.heap.size + 1) #[.int .i64 y.fFile, .int .i64 y.fAt, .string y.fData, .int .u32 y.fSum] 46 from Box.new (by simp))
  generalize (w.alloc (.cells #[.slice A0 ws.length c0, v1] 33)).alloc (.cells #[.int .i64 y.fFile, .int .i64 y.fAt, .string y.fData, .int .u32 y.fSum] 46) = w1 at *
  have hw2 := Lib.hid hw.2
  have hw1 := hw.1
  clear hw
  have CI := Lib.hid (show ∀ (n a b : Int) (r : Bool) (h : inR n a b = r) (W : World), Calls Try.prog 100 #[.int .i64 n, .int .i64 a, .int .i64 b] W (fun e w' => e = .returned (.bool r) ∧ Below W.heap.size W w') from fun n a b r h W => (sInR_calls n a b W).mono (fun e w' h2 => ⟨by rw [h2.1, h], by rw [h2.2]; exact Below.refl _ _⟩))
  cases h1 : inR y.fFile 0 ((ws.length : Int) - 1)
  · have r0 := regr (Below.refl _ _) Y.out.lt (Y.out.cell 0 (v := .int .i64 y.fFile) rfl)
    have s0 := regr (Below.refl _ _) X.out.lt (X.out.cell 0 (v := .slice A0 ws.length c0) rfl)
    refine wp_region_quiet_below (by kernel_rfl) (by kernel_rfl) ?_
    repeat (go_big_quiet_step (first | (with_reducible exact Calls.regrown_of (CI.out _ _ _ _ h1 _))))
    refine wpQuiet_nil ?_
    rintro w2 ⟨p, rfl⟩
    have hb := below_regrown w1 p.d p.os
    have HC := Lib.hid (HC.out.trans (hb.mono HC.out.size))
    clear r0 s0 hb
    generalize grow (redrawn w1 p.d) p.os = w2 at *
    go_wp2
    go_ret
    exact ⟨by rw [chGood, h1]; rfl, HC.out⟩
  · obtain ⟨f0, f1⟩ := inR_iff.1 h1
    obtain ⟨n, hn⟩ : ∃ n : Nat, y.fFile = (n : Int) := ⟨y.fFile.toNat, by omega⟩
    have hnl : n < ws.length := by omega
    obtain ⟨bw, ow, rfl, a0, _⟩ := want_at hG HC.out n hnl
    have hsz2 : gdSz ws y = ws[n].fSize := by rw [gdSz, hn, Int.toNat_natCast, List.getD, List.getElem?_eq_getElem hnl]; rfl
    have hwn := hw2.out _ (List.getElem_mem hnl)
    simp only [wantB, Bool.not_eq_false'] at hwn
    obtain ⟨z0, z1⟩ := inR_iff.1 hwn
    have hGD : chGood ws y = ((inR y.fAt 0 (ws[n].fSize - 1) && decide (y.fAt % 64 = 0) && decide ((y.fData.size : Int) = min 64 (ws[n].fSize - y.fAt))) && decide (y.fSum = chS y.fFile y.fAt y.fData)) := by rw [chGood, h1, hsz2, Bool.true_and]
    generalize ws[n].fSize = s at *
    have HGD := Lib.hid hGD
    clear hwn hsz2 hG hw2 hGD
    rw [hn] at Y h1 ⊢
    have n0 : (0 : Int) ≤ (n : Int) := by omega
    have n1 : (n : Int) < (ws.length : Int) := by omega
    have hpath : y.fAt < 0 ∨ (0 ≤ y.fAt ∧ ¬ y.fAt % 64 = 0) ∨ (0 ≤ y.fAt ∧ y.fAt % 64 = 0 ∧ s ≤ y.fAt) ∨ (0 ≤ y.fAt ∧ y.fAt % 64 = 0 ∧ y.fAt < s) := by omega
    have r0 := regr (Below.refl _ _) Y.out.lt (Y.out.cell 0 (v := .int .i64 n) rfl)
    have r1 := regr (Below.refl _ _) Y.out.lt (Y.out.cell 1 (v := .int .i64 y.fAt) rfl)
    have s0 := regr (Below.refl _ _) X.out.lt (X.out.cell 0 (v := .slice (some ⟨bw, ow, none⟩) ws.length c0) rfl)
    have t0 := regr (Below.refl _ _) (World.block_lt_of_cell? w1 _ a0) a0
    rcases hpath with q0 | ⟨q0, q1⟩ | ⟨q0, q1, q2⟩ | ⟨q0, q1, q2⟩
    all_goals try have e1 : ¬ y.fAt < 0 := by omega
    all_goals try have e2 : ¬ s ≤ y.fAt := by omega
    all_goals try have e3 : (y.fAt % 64 != 0) = false := by simp [q1]
    all_goals try have e4 : (y.fAt % 64 != 0) = true := by simp [q1]
    all_goals
      refine wp_region_quiet_below (by kernel_rfl) (by kernel_rfl) ?_
      repeat (go_big_quiet_step (first | (with_reducible exact Calls.regrown_of (CI.out _ _ _ _ h1 _))))
      refine wpQuiet_nil ?_
      rintro w2 ⟨p, rfl⟩
      have hb := below_regrown w1 p.d p.os
      have HC := Lib.hid (HC.out.trans (hb.mono HC.out.size))
      have X := Lib.hid (X.out.below hb)
      have Y := Lib.hid (Y.out.below hb)
      have A0' := Lib.hid (t0 p.d p.os)
      clear r0 r1 s0 t0 hb a0
      generalize grow (redrawn w1 p.d) p.os = w2 at *
    · go_wp2
      go_ret
      exact ⟨by rw [HGD.out, inR_no.2 (by omega)]; rfl, HC.out⟩
    · go_wp2
      go_ret
      exact ⟨by rw [HGD.out]; simp [q1], HC.out⟩
    · go_wp2
      go_ret
      exact ⟨by rw [HGD.out, inR_no.2 (by omega)]; rfl, HC.out⟩
    · obtain ⟨m, hm, hm2, hm3⟩ : ∃ m : Int, min 64 (s - y.fAt) = m ∧ 0 ≤ m ∧ m ≤ 64 := ⟨_, rfl, by omega, by omega⟩
      have HG2 := Lib.hid (show chGood ws y = (decide ((y.fData.size : Int) = m) && decide (y.fSum = chS n y.fAt y.fData)) by rw [HGD.out, hm, hn, inR_iff.2 (by omega)]; simp [q1])
      clear HGD
      go_upto_region 3 with fail
      have a0 := A0'.out
      have r0 := regr (Below.refl _ _) Y.out.lt (Y.out.cell 0 (v := .int .i64 n) rfl)
      have r1 := regr (Below.refl _ _) Y.out.lt (Y.out.cell 1 (v := .int .i64 y.fAt) rfl)
      have r2 := regr (Below.refl _ _) Y.out.lt (Y.out.cell 2 (v := .string y.fData) rfl)
      have r3 := regr (Below.refl _ _) Y.out.lt (Y.out.cell 3 (v := .int .u32 y.fSum) rfl)
      have s0 := regr (Below.refl _ _) X.out.lt (X.out.cell 0 (v := .slice (some ⟨bw, ow, none⟩) ws.length c0) rfl)
      have t0 := regr (Below.refl _ _) (World.block_lt_of_cell? w2 _ a0) a0
      clear a0 A0'
      have c_z : ∀ W : World, Calls Try.prog 214 #[.int .i64 s, .int .i64 y.fAt] W (fun e w' => e = .returned (.int .i64 m) ∧ Below W.heap.size W w') := fun W => (sSize_calls s y.fAt W (by omega) (by omega) (by omega) (by omega)).mono (fun e w' h2 => ⟨by rw [h2.1, hm], by rw [h2.2]; exact Below.refl _ _⟩)
      by_cases h4 : (y.fData.size : Int) = m
      · have c_s : ∀ W : World, Calls Try.prog 215 #[.int .i64 n, .int .i64 y.fAt, .string y.fData] W (fun e w' => e = .returned (.int .u32 (chS n y.fAt y.fData)) ∧ Below W.heap.size W w') := fun W => sl13_calls n y.fAt y.fData W (by omega) (by omega) (by omega)
        have c_s2 : ∀ W : World, Calls Try.prog 215 #[.int .i64 n, .int .i64 y.fAt, .string y.fData] W (fun e w' => e = .returned (.int .u32 (chS n y.fAt y.fData)) ∧ Below W.heap.size W w') := fun W => sl13_calls n y.fAt y.fData W (by omega) (by omega) (by omega)
        generalize chS n y.fAt y.fData = q at *
        refine wp_region_quiet_below (by kernel_rfl) (by kernel_rfl) ?_
        repeat (go_big_quiet_step (first | (with_reducible exact Calls.regrown_of (c_z _)) | (with_reducible exact Calls.regrown_of (c_s _)) | (with_reducible exact Calls.regrown_of (c_s2 _))))
        refine wpQuiet_nil ?_
        rintro w4 ⟨p, rfl⟩
        have hb := below_regrown w2 p.d p.os
        have HC := Lib.hid (HC.out.trans (hb.mono HC.out.size))
        clear r0 r1 r2 r3 s0 t0 hb
        generalize grow (redrawn w2 p.d) p.os = w4 at *
        go_wp2
        go_ret
        exact ⟨by rw [HG2.out]; refine ret_bool ?_; first | (simp [h4]; done) | (simp [h4]; rfl), HC.out⟩
      · have h5 : ((y.fData.size : Int) == m) = false := by simp [h4]
        refine wp_region_quiet_below (by kernel_rfl) (by kernel_rfl) ?_
        repeat (go_big_quiet_step (first | (with_reducible exact Calls.regrown_of (c_z _))))
        refine wpQuiet_nil ?_
        rintro w4 ⟨p, rfl⟩
        have hb := below_regrown w2 p.d p.os
        have HC := Lib.hid (HC.out.trans (hb.mono HC.out.size))
        clear r0 r1 r2 r3 s0 t0 hb
        generalize grow (redrawn w2 p.d) p.os = w4 at *
        go_wp2
        go_ret
        exact ⟨by rw [HG2.out]; refine ret_bool ?_; first | (simp [h4]; done) | (simp [h4]; rfl), HC.out⟩
end Go.Proofs.Ytioelmhikablcaa
