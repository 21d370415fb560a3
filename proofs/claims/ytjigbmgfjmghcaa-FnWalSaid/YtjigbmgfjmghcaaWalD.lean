/- Logs: what is put behind, by the reference. -/
import Derived.Test.YtjigbmgfjmghcaaWalC
namespace Go.Proofs.Ytjigbmgfjmghcaa
open Go Go.RowKit Go.Sort
set_option linter.unusedVariables false
set_option linter.unusedSimpArgs false

set_option maxHeartbeats 4000000 in
set_option maxRecDepth 100000 in
theorem sAppendWal_calls (x : DWal) (y : DEntry) (v2 : Value) (w : World) (g2 : kEntry.S w x.fEntries v2) (hl : x.fEntries.length ≤ 2097152) : Calls Try.prog 6 #[.agg #[.int .i64 x.fFirst, .int .i64 x.fBefore, v2], .agg #[.int .i64 y.fTerm, .string y.fData]] w
    fun e w' => ∃ v, e = .returned (.tuple #[v, .bool (appendB x y)]) ∧ MadeW w w' (appendW x y) v := by
  have G := Lib.hid g2; clear g2
  go_enter Try.func6, Try.ntmps6
  go_wp2_with fail
  (with_reducible refine (l3Own_calls x v2 _ (Rp.S_below G.out ((((Below.refl _ _).alloc (Nat.le_refl _) _).alloc (by simp) _).alloc (by simp <;> omega) _)) (by omega)).mono ?_)
  rintro e w1 ⟨p, rfl, p2, F, rfl, r1, r2, r3, hb⟩
  obtain ⟨pa, pc, rfl, _, _⟩ := Rp.Row_K r1
  have B0 : Box w1 w.heap.size #[.int .i64 x.fFirst, .int .i64 x.fBefore, v2] 25 := Box.below (Box.alloc (Box.alloc (Box.new rfl))) hb
  have B1 : Box w1 (w.heap.size + 1) #[.int .i64 y.fTerm, .string y.fData] 27 := Box.below (Box.alloc (Box.new (by simp))) hb
  have B2 : Box w1 (w.heap.size + 1 + 1) #[.int .i64 0, .int .i64 0, .slice none 0 0] 25 := Box.below (Box.new (by simp)) hb
  have hs : w.heap.size + 1 + 1 + 1 ≤ w1.heap.size := by have := hb.size; simpa using this
  have HB := Lib.hid (Below.trans ((((Below.refl w.heap.size w).alloc (Nat.le_refl _) _).alloc (by simp) _).alloc (by simp <;> omega) _) (hb.mono (by simp <;> omega)))
  have hf : ∀ b ∈ F, w.heap.size + 1 + 1 + 1 ≤ b := by simpa using r2
  have HF := Lib.hid hf; have R1 := Lib.hid r1; have R3 := Lib.hid r3
  have FL := Lib.hid (Rp.Row_lt r1)
  clear hb r1 r2 r3 hf
  have c0_0 := B0.cell 0 (v := .int .i64 x.fFirst) rfl
  have c0_1 := B0.cell 1 (v := .int .i64 x.fBefore) rfl
  have c0_2 := B0.cell 2 (v := v2) rfl
  have c1_0 := B1.cell 0 (v := .int .i64 y.fTerm) rfl
  have c1_1 := B1.cell 1 (v := .string y.fData) rfl
  have X0 := Lib.hid B0; have X2 := Lib.hid B2
  clear B0 B1 B2
  have s0 : w.heap.size < w1.heap.size := by omega
  have s1 : w.heap.size + 1 < w1.heap.size := by omega
  have s2 : w.heap.size + 1 + 1 < w1.heap.size := by omega
  obtain ⟨ka, kb⟩ := acell w1
  go_wp2_with (at_builtin; go_loud (refine wp_append (d := kEntry) rfl _ _ 23 27 rfl Try.underlying23 infoEntry rfl (by decide) rfl (by decide) kEntry_flat (xs := x.fEntries) (ys := [y]) rfl rfl (Rp.Row_below R1.out (((Below.refl _ _).alloc (Nat.le_refl _) _).alloc (by simp) _)) (Rp.S_one (Box.new (by simp)) (kEntry_mkK _ y)) (by simp <;> omega) ?_; intro v3 w3 q1 q2 q3 _; obtain ⟨pa3, pc3, e3, _, _⟩ := Rp.Row_K q1; rw [List.length_append, List.length_singleton] at e3; subst e3; have Q1 := Lib.hid q1; have Q2 := Lib.hid q2; have Q3 := Lib.hid q3; clear q1 q2 q3; have B0 := Box.kept (Box.alloc (Box.alloc X0.out)) Q2.out (fun hm => by have := HF.out _ hm; omega); have c3_0 := B0.cell 0 (v := .int .i64 x.fFirst) rfl; have c3_1 := B0.cell 1 (v := .int .i64 x.fBefore) rfl; have c3_2 := B0.cell 2 (v := v2) rfl; have Z0 := Lib.hid B0; clear B0; have B4 : Box w3 w1.heap.size #[.int .i64 x.fFirst, .int .i64 x.fBefore, .slice pa x.fEntries.length pc] 25 := Box.kept (Box.alloc (Box.new rfl)) Q2.out (fun hm => by have := FL.out _ hm; omega); have c4_0 := B4.cell 0 (v := .int .i64 x.fFirst) rfl; have c4_1 := B4.cell 1 (v := .int .i64 x.fBefore) rfl; have c4_2 := B4.cell 2 (v := .slice pa x.fEntries.length pc) rfl; have f4 := B4.fro; have Z4 := Lib.hid B4; clear B4))
  have HB3 : Below w.heap.size w w3 := ((HB.out.alloc HB.out.size _).alloc (by simp; omega) _).trans (Q2.out.toBelow (by simp; omega) (fun b hm => by have := HF.out b hm; omega))
  have hz3 : w1.heap.size + 1 + 1 ≤ w3.heap.size := by have := Q2.out.size; simpa using this
  have hq : ∀ b ∈ Rp.ofOwn (.slice pa3 (x.fEntries.length + 1) pc3), w.heap.size + 1 + 1 + 1 ≤ b ∧ b ≠ w1.heap.size := fun b hm => by
    rcases Q3.out b hm with h | h
    · have := HF.out b h; have := FL.out b h; omega
    · simp at h; omega
  have B2 := Box.kept (Box.alloc (Box.alloc X2.out)) Q2.out (fun hm => by have := HF.out _ hm; omega)
  have hk1 : KeptF [w1.heap.size] w3 (w3.setCell ⟨w1.heap.size, 2, none⟩ (.slice pa3 (x.fEntries.length + 1) pc3)) := (KeptF.refl _ _).set (by simp) _
  have r5 := Rp.Row_kept Q1.out hk1 (fun b hm => by have := hq b hm; simp; omega)
  have B4 := Z4.out.set 2 (.slice pa3 (x.fEntries.length + 1) pc3)
  have B2 := B2.kept hk1 (by simp; omega)
  have HB5 := HB3.trans (hk1.toBelow (by omega) (by simp; omega))
  have X2 := Lib.hid B2; have R5 := Lib.hid r5; have X4 := Lib.hid B4; have HB5 := Lib.hid HB5; have HQ := Lib.hid hq
  have hz5 : (w3.setCell ⟨w1.heap.size, 2, none⟩ (.slice pa3 (x.fEntries.length + 1) pc3)).heap.size = w3.heap.size := by simp [World.setCell]
  have HZ := Lib.hid hz5
  clear hz5 B2 r5 B4 hk1 hq HB3 Z4 Z0 Q1 Q2 Q3 R1 ka kb
  clear c0_0 c0_1 c0_2 c1_0 c1_1
  by_cases hg : goodWal x = true
  · have HG := Lib.hid hg; clear hg
    (with_reducible refine (sGoodWal_calls x v2 _ (Rp.S_below G.out HB5.out) (by omega)).mono ?_)
    rintro e w5 ⟨rfl, hb⟩
    rw [HG.out]
    have B4 : Box w5 w1.heap.size #[.int .i64 x.fFirst, .int .i64 x.fBefore, (.slice pa3 (x.fEntries.length + 1) pc3)] 25 := X4.out.below hb
    have B2 := X2.out.below hb
    have HB6 := Lib.hid (HB5.out.trans (hb.mono (by rw [HZ.out]; omega)))
    have R6 := Lib.hid (Rp.Row_below R5.out hb)
    have hz6 : w3.heap.size ≤ w5.heap.size := by have := hb.size; rwa [HZ.out] at this
    clear hb
    have d4_0 := B4.cell 0 (v := .int .i64 x.fFirst) rfl
    have d4_1 := B4.cell 1 (v := .int .i64 x.fBefore) rfl
    have d4_2 := B4.cell 2 (v := (.slice pa3 (x.fEntries.length + 1) pc3)) rfl
    have Y2 := Lib.hid B2; have Y4 := Lib.hid B4
    clear B2 B4 c3_0 c3_1 c3_2 c4_0 c4_1 c4_2 f4
    go_wp2_with fail
    (refine (sGoodWal_calls (addW x y) (.slice pa3 (x.fEntries.length + 1) pc3) _ (Rp.Row_S R6.out) (by simp [addW]; omega)).mono ?_)
    rintro e w6 ⟨rfl, hb⟩
    have B4 := Y4.out.below hb
    have B2 := Y2.out.below hb
    have HB7 := Lib.hid (HB6.out.trans (hb.mono HB6.out.size))
    have R7 := Lib.hid (Rp.Row_below R6.out hb)
    have hz7 : w5.heap.size ≤ w6.heap.size := hb.size
    clear hb d4_0 d4_1 d4_2
    have d4_0 := B4.cell 0 (v := .int .i64 x.fFirst) rfl
    have d4_1 := B4.cell 1 (v := .int .i64 x.fBefore) rfl
    have d4_2 := B4.cell 2 (v := (.slice pa3 (x.fEntries.length + 1) pc3)) rfl
    have d2_0 := B2.cell 0 (v := .int .i64 0) rfl
    have d2_1 := B2.cell 1 (v := .int .i64 0) rfl
    have d2_2 := B2.cell 2 (v := .slice none 0 0) rfl
    have f2 := B2.fro
    have V2 := Lib.hid B2
    clear B2 B4 Y2 Y4
    by_cases hg2 : goodWal (addW x y) = true
    · rw [hg2]
      have HG2 := Lib.hid hg2; clear hg2
      go_wp2
      have hk : KeptF [w.heap.size + 1 + 1] w6 (Rp.setN w6 (w.heap.size + 1 + 1) 0 [.int .i64 x.fFirst, .int .i64 x.fBefore, (.slice pa3 (x.fEntries.length + 1) pc3)]) := Rp.setN_kept (by simp) _ _ _ (KeptF.refl _ _)
      have q := Rp.Row_kept R7.out hk (fun b hm => by have := HQ.out b hm; simp; omega)
      have bf := V2.out.setN [.int .i64 x.fFirst, .int .i64 x.fBefore, (.slice pa3 (x.fEntries.length + 1) pc3)] 0
      change bodyPost _ _ _ _ _ (Rp.setN w6 (w.heap.size + 1 + 1) 0 [.int .i64 x.fFirst, .int .i64 x.fBefore, (.slice pa3 (x.fEntries.length + 1) pc3)])
      clear d4_0 d4_1 d4_2 d2_0 d2_1 d2_2 f2
      generalize Rp.setN w6 (w.heap.size + 1 + 1) 0 [.int .i64 x.fFirst, .int .i64 x.fBefore, (.slice pa3 (x.fEntries.length + 1) pc3)] = wf at *
      have d0 := bf.cell 0 (v := .int .i64 x.fFirst) rfl
      have d1 := bf.cell 1 (v := .int .i64 x.fBefore) rfl
      have d2 := bf.cell 2 (v := (.slice pa3 (x.fEntries.length + 1) pc3)) rfl
      refine bodyPost_ret (v := .tuple #[.agg #[.int .i64 x.fFirst, .int .i64 x.fBefore, (.slice pa3 (x.fEntries.length + 1) pc3)], .bool true]) (by simp [results, Try.results6, go_sem, d0, d1, d2]) rfl ⟨_, by rw [appendB, HG.out, HG2.out, Bool.and_true], ?_⟩
      rw [show appendW x y = addW x y by rw [appendW, appendB, HG.out, HG2.out]; rfl]
      exact ⟨_, _, rfl, q, fun b hm => by have := HQ.out b hm; omega, ofOwn_nodup _, HB7.out.trans (hk.toBelow (by omega) (by simp; omega))⟩
    · have hg3 : goodWal (addW x y) = false := by simpa using hg2
      rw [hg3]
      have HG2 := Lib.hid hg3; clear hg2 hg3
      go_wp2
      have hk : KeptF [w.heap.size + 1 + 1] w6 (Rp.setN w6 (w.heap.size + 1 + 1) 0 [.int .i64 0, .int .i64 0, .slice none 0 0]) := Rp.setN_kept (by simp) _ _ _ (KeptF.refl _ _)
      have bf := V2.out.setN [.int .i64 0, .int .i64 0, .slice none 0 0] 0
      change bodyPost _ _ _ _ _ (Rp.setN w6 (w.heap.size + 1 + 1) 0 [.int .i64 0, .int .i64 0, .slice none 0 0])
      clear d4_0 d4_1 d4_2 d2_0 d2_1 d2_2 f2
      generalize Rp.setN w6 (w.heap.size + 1 + 1) 0 [.int .i64 0, .int .i64 0, .slice none 0 0] = wf at *
      have d0 := bf.cell 0 (v := .int .i64 0) rfl
      have d1 := bf.cell 1 (v := .int .i64 0) rfl
      have d2 := bf.cell 2 (v := .slice none 0 0) rfl
      refine bodyPost_ret (v := .tuple #[.agg #[.int .i64 0, .int .i64 0, .slice none 0 0], .bool false]) (by simp [results, Try.results6, go_sem, d0, d1, d2]) rfl ⟨_, by rw [appendB, HG2.out, Bool.and_false], ?_⟩
      rw [show appendW x y = zWal by rw [appendW, appendB, HG2.out, Bool.and_false]; rfl]
      exact MadeW.zero _ _ (HB7.out.trans (hk.toBelow (by omega) (by simp; omega)))
  · have hg3 : goodWal x = false := by simpa using hg
    have HG := Lib.hid hg3; clear hg hg3
    (with_reducible refine (sGoodWal_calls x v2 _ (Rp.S_below G.out HB5.out) (by omega)).mono ?_)
    rintro e w6 ⟨rfl, hb⟩
    rw [HG.out]
    have B2 := X2.out.below hb
    have HB7 := Lib.hid (HB5.out.trans (hb.mono (by rw [HZ.out]; omega)))
    have hz6 : w3.heap.size ≤ w6.heap.size := by have := hb.size; rwa [HZ.out] at this
    clear hb c3_0 c3_1 c3_2 c4_0 c4_1 c4_2 f4
    have d2_0 := B2.cell 0 (v := .int .i64 0) rfl
    have d2_1 := B2.cell 1 (v := .int .i64 0) rfl
    have d2_2 := B2.cell 2 (v := .slice none 0 0) rfl
    have f2 := B2.fro
    have V2 := Lib.hid B2
    clear B2
    go_wp2
    have hk : KeptF [w.heap.size + 1 + 1] w6 (Rp.setN w6 (w.heap.size + 1 + 1) 0 [.int .i64 0, .int .i64 0, .slice none 0 0]) := Rp.setN_kept (by simp) _ _ _ (KeptF.refl _ _)
    have bf := V2.out.setN [.int .i64 0, .int .i64 0, .slice none 0 0] 0
    change bodyPost _ _ _ _ _ (Rp.setN w6 (w.heap.size + 1 + 1) 0 [.int .i64 0, .int .i64 0, .slice none 0 0])
    clear d2_0 d2_1 d2_2 f2
    generalize Rp.setN w6 (w.heap.size + 1 + 1) 0 [.int .i64 0, .int .i64 0, .slice none 0 0] = wf at *
    have d0 := bf.cell 0 (v := .int .i64 0) rfl
    have d1 := bf.cell 1 (v := .int .i64 0) rfl
    have d2 := bf.cell 2 (v := .slice none 0 0) rfl
    refine bodyPost_ret (v := .tuple #[.agg #[.int .i64 0, .int .i64 0, .slice none 0 0], .bool false]) (by simp [results, Try.results6, go_sem, d0, d1, d2]) rfl ⟨_, by rw [appendB, HG.out, Bool.false_and], ?_⟩
    rw [show appendW x y = zWal by rw [appendW, appendB, HG.out, Bool.false_and]; rfl]
    exact MadeW.zero _ _ (HB7.out.trans (hk.toBelow (by omega) (by simp; omega)))
end Go.Proofs.Ytjigbmgfjmghcaa
