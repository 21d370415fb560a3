/- EditBetween: impl.EditBetween, walked. -/
import Derived.Test.YtioelmhikablcaaEbB
namespace Go.Proofs.Ytioelmhikablcaa
open Go Go.RowKit Go.Sort
set_option linter.unusedVariables false
set_option linter.unusedSimpArgs false

set_option maxHeartbeats 4000000 in
set_option maxRecDepth 100000 in
theorem iEB_calls (x y : DVersion) (vx vy : Value) (w : World) (gx : kMeta.S w x.fMetas vx) (gy : kMeta.S w y.fMetas vy) (hx : x.fMetas.length ≤ 1048576) (hy : y.fMetas.length ≤ 1048576) :
    Calls Try.prog 57 #[.agg #[.int .i64 x.fNext, .int .i64 x.fSeq, vx], .agg #[.int .i64 y.fNext, .int .i64 y.fSeq, vy]] w
    fun e w' => ∃ cs F, e = .returned (.tuple #[.agg cs.toArray, .bool (ebOk x y)]) ∧ kEdit.M w' F (ebV x y) cs ∧ (∀ b ∈ F, w.heap.size ≤ b) ∧ F.Nodup ∧ Below w.heap.size w w' := by
  have SX := Lib.hid gx; have SY := Lib.hid gy
  obtain ⟨A, c, rfl, _, _⟩ := gx
  obtain ⟨A2, c2, rfl, _, _⟩ := gy
  have bad : ebOk x y = false → ∀ (W : World), Below w.heap.size w W → ∃ cs F, Ending.returned (.tuple #[.agg #[.int .i64 0, .int .i64 0, .slice none 0 0, .slice none 0 0], .bool false]) = .returned (.tuple #[.agg cs.toArray, .bool (ebOk x y)]) ∧ kEdit.M W F (ebV x y) cs ∧ (∀ b ∈ F, w.heap.size ≤ b) ∧ F.Nodup ∧ Below w.heap.size w W := fun h W hb => by
    have hv : ebV x y = ⟨0, 0, [], []⟩ := by rw [ebV, if_neg (by rw [h]; decide)]
    rw [hv, h]
    exact ⟨_, _, rfl, kEdit_make (Rp.Row_nil _ _ _) (Rp.Row_nil _ _ _), by simp, by simp, hb⟩
  have BAD := Lib.hid bad; clear bad
  go_enter Try.func57, Try.ntmps57
  go_wp2_with fail
  (with_reducible refine (iGoodVersion_calls x _ _ (Rp.S_below SX.out ((((Below.refl w.heap.size w).alloc (Nat.le_refl _) _).alloc (by simp) _).alloc (by simp; omega) _)) (by omega)).mono ?_)
  rintro e w1 ⟨rfl, hb⟩
  have HB1 := Lib.hid (((((Below.refl w.heap.size w).alloc (Nat.le_refl _) _).alloc (by simp) _).alloc (by simp; omega) _).trans (hb.mono (by simp; omega)))
  have HX1 := Lib.hid (Box.below (Box.alloc (Box.alloc (Box.new (b := w.heap.size) (w := w) (cs := #[.int .i64 x.fNext, .int .i64 x.fSeq, .slice A x.fMetas.length c]) (T := 102) rfl))) hb)
  have HY1 := Lib.hid (Box.below (Box.alloc (Box.new (b := w.heap.size + 1) (cs := #[.int .i64 y.fNext, .int .i64 y.fSeq, .slice A2 y.fMetas.length c2]) (T := 102) (by simp))) hb)
  have H41 := Lib.hid (Box.below (Box.new (b := w.heap.size + 1 + 1) (cs := #[.int .i64 0, .int .i64 0, .slice none 0 0, .slice none 0 0]) (T := 92) (by simp)) hb)
  clear hb
  cases h1 : goodVer x
  · have z0 := H41.out.cell 0 (v := .int .i64 0) rfl; have z1 := H41.out.cell 1 (v := .int .i64 0) rfl; have z2 := H41.out.cell 2 (v := .slice none 0 0) rfl; have z3 := H41.out.cell 3 (v := .slice none 0 0) rfl
    have v0 := H41.out.fro 0; have v1 := H41.out.fro 1; have v2 := H41.out.fro 2; have v3 := H41.out.fro 3; have hl := H41.out.lt
    go_wp2
    have B4f := (((H41.out.set 0 (.int .i64 0)).set 1 (.int .i64 0)).set 2 (.slice none 0 0)).set 3 (.slice none 0 0)
    have hkf : KeptF [w.heap.size + 1 + 1] w1 ((((w1.setCell ⟨w.heap.size + 1 + 1, 0, none⟩ (.int .i64 0)).setCell ⟨w.heap.size + 1 + 1, 1, none⟩ (.int .i64 0)).setCell ⟨w.heap.size + 1 + 1, 2, none⟩ (.slice none 0 0)).setCell ⟨w.heap.size + 1 + 1, 3, none⟩ (.slice none 0 0)) := ((((KeptF.refl _ _).set (by simp) _).set (by simp) _).set (by simp) _).set (by simp) _
    have hbf := HB1.out.trans (hkf.toBelow HB1.out.size (fun b hb => by simp at hb; omega))
    have d0 := B4f.cell 0 (v := .int .i64 0) rfl; have d1 := B4f.cell 1 (v := .int .i64 0) rfl; have d2 := B4f.cell 2 (v := .slice none 0 0) rfl; have d3 := B4f.cell 3 (v := .slice none 0 0) rfl
    clear hkf B4f z0 z1 z2 z3 v0 v1 v2 v3 hl
    generalize ((((w1.setCell ⟨w.heap.size + 1 + 1, 0, none⟩ (.int .i64 0)).setCell ⟨w.heap.size + 1 + 1, 1, none⟩ (.int .i64 0)).setCell ⟨w.heap.size + 1 + 1, 2, none⟩ (.slice none 0 0)).setCell ⟨w.heap.size + 1 + 1, 3, none⟩ (.slice none 0 0)) = W4 at *
    exact bodyPost_ret (v := .tuple #[.agg #[.int .i64 0, .int .i64 0, .slice none 0 0, .slice none 0 0], .bool false]) (by simp [results, Try.results57, go_sem, d0, d1, d2, d3]) rfl (BAD.out (by simp [ebOk, h1]) _ hbf)
  · have y0 := HY1.out.cell 0 (v := .int .i64 y.fNext) rfl; have y1 := HY1.out.cell 1 (v := .int .i64 y.fSeq) rfl; have y2 := HY1.out.cell 2 (v := .slice A2 y.fMetas.length c2) rfl
    go_wp2_with fail
    (with_reducible refine (iGoodVersion_calls y _ _ (Rp.S_below SY.out HB1.out) (by omega)).mono ?_)
    rintro e w2 ⟨rfl, hb⟩
    have HB2 := Lib.hid (HB1.out.trans (hb.mono HB1.out.size))
    have HX2 := Lib.hid (Box.below HX1.out hb)
    have HY2 := Lib.hid (Box.below HY1.out hb)
    have H42 := Lib.hid (Box.below H41.out hb)
    clear hb HB1 HX1 HY1 H41 y0 y1 y2
    cases h2 : goodVer y
    · have z0 := H42.out.cell 0 (v := .int .i64 0) rfl; have z1 := H42.out.cell 1 (v := .int .i64 0) rfl; have z2 := H42.out.cell 2 (v := .slice none 0 0) rfl; have z3 := H42.out.cell 3 (v := .slice none 0 0) rfl
      have v0 := H42.out.fro 0; have v1 := H42.out.fro 1; have v2 := H42.out.fro 2; have v3 := H42.out.fro 3; have hl := H42.out.lt
      go_wp2
      have B4f := (((H42.out.set 0 (.int .i64 0)).set 1 (.int .i64 0)).set 2 (.slice none 0 0)).set 3 (.slice none 0 0)
      have hkf : KeptF [w.heap.size + 1 + 1] w2 ((((w2.setCell ⟨w.heap.size + 1 + 1, 0, none⟩ (.int .i64 0)).setCell ⟨w.heap.size + 1 + 1, 1, none⟩ (.int .i64 0)).setCell ⟨w.heap.size + 1 + 1, 2, none⟩ (.slice none 0 0)).setCell ⟨w.heap.size + 1 + 1, 3, none⟩ (.slice none 0 0)) := ((((KeptF.refl _ _).set (by simp) _).set (by simp) _).set (by simp) _).set (by simp) _
      have hbf := HB2.out.trans (hkf.toBelow HB2.out.size (fun b hb => by simp at hb; omega))
      have d0 := B4f.cell 0 (v := .int .i64 0) rfl; have d1 := B4f.cell 1 (v := .int .i64 0) rfl; have d2 := B4f.cell 2 (v := .slice none 0 0) rfl; have d3 := B4f.cell 3 (v := .slice none 0 0) rfl
      clear hkf B4f z0 z1 z2 z3 v0 v1 v2 v3 hl
      generalize ((((w2.setCell ⟨w.heap.size + 1 + 1, 0, none⟩ (.int .i64 0)).setCell ⟨w.heap.size + 1 + 1, 1, none⟩ (.int .i64 0)).setCell ⟨w.heap.size + 1 + 1, 2, none⟩ (.slice none 0 0)).setCell ⟨w.heap.size + 1 + 1, 3, none⟩ (.slice none 0 0)) = W4 at *
      exact bodyPost_ret (v := .tuple #[.agg #[.int .i64 0, .int .i64 0, .slice none 0 0, .slice none 0 0], .bool false]) (by simp [results, Try.results57, go_sem, d0, d1, d2, d3]) rfl (BAD.out (by simp [ebOk, h2]) _ hbf)
    · have x0 := HX2.out.cell 0 (v := .int .i64 x.fNext) rfl; have x1 := HX2.out.cell 1 (v := .int .i64 x.fSeq) rfl; have x2 := HX2.out.cell 2 (v := .slice A x.fMetas.length c) rfl; have y0 := HY2.out.cell 0 (v := .int .i64 y.fNext) rfl; have y1 := HY2.out.cell 1 (v := .int .i64 y.fSeq) rfl; have y2 := HY2.out.cell 2 (v := .slice A2 y.fMetas.length c2) rfl
      by_cases h3 : y.fNext < x.fNext
      · have z0 := H42.out.cell 0 (v := .int .i64 0) rfl; have z1 := H42.out.cell 1 (v := .int .i64 0) rfl; have z2 := H42.out.cell 2 (v := .slice none 0 0) rfl; have z3 := H42.out.cell 3 (v := .slice none 0 0) rfl
        have v0 := H42.out.fro 0; have v1 := H42.out.fro 1; have v2 := H42.out.fro 2; have v3 := H42.out.fro 3; have hl := H42.out.lt
        go_wp2
        have B4f := (((H42.out.set 0 (.int .i64 0)).set 1 (.int .i64 0)).set 2 (.slice none 0 0)).set 3 (.slice none 0 0)
        have hkf : KeptF [w.heap.size + 1 + 1] w2 ((((w2.setCell ⟨w.heap.size + 1 + 1, 0, none⟩ (.int .i64 0)).setCell ⟨w.heap.size + 1 + 1, 1, none⟩ (.int .i64 0)).setCell ⟨w.heap.size + 1 + 1, 2, none⟩ (.slice none 0 0)).setCell ⟨w.heap.size + 1 + 1, 3, none⟩ (.slice none 0 0)) := ((((KeptF.refl _ _).set (by simp) _).set (by simp) _).set (by simp) _).set (by simp) _
        have hbf := HB2.out.trans (hkf.toBelow HB2.out.size (fun b hb => by simp at hb; omega))
        have d0 := B4f.cell 0 (v := .int .i64 0) rfl; have d1 := B4f.cell 1 (v := .int .i64 0) rfl; have d2 := B4f.cell 2 (v := .slice none 0 0) rfl; have d3 := B4f.cell 3 (v := .slice none 0 0) rfl
        clear hkf B4f z0 z1 z2 z3 v0 v1 v2 v3 hl
        generalize ((((w2.setCell ⟨w.heap.size + 1 + 1, 0, none⟩ (.int .i64 0)).setCell ⟨w.heap.size + 1 + 1, 1, none⟩ (.int .i64 0)).setCell ⟨w.heap.size + 1 + 1, 2, none⟩ (.slice none 0 0)).setCell ⟨w.heap.size + 1 + 1, 3, none⟩ (.slice none 0 0)) = W4 at *
        exact bodyPost_ret (v := .tuple #[.agg #[.int .i64 0, .int .i64 0, .slice none 0 0, .slice none 0 0], .bool false]) (by simp [results, Try.results57, go_sem, d0, d1, d2, d3]) rfl (BAD.out (by simp [ebOk]; omega) _ hbf)
      · by_cases h4 : y.fSeq < x.fSeq
        · have z0 := H42.out.cell 0 (v := .int .i64 0) rfl; have z1 := H42.out.cell 1 (v := .int .i64 0) rfl; have z2 := H42.out.cell 2 (v := .slice none 0 0) rfl; have z3 := H42.out.cell 3 (v := .slice none 0 0) rfl
          have v0 := H42.out.fro 0; have v1 := H42.out.fro 1; have v2 := H42.out.fro 2; have v3 := H42.out.fro 3; have hl := H42.out.lt
          go_wp2
          have B4f := (((H42.out.set 0 (.int .i64 0)).set 1 (.int .i64 0)).set 2 (.slice none 0 0)).set 3 (.slice none 0 0)
          have hkf : KeptF [w.heap.size + 1 + 1] w2 ((((w2.setCell ⟨w.heap.size + 1 + 1, 0, none⟩ (.int .i64 0)).setCell ⟨w.heap.size + 1 + 1, 1, none⟩ (.int .i64 0)).setCell ⟨w.heap.size + 1 + 1, 2, none⟩ (.slice none 0 0)).setCell ⟨w.heap.size + 1 + 1, 3, none⟩ (.slice none 0 0)) := ((((KeptF.refl _ _).set (by simp) _).set (by simp) _).set (by simp) _).set (by simp) _
          have hbf := HB2.out.trans (hkf.toBelow HB2.out.size (fun b hb => by simp at hb; omega))
          have d0 := B4f.cell 0 (v := .int .i64 0) rfl; have d1 := B4f.cell 1 (v := .int .i64 0) rfl; have d2 := B4f.cell 2 (v := .slice none 0 0) rfl; have d3 := B4f.cell 3 (v := .slice none 0 0) rfl
          clear hkf B4f z0 z1 z2 z3 v0 v1 v2 v3 hl
          generalize ((((w2.setCell ⟨w.heap.size + 1 + 1, 0, none⟩ (.int .i64 0)).setCell ⟨w.heap.size + 1 + 1, 1, none⟩ (.int .i64 0)).setCell ⟨w.heap.size + 1 + 1, 2, none⟩ (.slice none 0 0)).setCell ⟨w.heap.size + 1 + 1, 3, none⟩ (.slice none 0 0)) = W4 at *
          exact bodyPost_ret (v := .tuple #[.agg #[.int .i64 0, .int .i64 0, .slice none 0 0, .slice none 0 0], .bool false]) (by simp [results, Try.results57, go_sem, d0, d1, d2, d3]) rfl (BAD.out (by simp [ebOk]; omega) _ hbf)
        · have hok : ebOk x y = true := by simp [ebOk, h1, h2]; omega
          go_wp2_with fail
          (with_reducible refine (iEb_calls x y _ _ _ (Rp.S_below SX.out HB2.out) (Rp.S_below SY.out HB2.out) hx hy).mono ?_)
          rintro e w3 ⟨cs, F, rfl, hm, hF, hN, hb⟩
          obtain ⟨v2, v3, F2, F3, rfl, rfl, r2, r3⟩ := kEdit_open hm
          obtain ⟨P, C, rfl, _⟩ := Rp.Row_K r2
          obtain ⟨P', C', rfl, _⟩ := Rp.Row_K r3
          have HB3 := Lib.hid (HB2.out.trans (hb.mono HB2.out.size))
          have H43 := Lib.hid (Box.below H42.out hb)
          have R2 := Lib.hid r2; have R3 := Lib.hid r3; have HF := Lib.hid hF; have HN := Lib.hid hN
          have hlt4 := H42.out.lt
          clear hb hm r2 r3 hF hN
          have hv : ebV x y = ebE x y := by rw [ebV, if_pos hok]
          generalize ebE x y = E at *
          have HV := Lib.hid hv; have HOK := Lib.hid hok; clear hv hok
          have z0 := H43.out.cell 0 (v := .int .i64 0) rfl; have z1 := H43.out.cell 1 (v := .int .i64 0) rfl; have z2 := H43.out.cell 2 (v := .slice none 0 0) rfl; have z3 := H43.out.cell 3 (v := .slice none 0 0) rfl
          have v0 := H43.out.fro 0; have v1 := H43.out.fro 1; have v2 := H43.out.fro 2; have v3 := H43.out.fro 3; have hl := H43.out.lt
          go_wp2
          have B4f := ((((H43.out.set 0 (.int .i64 E.fNext)).set 1 (.int .i64 E.fSeq)).set 2 (.slice P E.fDrop.length C)).set 3 (.slice P' E.fAdd.length C'))
          have hkf : KeptF [w.heap.size + 1 + 1] w3 ((((w3.setCell ⟨w.heap.size + 1 + 1, 0, none⟩ (.int .i64 E.fNext)).setCell ⟨w.heap.size + 1 + 1, 1, none⟩ (.int .i64 E.fSeq)).setCell ⟨w.heap.size + 1 + 1, 2, none⟩ (.slice P E.fDrop.length C)).setCell ⟨w.heap.size + 1 + 1, 3, none⟩ (.slice P' E.fAdd.length C')) := ((((KeptF.refl _ _).set (by simp) _).set (by simp) _).set (by simp) _).set (by simp) _
          have hbf := HB3.out.trans (hkf.toBelow HB3.out.size (fun b hb => by simp at hb; omega))
          have rd := Rp.Row_kept R2.out hkf (fun b hb h => by have := HF.out b (List.mem_append_left _ hb); simp at h; omega)
          have ra := Rp.Row_kept R3.out hkf (fun b hb h => by have := HF.out b (List.mem_append_right _ hb); simp at h; omega)
          have d0 := B4f.cell 0 (v := .int .i64 E.fNext) rfl; have d1 := B4f.cell 1 (v := .int .i64 E.fSeq) rfl; have d2 := B4f.cell 2 (v := .slice P E.fDrop.length C) rfl; have d3 := B4f.cell 3 (v := .slice P' E.fAdd.length C') rfl
          clear hkf B4f z0 z1 z2 z3 v0 v1 v2 v3 hl
          generalize ((((w3.setCell ⟨w.heap.size + 1 + 1, 0, none⟩ (.int .i64 E.fNext)).setCell ⟨w.heap.size + 1 + 1, 1, none⟩ (.int .i64 E.fSeq)).setCell ⟨w.heap.size + 1 + 1, 2, none⟩ (.slice P E.fDrop.length C)).setCell ⟨w.heap.size + 1 + 1, 3, none⟩ (.slice P' E.fAdd.length C')) = W4 at *
          exact bodyPost_ret (v := .tuple #[.agg #[.int .i64 E.fNext, .int .i64 E.fSeq, .slice P E.fDrop.length C, .slice P' E.fAdd.length C'], .bool true]) (by simp [results, Try.results57, go_sem, d0, d1, d2, d3]) rfl ⟨[.int .i64 E.fNext, .int .i64 E.fSeq, .slice P E.fDrop.length C, .slice P' E.fAdd.length C'], F2 ++ F3, by rw [HOK.out], by rw [HV.out]; exact kEdit_make rd ra, fun b hb => Nat.le_trans HB2.out.size (HF.out b hb), HN.out, hbf⟩
end Go.Proofs.Ytioelmhikablcaa
