/- spec.ApplyEdit, walked. -/
import Derived.Test.YtiliaijgkedhnaaApH
namespace Go.Proofs.Ytiliaijgkedhnaa
open Go Go.RowKit Go.Sort
set_option linter.unusedVariables false
set_option linter.unusedSimpArgs false

set_option maxHeartbeats 8000000 in
set_option maxRecDepth 100000 in
theorem sAE_calls (x : DVersion) (y : DEdit) (A A2 A3 : Option Addr) (c c2 c3 : Nat) (w : World) (gx : kMeta.S w x.fMetas (.slice A x.fMetas.length c)) (g2 : kInt.S w y.fDrop (.slice A2 y.fDrop.length c2)) (g3 : kMeta.S w y.fAdd (.slice A3 y.fAdd.length c3)) (lx : x.fMetas.length ≤ 1048576) (l2 : y.fDrop.length ≤ 1048576) (l3 : y.fAdd.length ≤ 1048576) :
    Calls Try.prog 6 #[.agg #[.int .i64 x.fNext, .int .i64 x.fSeq, .slice A x.fMetas.length c], .agg #[.int .i64 y.fNext, .int .i64 y.fSeq, .slice A2 y.fDrop.length c2, .slice A3 y.fAdd.length c3]] w
    fun e w' => ∃ cs F, e = .returned (.tuple #[.agg cs.toArray, .bool (apOk x y)]) ∧ kVersion.M w' F (apV x y) cs ∧ (∀ b ∈ F, w.heap.size ≤ b) ∧ F.Nodup ∧ Below w.heap.size w w' := by
  have GX := Lib.hid gx; have G2 := Lib.hid g2; have G3 := Lib.hid g3
  clear gx g2 g3
  have bad : apOk x y = false → ∀ (W : World), Below w.heap.size w W → ∃ cs F, Ending.returned (.tuple #[.agg #[.int .i64 0, .int .i64 0, .slice none 0 0], .bool false]) = .returned (.tuple #[.agg cs.toArray, .bool (apOk x y)]) ∧ kVersion.M W F (apV x y) cs ∧ (∀ b ∈ F, w.heap.size ≤ b) ∧ F.Nodup ∧ Below w.heap.size w W := fun h W hb => by
    have hv : apV x y = ⟨0, 0, []⟩ := by rw [apV, if_neg (by rw [h]; decide)]
    rw [hv, h]
    exact ⟨_, _, rfl, kVersion_make (Rp.Row_nil _ _ _), by simp, by simp, hb⟩
  have BAD := Lib.hid bad; clear bad
  go_enter Try.func6, Try.ntmps6
  go_wp2_with fail
  have hb3 := (((Below.refl w.heap.size w).alloc (Nat.le_refl _) (.cells #[.int .i64 x.fNext, .int .i64 x.fSeq, .slice A x.fMetas.length c] 32)).alloc (by simp) (.cells #[.int .i64 y.fNext, .int .i64 y.fSeq, .slice A2 y.fDrop.length c2, .slice A3 y.fAdd.length c3] 37)).alloc (by simp; omega) (.cells #[.int .i64 0, .int .i64 0, .slice none 0 0] 32)
  have HX := Lib.hid (Box.alloc (o := .cells #[.int .i64 0, .int .i64 0, .slice none 0 0] 32) (Box.alloc (o := .cells #[.int .i64 y.fNext, .int .i64 y.fSeq, .slice A2 y.fDrop.length c2, .slice A3 y.fAdd.length c3] 37) (Box.new (b := w.heap.size) (w := w) (cs := #[.int .i64 x.fNext, .int .i64 x.fSeq, .slice A x.fMetas.length c]) (T := 32) rfl)))
  have HE := Lib.hid (Box.alloc (o := .cells #[.int .i64 0, .int .i64 0, .slice none 0 0] 32) (Box.new (w := w.alloc (.cells #[.int .i64 x.fNext, .int .i64 x.fSeq, .slice A x.fMetas.length c] 32)) (b := w.heap.size + 1) (cs := #[.int .i64 y.fNext, .int .i64 y.fSeq, .slice A2 y.fDrop.length c2, .slice A3 y.fAdd.length c3]) (T := 37) (by simp)))
  have H4 := Lib.hid (Box.new (w := (w.alloc (.cells #[.int .i64 x.fNext, .int .i64 x.fSeq, .slice A x.fMetas.length c] 32)).alloc (.cells #[.int .i64 y.fNext, .int .i64 y.fSeq, .slice A2 y.fDrop.length c2, .slice A3 y.fAdd.length c3] 37)) (b := w.heap.size + 1 + 1) (cs := #[.int .i64 0, .int .i64 0, .slice none 0 0]) (T := 32) (by simp))
  (with_reducible refine (sGoodVersion_calls x _ _ (Rp.S_below GX.out hb3) (by omega)).mono ?_)
  rintro e w1 ⟨rfl, hb⟩
  have hz : w.heap.size + 3 ≤ w1.heap.size := Nat.le_trans (by simp) hb.size
  have HB := Lib.hid (hb3.trans (hb.mono (by simp; omega)))
  replace HX := Lib.hid (HX.out.below hb)
  replace HE := Lib.hid (HE.out.below hb)
  replace H4 := Lib.hid (H4.out.below hb)
  clear hb hb3
  cases h0 : goodVer x
  · have H0 := Lib.hid h0; clear h0
    have z0 := H4.out.cell 0 (v := .int .i64 0) rfl; have z1 := H4.out.cell 1 (v := .int .i64 0) rfl; have z2 := H4.out.cell 2 (v := .slice none 0 0) rfl
    have v0 := H4.out.fro 0; have v1 := H4.out.fro 1; have v2 := H4.out.fro 2; have hl := H4.out.lt
    go_wp2
    have B4f := (((H4.out.set 0 (.int .i64 0)).set 1 (.int .i64 0)).set 2 (.slice none 0 0))
    have hkf : KeptF [w.heap.size + 1 + 1] w1 (((w1.setCell ⟨w.heap.size + 1 + 1, 0, none⟩ (.int .i64 0)).setCell ⟨w.heap.size + 1 + 1, 1, none⟩ (.int .i64 0)).setCell ⟨w.heap.size + 1 + 1, 2, none⟩ (.slice none 0 0)) := (((KeptF.refl _ _).set (by simp) _).set (by simp) _).set (by simp) _
    have hbf := HB.out.trans (hkf.toBelow HB.out.size (fun b hb => by simp at hb; omega))
    have d0 := B4f.cell 0 (v := .int .i64 0) rfl; have d1 := B4f.cell 1 (v := .int .i64 0) rfl; have d2 := B4f.cell 2 (v := .slice none 0 0) rfl
    clear hkf B4f z0 z1 z2 v0 v1 v2 hl
    generalize (((w1.setCell ⟨w.heap.size + 1 + 1, 0, none⟩ (.int .i64 0)).setCell ⟨w.heap.size + 1 + 1, 1, none⟩ (.int .i64 0)).setCell ⟨w.heap.size + 1 + 1, 2, none⟩ (.slice none 0 0)) = W4 at *
    exact bodyPost_ret (v := .tuple #[.agg #[.int .i64 0, .int .i64 0, .slice none 0 0], .bool false]) (by simp [results, Try.results6, go_sem, d0, d1, d2]) rfl (by obtain ⟨cs_, F_, q1_, q2_⟩ := BAD.out (by simp [apOk, ap0, H0.out]) _ hbf; first | exact ⟨cs_, F_, q1_, q2_⟩ | exact ⟨cs_, q1_, F_, q2_⟩)
  have H0 := Lib.hid h0; clear h0
  have x0 := HX.out.cell 0 (v := .int .i64 x.fNext) rfl; have x1 := HX.out.cell 1 (v := .int .i64 x.fSeq) rfl; have x2 := HX.out.cell 2 (v := .slice A x.fMetas.length c) rfl
  have e0 := HE.out.cell 0 (v := .int .i64 y.fNext) rfl; have e1 := HE.out.cell 1 (v := .int .i64 y.fSeq) rfl; have e2 := HE.out.cell 2 (v := .slice A2 y.fDrop.length c2) rfl; have e3 := HE.out.cell 3 (v := .slice A3 y.fAdd.length c3) rfl
  go_wp2_with fail
  (with_reducible refine (sApply_calls x y A A2 A3 c c2 c3 _ (Rp.S_below GX.out HB.out) (Rp.S_below G2.out HB.out) (Rp.S_below G3.out HB.out) lx l2 l3 H0.out).mono ?_)
  rintro e w2 ⟨cs, F, rfl, hm, hF, hN, hb⟩
  obtain ⟨v2, F2, rfl, rfl, r2⟩ := kVersion_open hm
  obtain ⟨P, C, rfl, _⟩ := Rp.Row_K r2
  replace HB := Lib.hid (HB.out.trans (hb.mono HB.out.size))
  replace H4 := Lib.hid (H4.out.below hb)
  have HR := Lib.hid r2; have HF := Lib.hid hF; have HN := Lib.hid hN
  clear hb hm r2 hF hN x0 x1 x2 e0 e1 e2 e3 HX HE
  have z0 := H4.out.cell 0 (v := .int .i64 0) rfl; have z1 := H4.out.cell 1 (v := .int .i64 0) rfl; have z2 := H4.out.cell 2 (v := .slice none 0 0) rfl
  have v0 := H4.out.fro 0; have v1 := H4.out.fro 1; have v2 := H4.out.fro 2; have hl := H4.out.lt
  generalize hV : apV x y = V at *
  have HV := Lib.hid hV; clear hV
  generalize hK : apOk x y = K at *
  have HKK := Lib.hid hK; clear hK
  go_wp2
  have B4f := (((H4.out.set 0 (.int .i64 V.fNext)).set 1 (.int .i64 V.fSeq)).set 2 (.slice P V.fMetas.length C))
  have hkf : KeptF [w.heap.size + 1 + 1] w2 (((w2.setCell ⟨w.heap.size + 1 + 1, 0, none⟩ (.int .i64 V.fNext)).setCell ⟨w.heap.size + 1 + 1, 1, none⟩ (.int .i64 V.fSeq)).setCell ⟨w.heap.size + 1 + 1, 2, none⟩ (.slice P V.fMetas.length C)) := (((KeptF.refl _ _).set (by simp) _).set (by simp) _).set (by simp) _
  have hbf := HB.out.trans (hkf.toBelow HB.out.size (fun b hb => by simp at hb; omega))
  have rd := Rp.Row_kept HR.out hkf (fun b hb h => by have := HF.out b hb; simp at h; omega)
  have d0 := B4f.cell 0 (v := .int .i64 V.fNext) rfl; have d1 := B4f.cell 1 (v := .int .i64 V.fSeq) rfl; have d2 := B4f.cell 2 (v := .slice P V.fMetas.length C) rfl
  clear hkf B4f z0 z1 z2 v0 v1 v2 hl
  generalize (((w2.setCell ⟨w.heap.size + 1 + 1, 0, none⟩ (.int .i64 V.fNext)).setCell ⟨w.heap.size + 1 + 1, 1, none⟩ (.int .i64 V.fSeq)).setCell ⟨w.heap.size + 1 + 1, 2, none⟩ (.slice P V.fMetas.length C)) = W4 at *
  exact bodyPost_ret (v := .tuple #[.agg #[.int .i64 V.fNext, .int .i64 V.fSeq, .slice P V.fMetas.length C], .bool K]) (by simp [results, Try.results6, go_sem, d0, d1, d2]) rfl (by (try rw [HV.out]); (try rw [HKK.out]); first | exact ⟨[.int .i64 V.fNext, .int .i64 V.fSeq, .slice P V.fMetas.length C], _, rfl, kVersion_make rd, fun b hb => by have := HF.out b hb; omega, HN.out, hbf⟩ | exact ⟨[.int .i64 V.fNext, .int .i64 V.fSeq, .slice P V.fMetas.length C], rfl, _, kVersion_make rd, fun b hb => by have := HF.out b hb; omega, HN.out, hbf⟩)
end Go.Proofs.Ytiliaijgkedhnaa
