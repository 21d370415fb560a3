/- impl.ApplyEdit, walked. -/
import Derived.Test.YtiliaijgkedhnaaApE
import Derived.Test.YtiliaijgkedhnaaApF3
import Derived.Test.YtiliaijgkedhnaaApH
namespace Go.Proofs.Ytiliaijgkedhnaa
open Go Go.RowKit Go.Sort
set_option linter.unusedVariables false
set_option linter.unusedSimpArgs false

theorem iVer3 (n s : Int) (l : List DMeta) (v : Value) (w : World) (g : kMeta.S w l v) (hl : l.length ≤ 140737488355328) : Calls Try.prog 21 #[.agg #[.int .i64 n, .int .i64 s, v]] w
    fun e w' => e = .returned (.bool (goodVer ⟨n, s, l⟩)) ∧ Below w.heap.size w w' := iGoodVersion_calls ⟨n, s, l⟩ v w g hl
theorem keep_at {x : List DMeta} {dr : List Int} {k : Nat} (hx : x.Pairwise numLt) (h : k < dr.length) (h1 : atN (keepM x (dr.take k)) dr[k] < (keepM x (dr.take k)).length) : keepM x (dr.take (k + 1)) = (keepM x (dr.take k)).take (atN (keepM x (dr.take k)) dr[k]) ++ (keepM x (dr.take k)).drop (atN (keepM x (dr.take k)) dr[k] + 1) := by
  rw [keepM_step h, erase_filter (keepM_pair hx _) h1]
/-- Where what is put behind is there already, what comes out is not good. -/
theorem add_twice {x : DVersion} {y : DEdit} (ha : y.fAdd.Pairwise numLt) {k : Nat} (hk : k < y.fAdd.length) (h : atN (keepM x.fMetas y.fDrop ++ y.fAdd.take k) y.fAdd[k].fNumber < (keepM x.fMetas y.fDrop ++ y.fAdd.take k).length) : goodVer (apE x y) = false := by
  rw [Bool.eq_false_iff]
  intro hg
  obtain ⟨m, hm, he⟩ := at_in.1 h
  rcases List.mem_append.1 hm with hm | hm
  · exact add_once hg m hm _ (List.getElem_mem hk) he
  · obtain ⟨i, hi, rfl⟩ := List.mem_iff_getElem.1 hm
    rw [List.length_take] at hi
    rw [List.getElem_take] at he
    have := List.pairwise_iff_getElem.1 ha i k (by omega) hk (by omega)
    unfold numLt at this
    omega
/-- Where it is not there, it is none of those that were kept. -/
theorem add_fresh {x : DVersion} {y : DEdit} {k : Nat} (hk : k < y.fAdd.length) (h : ¬ atN (keepM x.fMetas y.fDrop ++ y.fAdd.take k) y.fAdd[k].fNumber < (keepM x.fMetas y.fDrop ++ y.fAdd.take k).length) (m : DMeta) (hm : m ∈ keepM x.fMetas y.fDrop) : m.fNumber ≠ y.fAdd[k].fNumber := fun he => h (at_in.2 ⟨m, List.mem_append_left _ hm, he⟩)
theorem add_next {x : DVersion} {y : DEdit} {k : Nat} (hk : k < y.fAdd.length) : keepM x.fMetas y.fDrop ++ y.fAdd.take (k + 1) = (keepM x.fMetas y.fDrop ++ y.fAdd.take k) ++ [y.fAdd[k]] := by
  rw [List.take_add_one, List.getElem?_eq_getElem hk, List.append_assoc]
  rfl
set_option maxHeartbeats 8000000 in
set_option maxRecDepth 100000 in
theorem iApply_calls (x : DVersion) (y : DEdit) (A A2 A3 : Option Addr) (c c2 c3 : Nat) (w : World) (gx : kMeta.S w x.fMetas (.slice A x.fMetas.length c)) (g2 : kInt.S w y.fDrop (.slice A2 y.fDrop.length c2)) (g3 : kMeta.S w y.fAdd (.slice A3 y.fAdd.length c3)) (lx : x.fMetas.length ≤ 1048576) (l2 : y.fDrop.length ≤ 1048576) (l3 : y.fAdd.length ≤ 1048576) :
    Calls Try.prog 9 #[.agg #[.int .i64 x.fNext, .int .i64 x.fSeq, .slice A x.fMetas.length c], .agg #[.int .i64 y.fNext, .int .i64 y.fSeq, .slice A2 y.fDrop.length c2, .slice A3 y.fAdd.length c3]] w
    fun e w' => ∃ cs F, e = .returned (.tuple #[.agg cs.toArray, .bool (apOk x y)]) ∧ kVersion.M w' F (apV x y) cs ∧ (∀ b ∈ F, w.heap.size ≤ b) ∧ F.Nodup ∧ Below w.heap.size w w' := by
  have GX := Lib.hid gx; have G2 := Lib.hid g2; have G3 := Lib.hid g3
  obtain ⟨A_, c_, e_, hc2, hgx⟩ := g2
  obtain ⟨rfl, _, rfl⟩ := Value.slice.inj e_
  have H2 := Lib.hid hgx; clear hgx e_
  obtain ⟨A_, c_, e_, hc3, hgx⟩ := g3
  obtain ⟨rfl, _, rfl⟩ := Value.slice.inj e_
  have H3 := Lib.hid hgx; clear hgx e_ gx
  have bad : apOk x y = false → ∀ (W : World), Below w.heap.size w W → ∃ cs F, Ending.returned (.tuple #[.agg #[.int .i64 0, .int .i64 0, .slice none 0 0], .bool false]) = .returned (.tuple #[.agg cs.toArray, .bool (apOk x y)]) ∧ kVersion.M W F (apV x y) cs ∧ (∀ b ∈ F, w.heap.size ≤ b) ∧ F.Nodup ∧ Below w.heap.size w W := fun h W hb => by
    have hv : apV x y = ⟨0, 0, []⟩ := by rw [apV, if_neg (by rw [h]; decide)]
    rw [hv, h]
    exact ⟨_, _, rfl, kVersion_make (Rp.Row_nil _ _ _), by simp, by simp, hb⟩
  have BAD := Lib.hid bad; clear bad
  go_enter Try.func9, Try.ntmps9
  go_wp2_with fail
  have hb3 := (((Below.refl w.heap.size w).alloc (Nat.le_refl _) (.cells #[.int .i64 x.fNext, .int .i64 x.fSeq, .slice A x.fMetas.length c] 32)).alloc (by simp) (.cells #[.int .i64 y.fNext, .int .i64 y.fSeq, .slice A2 y.fDrop.length c2, .slice A3 y.fAdd.length c3] 37)).alloc (by simp; omega) (.cells #[.int .i64 0, .int .i64 0, .slice none 0 0] 32)
  have HX := Lib.hid (Box.alloc (o := .cells #[.int .i64 0, .int .i64 0, .slice none 0 0] 32) (Box.alloc (o := .cells #[.int .i64 y.fNext, .int .i64 y.fSeq, .slice A2 y.fDrop.length c2, .slice A3 y.fAdd.length c3] 37) (Box.new (b := w.heap.size) (w := w) (cs := #[.int .i64 x.fNext, .int .i64 x.fSeq, .slice A x.fMetas.length c]) (T := 32) rfl)))
  have HE := Lib.hid (Box.alloc (o := .cells #[.int .i64 0, .int .i64 0, .slice none 0 0] 32) (Box.new (w := w.alloc (.cells #[.int .i64 x.fNext, .int .i64 x.fSeq, .slice A x.fMetas.length c] 32)) (b := w.heap.size + 1) (cs := #[.int .i64 y.fNext, .int .i64 y.fSeq, .slice A2 y.fDrop.length c2, .slice A3 y.fAdd.length c3]) (T := 37) (by simp)))
  have H4 := Lib.hid (Box.new (w := (w.alloc (.cells #[.int .i64 x.fNext, .int .i64 x.fSeq, .slice A x.fMetas.length c] 32)).alloc (.cells #[.int .i64 y.fNext, .int .i64 y.fSeq, .slice A2 y.fDrop.length c2, .slice A3 y.fAdd.length c3] 37)) (b := w.heap.size + 1 + 1) (cs := #[.int .i64 0, .int .i64 0, .slice none 0 0]) (T := 32) (by simp))
  (with_reducible refine (iGoodVersion_calls x _ _ (Rp.S_below GX.out hb3) (by omega)).mono ?_)
  rintro e w1 ⟨rfl, hb⟩
  have hz : w.heap.size + 3 ≤ w1.heap.size := Nat.le_trans (by simp) hb.size
  have HB := Lib.hid (hb3.trans (hb.mono (by simp; omega)))
  replace HX := Lib.hid (HX.out.below hb)
  replace HE := Lib.hid (HE.out.below hb)
  replace H4 := Lib.hid (H4.out.below hb)
  clear hb hb3
  cases h0 : goodVer x
  · have H0 := Lib.hid h0; clear h0
    have z0 := H4.out.cell 0 (v := .int .i64 0) rfl; have z1 := H4.out.cell 1 (v := .int .i64 0) rfl; have z2 := H4.out.cell 2 (v := .slice none 0 0) rfl
    have v0 := H4.out.fro 0; have v1 := H4.out.fro 1; have v2 := H4.out.fro 2; have hl := H4.out.lt
    go_wp2
    have B4f := (((H4.out.set 0 (.int .i64 0)).set 1 (.int .i64 0)).set 2 (.slice none 0 0))
    have hkf : KeptF [w.heap.size + 1 + 1] w1 (((w1.setCell ⟨w.heap.size + 1 + 1, 0, none⟩ (.int .i64 0)).setCell ⟨w.heap.size + 1 + 1, 1, none⟩ (.int .i64 0)).setCell ⟨w.heap.size + 1 + 1, 2, none⟩ (.slice none 0 0)) := (((KeptF.refl _ _).set (by simp) _).set (by simp) _).set (by simp) _
    have hbf := HB.out.trans (hkf.toBelow HB.out.size (fun b hb => by simp at hb; omega))
    have d0 := B4f.cell 0 (v := .int .i64 0) rfl; have d1 := B4f.cell 1 (v := .int .i64 0) rfl; have d2 := B4f.cell 2 (v := .slice none 0 0) rfl
    clear hkf B4f z0 z1 z2 v0 v1 v2 hl
    generalize (((w1.setCell ⟨w.heap.size + 1 + 1, 0, none⟩ (.int .i64 0)).setCell ⟨w.heap.size + 1 + 1, 1, none⟩ (.int .i64 0)).setCell ⟨w.heap.size + 1 + 1, 2, none⟩ (.slice none 0 0)) = W4 at *
    exact bodyPost_ret (v := .tuple #[.agg #[.int .i64 0, .int .i64 0, .slice none 0 0], .bool false]) (by simp [results, Try.results9, go_sem, d0, d1, d2]) rfl (by obtain ⟨cs_, F_, q1_, q2_⟩ := BAD.out (by simp [apOk, ap0, H0.out]) _ hbf; first | exact ⟨cs_, F_, q1_, q2_⟩ | exact ⟨cs_, q1_, F_, q2_⟩)
  have H0 := Lib.hid h0; clear h0
  have e0 := HE.out.cell 0 (v := .int .i64 y.fNext) rfl; have e1 := HE.out.cell 1 (v := .int .i64 y.fSeq) rfl; have e2 := HE.out.cell 2 (v := .slice A2 y.fDrop.length c2) rfl; have e3 := HE.out.cell 3 (v := .slice A3 y.fAdd.length c3) rfl
  go_wp2_with fail
  (with_reducible refine (iGoodEdit_calls y A2 A3 c2 c3 _ (Rp.S_below G2.out HB.out) (Rp.S_below G3.out HB.out) l2 l3).mono ?_)
  rintro e w2 ⟨rfl, hb⟩
  have hz := Nat.le_trans hz hb.size
  replace HB := Lib.hid (HB.out.trans (hb.mono HB.out.size))
  replace HX := Lib.hid (HX.out.below hb)
  replace HE := Lib.hid (HE.out.below hb)
  replace H4 := Lib.hid (H4.out.below hb)
  clear hb e0 e1 e2 e3
  cases h1 : goodEd y
  · have H1 := Lib.hid h1; clear h1
    have z0 := H4.out.cell 0 (v := .int .i64 0) rfl; have z1 := H4.out.cell 1 (v := .int .i64 0) rfl; have z2 := H4.out.cell 2 (v := .slice none 0 0) rfl
    have v0 := H4.out.fro 0; have v1 := H4.out.fro 1; have v2 := H4.out.fro 2; have hl := H4.out.lt
    go_wp2
    have B4f := (((H4.out.set 0 (.int .i64 0)).set 1 (.int .i64 0)).set 2 (.slice none 0 0))
    have hkf : KeptF [w.heap.size + 1 + 1] w2 (((w2.setCell ⟨w.heap.size + 1 + 1, 0, none⟩ (.int .i64 0)).setCell ⟨w.heap.size + 1 + 1, 1, none⟩ (.int .i64 0)).setCell ⟨w.heap.size + 1 + 1, 2, none⟩ (.slice none 0 0)) := (((KeptF.refl _ _).set (by simp) _).set (by simp) _).set (by simp) _
    have hbf := HB.out.trans (hkf.toBelow HB.out.size (fun b hb => by simp at hb; omega))
    have d0 := B4f.cell 0 (v := .int .i64 0) rfl; have d1 := B4f.cell 1 (v := .int .i64 0) rfl; have d2 := B4f.cell 2 (v := .slice none 0 0) rfl
    clear hkf B4f z0 z1 z2 v0 v1 v2 hl
    generalize (((w2.setCell ⟨w.heap.size + 1 + 1, 0, none⟩ (.int .i64 0)).setCell ⟨w.heap.size + 1 + 1, 1, none⟩ (.int .i64 0)).setCell ⟨w.heap.size + 1 + 1, 2, none⟩ (.slice none 0 0)) = W4 at *
    exact bodyPost_ret (v := .tuple #[.agg #[.int .i64 0, .int .i64 0, .slice none 0 0], .bool false]) (by simp [results, Try.results9, go_sem, d0, d1, d2]) rfl (by obtain ⟨cs_, F_, q1_, q2_⟩ := BAD.out (by simp [apOk, ap0, H1.out]) _ hbf; first | exact ⟨cs_, F_, q1_, q2_⟩ | exact ⟨cs_, q1_, F_, q2_⟩)
  have H1 := Lib.hid h1; clear h1
  have hyl := goodEd_rise H1.out
  have hdl : y.fDrop.length ≤ 30 := hyl.2.2.1
  have hal : y.fAdd.length ≤ 30 := hyl.2.2.2
  have HDP := Lib.hid hyl.1; have HAP := Lib.hid hyl.2.1
  have hxl := (goodVer_rise H0.out).2
  have HXP := Lib.hid (goodVer_rise H0.out).1
  clear hyl
  have x0 := HX.out.cell 0 (v := .int .i64 x.fNext) rfl; have x1 := HX.out.cell 1 (v := .int .i64 x.fSeq) rfl
  have y0 := HE.out.cell 0 (v := .int .i64 y.fNext) rfl; have y1 := HE.out.cell 1 (v := .int .i64 y.fSeq) rfl
  by_cases h2 : y.fNext < x.fNext
  · have z0 := H4.out.cell 0 (v := .int .i64 0) rfl; have z1 := H4.out.cell 1 (v := .int .i64 0) rfl; have z2 := H4.out.cell 2 (v := .slice none 0 0) rfl
    have v0 := H4.out.fro 0; have v1 := H4.out.fro 1; have v2 := H4.out.fro 2; have hl := H4.out.lt
    go_wp2
    have B4f := (((H4.out.set 0 (.int .i64 0)).set 1 (.int .i64 0)).set 2 (.slice none 0 0))
    have hkf : KeptF [w.heap.size + 1 + 1] w2 (((w2.setCell ⟨w.heap.size + 1 + 1, 0, none⟩ (.int .i64 0)).setCell ⟨w.heap.size + 1 + 1, 1, none⟩ (.int .i64 0)).setCell ⟨w.heap.size + 1 + 1, 2, none⟩ (.slice none 0 0)) := (((KeptF.refl _ _).set (by simp) _).set (by simp) _).set (by simp) _
    have hbf := HB.out.trans (hkf.toBelow HB.out.size (fun b hb => by simp at hb; omega))
    have d0 := B4f.cell 0 (v := .int .i64 0) rfl; have d1 := B4f.cell 1 (v := .int .i64 0) rfl; have d2 := B4f.cell 2 (v := .slice none 0 0) rfl
    clear hkf B4f z0 z1 z2 v0 v1 v2 hl
    generalize (((w2.setCell ⟨w.heap.size + 1 + 1, 0, none⟩ (.int .i64 0)).setCell ⟨w.heap.size + 1 + 1, 1, none⟩ (.int .i64 0)).setCell ⟨w.heap.size + 1 + 1, 2, none⟩ (.slice none 0 0)) = W4 at *
    exact bodyPost_ret (v := .tuple #[.agg #[.int .i64 0, .int .i64 0, .slice none 0 0], .bool false]) (by simp [results, Try.results9, go_sem, d0, d1, d2]) rfl (by obtain ⟨cs_, F_, q1_, q2_⟩ := BAD.out (by simp [apOk, ap0]; omega) _ hbf; first | exact ⟨cs_, F_, q1_, q2_⟩ | exact ⟨cs_, q1_, F_, q2_⟩)
  by_cases h3 : y.fSeq < x.fSeq
  · have z0 := H4.out.cell 0 (v := .int .i64 0) rfl; have z1 := H4.out.cell 1 (v := .int .i64 0) rfl; have z2 := H4.out.cell 2 (v := .slice none 0 0) rfl
    have v0 := H4.out.fro 0; have v1 := H4.out.fro 1; have v2 := H4.out.fro 2; have hl := H4.out.lt
    go_wp2
    have B4f := (((H4.out.set 0 (.int .i64 0)).set 1 (.int .i64 0)).set 2 (.slice none 0 0))
    have hkf : KeptF [w.heap.size + 1 + 1] w2 (((w2.setCell ⟨w.heap.size + 1 + 1, 0, none⟩ (.int .i64 0)).setCell ⟨w.heap.size + 1 + 1, 1, none⟩ (.int .i64 0)).setCell ⟨w.heap.size + 1 + 1, 2, none⟩ (.slice none 0 0)) := (((KeptF.refl _ _).set (by simp) _).set (by simp) _).set (by simp) _
    have hbf := HB.out.trans (hkf.toBelow HB.out.size (fun b hb => by simp at hb; omega))
    have d0 := B4f.cell 0 (v := .int .i64 0) rfl; have d1 := B4f.cell 1 (v := .int .i64 0) rfl; have d2 := B4f.cell 2 (v := .slice none 0 0) rfl
    clear hkf B4f z0 z1 z2 v0 v1 v2 hl
    generalize (((w2.setCell ⟨w.heap.size + 1 + 1, 0, none⟩ (.int .i64 0)).setCell ⟨w.heap.size + 1 + 1, 1, none⟩ (.int .i64 0)).setCell ⟨w.heap.size + 1 + 1, 2, none⟩ (.slice none 0 0)) = W4 at *
    exact bodyPost_ret (v := .tuple #[.agg #[.int .i64 0, .int .i64 0, .slice none 0 0], .bool false]) (by simp [results, Try.results9, go_sem, d0, d1, d2]) rfl (by obtain ⟨cs_, F_, q1_, q2_⟩ := BAD.out (by simp [apOk, ap0]; omega) _ hbf; first | exact ⟨cs_, F_, q1_, q2_⟩ | exact ⟨cs_, q1_, F_, q2_⟩)
  have HOK := Lib.hid (show apOk x y = (apIn x y && goodVer (apE x y)) by
    have q1 : x.fNext ≤ y.fNext := by omega
    have q2 : x.fSeq ≤ y.fSeq := by omega
    simp [apOk, ap0, H0.out, H1.out, q1, q2])
  go_upto_region 3 with fail
  clear x0 x1 y0 y1 h2 h3
  refine wp_region_tab (G := Value × List Nat × Nat) (fun g => [(6, 8, .pointer (some ⟨g.2.2, 0, none⟩)), (28, 0, .pointer (some ⟨w.heap.size + 1, 0, none⟩)), (0, 1, .int .i64 y.fNext), (0, 2, .pointer (some ⟨w.heap.size + 1, 1, none⟩)), (0, 3, .int .i64 y.fSeq), (0, 4, .pointer (some ⟨w.heap.size, 2, none⟩)), (0, 5, .slice A x.fMetas.length c), (0, 6, g.1), (0, 7, .agg #[.int .i64 y.fNext, .int .i64 y.fSeq, g.1])])
      (fun L g W => (Below w.heap.size w W) ∧
        (w.heap.size + 3 ≤ W.heap.size) ∧
        (Box W w.heap.size #[.int .i64 x.fNext, .int .i64 x.fSeq, .slice A x.fMetas.length c] 32) ∧
        (Box W (w.heap.size + 1) #[.int .i64 y.fNext, .int .i64 y.fSeq, .slice A2 y.fDrop.length c2, .slice A3 y.fAdd.length c3] 37) ∧
        (Box W (w.heap.size + 1 + 1) #[.int .i64 0, .int .i64 0, .slice none 0 0] 32) ∧
        (L 6 = true → kMeta.Row 52 W g.2.1 x.fMetas g.1 ∧ (∀ b ∈ g.2.1, w.heap.size + 3 ≤ b) ∧ g.2.1.Nodup) ∧
        (L 8 = true → L 9 = false → Box W g.2.2 #[.int .i64 0, .int .i64 0, .slice none 0 0] 32) ∧
        (L 9 = true → Box W g.2.2 #[.int .i64 y.fNext, .int .i64 y.fSeq, g.1] 32) ∧
        (L 8 = true → w.heap.size + 3 ≤ g.2.2 ∧ g.2.2 < W.heap.size) ∧
        (L 6 = true → L 8 = true → g.2.2 ∉ g.2.1) ∧
        ((L 9 = true → L 7 = true ∧ L 8 = true)) ∧
        ((L 7 = true → L 6 = true)))
      (undef, [], 0) (by kernel_rfl) (by kernel_rfl) (fun _ => rfl) ?_ ?_ ?_
  · exact ⟨HB.out.drew, hz, HX.out.drew, HE.out.drew, H4.out.drew, nofun, nofun, nofun, nofun, nofun, nofun, nofun⟩
  · simp (config := { maxSteps := 4000000 }) only [StepsT, layT, Nat.reduceAdd, Nat.reduceBEq, cond_true, cond_false]
    refine ⟨?_, ?_, ?_, ?_, ?_, ?_, ?_, ?_, ?_, ?_, trivial⟩
    · rintro L ⟨v6, F6, g8⟩ W hL hd ⟨q0, q1, q2, q3, q4, q5, q6, q7, q8, q9, q10, q11⟩
      try dsimp only at q0 q1 q2 q3 q4 q5 q6 q7 q8 q9 q10 q11
      try simp only [depsT, Region.binds, forall_const, and_true, beq_iff_eq, reduceCtorEq, false_implies, true_and] at hd
      intro K hK; refine do_wanted rfl ?_
      have HK := Lib.hid hK; clear hK
      try simp only [hd, cond_true]
      have Q0 := Lib.hid q0; have Q1 := Lib.hid q1; have Q2 := Lib.hid q2; have Q3 := Lib.hid q3; have Q4 := Lib.hid q4; have Q5 := Lib.hid q5; have Q6 := Lib.hid q6; have Q7 := Lib.hid q7; have Q8 := Lib.hid q8; have Q9 := Lib.hid q9; have Q10 := Lib.hid q10; have Q11 := Lib.hid q11
      clear q0 q1 q2 q3 q4 q5 q6 q7 q8 q9 q10 q11
      go_wp2
      exact HK.out _ _ ⟨⟨v6, F6, g8⟩, by simp only [upd, Nat.reduceBEq, cond_true, cond_false, hd], ⟨Q0.out, Q1.out, Q2.out, Q3.out, Q4.out, Q5.out, Q6.out, Q7.out, Q8.out, Q9.out, Q10.out, Q11.out⟩⟩
    · rintro L ⟨v6, F6, g8⟩ W hL hd ⟨q0, q1, q2, q3, q4, q5, q6, q7, q8, q9, q10, q11⟩
      try dsimp only at q0 q1 q2 q3 q4 q5 q6 q7 q8 q9 q10 q11
      try simp only [depsT, Region.binds, forall_const, and_true, beq_iff_eq, reduceCtorEq, false_implies, true_and] at hd
      intro K hK; refine do_wanted rfl ?_
      have HK := Lib.hid hK; clear hK
      try simp only [hd, cond_true]
      have cc := q3.cell 0 (v := .int .i64 y.fNext) rfl
      have Q0 := Lib.hid q0; have Q1 := Lib.hid q1; have Q2 := Lib.hid q2; have Q3 := Lib.hid q3; have Q4 := Lib.hid q4; have Q5 := Lib.hid q5; have Q6 := Lib.hid q6; have Q7 := Lib.hid q7; have Q8 := Lib.hid q8; have Q9 := Lib.hid q9; have Q10 := Lib.hid q10; have Q11 := Lib.hid q11
      clear q0 q1 q2 q3 q4 q5 q6 q7 q8 q9 q10 q11
      go_wp2
      exact HK.out _ _ ⟨⟨v6, F6, g8⟩, by simp only [upd, Nat.reduceBEq, cond_true, cond_false, hd], ⟨Q0.out, Q1.out, Q2.out, Q3.out, Q4.out, Q5.out, Q6.out, Q7.out, Q8.out, Q9.out, Q10.out, Q11.out⟩⟩
    · rintro L ⟨v6, F6, g8⟩ W hL hd ⟨q0, q1, q2, q3, q4, q5, q6, q7, q8, q9, q10, q11⟩
      try dsimp only at q0 q1 q2 q3 q4 q5 q6 q7 q8 q9 q10 q11
      try simp only [depsT, Region.binds, forall_const, and_true, beq_iff_eq, reduceCtorEq, false_implies, true_and] at hd
      intro K hK; refine do_wanted rfl ?_
      have HK := Lib.hid hK; clear hK
      try simp only [hd, cond_true]
      have Q0 := Lib.hid q0; have Q1 := Lib.hid q1; have Q2 := Lib.hid q2; have Q3 := Lib.hid q3; have Q4 := Lib.hid q4; have Q5 := Lib.hid q5; have Q6 := Lib.hid q6; have Q7 := Lib.hid q7; have Q8 := Lib.hid q8; have Q9 := Lib.hid q9; have Q10 := Lib.hid q10; have Q11 := Lib.hid q11
      clear q0 q1 q2 q3 q4 q5 q6 q7 q8 q9 q10 q11
      go_wp2
      exact HK.out _ _ ⟨⟨v6, F6, g8⟩, by simp only [upd, Nat.reduceBEq, cond_true, cond_false, hd], ⟨Q0.out, Q1.out, Q2.out, Q3.out, Q4.out, Q5.out, Q6.out, Q7.out, Q8.out, Q9.out, Q10.out, Q11.out⟩⟩
    · rintro L ⟨v6, F6, g8⟩ W hL hd ⟨q0, q1, q2, q3, q4, q5, q6, q7, q8, q9, q10, q11⟩
      try dsimp only at q0 q1 q2 q3 q4 q5 q6 q7 q8 q9 q10 q11
      try simp only [depsT, Region.binds, forall_const, and_true, beq_iff_eq, reduceCtorEq, false_implies, true_and] at hd
      intro K hK; refine do_wanted rfl ?_
      have HK := Lib.hid hK; clear hK
      try simp only [hd, cond_true]
      have cc := q3.cell 1 (v := .int .i64 y.fSeq) rfl
      have Q0 := Lib.hid q0; have Q1 := Lib.hid q1; have Q2 := Lib.hid q2; have Q3 := Lib.hid q3; have Q4 := Lib.hid q4; have Q5 := Lib.hid q5; have Q6 := Lib.hid q6; have Q7 := Lib.hid q7; have Q8 := Lib.hid q8; have Q9 := Lib.hid q9; have Q10 := Lib.hid q10; have Q11 := Lib.hid q11
      clear q0 q1 q2 q3 q4 q5 q6 q7 q8 q9 q10 q11
      go_wp2
      exact HK.out _ _ ⟨⟨v6, F6, g8⟩, by simp only [upd, Nat.reduceBEq, cond_true, cond_false, hd], ⟨Q0.out, Q1.out, Q2.out, Q3.out, Q4.out, Q5.out, Q6.out, Q7.out, Q8.out, Q9.out, Q10.out, Q11.out⟩⟩
    · rintro L ⟨v6, F6, g8⟩ W hL hd ⟨q0, q1, q2, q3, q4, q5, q6, q7, q8, q9, q10, q11⟩
      try dsimp only at q0 q1 q2 q3 q4 q5 q6 q7 q8 q9 q10 q11
      try simp only [depsT, Region.binds, forall_const, and_true, beq_iff_eq, reduceCtorEq, false_implies, true_and] at hd
      intro K hK; refine do_wanted rfl ?_
      have HK := Lib.hid hK; clear hK
      try simp only [hd, cond_true]
      have Q0 := Lib.hid q0; have Q1 := Lib.hid q1; have Q2 := Lib.hid q2; have Q3 := Lib.hid q3; have Q4 := Lib.hid q4; have Q5 := Lib.hid q5; have Q6 := Lib.hid q6; have Q7 := Lib.hid q7; have Q8 := Lib.hid q8; have Q9 := Lib.hid q9; have Q10 := Lib.hid q10; have Q11 := Lib.hid q11
      clear q0 q1 q2 q3 q4 q5 q6 q7 q8 q9 q10 q11
      go_wp2
      exact HK.out _ _ ⟨⟨v6, F6, g8⟩, by simp only [upd, Nat.reduceBEq, cond_true, cond_false, hd], ⟨Q0.out, Q1.out, Q2.out, Q3.out, Q4.out, Q5.out, Q6.out, Q7.out, Q8.out, Q9.out, Q10.out, Q11.out⟩⟩
    · rintro L ⟨v6, F6, g8⟩ W hL hd ⟨q0, q1, q2, q3, q4, q5, q6, q7, q8, q9, q10, q11⟩
      try dsimp only at q0 q1 q2 q3 q4 q5 q6 q7 q8 q9 q10 q11
      try simp only [depsT, Region.binds, forall_const, and_true, beq_iff_eq, reduceCtorEq, false_implies, true_and] at hd
      intro K hK; refine do_wanted rfl ?_
      have HK := Lib.hid hK; clear hK
      try simp only [hd, cond_true]
      have cc := q2.cell 2 (v := .slice A x.fMetas.length c) rfl
      have Q0 := Lib.hid q0; have Q1 := Lib.hid q1; have Q2 := Lib.hid q2; have Q3 := Lib.hid q3; have Q4 := Lib.hid q4; have Q5 := Lib.hid q5; have Q6 := Lib.hid q6; have Q7 := Lib.hid q7; have Q8 := Lib.hid q8; have Q9 := Lib.hid q9; have Q10 := Lib.hid q10; have Q11 := Lib.hid q11
      clear q0 q1 q2 q3 q4 q5 q6 q7 q8 q9 q10 q11
      go_wp2
      exact HK.out _ _ ⟨⟨v6, F6, g8⟩, by simp only [upd, Nat.reduceBEq, cond_true, cond_false, hd], ⟨Q0.out, Q1.out, Q2.out, Q3.out, Q4.out, Q5.out, Q6.out, Q7.out, Q8.out, Q9.out, Q10.out, Q11.out⟩⟩
    · rintro L ⟨v6, F6, g8⟩ W hL hd ⟨q0, q1, q2, q3, q4, q5, q6, q7, q8, q9, q10, q11⟩
      try dsimp only at q0 q1 q2 q3 q4 q5 q6 q7 q8 q9 q10 q11
      try simp only [depsT, Region.binds, forall_const, and_true, beq_iff_eq, reduceCtorEq, false_implies, true_and] at hd
      intro K hK; refine do_wanted rfl ?_
      have HK := Lib.hid hK; clear hK
      try simp only [hd, cond_true]
      have E7 : L 7 = false := (by cases h : L 7 with | false => rfl | true => exact absurd (q11 h) (by rw [hL]; simp))
      have E9 : L 9 = false := (by cases h : L 9 with | false => rfl | true => exact absurd (q10 h).1 (by rw [E7]; simp))
      try simp only [E7, E9, cond_false]
      have Q0 := Lib.hid q0; have Q1 := Lib.hid q1; have Q2 := Lib.hid q2; have Q3 := Lib.hid q3; have Q4 := Lib.hid q4; have Q5 := Lib.hid q5; have Q6 := Lib.hid q6; have Q7 := Lib.hid q7; have Q8 := Lib.hid q8; have Q9 := Lib.hid q9; have Q10 := Lib.hid q10; have Q11 := Lib.hid q11
      clear q0 q1 q2 q3 q4 q5 q6 q7 q8 q9 q10 q11
      go_wp2_with ((with_reducible refine (cloneMeta_calls x.fMetas _ _ (Rp.S_below GX.out Q0.out) (by omega)).mono ?_); rintro ee we ⟨va, Fa, rfl, r1, r2, r3, hb⟩; have HB := Lib.hid hb; clear hb)
      exact HK.out _ _ ⟨⟨va, Fa, g8⟩, by (simp only [upd, Nat.reduceBEq, cond_true, cond_false, hd, E7, E9]; try rfl), ⟨Q0.out.trans (HB.out.mono (by have := Q1.out; omega)), Nat.le_trans Q1.out HB.out.size, Q2.out.below HB.out, Q3.out.below HB.out, Q4.out.below HB.out, fun _ => ⟨r1, fun b h => Nat.le_trans Q1.out (r2 b h), r3⟩, fun h h9 => (Q6.out h h9).below HB.out, fun h => absurd (show L 9 = true from h) (by simp [E9]), fun h => ⟨(Q8.out h).1, Nat.lt_of_lt_of_le (Q8.out h).2 HB.out.size⟩, fun _ h8 h => by have h1 : g8 < W.heap.size := (Q8.out h8).2; have h2 := r2 g8 h; omega, Q10.out, fun h => rfl⟩⟩
    · rintro L ⟨v6, F6, g8⟩ W hL hd ⟨q0, q1, q2, q3, q4, q5, q6, q7, q8, q9, q10, q11⟩
      try dsimp only at q0 q1 q2 q3 q4 q5 q6 q7 q8 q9 q10 q11
      try simp only [depsT, Region.binds, forall_const, and_true, beq_iff_eq, reduceCtorEq, false_implies, true_and] at hd
      intro K hK; refine do_wanted rfl ?_
      have HK := Lib.hid hK; clear hK
      try simp only [hd, cond_true]
      have E9 : L 9 = false := (by cases h : L 9 with | false => rfl | true => exact absurd (q10 h).1 (by rw [hL]; simp))
      have h6 := q5 (show L 6 = true by simp only [hd])
      obtain ⟨P6, C6, e6, _, _⟩ := Rp.Row_K h6.1
      subst e6
      clear h6
      have Q0 := Lib.hid q0; have Q1 := Lib.hid q1; have Q2 := Lib.hid q2; have Q3 := Lib.hid q3; have Q4 := Lib.hid q4; have Q5 := Lib.hid q5; have Q6 := Lib.hid q6; have Q7 := Lib.hid q7; have Q8 := Lib.hid q8; have Q9 := Lib.hid q9; have Q10 := Lib.hid q10; have Q11 := Lib.hid q11
      clear q0 q1 q2 q3 q4 q5 q6 q7 q8 q9 q10 q11
      go_wp2
      exact HK.out _ _ ⟨⟨(.slice P6 x.fMetas.length C6), F6, g8⟩, by simp only [upd, Nat.reduceBEq, cond_true, cond_false, hd], ⟨Q0.out, Q1.out, Q2.out, Q3.out, Q4.out, Q5.out, Q6.out, Q7.out, Q8.out, Q9.out, fun h => ⟨rfl, (Q10.out h).2⟩, fun _ => (show L 6 = true by simp only [hd])⟩⟩
    · rintro L ⟨v6, F6, g8⟩ W hL hd ⟨q0, q1, q2, q3, q4, q5, q6, q7, q8, q9, q10, q11⟩
      try dsimp only at q0 q1 q2 q3 q4 q5 q6 q7 q8 q9 q10 q11
      try simp only [depsT, Region.binds, forall_const, and_true, beq_iff_eq, reduceCtorEq, false_implies, true_and] at hd
      intro K hK; refine do_wanted rfl ?_
      have HK := Lib.hid hK; clear hK
      try simp only [hd, cond_true]
      have E9 : L 9 = false := (by cases h : L 9 with | false => rfl | true => exact absurd (q10 h).2 (by rw [hL]; simp))
      try simp only [E9, cond_false]
      have Q0 := Lib.hid q0; have Q1 := Lib.hid q1; have Q2 := Lib.hid q2; have Q3 := Lib.hid q3; have Q4 := Lib.hid q4; have Q5 := Lib.hid q5; have Q6 := Lib.hid q6; have Q7 := Lib.hid q7; have Q8 := Lib.hid q8; have Q9 := Lib.hid q9; have Q10 := Lib.hid q10; have Q11 := Lib.hid q11
      clear q0 q1 q2 q3 q4 q5 q6 q7 q8 q9 q10 q11
      go_wp2
      have HB := Lib.hid ((Below.refl W.heap.size W).alloc (Nat.le_refl _) (.cells #[.int .i64 0, .int .i64 0, .slice none 0 0] 32))
      exact HK.out _ _ ⟨⟨v6, F6, W.heap.size⟩, by (simp only [upd, Nat.reduceBEq, cond_true, cond_false, hd, E9]; try rfl), ⟨Q0.out.trans (HB.out.mono (by have := Q1.out; omega)), Nat.le_trans Q1.out HB.out.size, Q2.out.below HB.out, Q3.out.below HB.out, Q4.out.below HB.out, fun h => ⟨Rp.Row_below (Q5.out h).1 HB.out, (Q5.out h).2⟩, fun _ _ => Box.new rfl, fun h => absurd (show L 9 = true from h) (by simp [E9]), fun _ => ⟨Q1.out, by simp⟩, fun h6 _ h => Nat.lt_irrefl _ (Rp.Row_lt (Q5.out h6).1 _ h), fun h => ⟨(Q10.out h).1, rfl⟩, Q11.out⟩⟩
    · rintro L ⟨v6, F6, g8⟩ W hL hd ⟨q0, q1, q2, q3, q4, q5, q6, q7, q8, q9, q10, q11⟩
      try dsimp only at q0 q1 q2 q3 q4 q5 q6 q7 q8 q9 q10 q11
      try simp only [depsT, Region.binds, forall_const, and_true, beq_iff_eq, reduceCtorEq, false_implies, true_and] at hd
      intro K hK; refine do_wanted rfl ?_
      have HK := Lib.hid hK; clear hK
      try simp only [hd, cond_true]
      have h6 := q5 (q11 (show L 7 = true by simp only [hd]))
      obtain ⟨P6, C6, e6, _, _⟩ := Rp.Row_K h6.1
      subst e6
      clear h6
      have h8 : L 8 = true := by simp only [hd]
      have h68 : L 6 = true := q11 (show L 7 = true by simp only [hd])
      have hz := q6 h8 hL
      have cz0 := hz.cell 0 (v := .int .i64 0) rfl; have cz1 := hz.cell 1 (v := .int .i64 0) rfl; have cz2 := hz.cell 2 (v := .slice none 0 0) rfl
      have fz := hz.fro
      have HZ_ := Lib.hid hz; clear hz
      have H8_ := Lib.hid h8; have H68_ := Lib.hid h68; clear h8 h68
      have Q0 := Lib.hid q0; have Q1 := Lib.hid q1; have Q2 := Lib.hid q2; have Q3 := Lib.hid q3; have Q4 := Lib.hid q4; have Q5 := Lib.hid q5; have Q6 := Lib.hid q6; have Q7 := Lib.hid q7; have Q8 := Lib.hid q8; have Q9 := Lib.hid q9; have Q10 := Lib.hid q10; have Q11 := Lib.hid q11
      clear q0 q1 q2 q3 q4 q5 q6 q7 q8 q9 q10 q11
      go_wp2
      change K _ (Rp.setN W g8 0 [.int .i64 y.fNext, .int .i64 y.fSeq, .slice P6 x.fMetas.length C6])
      obtain ⟨hk, hbx⟩ := HZ_.out.stored [.int .i64 y.fNext, .int .i64 y.fSeq, .slice P6 x.fMetas.length C6] 0
      rw [setA_all (by rfl)] at hbx
      have hq8 := Q8.out H8_.out
      have hq9 := Q9.out H68_.out H8_.out
      exact HK.out _ _ ⟨⟨(.slice P6 x.fMetas.length C6), F6, g8⟩, by simp only [upd, Nat.reduceBEq, cond_true, cond_false, hd], ⟨Q0.out.trans (hk.toBelow Q0.out.size (by simp; omega)), Nat.le_trans Q1.out hk.size, Box_ne Q2.out hk (by omega), Box_ne Q3.out hk (by omega), Box_ne Q4.out hk (by omega), fun h => ⟨Row_ne (Q5.out h).1 hk hq9, (Q5.out h).2⟩, fun _ h => absurd h (by simp [upd]), fun _ => hbx, fun h => ⟨(Q8.out h).1, Nat.lt_of_lt_of_le (Q8.out h).2 hk.size⟩, Q9.out, fun _ => ⟨(show L 7 = true by simp only [hd]), (show L 8 = true by simp only [hd])⟩, Q11.out⟩⟩
  · simp (config := { maxSteps := 4000000 }) only [layT, Nat.reduceAdd, Nat.reduceBEq, cond_true, cond_false]
    rintro L ⟨v6, F6, g8⟩ W hd ⟨q0, q1, q2, q3, q4, q5, q6, q7, q8, q9, q10, q11⟩
    simp only [doneT, true_and, List.length_cons, List.length_nil, Nat.reduceAdd] at hd
    obtain ⟨⟨⟨⟨⟨⟨⟨⟨⟨e0, e1⟩, e2⟩, e3⟩, e4⟩, e5⟩, e6⟩, e7⟩, e8⟩, e9⟩ := hd
    try dsimp only at q0 q1 q2 q3 q4 q5 q6 q7 q8 q9 q10 q11
    simp only [e0, e1, e2, e3, e4, e5, e6, e7, e8, e9, cond_true]
    have hrow := q5 e6
    have hg3 := q8 e8
    have hgn := q9 e6 e8
    have hbx := q7 e9
    obtain ⟨P6, C6, ev6, _, _⟩ := Rp.Row_K hrow.1
    subst ev6
    have hof : F6 = Rp.ofOwn (.slice P6 x.fMetas.length C6) := Rp.Row_flat kMeta_flat hrow.1
    subst hof
    have HR := Lib.hid hrow.1; have HF := Lib.hid (fun b hb => ⟨hrow.2.1 b hb, fun e => hgn (e ▸ hb)⟩ : ∀ b ∈ Rp.ofOwn (.slice P6 x.fMetas.length C6), w.heap.size + 3 ≤ b ∧ b ≠ g8)
    have HBW := Lib.hid q0; have HEW := Lib.hid q3; have H4W := Lib.hid q4; have HOW := Lib.hid hbx
    obtain ⟨hg3, hgW⟩ := hg3
    clear q0 q1 q2 q3 q4 q5 q6 q7 q8 q9 q10 q11 hrow hgn hbx HB HX HE H4 hz
    have e2 := HEW.out.cell 2 (v := .slice A2 y.fDrop.length c2) rfl
    go_wp2
    clear e2
    generalize g8 = g at *
    go_loopw [46] (fun i wr => ∃ k : Nat, k ≤ y.fDrop.length ∧ i = .int .i64 (k : Int) ∧ ∃ (L : List DMeta) (P : Option Addr) (C : Nat), Hid (keepM x.fMetas (y.fDrop.take k) = L) ∧ Hid (∀ j (hj : j < y.fDrop.length), j < k → ∃ m ∈ x.fMetas, m.fNumber = y.fDrop[j]) ∧ Hid (kMeta.Row 52 wr (Rp.ofOwn (.slice P L.length C)) L (.slice P L.length C)) ∧ Hid (∀ b ∈ Rp.ofOwn (.slice P L.length C), w.heap.size + 3 ≤ b ∧ b ≠ g) ∧ Hid (Below w.heap.size w wr) ∧ Hid (Box wr (w.heap.size + 1) #[.int .i64 y.fNext, .int .i64 y.fSeq, .slice A2 y.fDrop.length c2, .slice A3 y.fAdd.length c3] 37) ∧ Hid (Box wr (w.heap.size + 1 + 1) #[.int .i64 0, .int .i64 0, .slice none 0 0] 32) ∧ Hid (Box wr g #[.int .i64 y.fNext, .int .i64 y.fSeq, .slice P L.length C] 32) ∧ g < wr.heap.size) (fun i _ => y.fDrop.length - (intOf i).toNat)
    case atStart => exact ⟨0, Nat.zero_le _, rfl, x.fMetas, P6, C6, by rw [Hid, List.take_zero, keepM_nil], fun j _ hj => absurd hj (Nat.not_lt_zero _), HR.out, HF.out, HBW.out, HEW.out, H4W.out, HOW.out, hgW⟩
    case round =>
      clear HR HF HBW HEW H4W HOW hgW
      obtain ⟨k, hk, rfl, L, P, C, HL, HIN, HR, HF, HB, HE, H4, HO, hgw⟩ := hrel
      have hLl : L.length ≤ 30 := by
        have h := keepM_len x.fMetas (y.fDrop.take k)
        rw [HL.out] at h
        omega
      by_cases hlt : k < y.fDrop.length
      case pos =>
        obtain ⟨b2, o2, hA2, d0⟩ := intS_at H2.out HB.out k hlt
        have hdi := drop_in (x := x.fMetas) HDP.out hlt
        have hka := fun h => keep_at HXP.out hlt h
        rw [HL.out] at hdi hka
        have HBA := Lib.hid (fun h : ¬ atN L y.fDrop[k] < L.length => (by
          rw [apIn, decide_eq_false_iff_not, count_eq HXP.out HDP.out]
          intro hh
          exact h (hdi.2 (hh _ (List.getElem_mem hlt))) : apIn x y = false))
        have HIN2 := Lib.hid (fun h : atN L y.fDrop[k] < L.length => (fun j hj hjk => (by
          rcases Nat.lt_or_ge j k with h1 | h1
          · exact HIN.out j hj h1
          · obtain rfl : j = k := by omega
            exact hdi.1 h) : ∀ j (hj : j < y.fDrop.length), j < k + 1 → ∃ m ∈ x.fMetas, m.fNumber = y.fDrop[j]))
        clear hdi HIN
        generalize y.fDrop[k] = n at *
        subst hA2
        have HKA := Lib.hid hka; clear hka
        have i1 : (k : Int) < (y.fDrop.length : Int) := by omega
        have i2 : (0 : Int) ≤ (k : Int) := by omega
        have o2_ := HO.out.cell 2 (v := .slice P L.length C) rfl
        go_wp2_with fail
        (with_reducible refine (metaAt_calls n L _ _ (Rp.Row_S HR.out) (by omega)).mono ?_)
        rintro e w3 ⟨rfl, hb⟩
        have HR := Lib.hid (Rp.Row_below HR.out hb); have HB := Lib.hid (HB.out.trans (hb.mono HB.out.size)); have HE := Lib.hid (HE.out.below hb); have H4 := Lib.hid (H4.out.below hb); have HO := Lib.hid (HO.out.below hb); have hgw := Nat.lt_of_lt_of_le hgw hb.size
        clear hb o2_ d0
        by_cases hat : atN L n < L.length
        case neg =>
          have hI : atI L n = -1 := if_neg hat
          rw [hI]
          have HAI := Lib.hid (HBA.out hat)
          clear hat hI HBA HIN2 HKA
          have z0 := H4.out.cell 0 (v := .int .i64 0) rfl; have z1 := H4.out.cell 1 (v := .int .i64 0) rfl; have z2 := H4.out.cell 2 (v := .slice none 0 0) rfl
          have v0 := H4.out.fro 0; have v1 := H4.out.fro 1; have v2 := H4.out.fro 2; have hl := H4.out.lt
          go_wp2
          have B4f := (((H4.out.set 0 (.int .i64 0)).set 1 (.int .i64 0)).set 2 (.slice none 0 0))
          have hkf : KeptF [w.heap.size + 1 + 1] w3 (((w3.setCell ⟨w.heap.size + 1 + 1, 0, none⟩ (.int .i64 0)).setCell ⟨w.heap.size + 1 + 1, 1, none⟩ (.int .i64 0)).setCell ⟨w.heap.size + 1 + 1, 2, none⟩ (.slice none 0 0)) := (((KeptF.refl _ _).set (by simp) _).set (by simp) _).set (by simp) _
          have hbf := HB.out.trans (hkf.toBelow HB.out.size (fun b hb => by simp at hb; omega))
          have d0 := B4f.cell 0 (v := .int .i64 0) rfl; have d1 := B4f.cell 1 (v := .int .i64 0) rfl; have d2 := B4f.cell 2 (v := .slice none 0 0) rfl
          clear hkf B4f z0 z1 z2 v0 v1 v2 hl
          generalize (((w3.setCell ⟨w.heap.size + 1 + 1, 0, none⟩ (.int .i64 0)).setCell ⟨w.heap.size + 1 + 1, 1, none⟩ (.int .i64 0)).setCell ⟨w.heap.size + 1 + 1, 2, none⟩ (.slice none 0 0)) = W4 at *
          exact bodyPost_ret (v := .tuple #[.agg #[.int .i64 0, .int .i64 0, .slice none 0 0], .bool false]) (by simp [results, Try.results9, go_sem, d0, d1, d2]) rfl (by obtain ⟨cs_, F_, q1_, q2_⟩ := BAD.out (by rw [HOK.out, HAI.out]; rfl) _ hbf; first | exact ⟨cs_, F_, q1_, q2_⟩ | exact ⟨cs_, q1_, F_, q2_⟩)
        case pos =>
          have hI : atI L n = (atN L n : Int) := if_pos hat
          rw [hI]
          replace HIN2 := Lib.hid (HIN2.out hat); replace HKA := Lib.hid (HKA.out hat)
          clear hI HBA
          generalize atN L n = p at *
          have j1 : ¬ (p : Int) < 0 := by omega
          have j2 : (0 : Int) ≤ (p : Int) := by omega
          obtain ⟨hv, hx, _⟩ | ⟨gd, cap, cur, hv, _⟩ := kMeta_enc.Row_of HR.out
          · exfalso; rw [hx] at hat; simp at hat
          obtain ⟨rfl, _, rfl⟩ := Value.slice.inj hv
          clear hv
          have o2_ := HO.out.cell 2 (v := .slice (some ⟨gd, 0, none⟩) L.length C) rfl
          have ofr := HO.out.fro 2
          go_wp2_with fail
          (with_reducible refine (delM_calls HR.out hat (by omega)).mono ?_)
          rintro e w4 ⟨rfl, hr, hk4⟩
          have HO := Lib.hid (HO.out.kept hk4 (fun h => (HF.out _ h).2 rfl))
          have H4 := Lib.hid (H4.out.kept hk4 (fun h => by have := (HF.out _ h).1; omega))
          have HE := Lib.hid (HE.out.kept hk4 (fun h => by have := (HF.out _ h).1; omega))
          have HB := Lib.hid (HB.out.trans (hk4.toBelow HB.out.size (fun b h => by have := (HF.out b h).1; omega)))
          have hgw := Nat.lt_of_lt_of_le hgw hk4.size
          have HR := Lib.hid hr
          clear hr hk4 o2_ ofr
          have o2_ := HO.out.cell 2 (v := .slice (some ⟨gd, 0, none⟩) L.length C) rfl
          have ofr := HO.out.fro 2
          go_wp2
          have hln : (L.take p ++ L.drop (p + 1)).length = L.length - 1 := by
            simp only [List.length_append, List.length_take, List.length_drop]
            omega
          have hkf : KeptF [g] w4 (w4.setCell ⟨g, 2, none⟩ (.slice (some ⟨gd, 0, none⟩) (L.length - 1) C)) := (KeptF.refl _ _).set (by simp) _
          exact ⟨⟨k + 1, by omega, by go_num, L.take p ++ L.drop (p + 1), some ⟨gd, 0, none⟩, C, HKA.out, HIN2.out, by rw [Hid, hln]; exact Rp.Row_kept HR.out hkf (fun b hb h => by have := (HF.out b hb).2; simp at h; omega), HF.out, HB.out.trans (hkf.toBelow HB.out.size (fun b hb => by simp at hb; omega)), HE.out.set_other _ (by first | omega | (simp; done) | (simp; omega) | (show ¬ _ = _; simp; omega)), H4.out.set_other _ (by first | omega | (simp; done) | (simp; omega) | (show ¬ _ = _; simp; omega)), by rw [hln]; exact HO.out.set 2 _, by simpa using hgw⟩, by simp [intOf]; omega⟩
      case neg =>
        have i1 : ¬ (k : Int) < (y.fDrop.length : Int) := by omega
        obtain rfl : k = y.fDrop.length := by omega
        have h5 := HL.out
        rw [List.take_length] at h5
        have HKL := Lib.hid (show (keepM x.fMetas y.fDrop).length ≤ 30 by rw [h5]; exact hLl)
        have HAI := Lib.hid (show apIn x y = true by
          rw [apIn, decide_eq_true_eq, count_eq HXP.out HDP.out]
          intro n hn
          obtain ⟨j, hj, rfl⟩ := List.mem_iff_getElem.1 hn
          exact HIN.out j hj hj)
        have HL := Lib.hid h5
        clear h5 HIN
        have e3 := HE.out.cell 3 (v := .slice A3 y.fAdd.length c3) rfl
        go_wp2
        clear e3
        go_loopw [68] (fun i wr => ∃ k : Nat, k ≤ y.fAdd.length ∧ i = .int .i64 (k : Int) ∧ ∃ (L : List DMeta) (P : Option Addr) (C : Nat), Hid (keepM x.fMetas y.fDrop ++ y.fAdd.take k = L) ∧ Hid (∀ j (hj : j < y.fAdd.length), j < k → ∀ m ∈ keepM x.fMetas y.fDrop, m.fNumber ≠ y.fAdd[j].fNumber) ∧ Hid (kMeta.Row 52 wr (Rp.ofOwn (.slice P L.length C)) L (.slice P L.length C)) ∧ Hid (∀ b ∈ Rp.ofOwn (.slice P L.length C), w.heap.size + 3 ≤ b ∧ b ≠ g) ∧ Hid (Below w.heap.size w wr) ∧ Hid (Box wr (w.heap.size + 1) #[.int .i64 y.fNext, .int .i64 y.fSeq, .slice A2 y.fDrop.length c2, .slice A3 y.fAdd.length c3] 37) ∧ Hid (Box wr (w.heap.size + 1 + 1) #[.int .i64 0, .int .i64 0, .slice none 0 0] 32) ∧ Hid (Box wr g #[.int .i64 y.fNext, .int .i64 y.fSeq, .slice P L.length C] 32) ∧ g < wr.heap.size) (fun i _ => y.fAdd.length - (intOf i).toNat)
        case atStart => exact ⟨0, Nat.zero_le _, rfl, L, P, C, by rw [Hid, ← HL.out]; simp, fun j _ hj => absurd hj (Nat.not_lt_zero _), HR.out, HF.out, HB.out, HE.out, H4.out, HO.out, hgw⟩
        case round =>
          clear HR HF HB HE H4 HO hgw hLl HL
          obtain ⟨k, hk, rfl, L, P, C, HL, HIN, HR, HF, HB, HE, H4, HO, hgw⟩ := hrel
          have hLl : L.length ≤ 30 + k := by
            rw [← HL.out, List.length_append, List.length_take]
            have := HKL.out
            omega
          by_cases hlt : k < y.fAdd.length
          case pos =>
            obtain ⟨b, o, rfl, a0, a1, a2, a3⟩ := meta_at H3.out HB.out k hlt
            have hat2 := fun h => add_twice (x := x) HAP.out hlt h
            have haf := fun h => add_fresh (x := x) hlt h
            have han := add_next (x := x) hlt
            rw [HL.out] at hat2 haf han
            have HIN2 := Lib.hid (fun h : ¬ atN L y.fAdd[k].fNumber < L.length => (fun j hj hjk => (by
              rcases Nat.lt_or_ge j k with h1 | h1
              · exact HIN.out j hj h1
              · obtain rfl : j = k := by omega
                exact fun m hm => haf h m hm) : ∀ j (hj : j < y.fAdd.length), j < k + 1 → ∀ m ∈ keepM x.fMetas y.fDrop, m.fNumber ≠ y.fAdd[j].fNumber))
            have HA2 := Lib.hid hat2; have HAN := Lib.hid han
            clear hat2 haf han HIN
            generalize y.fAdd[k] = m at *
            have i1 : (k : Int) < (y.fAdd.length : Int) := by omega
            have i2 : (0 : Int) ≤ (k : Int) := by omega
            have o2_ := HO.out.cell 2 (v := .slice P L.length C) rfl
            have hb4 := (Below.refl wr.heap.size wr).alloc (Nat.le_refl _) (.cells #[.int .i64 m.fNumber, .int .i64 m.fLevel, .string m.fLeast, .string m.fMost] 52)
            have BX := Lib.hid (show Box (wr.alloc (.cells #[.int .i64 m.fNumber, .int .i64 m.fLevel, .string m.fLeast, .string m.fMost] 52)) wr.heap.size #[.int .i64 m.fNumber, .int .i64 m.fLevel, .string m.fLeast, .string m.fMost] 52 from Box.new rfl)
            have HR := Lib.hid (Rp.Row_below HR.out hb4); have HB := Lib.hid (HB.out.trans (hb4.mono HB.out.size)); have HE := Lib.hid (HE.out.below hb4); have H4 := Lib.hid (H4.out.below hb4); have HO := Lib.hid (HO.out.below hb4)
            have hgN := hgw
            have hgw := Nat.lt_of_lt_of_le hgw hb4.size
            have HF2 := Lib.hid (fun b hb => (by have := Rp.Row_lt HR.out b hb; exact this) : ∀ b ∈ Rp.ofOwn (.slice P L.length C), b < (wr.alloc (.cells #[.int .i64 m.fNumber, .int .i64 m.fLevel, .string m.fLeast, .string m.fMost] 52)).heap.size)
            clear hb4
            go_wp2_with fail
            clear a0 a1 a2 a3 o2_
            generalize wr.heap.size = N at *
            generalize wr.alloc (.cells #[.int .i64 m.fNumber, .int .i64 m.fLevel, .string m.fLeast, .string m.fMost] 52) = wo at *
            (with_reducible refine (metaAt_calls m.fNumber L _ _ (Rp.Row_S HR.out) (by omega)).mono ?_)
            rintro e w3 ⟨rfl, hb⟩
            have HR := Lib.hid (Rp.Row_below HR.out hb); have HB := Lib.hid (HB.out.trans (hb.mono HB.out.size)); have HE := Lib.hid (HE.out.below hb); have H4 := Lib.hid (H4.out.below hb); have HO := Lib.hid (HO.out.below hb); have BX := Lib.hid (BX.out.below hb); have hgw := Nat.lt_of_lt_of_le hgw hb.size
            clear hb HF2
            by_cases hat : atN L m.fNumber < L.length
            case pos =>
              have hI : atI L m.fNumber = (atN L m.fNumber : Int) := if_pos hat
              rw [hI]
              have HGV := Lib.hid (HA2.out hat)
              clear hat hI HA2 HIN2 HAN
              have j1 : (0 : Int) ≤ (atN L m.fNumber : Int) := by omega
              generalize atN L m.fNumber = p at *
              have z0 := H4.out.cell 0 (v := .int .i64 0) rfl; have z1 := H4.out.cell 1 (v := .int .i64 0) rfl; have z2 := H4.out.cell 2 (v := .slice none 0 0) rfl
              have v0 := H4.out.fro 0; have v1 := H4.out.fro 1; have v2 := H4.out.fro 2; have hl := H4.out.lt
              go_wp2
              have B4f := (((H4.out.set 0 (.int .i64 0)).set 1 (.int .i64 0)).set 2 (.slice none 0 0))
              have hkf : KeptF [w.heap.size + 1 + 1] w3 (((w3.setCell ⟨w.heap.size + 1 + 1, 0, none⟩ (.int .i64 0)).setCell ⟨w.heap.size + 1 + 1, 1, none⟩ (.int .i64 0)).setCell ⟨w.heap.size + 1 + 1, 2, none⟩ (.slice none 0 0)) := (((KeptF.refl _ _).set (by simp) _).set (by simp) _).set (by simp) _
              have hbf := HB.out.trans (hkf.toBelow HB.out.size (fun b hb => by simp at hb; omega))
              have d0 := B4f.cell 0 (v := .int .i64 0) rfl; have d1 := B4f.cell 1 (v := .int .i64 0) rfl; have d2 := B4f.cell 2 (v := .slice none 0 0) rfl
              clear hkf B4f z0 z1 z2 v0 v1 v2 hl
              generalize (((w3.setCell ⟨w.heap.size + 1 + 1, 0, none⟩ (.int .i64 0)).setCell ⟨w.heap.size + 1 + 1, 1, none⟩ (.int .i64 0)).setCell ⟨w.heap.size + 1 + 1, 2, none⟩ (.slice none 0 0)) = W4 at *
              exact bodyPost_ret (v := .tuple #[.agg #[.int .i64 0, .int .i64 0, .slice none 0 0], .bool false]) (by simp [results, Try.results9, go_sem, d0, d1, d2]) rfl (by obtain ⟨cs_, F_, q1_, q2_⟩ := BAD.out (by rw [HOK.out, HGV.out, Bool.and_false]) _ hbf; first | exact ⟨cs_, F_, q1_, q2_⟩ | exact ⟨cs_, q1_, F_, q2_⟩)
            case neg =>
              have hI : atI L m.fNumber = -1 := if_neg hat
              rw [hI]
              replace HIN2 := Lib.hid (HIN2.out hat)
              clear hat hI HA2
              have o2_ := HO.out.cell 2 (v := .slice P L.length C) rfl
              have b0 := BX.out.cell 0 (v := .int .i64 m.fNumber) rfl; have b1 := BX.out.cell 1 (v := .int .i64 m.fLevel) rfl; have b2 := BX.out.cell 2 (v := .string m.fLeast) rfl; have b3 := BX.out.cell 3 (v := .string m.fMost) rfl
              go_wp2_with (at_builtin; go_loud (refine wp_append (d := kMeta) rfl _ _ 30 52 rfl Try.underlying30 infoMeta rfl (by decide) rfl (by decide) kMeta_flat (xs := L) (ys := [m]) rfl rfl (Rp.Row_below HR.out ((Below.refl _ _).alloc (Nat.le_refl _) _)) (Rp.S_one (Box.new (by simp)) (kMeta_mkK _ m)) (by simp; omega) ?_; intro va wa r1 r2 r3 r4; clear r4; obtain ⟨P1, C1, e1, _, _⟩ := Rp.Row_K r1; have hln : (L ++ [m]).length = L.length + 1 := (by simp); rw [hln] at e1; subst e1; have R1 := Lib.hid r1; have HLN := Lib.hid hln; have T1 := Lib.hid (fun b hb => (by rcases r3 b hb with h | h; exact HF.out b h; simp at h; exact ⟨by omega, by omega⟩) : ∀ b ∈ Rp.ofOwn (.slice P1 (L.length + 1) C1), w.heap.size + 3 ≤ b ∧ b ≠ g); have hz1 := r2.size; simp at hz1; have HE := Lib.hid ((Box.alloc HE.out).kept r2 (fun h => by have := (HF.out _ h).1; omega)); have H4 := Lib.hid ((Box.alloc H4.out).kept r2 (fun h => by have := (HF.out _ h).1; omega)); have HO := Lib.hid ((Box.alloc HO.out).kept r2 (fun h => (HF.out _ h).2 rfl)); have HB := Lib.hid ((HB.out.alloc HB.out.size _).trans (r2.toBelow (by have := HB.out.size; simp; omega) (fun b h => by have := (HF.out b h).1; omega))); have hgw : g < wa.heap.size := (by omega); clear r1 r2 r3 hz1 hln HR b0 b1 b2 b3 o2_; have o2_ := HO.out.cell 2 (v := .slice P L.length C) rfl; have ofr := HO.out.fro 2))
              have hkf : KeptF [g] wa (wa.setCell ⟨g, 2, none⟩ (.slice P1 (L.length + 1) C1)) := (KeptF.refl _ _).set (by simp) _
              exact ⟨⟨k + 1, by omega, by go_num, L ++ [m], P1, C1, HAN.out, HIN2.out, by rw [Hid, HLN.out]; exact Rp.Row_kept R1.out hkf (fun b hb h => by have := (T1.out b hb).2; simp at h; omega), by rw [Hid, HLN.out]; exact T1.out, HB.out.trans (hkf.toBelow HB.out.size (fun b hb => by simp at hb; omega)), HE.out.set_other _ (by first | omega | (simp; done) | (simp; omega) | (show ¬ _ = _; simp; omega)), H4.out.set_other _ (by first | omega | (simp; done) | (simp; omega) | (show ¬ _ = _; simp; omega)), by rw [HLN.out]; exact HO.out.set 2 _, by simpa using hgw⟩, by simp [intOf]; omega⟩
          case neg =>
            have i1 : ¬ (k : Int) < (y.fAdd.length : Int) := by omega
            obtain rfl : k = y.fAdd.length := by omega
            have h5 := HL.out
            rw [List.take_length] at h5
            have HL := Lib.hid h5
            have HDJ := Lib.hid (fun m hm z hz => (by
              obtain ⟨j, hj, rfl⟩ := List.mem_iff_getElem.1 hz
              exact HIN.out j hj hj m hm) : ∀ m ∈ keepM x.fMetas y.fDrop, ∀ z ∈ y.fAdd, m.fNumber ≠ z.fNumber)
            clear h5 HIN
            have o2_ := HO.out.cell 2 (v := .slice P L.length C) rfl
            go_wp2_with fail
            (with_reducible refine (sortA_calls HR.out (by omega)).mono ?_)
            rintro e w3 ⟨rfl, ys, hp, hs, hr, hk3⟩
            have hys : ys = apL x y := sort_eq HXP.out HAP.out (by rw [HL.out]; exact hp) hs HDJ.out (apL_le HXP.out y)
            have hyl : ys.length = L.length := hp.length_eq
            have HO := Lib.hid (HO.out.kept hk3 (fun h => (HF.out _ h).2 rfl))
            have H4 := Lib.hid (H4.out.kept hk3 (fun h => by have := (HF.out _ h).1; omega))
            have HB := Lib.hid (HB.out.trans (hk3.toBelow HB.out.size (fun b h => by have := (HF.out b h).1; omega)))
            have HR := Lib.hid hr
            have HYS := Lib.hid hys
            clear hr hk3 o2_ hp hs HDJ hys
            have o0 := HO.out.cell 0 (v := .int .i64 y.fNext) rfl; have o1 := HO.out.cell 1 (v := .int .i64 y.fSeq) rfl; have o2_ := HO.out.cell 2 (v := .slice P L.length C) rfl
            go_wp2_with fail
            (with_reducible refine (iVer3 y.fNext y.fSeq ys _ _ (Rp.Row_S HR.out) (by omega)).mono ?_)
            rintro e w4 ⟨rfl, hb⟩
            have hgv : goodVer (apE x y) = goodVer ⟨y.fNext, y.fSeq, ys⟩ := by rw [apE, HYS.out]
            have HGV := Lib.hid hgv; clear hgv
            have HR := Lib.hid (Rp.Row_below HR.out hb); have HB := Lib.hid (HB.out.trans (hb.mono HB.out.size)); have H4 := Lib.hid (H4.out.below hb); have HO := Lib.hid (HO.out.below hb)
            clear hb o0 o1 o2_
            cases h9 : goodVer ⟨y.fNext, y.fSeq, ys⟩
            · have HG9 := Lib.hid h9; clear h9
              have z0 := H4.out.cell 0 (v := .int .i64 0) rfl; have z1 := H4.out.cell 1 (v := .int .i64 0) rfl; have z2 := H4.out.cell 2 (v := .slice none 0 0) rfl
              have v0 := H4.out.fro 0; have v1 := H4.out.fro 1; have v2 := H4.out.fro 2; have hl := H4.out.lt
              go_wp2
              have B4f := (((H4.out.set 0 (.int .i64 0)).set 1 (.int .i64 0)).set 2 (.slice none 0 0))
              have hkf : KeptF [w.heap.size + 1 + 1] w4 (((w4.setCell ⟨w.heap.size + 1 + 1, 0, none⟩ (.int .i64 0)).setCell ⟨w.heap.size + 1 + 1, 1, none⟩ (.int .i64 0)).setCell ⟨w.heap.size + 1 + 1, 2, none⟩ (.slice none 0 0)) := (((KeptF.refl _ _).set (by simp) _).set (by simp) _).set (by simp) _
              have hbf := HB.out.trans (hkf.toBelow HB.out.size (fun b hb => by simp at hb; omega))
              have d0 := B4f.cell 0 (v := .int .i64 0) rfl; have d1 := B4f.cell 1 (v := .int .i64 0) rfl; have d2 := B4f.cell 2 (v := .slice none 0 0) rfl
              clear hkf B4f z0 z1 z2 v0 v1 v2 hl
              generalize (((w4.setCell ⟨w.heap.size + 1 + 1, 0, none⟩ (.int .i64 0)).setCell ⟨w.heap.size + 1 + 1, 1, none⟩ (.int .i64 0)).setCell ⟨w.heap.size + 1 + 1, 2, none⟩ (.slice none 0 0)) = W4 at *
              exact bodyPost_ret (v := .tuple #[.agg #[.int .i64 0, .int .i64 0, .slice none 0 0], .bool false]) (by simp [results, Try.results9, go_sem, d0, d1, d2]) rfl (by obtain ⟨cs_, F_, q1_, q2_⟩ := BAD.out (by rw [HOK.out, HGV.out, HG9.out, Bool.and_false]) _ hbf; first | exact ⟨cs_, F_, q1_, q2_⟩ | exact ⟨cs_, q1_, F_, q2_⟩)
            · have HG9 := Lib.hid h9; clear h9
              have HK := Lib.hid (show apOk x y = true by rw [HOK.out, HGV.out, HG9.out, HAI.out]; rfl)
              have HV := Lib.hid (show apV x y = ⟨y.fNext, y.fSeq, ys⟩ by rw [apV, if_pos HK.out, apE, HYS.out])
              have d0 := HO.out.cell 0 (v := .int .i64 y.fNext) rfl; have d1 := HO.out.cell 1 (v := .int .i64 y.fSeq) rfl; have d2 := HO.out.cell 2 (v := .slice P L.length C) rfl
              have z0 := H4.out.cell 0 (v := .int .i64 0) rfl; have z1 := H4.out.cell 1 (v := .int .i64 0) rfl; have z2 := H4.out.cell 2 (v := .slice none 0 0) rfl
              have v0 := H4.out.fro 0; have v1 := H4.out.fro 1; have v2 := H4.out.fro 2; have hl := H4.out.lt
              go_wp2
              clear d0 d1 d2
              have B4f := (((H4.out.set 0 (.int .i64 y.fNext)).set 1 (.int .i64 y.fSeq)).set 2 (.slice P L.length C))
              have hkf : KeptF [w.heap.size + 1 + 1] w4 (((w4.setCell ⟨w.heap.size + 1 + 1, 0, none⟩ (.int .i64 y.fNext)).setCell ⟨w.heap.size + 1 + 1, 1, none⟩ (.int .i64 y.fSeq)).setCell ⟨w.heap.size + 1 + 1, 2, none⟩ (.slice P L.length C)) := (((KeptF.refl _ _).set (by simp) _).set (by simp) _).set (by simp) _
              have hbf := HB.out.trans (hkf.toBelow HB.out.size (fun b hb => by simp at hb; omega))
              have rd := Rp.Row_kept HR.out hkf (fun b hb h => by have := (HF.out b hb).1; simp at h; omega)
              have d0 := B4f.cell 0 (v := .int .i64 y.fNext) rfl; have d1 := B4f.cell 1 (v := .int .i64 y.fSeq) rfl; have d2 := B4f.cell 2 (v := .slice P L.length C) rfl
              clear hkf B4f z0 z1 z2 v0 v1 v2 hl
              generalize (((w4.setCell ⟨w.heap.size + 1 + 1, 0, none⟩ (.int .i64 y.fNext)).setCell ⟨w.heap.size + 1 + 1, 1, none⟩ (.int .i64 y.fSeq)).setCell ⟨w.heap.size + 1 + 1, 2, none⟩ (.slice P L.length C)) = W4 at *
              exact bodyPost_ret (v := .tuple #[.agg #[.int .i64 y.fNext, .int .i64 y.fSeq, .slice P L.length C], .bool true]) (by simp [results, Try.results9, go_sem, d0, d1, d2]) rfl (by first | exact ⟨[.int .i64 y.fNext, .int .i64 y.fSeq, .slice P L.length C], _, by rw [HK.out], by rw [HV.out]; exact kVersion_make rd, fun b hb => by have := (HF.out b hb).1; omega, ofOwn_nodup _, hbf⟩ | exact ⟨[.int .i64 y.fNext, .int .i64 y.fSeq, .slice P L.length C], by rw [HK.out], _, by rw [HV.out]; exact kVersion_make rd, fun b hb => by have := (HF.out b hb).1; omega, ofOwn_nodup _, hbf⟩)
end Go.Proofs.Ytiliaijgkedhnaa
