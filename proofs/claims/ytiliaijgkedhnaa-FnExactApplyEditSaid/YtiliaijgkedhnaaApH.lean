/- spec.l9Apply, walked. -/
import Derived.Test.YtiliaijgkedhnaaApB
import Derived.Test.YtiliaijgkedhnaaApD
namespace Go.Proofs.Ytiliaijgkedhnaa
open Go Go.RowKit Go.Sort
set_option linter.unusedVariables false
set_option linter.unusedSimpArgs false

theorem meta_at {w wr : World} {A : Option Addr} {xs : List DMeta} (h : kMeta.C w A xs) (hB : Below w.heap.size w wr) (k : Nat) (hk : k < xs.length) : ∃ b o, A = some ⟨b, o, none⟩ ∧ wr.cell? ⟨b, o + k * 4, none⟩ = some (.int .i64 xs[k].fNumber) ∧ wr.cell? ⟨b, o + k * 4 + 1, none⟩ = some (.int .i64 xs[k].fLevel) ∧ wr.cell? ⟨b, o + k * 4 + 2, none⟩ = some (.string xs[k].fLeast) ∧ wr.cell? ⟨b, o + k * 4 + 3, none⟩ = some (.string xs[k].fMost) := by
  obtain ⟨b, o, cs, rfl, k1, q1⟩ := Rp.C_get h k hk
  obtain rfl := kMeta_K k1
  have a0 := (World.cell?_of_block (hB.block b (World.block_lt_of_cell? w _ (q1 0 _ rfl)))).trans (q1 0 _ rfl)
  have a1 := (World.cell?_of_block (hB.block b (World.block_lt_of_cell? w _ (q1 1 _ rfl)))).trans (q1 1 _ rfl)
  have a2 := (World.cell?_of_block (hB.block b (World.block_lt_of_cell? w _ (q1 2 _ rfl)))).trans (q1 2 _ rfl)
  have a3 := (World.cell?_of_block (hB.block b (World.block_lt_of_cell? w _ (q1 3 _ rfl)))).trans (q1 3 _ rfl)
  simp only [kMeta_sz, Nat.add_zero] at a0 a1 a2 a3
  exact ⟨b, o, rfl, a0, a1, a2, a3⟩
theorem sVer3 (n s : Int) (l : List DMeta) (v : Value) (w : World) (g : kMeta.S w l v) (hl : l.length ≤ 140737488355328) : Calls Try.prog 17 #[.agg #[.int .i64 n, .int .i64 s, v]] w
    fun e w' => e = .returned (.bool (goodVer ⟨n, s, l⟩)) ∧ Below w.heap.size w w' := sGoodVersion_calls ⟨n, s, l⟩ v w g hl
set_option maxHeartbeats 8000000 in
set_option maxRecDepth 100000 in
theorem sApply_calls (x : DVersion) (y : DEdit) (A A2 A3 : Option Addr) (c c2 c3 : Nat) (w : World) (gx : kMeta.S w x.fMetas (.slice A x.fMetas.length c)) (g2 : kInt.S w y.fDrop (.slice A2 y.fDrop.length c2)) (g3 : kMeta.S w y.fAdd (.slice A3 y.fAdd.length c3)) (lx : x.fMetas.length ≤ 1048576) (l2 : y.fDrop.length ≤ 1048576) (l3 : y.fAdd.length ≤ 1048576) (hg : goodVer x = true) :
    Calls Try.prog 18 #[.agg #[.int .i64 x.fNext, .int .i64 x.fSeq, .slice A x.fMetas.length c], .agg #[.int .i64 y.fNext, .int .i64 y.fSeq, .slice A2 y.fDrop.length c2, .slice A3 y.fAdd.length c3]] w
    fun e w' => ∃ cs F, e = .returned (.tuple #[.agg cs.toArray, .bool (apOk x y)]) ∧ kVersion.M w' F (apV x y) cs ∧ (∀ b ∈ F, w.heap.size ≤ b) ∧ F.Nodup ∧ Below w.heap.size w w' := by
  have G2 := Lib.hid g2; have G3 := Lib.hid g3
  obtain ⟨A_, c_, e_, hc, hgx⟩ := gx
  obtain ⟨rfl, _, rfl⟩ := Value.slice.inj e_
  have H := Lib.hid hgx; clear hgx e_
  obtain ⟨A_, c_, e_, hc2, hgx⟩ := g2
  obtain ⟨rfl, _, rfl⟩ := Value.slice.inj e_
  have H2 := Lib.hid hgx; clear hgx e_
  obtain ⟨A_, c_, e_, hc3, hgx⟩ := g3
  obtain ⟨rfl, _, rfl⟩ := Value.slice.inj e_
  have H3 := Lib.hid hgx; clear hgx e_
  have hxl := (goodVer_rise hg).2
  have HG := Lib.hid hg
  have bad : apOk x y = false → ∀ (W : World), Below w.heap.size w W → ∃ cs F, Ending.returned (.tuple #[.agg #[.int .i64 0, .int .i64 0, .slice none 0 0], .bool false]) = .returned (.tuple #[.agg cs.toArray, .bool (apOk x y)]) ∧ kVersion.M W F (apV x y) cs ∧ (∀ b ∈ F, w.heap.size ≤ b) ∧ F.Nodup ∧ Below w.heap.size w W := fun h W hb => by
    have hv : apV x y = ⟨0, 0, []⟩ := by rw [apV, if_neg (by rw [h]; decide)]
    rw [hv, h]
    exact ⟨_, _, rfl, kVersion_make (Rp.Row_nil _ _ _), by simp, by simp, hb⟩
  have BAD := Lib.hid bad; clear bad hg
  go_enter Try.func18, Try.ntmps18
  go_wp2_with fail
  have hb3 := (((Below.refl w.heap.size w).alloc (Nat.le_refl _) (.cells #[.int .i64 x.fNext, .int .i64 x.fSeq, .slice A x.fMetas.length c] 32)).alloc (by simp) (.cells #[.int .i64 y.fNext, .int .i64 y.fSeq, .slice A2 y.fDrop.length c2, .slice A3 y.fAdd.length c3] 37)).alloc (by simp; omega) (.cells #[.int .i64 0, .int .i64 0, .slice none 0 0] 32)
  have HX := Lib.hid (Box.alloc (o := .cells #[.int .i64 0, .int .i64 0, .slice none 0 0] 32) (Box.alloc (o := .cells #[.int .i64 y.fNext, .int .i64 y.fSeq, .slice A2 y.fDrop.length c2, .slice A3 y.fAdd.length c3] 37) (Box.new (b := w.heap.size) (w := w) (cs := #[.int .i64 x.fNext, .int .i64 x.fSeq, .slice A x.fMetas.length c]) (T := 32) rfl)))
  have HE := Lib.hid (Box.alloc (o := .cells #[.int .i64 0, .int .i64 0, .slice none 0 0] 32) (Box.new (w := w.alloc (.cells #[.int .i64 x.fNext, .int .i64 x.fSeq, .slice A x.fMetas.length c] 32)) (b := w.heap.size + 1) (cs := #[.int .i64 y.fNext, .int .i64 y.fSeq, .slice A2 y.fDrop.length c2, .slice A3 y.fAdd.length c3]) (T := 37) (by simp)))
  have H4 := Lib.hid (Box.new (w := (w.alloc (.cells #[.int .i64 x.fNext, .int .i64 x.fSeq, .slice A x.fMetas.length c] 32)).alloc (.cells #[.int .i64 y.fNext, .int .i64 y.fSeq, .slice A2 y.fDrop.length c2, .slice A3 y.fAdd.length c3] 37)) (b := w.heap.size + 1 + 1) (cs := #[.int .i64 0, .int .i64 0, .slice none 0 0]) (T := 32) (by simp))
  (with_reducible refine (sGoodEdit_calls y A2 A3 c2 c3 _ (Rp.S_below G2.out hb3) (Rp.S_below G3.out hb3) l2 l3).mono ?_)
  rintro e w1 ⟨rfl, hb⟩
  have hz : w.heap.size + 3 ≤ w1.heap.size := Nat.le_trans (by simp) hb.size
  have HB1 := Lib.hid (hb3.trans (hb.mono (by simp; omega)))
  have HX1 := Lib.hid (HX.out.below hb)
  have HE1 := Lib.hid (HE.out.below hb)
  have H41 := Lib.hid (H4.out.below hb)
  clear hb hb3 HX HE H4
  cases h1 : goodEd y
  · have H1 := Lib.hid h1; clear h1
    have z0 := H41.out.cell 0 (v := .int .i64 0) rfl; have z1 := H41.out.cell 1 (v := .int .i64 0) rfl; have z2 := H41.out.cell 2 (v := .slice none 0 0) rfl
    have v0 := H41.out.fro 0; have v1 := H41.out.fro 1; have v2 := H41.out.fro 2; have hl := H41.out.lt
    go_wp2
    have B4f := (((H41.out.set 0 (.int .i64 0)).set 1 (.int .i64 0)).set 2 (.slice none 0 0))
    have hkf : KeptF [w.heap.size + 1 + 1] w1 (((w1.setCell ⟨w.heap.size + 1 + 1, 0, none⟩ (.int .i64 0)).setCell ⟨w.heap.size + 1 + 1, 1, none⟩ (.int .i64 0)).setCell ⟨w.heap.size + 1 + 1, 2, none⟩ (.slice none 0 0)) := (((KeptF.refl _ _).set (by simp) _).set (by simp) _).set (by simp) _
    have hbf := HB1.out.trans (hkf.toBelow HB1.out.size (fun b hb => by simp at hb; omega))
    have d0 := B4f.cell 0 (v := .int .i64 0) rfl; have d1 := B4f.cell 1 (v := .int .i64 0) rfl; have d2 := B4f.cell 2 (v := .slice none 0 0) rfl
    clear hkf B4f z0 z1 z2 v0 v1 v2 hl
    generalize (((w1.setCell ⟨w.heap.size + 1 + 1, 0, none⟩ (.int .i64 0)).setCell ⟨w.heap.size + 1 + 1, 1, none⟩ (.int .i64 0)).setCell ⟨w.heap.size + 1 + 1, 2, none⟩ (.slice none 0 0)) = W4 at *
    exact bodyPost_ret (v := .tuple #[.agg #[.int .i64 0, .int .i64 0, .slice none 0 0], .bool false]) (by simp [results, Try.results18, go_sem, d0, d1, d2]) rfl (by obtain ⟨cs_, F_, q1_, q2_⟩ := BAD.out (by simp [apOk, ap0, H1.out]) _ hbf; first | exact ⟨cs_, F_, q1_, q2_⟩ | exact ⟨cs_, q1_, F_, q2_⟩)
  have H1 := Lib.hid h1; clear h1
  have hyl := goodEd_rise H1.out
  have hdl : y.fDrop.length ≤ 30 := hyl.2.2.1
  have hal : y.fAdd.length ≤ 30 := hyl.2.2.2
  clear hyl
  have x0 := HX1.out.cell 0 (v := .int .i64 x.fNext) rfl; have x1 := HX1.out.cell 1 (v := .int .i64 x.fSeq) rfl; have x2 := HX1.out.cell 2 (v := .slice A x.fMetas.length c) rfl
  have y0 := HE1.out.cell 0 (v := .int .i64 y.fNext) rfl; have y1 := HE1.out.cell 1 (v := .int .i64 y.fSeq) rfl
  by_cases h2 : y.fNext < x.fNext
  · have z0 := H41.out.cell 0 (v := .int .i64 0) rfl; have z1 := H41.out.cell 1 (v := .int .i64 0) rfl; have z2 := H41.out.cell 2 (v := .slice none 0 0) rfl
    have v0 := H41.out.fro 0; have v1 := H41.out.fro 1; have v2 := H41.out.fro 2; have hl := H41.out.lt
    go_wp2
    have B4f := (((H41.out.set 0 (.int .i64 0)).set 1 (.int .i64 0)).set 2 (.slice none 0 0))
    have hkf : KeptF [w.heap.size + 1 + 1] w1 (((w1.setCell ⟨w.heap.size + 1 + 1, 0, none⟩ (.int .i64 0)).setCell ⟨w.heap.size + 1 + 1, 1, none⟩ (.int .i64 0)).setCell ⟨w.heap.size + 1 + 1, 2, none⟩ (.slice none 0 0)) := (((KeptF.refl _ _).set (by simp) _).set (by simp) _).set (by simp) _
    have hbf := HB1.out.trans (hkf.toBelow HB1.out.size (fun b hb => by simp at hb; omega))
    have d0 := B4f.cell 0 (v := .int .i64 0) rfl; have d1 := B4f.cell 1 (v := .int .i64 0) rfl; have d2 := B4f.cell 2 (v := .slice none 0 0) rfl
    clear hkf B4f z0 z1 z2 v0 v1 v2 hl
    generalize (((w1.setCell ⟨w.heap.size + 1 + 1, 0, none⟩ (.int .i64 0)).setCell ⟨w.heap.size + 1 + 1, 1, none⟩ (.int .i64 0)).setCell ⟨w.heap.size + 1 + 1, 2, none⟩ (.slice none 0 0)) = W4 at *
    exact bodyPost_ret (v := .tuple #[.agg #[.int .i64 0, .int .i64 0, .slice none 0 0], .bool false]) (by simp [results, Try.results18, go_sem, d0, d1, d2]) rfl (by obtain ⟨cs_, F_, q1_, q2_⟩ := BAD.out (by simp [apOk, ap0]; omega) _ hbf; first | exact ⟨cs_, F_, q1_, q2_⟩ | exact ⟨cs_, q1_, F_, q2_⟩)
  by_cases h3 : y.fSeq < x.fSeq
  · have z0 := H41.out.cell 0 (v := .int .i64 0) rfl; have z1 := H41.out.cell 1 (v := .int .i64 0) rfl; have z2 := H41.out.cell 2 (v := .slice none 0 0) rfl
    have v0 := H41.out.fro 0; have v1 := H41.out.fro 1; have v2 := H41.out.fro 2; have hl := H41.out.lt
    go_wp2
    have B4f := (((H41.out.set 0 (.int .i64 0)).set 1 (.int .i64 0)).set 2 (.slice none 0 0))
    have hkf : KeptF [w.heap.size + 1 + 1] w1 (((w1.setCell ⟨w.heap.size + 1 + 1, 0, none⟩ (.int .i64 0)).setCell ⟨w.heap.size + 1 + 1, 1, none⟩ (.int .i64 0)).setCell ⟨w.heap.size + 1 + 1, 2, none⟩ (.slice none 0 0)) := (((KeptF.refl _ _).set (by simp) _).set (by simp) _).set (by simp) _
    have hbf := HB1.out.trans (hkf.toBelow HB1.out.size (fun b hb => by simp at hb; omega))
    have d0 := B4f.cell 0 (v := .int .i64 0) rfl; have d1 := B4f.cell 1 (v := .int .i64 0) rfl; have d2 := B4f.cell 2 (v := .slice none 0 0) rfl
    clear hkf B4f z0 z1 z2 v0 v1 v2 hl
    generalize (((w1.setCell ⟨w.heap.size + 1 + 1, 0, none⟩ (.int .i64 0)).setCell ⟨w.heap.size + 1 + 1, 1, none⟩ (.int .i64 0)).setCell ⟨w.heap.size + 1 + 1, 2, none⟩ (.slice none 0 0)) = W4 at *
    exact bodyPost_ret (v := .tuple #[.agg #[.int .i64 0, .int .i64 0, .slice none 0 0], .bool false]) (by simp [results, Try.results18, go_sem, d0, d1, d2]) rfl (by obtain ⟨cs_, F_, q1_, q2_⟩ := BAD.out (by simp [apOk, ap0]; omega) _ hbf; first | exact ⟨cs_, F_, q1_, q2_⟩ | exact ⟨cs_, q1_, F_, q2_⟩)
  have HOK := Lib.hid (show apOk x y = (apIn x y && goodVer (apE x y)) by
    have q1 : x.fNext ≤ y.fNext := by omega
    have q2 : x.fSeq ≤ y.fSeq := by omega
    simp [apOk, ap0, HG.out, H1.out, q1, q2])
  have SX := Lib.hid H.out
  go_wp2
  clear x0 x1 x2 y0 y1 h2 h3 HX1
  go_loopw [6, 7, 39] (fun l f i wr => ∃ k : Nat, k ≤ x.fMetas.length ∧ i = .int .i64 (k : Int) ∧ ∃ (L : List DMeta) (P : Option Addr) (C q : Nat), l = .slice P L.length C ∧ f = .int .i64 (q : Int) ∧ q ≤ k ∧ Hid (keepM (x.fMetas.take k) y.fDrop = L) ∧ Hid ((x.fMetas.take k).countP (inD y.fDrop) = q) ∧ Hid (kMeta.Row 52 wr (Rp.ofOwn (.slice P L.length C)) L (.slice P L.length C)) ∧ Hid (∀ b ∈ Rp.ofOwn (.slice P L.length C), w.heap.size + 3 ≤ b) ∧ Hid (Below w.heap.size w wr) ∧ Hid (Box wr (w.heap.size + 1) #[.int .i64 y.fNext, .int .i64 y.fSeq, .slice A2 y.fDrop.length c2, .slice A3 y.fAdd.length c3] 37) ∧ Hid (Box wr (w.heap.size + 1 + 1) #[.int .i64 0, .int .i64 0, .slice none 0 0] 32) ∧ w.heap.size + 3 ≤ wr.heap.size) (fun _ _ i _ => x.fMetas.length - (intOf i).toNat)
  case atStart => exact ⟨0, Nat.zero_le _, rfl, [], none, 0, 0, rfl, rfl, Nat.le_refl _, rfl, rfl, Rp.Row_nil _ _ _, by simp [Hid, Rp.ofOwn, Value.ownBlock], HB1.out, HE1.out, H41.out, hz⟩
  case round =>
    clear HB1 HE1 H41 hz
    obtain ⟨k, hk, rfl, L, P, C, q, rfl, rfl, hq, HL, HQ, HR, HF, HB, HE, H4, hz⟩ := hrel
    have hLl : L.length ≤ k := by
      have h := keepM_len (x.fMetas.take k) y.fDrop
      rw [HL.out, List.length_take] at h
      omega
    by_cases hlt : k < x.fMetas.length
    case pos =>
      obtain ⟨b, o, rfl, a0, a1, a2, a3⟩ := meta_at H.out HB.out k hlt
      have hs1 := keepM_take (dr := y.fDrop) hlt
      have hs2 := countD_take (dr := y.fDrop) hlt
      rw [HL.out] at hs1
      rw [HQ.out] at hs2
      generalize x.fMetas[k] = m at *
      have HS1 := Lib.hid hs1; have HS2 := Lib.hid hs2
      clear hs1 hs2 HL HQ
      have i1 : (k : Int) < (x.fMetas.length : Int) := by omega
      have i2 : (0 : Int) ≤ (k : Int) := by omega
      have y2 := HE.out.cell 2 (v := .slice A2 y.fDrop.length c2) rfl
      have yl := HE.out.lt
      go_wp2
      clear a0 a1 a2 a3 y2 yl
      have hb4 := (Below.refl wr.heap.size wr).alloc (Nat.le_refl _) (.cells #[.int .i64 m.fNumber, .int .i64 m.fLevel, .string m.fLeast, .string m.fMost] 52)
      have HR := Lib.hid (Rp.Row_below HR.out hb4); have HB := Lib.hid (HB.out.trans (hb4.mono HB.out.size)); have HE := Lib.hid (HE.out.below hb4); have H4 := Lib.hid (H4.out.below hb4)
      have BX := Lib.hid (show Box (wr.alloc (.cells #[.int .i64 m.fNumber, .int .i64 m.fLevel, .string m.fLeast, .string m.fMost] 52)) wr.heap.size #[.int .i64 m.fNumber, .int .i64 m.fLevel, .string m.fLeast, .string m.fMost] 52 from Box.new rfl)
      have hz := Nat.le_trans hz hb4.size
      clear hb4
      generalize wr.heap.size = N at *
      generalize wr.alloc (.cells #[.int .i64 m.fNumber, .int .i64 m.fLevel, .string m.fLeast, .string m.fMost] 52) = wo at *
      go_loopw [10, 46] (fun r j wr => ∃ n : Nat, n ≤ y.fDrop.length ∧ j = .int .i64 (n : Int) ∧ r = .bool (inD (y.fDrop.take n) m) ∧ Hid (wr = wo)) (fun _ j _ => y.fDrop.length - (intOf j).toNat)
      case atStart => exact ⟨0, Nat.zero_le _, rfl, rfl, rfl⟩
      case round =>
        obtain ⟨n, hn, rfl, rfl, HW⟩ := hrel
        obtain rfl := HW.out
        by_cases hln : n < y.fDrop.length
        case pos =>
          have hst : inD (y.fDrop.take (n + 1)) m = (inD (y.fDrop.take n) m || (y.fDrop[n] == m.fNumber)) := by
            unfold inD
            rw [List.take_add_one, List.getElem?_eq_getElem hln, List.any_append]
            simp
          obtain ⟨b2, o2, rfl, d0⟩ := intS_at H2.out HB.out n hln
          generalize y.fDrop[n] = z at *
          have HST := Lib.hid hst; clear hst
          have m0 := BX.out.cell 0 (v := .int .i64 m.fNumber) rfl
          have j1 : (n : Int) < (y.fDrop.length : Int) := by omega
          have j2 : (0 : Int) ≤ (n : Int) := by omega
          cases hr : inD (y.fDrop.take n) m
          all_goals
            rw [hr] at HST
            have HST := Lib.hid HST.out
            clear hr
            go_wp2
            exact ⟨⟨n + 1, by omega, by go_num, by rw [HST.out]; simp, trivial⟩, by simp [intOf]; omega⟩
        case neg =>
          have j1 : ¬ (n : Int) < (y.fDrop.length : Int) := by omega
          obtain rfl : n = y.fDrop.length := by omega
          have hr0 : inD (y.fDrop.take y.fDrop.length) m = inD y.fDrop m := by rw [List.take_length]
          cases hr : inD y.fDrop m
          · have h5 := HS1.out; have h6 := HS2.out
            rw [hr, if_neg (by simp)] at h5 h6
            have HS1 := Lib.hid h5; have HS2 := Lib.hid (h6.trans (Nat.add_zero _))
            clear h5 h6
            rw [hr] at hr0
            rw [hr0]
            clear hr hr0
            have m0 := BX.out.cell 0 (v := .int .i64 m.fNumber) rfl; have m1 := BX.out.cell 1 (v := .int .i64 m.fLevel) rfl; have m2 := BX.out.cell 2 (v := .string m.fLeast) rfl; have m3 := BX.out.cell 3 (v := .string m.fMost) rfl
            go_wp2_with (at_builtin; go_loud (refine wp_append (d := kMeta) rfl _ _ 30 52 rfl Try.underlying30 infoMeta rfl (by decide) rfl (by decide) kMeta_flat (xs := L) (ys := [m]) rfl rfl (Rp.Row_below HR.out ((Below.refl _ _).alloc (Nat.le_refl _) _)) (Rp.S_one (Box.new (by simp)) (kMeta_mkK _ m)) (by simp; omega) ?_; intro va wa r1 r2 r3 r4; clear r4; obtain ⟨P1, C1, e1, _, _⟩ := Rp.Row_K r1; rw [show (L ++ [m]).length = L.length + 1 by simp] at e1; subst e1; have R1 := Lib.hid r1; have T1 := Lib.hid (fun b hb => (by rcases r3 b hb with h | h; exact HF.out b h; simp at h; omega) : ∀ b ∈ Rp.ofOwn (.slice P1 (L.length + 1) C1), w.heap.size + 3 ≤ b); have hz1 := r2.size; simp at hz1; have HE := Lib.hid ((Box.alloc HE.out).kept r2 (fun h => by have := HF.out _ h; omega)); have H4 := Lib.hid ((Box.alloc H4.out).kept r2 (fun h => by have := HF.out _ h; omega)); have HB := Lib.hid ((HB.out.alloc HB.out.size _).trans (r2.toBelow (by have := HB.out.size; simp; omega) (fun b h => by have := HF.out b h; omega))); have HZ := Lib.hid hz; clear hz; have hz := Nat.le_trans HZ.out (Nat.le_of_lt (Nat.lt_of_succ_le hz1)); clear r1 r2 r3 hz1 HR HZ m0 m1 m2 m3))
            exact ⟨⟨k + 1, by omega, by go_num, L ++ [m], P1, C1, q, by simp, rfl, by omega, HS1.out, HS2.out, by simpa [Hid] using R1.out, by simpa [Hid] using T1.out, HB.out, HE.out, H4.out, hz⟩, by simp [intOf]; omega⟩
          · have h5 := HS1.out; have h6 := HS2.out
            rw [hr, if_pos rfl] at h5 h6
            have HS1 := Lib.hid (h5.trans (List.append_nil L)); have HS2 := Lib.hid h6
            clear h5 h6
            rw [hr] at hr0
            rw [hr0]
            clear hr hr0
            go_wp2
            exact ⟨⟨k + 1, by omega, by go_num, L, P, C, q + 1, rfl, by go_num, by omega, HS1.out, HS2.out, HR.out, HF.out, HB.out, HE.out, H4.out, hz⟩, by simp [intOf]; omega⟩
    case neg =>
      have i1 : ¬ (k : Int) < (x.fMetas.length : Int) := by omega
      obtain rfl : k = x.fMetas.length := by omega
      have h5 := HL.out; have h6 := HQ.out
      rw [List.take_length] at h5 h6
      have HL := Lib.hid h5; have HQ := Lib.hid h6
      clear h5 h6
      have y3 := HE.out.cell 3 (v := .slice A3 y.fAdd.length c3) rfl
      go_wp2
      clear y3
      go_loopw [6, 69] (fun l i wr => ∃ k : Nat, k ≤ y.fAdd.length ∧ i = .int .i64 (k : Int) ∧ ∃ (L : List DMeta) (P : Option Addr) (C : Nat), l = .slice P L.length C ∧ Hid (addM (keepM x.fMetas y.fDrop) (y.fAdd.take k) = L) ∧ Hid (kMeta.Row 52 wr (Rp.ofOwn (.slice P L.length C)) L (.slice P L.length C)) ∧ Hid (∀ b ∈ Rp.ofOwn (.slice P L.length C), w.heap.size + 3 ≤ b) ∧ Hid (Below w.heap.size w wr) ∧ Hid (Box wr (w.heap.size + 1) #[.int .i64 y.fNext, .int .i64 y.fSeq, .slice A2 y.fDrop.length c2, .slice A3 y.fAdd.length c3] 37) ∧ Hid (Box wr (w.heap.size + 1 + 1) #[.int .i64 0, .int .i64 0, .slice none 0 0] 32) ∧ w.heap.size + 3 ≤ wr.heap.size) (fun _ i _ => y.fAdd.length - (intOf i).toNat)
      case atStart => exact ⟨0, Nat.zero_le _, rfl, L, P, C, rfl, by rw [Hid, ← HL.out]; rfl, HR.out, HF.out, HB.out, HE.out, H4.out, hz⟩
      case round =>
        clear HR HF HB HE H4 hz
        have HLl := Lib.hid (show (keepM x.fMetas y.fDrop).length ≤ 30 by rw [HL.out]; omega)
        clear HL hLl
        obtain ⟨k, hk, rfl, L, P, C, rfl, HL, HR, HF, HB, HE, H4, hz⟩ := hrel
        have hLl : L.length ≤ 30 + k := by
          have h := addM_len (y.fAdd.take k) (keepM x.fMetas y.fDrop)
          rw [HL.out, List.length_take] at h
          have := HLl.out
          omega
        by_cases hlt : k < y.fAdd.length
        case pos =>
          obtain ⟨b, o, rfl, a0, a1, a2, a3⟩ := meta_at H3.out HB.out k hlt
          have hs1 := addM_take hlt (keepM x.fMetas y.fDrop)
          rw [HL.out] at hs1
          generalize y.fAdd[k] = m at *
          have HS1 := Lib.hid hs1
          clear hs1 HL
          have i1 : (k : Int) < (y.fAdd.length : Int) := by omega
          have i2 : (0 : Int) ≤ (k : Int) := by omega
          go_wp2
          clear a0 a1 a2 a3
          have hb4 := (Below.refl wr.heap.size wr).alloc (Nat.le_refl _) (.cells #[.int .i64 m.fNumber, .int .i64 m.fLevel, .string m.fLeast, .string m.fMost] 52)
          have HLT := Lib.hid (Rp.Row_lt HR.out)
          have HR := Lib.hid (Rp.Row_below HR.out hb4); have HB := Lib.hid (HB.out.trans (hb4.mono HB.out.size)); have HE := Lib.hid (HE.out.below hb4); have H4 := Lib.hid (H4.out.below hb4)
          have BX := Lib.hid (show Box (wr.alloc (.cells #[.int .i64 m.fNumber, .int .i64 m.fLevel, .string m.fLeast, .string m.fMost] 52)) wr.heap.size #[.int .i64 m.fNumber, .int .i64 m.fLevel, .string m.fLeast, .string m.fMost] 52 from Box.new rfl)
          have hN := hz
          have hz : wr.heap.size + 1 ≤ (wr.alloc (.cells #[.int .i64 m.fNumber, .int .i64 m.fLevel, .string m.fLeast, .string m.fMost] 52)).heap.size := by simp
          clear hb4
          generalize wr.heap.size = N at *
          generalize wr.alloc (.cells #[.int .i64 m.fNumber, .int .i64 m.fLevel, .string m.fLeast, .string m.fMost] 52) = wo at *
          go_loopw [15] (fun j wr => ∃ p : Nat, p ≤ L.length ∧ j = .int .i64 (p : Int) ∧ Hid (∀ i (hi : i < L.length), i < p → L[i].fNumber < m.fNumber) ∧ Hid (kMeta.Row 52 wr (Rp.ofOwn (.slice P L.length C)) L (.slice P L.length C)) ∧ Hid (Box wr N #[.int .i64 m.fNumber, .int .i64 m.fLevel, .string m.fLeast, .string m.fMost] 52) ∧ Hid (Below w.heap.size w wr) ∧ Hid (Box wr (w.heap.size + 1) #[.int .i64 y.fNext, .int .i64 y.fSeq, .slice A2 y.fDrop.length c2, .slice (some ⟨b, o, none⟩) y.fAdd.length c3] 37) ∧ Hid (Box wr (w.heap.size + 1 + 1) #[.int .i64 0, .int .i64 0, .slice none 0 0] 32) ∧ N + 1 ≤ wr.heap.size) (fun j _ => L.length - (intOf j).toNat)
          case atStart => exact ⟨0, Nat.zero_le _, rfl, by simp [Hid], HR.out, BX.out, HB.out, HE.out, H4.out, hz⟩
          case round =>
            clear HR BX HB HE H4 hz
            obtain ⟨p, hp, rfl, HP, HR, BX, HB, HE, H4, hz⟩ := hrel
            go_upto_region 22 with fail
            go_cut [86] from 73 to 86 (fun s wx => ∃ r : Bool, s = .bool r ∧ Hid (r = true → ∃ h : p < L.length, L[p].fNumber < m.fNumber) ∧ Hid (r = false → ∀ h : p < L.length, ¬ L[p].fNumber < m.fNumber) ∧ Hid (kMeta.Row 52 wx (Rp.ofOwn (.slice P L.length C)) L (.slice P L.length C)) ∧ Hid (Box wx N #[.int .i64 m.fNumber, .int .i64 m.fLevel, .string m.fLeast, .string m.fMost] 52) ∧ Hid (Below w.heap.size w wx) ∧ Hid (Box wx (w.heap.size + 1) #[.int .i64 y.fNext, .int .i64 y.fSeq, .slice A2 y.fDrop.length c2, .slice (some ⟨b, o, none⟩) y.fAdd.length c3] 37) ∧ Hid (Box wx (w.heap.size + 1 + 1) #[.int .i64 0, .int .i64 0, .slice none 0 0] 32) ∧ N + 1 ≤ wx.heap.size)
            case first =>
              have b0 := regr (Below.refl _ _) BX.out.lt (BX.out.cell 0 (v := .int .i64 m.fNumber) rfl)
              by_cases hlp : p < L.length
              case neg =>
                have j1 : ¬ (p : Int) < (L.length : Int) := by omega
                refine wp_region_quiet_below (by kernel_rfl) (by kernel_rfl) ?_
                repeat (go_big_quiet_step (fail))
                refine wpQuiet_nil ?_
                rintro w3 ⟨p_, rfl⟩
                have hb := below_regrown wr p_.d p_.os
                generalize grow (redrawn wr p_.d) p_.os = w3 at *
                go_wp2_with fail
                go_meet
                have HR := Lib.hid (Rp.Row_below HR.out hb); have BX := Lib.hid (BX.out.below hb); have HB := Lib.hid (HB.out.trans (hb.mono HB.out.size)); have HE := Lib.hid (HE.out.below hb); have H4 := Lib.hid (H4.out.below hb); have hz := Nat.le_trans hz hb.size
                exact ⟨false, rfl, by simp [Hid], fun _ h => absurd h hlp, HR.out, BX.out, HB.out, HE.out, H4.out, hz⟩
              case pos =>
                have j1 : (p : Int) < (L.length : Int) := by omega
                have j2 : (0 : Int) ≤ (p : Int) := by omega
                obtain ⟨A_, c_, e_, _, hC⟩ := Rp.Row_S HR.out
                obtain ⟨rfl, _, rfl⟩ := Value.slice.inj e_
                obtain ⟨g, o', rfl, d0, d1, d2, d3⟩ := meta_at hC (Below.refl _ _) p hlp
                clear hC e_ d1 d2 d3
                have HPP := Lib.hid (show (∃ h : p < L.length, L[p].fNumber < m.fNumber) ↔ L[p].fNumber < m.fNumber from ⟨fun ⟨_, h⟩ => h, fun h => ⟨hlp, h⟩⟩)
                have r0 := regr (Below.refl _ _) (World.block_lt_of_cell? _ _ d0) d0
                generalize hzz : L[p].fNumber = zz at *
                have HZZ := Lib.hid hzz; clear hzz
                refine wp_region_quiet_below (by kernel_rfl) (by kernel_rfl) ?_
                repeat (go_big_quiet_step (fail))
                refine wpQuiet_nil ?_
                rintro w3 ⟨p_, rfl⟩
                have hb := below_regrown wr p_.d p_.os
                generalize grow (redrawn wr p_.d) p_.os = w3 at *
                go_wp2_with fail
                go_meet
                have HR := Lib.hid (Rp.Row_below HR.out hb); have BX := Lib.hid (BX.out.below hb); have HB := Lib.hid (HB.out.trans (hb.mono HB.out.size)); have HE := Lib.hid (HE.out.below hb); have H4 := Lib.hid (H4.out.below hb); have hz := Nat.le_trans hz hb.size
                exact ⟨decide (zz < m.fNumber), rfl, fun h => HPP.out.2 (by simpa using h), fun h h' => by rw [HZZ.out]; simpa using h, HR.out, BX.out, HB.out, HE.out, H4.out, hz⟩
            case rest =>
              clear HR BX HB HE H4 hz
              obtain ⟨r, rfl, H7, H8, HR, BX, HB, HE, H4, hz⟩ := hcut
              cases r
              case true =>
                obtain ⟨h9, h10⟩ := H7.out rfl
                have H10 := Lib.hid h10; clear h10
                go_wp2
                exact ⟨⟨p + 1, by omega, by go_num, fun i hi hip => (by
                  rcases Nat.lt_or_ge i p with h | h
                  · exact HP.out i hi h
                  · obtain rfl : i = p := by omega
                    exact H10.out), HR.out, BX.out, HB.out, HE.out, H4.out, hz⟩, by simp [intOf]; omega⟩
              case false =>
                have hpos := posM_step HP.out hp (H8.out rfl)
                have HNE := Lib.hid (show addM (keepM x.fMetas y.fDrop) (y.fAdd.take (k + 1)) = L.take p ++ [m] ++ L.drop p by rw [HS1.out, insM, hpos]; simp)
                clear hpos HP H7 H8 HS1
                have SX := Lib.hid (Rp.Row_S HR.out)
                have i3 : (0 : Int) ≤ (p : Int) := by omega
                have i4 : (p : Int) ≤ (L.length : Int) := by omega
                have hcap : L.length ≤ C := by obtain ⟨A_, c_, e_, hc, _⟩ := SX.out; obtain ⟨_, _, rfl⟩ := Value.slice.inj e_; exact hc.1
                have i5 : (p : Int) ≤ (C : Int) := by omega
                go_upto_region 26 with (at_builtin; go_loud (refine wp_append (d := kMeta) rfl _ _ 30 52 rfl Try.underlying30 infoMeta rfl (by decide) rfl (by decide) kMeta_flat (xs := []) (ys := L.take p) rfl rfl (Rp.Row_nil _ _ _) (Rp.S_take SX.out p hp) (by simp; omega) ?_; intro va wa r1 r2 r3 r4; clear r4; obtain ⟨P1, C1, e1, _, _⟩ := Rp.Row_K r1; rw [show (([] : List DMeta) ++ L.take p).length = p by simp; omega] at e1; subst e1; have R1 := Lib.hid (show kMeta.Row 52 wa (Rp.ofOwn (.slice P1 p C1)) (L.take p) (.slice P1 p C1) from r1); have T1 := Lib.hid (fun b hb => (by rcases r3 b hb with h | h; cases h; omega) : ∀ b ∈ Rp.ofOwn (.slice P1 p C1), N + 1 ≤ b); have hk2 := r2.toBelow (B := wc.heap.size) (Nat.le_refl _) (by simp); have HR := Lib.hid (Rp.Row_below HR.out hk2); have BX := Lib.hid (BX.out.below hk2); have HB := Lib.hid (HB.out.trans (hk2.mono HB.out.size)); have HE := Lib.hid (HE.out.below hk2); have H4 := Lib.hid (H4.out.below hk2); have hz := Nat.le_trans hz hk2.size; clear r1 r2 r3 hk2 SX))
                have b0 := BX.out.cell 0 (v := .int .i64 m.fNumber) rfl; have b1 := BX.out.cell 1 (v := .int .i64 m.fLevel) rfl; have b2 := BX.out.cell 2 (v := .string m.fLeast) rfl; have b3 := BX.out.cell 3 (v := .string m.fMost) rfl
                go_upto_region 27 with (at_builtin; go_loud (refine wp_append (d := kMeta) rfl _ _ 30 52 rfl Try.underlying30 infoMeta rfl (by decide) rfl (by decide) kMeta_flat (xs := L.take p) (ys := [m]) rfl rfl (Rp.Row_below R1.out ((Below.refl _ _).alloc (Nat.le_refl _) _)) (Rp.S_one (Box.new (by simp)) (kMeta_mkK _ m)) (by simp; omega) ?_; intro va wa r1 r2 r3 r4; clear r4; obtain ⟨P2, C2, e1, _, _⟩ := Rp.Row_K r1; rw [show (L.take p ++ [m] : List DMeta).length = p + 1 by simp; omega] at e1; subst e1; have hz1 := r2.size; simp at hz1; have HR := Lib.hid (Rp.Row_kept (Rp.Row_below HR.out ((Below.refl _ _).alloc (Nat.le_refl _) _)) r2 (fun b h hm => by have := HLT.out b h; have := T1.out b hm; omega)); have HE := Lib.hid ((Box.alloc HE.out).kept r2 (fun h => by have := T1.out _ h; omega)); have H4 := Lib.hid ((Box.alloc H4.out).kept r2 (fun h => by have := T1.out _ h; omega)); have HB := Lib.hid ((HB.out.alloc HB.out.size _).trans (r2.toBelow (by have := HB.out.size; simp; omega) (fun b h => by have := T1.out b h; omega))); have R2 := Lib.hid r1; have T2 := Lib.hid (fun b h => (by rcases r3 b h with h | h; exact T1.out b h; simp at h; omega) : ∀ b ∈ Rp.ofOwn (.slice P2 (p + 1) C2), N + 1 ≤ b); have HZ := Lib.hid hz; clear hz; have hz := Nat.le_trans HZ.out (Nat.le_of_lt (Nat.lt_of_succ_le hz1)); clear r1 r2 r3 hz1 R1 T1 HZ))
                have SX := Lib.hid (Rp.Row_S HR.out)
                clear BX b0 b1 b2 b3
                by_cases hz2 : C = p
                case pos =>
                  obtain rfl := hz2.symm
                  have hlk : L.length = p := by omega
                  have SC := Lib.hid (by have h := Rp.S_cut SX.out 4 rfl p (L.length - p) (by omega) rfl (.inr ⟨rfl, rfl⟩) rfl; rw [List.take_of_length_le (by simp), show L.length - p = 0 by omega, show p - p = 0 by omega] at h; exact h)
                  have h00 : L.length - p = 0 := by omega
                  have HLK := Lib.hid hlk; clear hlk
                  go_wp2_with (at_builtin; go_loud (refine wp_append (d := kMeta) rfl _ _ 30 52 rfl Try.underlying30 infoMeta rfl (by decide) rfl (by decide) kMeta_flat (xs := L.take p ++ [m]) (ys := L.drop p) rfl rfl R2.out SC.out (by simp only [List.length_append, List.length_take, List.length_drop, List.length_cons, List.length_nil]; omega) ?_; intro va wa r1 r2 r3 r4; clear r4; obtain ⟨P3, C3, e1, _, _⟩ := Rp.Row_K r1; have hl3 : (L.take p ++ [m] ++ L.drop p : List DMeta).length = L.length + 1 := (by simp only [List.length_append, List.length_take, List.length_drop, List.length_cons, List.length_nil]; omega); rw [hl3] at e1; subst e1; have R3 := Lib.hid r1; have HE := Lib.hid (HE.out.kept r2 (fun h => by have := T2.out _ h; omega)); have H4 := Lib.hid (H4.out.kept r2 (fun h => by have := T2.out _ h; omega)); have T3 := Lib.hid (fun b h => (by rcases r3 b h with h | h; exact T2.out b h; omega) : ∀ b ∈ Rp.ofOwn (.slice P3 (L.length + 1) C3), N + 1 ≤ b); have HB := Lib.hid (HB.out.trans (r2.toBelow HB.out.size (fun b h => by have := T2.out b h; omega))); have hz := Nat.le_trans hz r2.size; have HL3 := Lib.hid hl3; clear r1 r2 r3 hl3))
                  exact ⟨⟨k + 1, by omega, by go_num, L.take p ++ [m] ++ L.drop p, P3, C3, by rw [HL3.out], HNE.out, by rw [Hid, HL3.out]; exact R3.out, by rw [Hid, HL3.out]; exact fun b hb => by have := T3.out b hb; omega, HB.out, HE.out, H4.out, by omega⟩, by simp [intOf]; omega⟩
                case neg =>
                  have SC := Lib.hid (by have h := Rp.S_cut SX.out 4 rfl p (L.length - p) (by omega) rfl (.inl rfl) rfl; rw [List.take_of_length_le (by simp)] at h; exact h)
                  go_wp2_with (at_builtin; go_loud (refine wp_append (d := kMeta) rfl _ _ 30 52 rfl Try.underlying30 infoMeta rfl (by decide) rfl (by decide) kMeta_flat (xs := L.take p ++ [m]) (ys := L.drop p) rfl rfl R2.out SC.out (by simp only [List.length_append, List.length_take, List.length_drop, List.length_cons, List.length_nil]; omega) ?_; intro va wa r1 r2 r3 r4; clear r4; obtain ⟨P3, C3, e1, _, _⟩ := Rp.Row_K r1; have hl3 : (L.take p ++ [m] ++ L.drop p : List DMeta).length = L.length + 1 := (by simp only [List.length_append, List.length_take, List.length_drop, List.length_cons, List.length_nil]; omega); rw [hl3] at e1; subst e1; have R3 := Lib.hid r1; have HE := Lib.hid (HE.out.kept r2 (fun h => by have := T2.out _ h; omega)); have H4 := Lib.hid (H4.out.kept r2 (fun h => by have := T2.out _ h; omega)); have T3 := Lib.hid (fun b h => (by rcases r3 b h with h | h; exact T2.out b h; omega) : ∀ b ∈ Rp.ofOwn (.slice P3 (L.length + 1) C3), N + 1 ≤ b); have HB := Lib.hid (HB.out.trans (r2.toBelow HB.out.size (fun b h => by have := T2.out b h; omega))); have hz := Nat.le_trans hz r2.size; have HL3 := Lib.hid hl3; clear r1 r2 r3 hl3))
                  exact ⟨⟨k + 1, by omega, by go_num, L.take p ++ [m] ++ L.drop p, P3, C3, by rw [HL3.out], HNE.out, by rw [Hid, HL3.out]; exact R3.out, by rw [Hid, HL3.out]; exact fun b hb => by have := T3.out b hb; omega, HB.out, HE.out, H4.out, by omega⟩, by simp [intOf]; omega⟩
        case neg =>
          have i1 : ¬ (k : Int) < (y.fAdd.length : Int) := by omega
          obtain rfl : k = y.fAdd.length := by omega
          have h5 := HL.out
          rw [List.take_length] at h5
          have HL := Lib.hid (show apL x y = L from h5)
          clear h5
          have y0 := HE.out.cell 0 (v := .int .i64 y.fNext) rfl; have y1 := HE.out.cell 1 (v := .int .i64 y.fSeq) rfl; have y2 := HE.out.cell 2 (v := .slice A2 y.fDrop.length c2) rfl
          have yl := HE.out.lt
          have hb4 := (Below.refl wr.heap.size wr).alloc (Nat.le_refl _) (.cells #[.int .i64 y.fNext, .int .i64 y.fSeq, .slice P L.length C] 32)
          have HR0 := HR; have HB0 := HB; have H40 := H4
          have HR := Lib.hid (Rp.Row_below HR.out hb4); have HB := Lib.hid (HB.out.trans (hb4.mono HB.out.size)); have H4 := Lib.hid (H4.out.below hb4)
          have BX := Lib.hid (show Box (wr.alloc (.cells #[.int .i64 y.fNext, .int .i64 y.fSeq, .slice P L.length C] 32)) wr.heap.size #[.int .i64 y.fNext, .int .i64 y.fSeq, .slice P L.length C] 32 from Box.new rfl)
          clear hb4
          by_cases hqn : q = y.fDrop.length
          case neg =>
            have i9 : ((q : Int) != (y.fDrop.length : Int)) = true := by simp; omega
            have HAI := Lib.hid (show apIn x y = false by unfold apIn; rw [HQ.out]; simpa using hqn)
            clear hqn
            go_upto_region 31 with fail
            clear y0 y1 y2 yl
            generalize wr.heap.size = N at *
            generalize wr.alloc (.cells #[.int .i64 y.fNext, .int .i64 y.fSeq, .slice P L.length C] 32) = wo at *
            have z0 := H4.out.cell 0 (v := .int .i64 0) rfl; have z1 := H4.out.cell 1 (v := .int .i64 0) rfl; have z2 := H4.out.cell 2 (v := .slice none 0 0) rfl
            have v0 := H4.out.fro 0; have v1 := H4.out.fro 1; have v2 := H4.out.fro 2; have hl := H4.out.lt
            go_wp2
            have B4f := (((H4.out.set 0 (.int .i64 0)).set 1 (.int .i64 0)).set 2 (.slice none 0 0))
            have hkf : KeptF [w.heap.size + 1 + 1] wo (((wo.setCell ⟨w.heap.size + 1 + 1, 0, none⟩ (.int .i64 0)).setCell ⟨w.heap.size + 1 + 1, 1, none⟩ (.int .i64 0)).setCell ⟨w.heap.size + 1 + 1, 2, none⟩ (.slice none 0 0)) := (((KeptF.refl _ _).set (by simp) _).set (by simp) _).set (by simp) _
            have hbf := HB.out.trans (hkf.toBelow HB.out.size (fun b hb => by simp at hb; omega))
            have d0 := B4f.cell 0 (v := .int .i64 0) rfl; have d1 := B4f.cell 1 (v := .int .i64 0) rfl; have d2 := B4f.cell 2 (v := .slice none 0 0) rfl
            clear hkf B4f z0 z1 z2 v0 v1 v2 hl
            generalize (((wo.setCell ⟨w.heap.size + 1 + 1, 0, none⟩ (.int .i64 0)).setCell ⟨w.heap.size + 1 + 1, 1, none⟩ (.int .i64 0)).setCell ⟨w.heap.size + 1 + 1, 2, none⟩ (.slice none 0 0)) = W4 at *
            exact bodyPost_ret (v := .tuple #[.agg #[.int .i64 0, .int .i64 0, .slice none 0 0], .bool false]) (by simp [results, Try.results18, go_sem, d0, d1, d2]) rfl (by obtain ⟨cs_, F_, q1_, q2_⟩ := BAD.out (by rw [HOK.out, HAI.out]; rfl) _ hbf; first | exact ⟨cs_, F_, q1_, q2_⟩ | exact ⟨cs_, q1_, F_, q2_⟩)
          case pos =>
            have HAI := Lib.hid (show apIn x y = true by unfold apIn; rw [HQ.out]; simpa using hqn)
            have i9 : ((q : Int) != (y.fDrop.length : Int)) = false := by simp; omega
            clear hqn
            go_wp2_with fail
            clear y0 y1 y2 yl
            generalize wr.heap.size = N at *
            generalize wr.alloc (.cells #[.int .i64 y.fNext, .int .i64 y.fSeq, .slice P L.length C] 32) = wo at *
            (with_reducible refine (sVer3 y.fNext y.fSeq L _ _ (Rp.Row_S HR.out) (by omega)).mono ?_)
            rintro e w3 ⟨rfl, hb⟩
            have hgv : goodVer (apE x y) = goodVer ⟨y.fNext, y.fSeq, L⟩ := by rw [apE, HL.out]
            have HGV := Lib.hid hgv; clear hgv
            have HR := Lib.hid (Rp.Row_below HR.out hb); have BX := Lib.hid (BX.out.below hb); have HB := Lib.hid (HB.out.trans (hb.mono HB.out.size)); have H4 := Lib.hid (H4.out.below hb)
            clear hb
            cases h9 : goodVer ⟨y.fNext, y.fSeq, L⟩
            · have HG9 := Lib.hid h9; clear h9
              have z0 := H4.out.cell 0 (v := .int .i64 0) rfl; have z1 := H4.out.cell 1 (v := .int .i64 0) rfl; have z2 := H4.out.cell 2 (v := .slice none 0 0) rfl
              have v0 := H4.out.fro 0; have v1 := H4.out.fro 1; have v2 := H4.out.fro 2; have hl := H4.out.lt
              go_wp2
              have B4f := (((H4.out.set 0 (.int .i64 0)).set 1 (.int .i64 0)).set 2 (.slice none 0 0))
              have hkf : KeptF [w.heap.size + 1 + 1] w3 (((w3.setCell ⟨w.heap.size + 1 + 1, 0, none⟩ (.int .i64 0)).setCell ⟨w.heap.size + 1 + 1, 1, none⟩ (.int .i64 0)).setCell ⟨w.heap.size + 1 + 1, 2, none⟩ (.slice none 0 0)) := (((KeptF.refl _ _).set (by simp) _).set (by simp) _).set (by simp) _
              have hbf := HB.out.trans (hkf.toBelow HB.out.size (fun b hb => by simp at hb; omega))
              have d0 := B4f.cell 0 (v := .int .i64 0) rfl; have d1 := B4f.cell 1 (v := .int .i64 0) rfl; have d2 := B4f.cell 2 (v := .slice none 0 0) rfl
              clear hkf B4f z0 z1 z2 v0 v1 v2 hl
              generalize (((w3.setCell ⟨w.heap.size + 1 + 1, 0, none⟩ (.int .i64 0)).setCell ⟨w.heap.size + 1 + 1, 1, none⟩ (.int .i64 0)).setCell ⟨w.heap.size + 1 + 1, 2, none⟩ (.slice none 0 0)) = W4 at *
              exact bodyPost_ret (v := .tuple #[.agg #[.int .i64 0, .int .i64 0, .slice none 0 0], .bool false]) (by simp [results, Try.results18, go_sem, d0, d1, d2]) rfl (by obtain ⟨cs_, F_, q1_, q2_⟩ := BAD.out (by rw [HOK.out, HGV.out, HG9.out, Bool.and_false]) _ hbf; first | exact ⟨cs_, F_, q1_, q2_⟩ | exact ⟨cs_, q1_, F_, q2_⟩)
            · have HG9 := Lib.hid h9; clear h9
              have HK := Lib.hid (show apOk x y = true by rw [HOK.out, HGV.out, HG9.out, HAI.out]; rfl)
              have HV := Lib.hid (show apV x y = ⟨y.fNext, y.fSeq, L⟩ by rw [apV, if_pos HK.out, apE, HL.out])
              have d0 := BX.out.cell 0 (v := .int .i64 y.fNext) rfl; have d1 := BX.out.cell 1 (v := .int .i64 y.fSeq) rfl; have d2 := BX.out.cell 2 (v := .slice P L.length C) rfl
              have z0 := H4.out.cell 0 (v := .int .i64 0) rfl; have z1 := H4.out.cell 1 (v := .int .i64 0) rfl; have z2 := H4.out.cell 2 (v := .slice none 0 0) rfl
              have v0 := H4.out.fro 0; have v1 := H4.out.fro 1; have v2 := H4.out.fro 2; have hl := H4.out.lt
              go_wp2
              clear d0 d1 d2
              have B4f := (((H4.out.set 0 (.int .i64 y.fNext)).set 1 (.int .i64 y.fSeq)).set 2 (.slice P L.length C))
              have hkf : KeptF [w.heap.size + 1 + 1] w3 (((w3.setCell ⟨w.heap.size + 1 + 1, 0, none⟩ (.int .i64 y.fNext)).setCell ⟨w.heap.size + 1 + 1, 1, none⟩ (.int .i64 y.fSeq)).setCell ⟨w.heap.size + 1 + 1, 2, none⟩ (.slice P L.length C)) := (((KeptF.refl _ _).set (by simp) _).set (by simp) _).set (by simp) _
              have hbf := HB.out.trans (hkf.toBelow HB.out.size (fun b hb => by simp at hb; omega))
              have rd := Rp.Row_kept HR.out hkf (fun b hb h => by have := HF.out b hb; simp at h; omega)
              have d0 := B4f.cell 0 (v := .int .i64 y.fNext) rfl; have d1 := B4f.cell 1 (v := .int .i64 y.fSeq) rfl; have d2 := B4f.cell 2 (v := .slice P L.length C) rfl
              clear hkf B4f z0 z1 z2 v0 v1 v2 hl
              generalize (((w3.setCell ⟨w.heap.size + 1 + 1, 0, none⟩ (.int .i64 y.fNext)).setCell ⟨w.heap.size + 1 + 1, 1, none⟩ (.int .i64 y.fSeq)).setCell ⟨w.heap.size + 1 + 1, 2, none⟩ (.slice P L.length C)) = W4 at *
              exact bodyPost_ret (v := .tuple #[.agg #[.int .i64 y.fNext, .int .i64 y.fSeq, .slice P L.length C], .bool true]) (by simp [results, Try.results18, go_sem, d0, d1, d2]) rfl (⟨[.int .i64 y.fNext, .int .i64 y.fSeq, .slice P L.length C], _, by rw [HK.out], by rw [HV.out]; exact kVersion_make rd, fun b hb => by have := HF.out b hb; omega, ofOwn_nodup _, hbf⟩)
end Go.Proofs.Ytiliaijgkedhnaa
