/- EditBetween: spec.EditBetween, walked. -/
import Derived.Test.YtioelmhikablcaaEbC
namespace Go.Proofs.Ytioelmhikablcaa
open Go Go.RowKit Go.Sort
set_option linter.unusedVariables false
set_option linter.unusedSimpArgs false

set_option maxHeartbeats 4000000 in
set_option maxRecDepth 100000 in
theorem sEB_calls (x y : DVersion) (vx vy : Value) (w : World) (gx : kMeta.S w x.fMetas vx) (gy : kMeta.S w y.fMetas vy) (hx : x.fMetas.length ≤ 1048576) (hy : y.fMetas.length ≤ 1048576) :
    Calls Try.prog 55 #[.agg #[.int .i64 x.fNext, .int .i64 x.fSeq, vx], .agg #[.int .i64 y.fNext, .int .i64 y.fSeq, vy]] w
    fun e w' => ∃ cs F, e = .returned (.tuple #[.agg cs.toArray, .bool (ebOk x y)]) ∧ kEdit.M w' F (ebV x y) cs ∧ (∀ b ∈ F, w.heap.size ≤ b) ∧ F.Nodup ∧ Below w.heap.size w w' := by
  have SX := Lib.hid gx; have SY := Lib.hid gy
  obtain ⟨A, c, rfl, hc, hgx⟩ := gx
  have H := Lib.hid hgx; clear hgx
  obtain ⟨A2, c2, rfl, hc2, hgy⟩ := gy
  have H2 := Lib.hid hgy; clear hgy
  have bad : ebOk x y = false → ∀ (W : World), Below w.heap.size w W → ∃ cs F, Ending.returned (.tuple #[.agg #[.int .i64 0, .int .i64 0, .slice none 0 0, .slice none 0 0], .bool false]) = .returned (.tuple #[.agg cs.toArray, .bool (ebOk x y)]) ∧ kEdit.M W F (ebV x y) cs ∧ (∀ b ∈ F, w.heap.size ≤ b) ∧ F.Nodup ∧ Below w.heap.size w W := fun h W hb => by
    have hv : ebV x y = ⟨0, 0, [], []⟩ := by rw [ebV, if_neg (by rw [h]; decide)]
    rw [hv, h]
    exact ⟨_, _, rfl, kEdit_make (Rp.Row_nil _ _ _) (Rp.Row_nil _ _ _), by simp, by simp, hb⟩
  have BAD := Lib.hid bad; clear bad
  go_enter Try.func55, Try.ntmps55
  go_wp2_with fail
  (with_reducible refine (sGoodVersion_calls x _ _ (Rp.S_below SX.out ((((Below.refl w.heap.size w).alloc (Nat.le_refl _) _).alloc (by simp) _).alloc (by simp; omega) _)) (by omega)).mono ?_)
  rintro e w1 ⟨rfl, hb⟩
  have HB1 := Lib.hid (((((Below.refl w.heap.size w).alloc (Nat.le_refl _) _).alloc (by simp) _).alloc (by simp; omega) _).trans (hb.mono (by simp; omega)))
  have HX1 := Lib.hid (Box.below (Box.alloc (Box.alloc (Box.new (b := w.heap.size) (w := w) (cs := #[.int .i64 x.fNext, .int .i64 x.fSeq, .slice A x.fMetas.length c]) (T := 102) rfl))) hb)
  have HY1 := Lib.hid (Box.below (Box.alloc (Box.new (b := w.heap.size + 1) (cs := #[.int .i64 y.fNext, .int .i64 y.fSeq, .slice A2 y.fMetas.length c2]) (T := 102) (by simp))) hb)
  have H41 := Lib.hid (Box.below (Box.new (b := w.heap.size + 1 + 1) (cs := #[.int .i64 0, .int .i64 0, .slice none 0 0, .slice none 0 0]) (T := 92) (by simp)) hb)
  clear hb
  cases h1 : goodVer x
  · have z0 := H41.out.cell 0 (v := .int .i64 0) rfl; have z1 := H41.out.cell 1 (v := .int .i64 0) rfl; have z2 := H41.out.cell 2 (v := .slice none 0 0) rfl; have z3 := H41.out.cell 3 (v := .slice none 0 0) rfl
    have v0 := H41.out.fro 0; have v1 := H41.out.fro 1; have v2 := H41.out.fro 2; have v3 := H41.out.fro 3; have hl := H41.out.lt
    go_wp2
    have B4f := (((H41.out.set 0 (.int .i64 0)).set 1 (.int .i64 0)).set 2 (.slice none 0 0)).set 3 (.slice none 0 0)
    have hkf : KeptF [w.heap.size + 1 + 1] w1 ((((w1.setCell ⟨w.heap.size + 1 + 1, 0, none⟩ (.int .i64 0)).setCell ⟨w.heap.size + 1 + 1, 1, none⟩ (.int .i64 0)).setCell ⟨w.heap.size + 1 + 1, 2, none⟩ (.slice none 0 0)).setCell ⟨w.heap.size + 1 + 1, 3, none⟩ (.slice none 0 0)) := ((((KeptF.refl _ _).set (by simp) _).set (by simp) _).set (by simp) _).set (by simp) _
    have hbf := HB1.out.trans (hkf.toBelow HB1.out.size (fun b hb => by simp at hb; omega))
    have d0 := B4f.cell 0 (v := .int .i64 0) rfl; have d1 := B4f.cell 1 (v := .int .i64 0) rfl; have d2 := B4f.cell 2 (v := .slice none 0 0) rfl; have d3 := B4f.cell 3 (v := .slice none 0 0) rfl
    clear hkf B4f z0 z1 z2 z3 v0 v1 v2 v3 hl
    generalize ((((w1.setCell ⟨w.heap.size + 1 + 1, 0, none⟩ (.int .i64 0)).setCell ⟨w.heap.size + 1 + 1, 1, none⟩ (.int .i64 0)).setCell ⟨w.heap.size + 1 + 1, 2, none⟩ (.slice none 0 0)).setCell ⟨w.heap.size + 1 + 1, 3, none⟩ (.slice none 0 0)) = W4 at *
    exact bodyPost_ret (v := .tuple #[.agg #[.int .i64 0, .int .i64 0, .slice none 0 0, .slice none 0 0], .bool false]) (by simp [results, Try.results55, go_sem, d0, d1, d2, d3]) rfl (BAD.out (by simp [ebOk, h1]) _ hbf)
  · have y0 := HY1.out.cell 0 (v := .int .i64 y.fNext) rfl; have y1 := HY1.out.cell 1 (v := .int .i64 y.fSeq) rfl; have y2 := HY1.out.cell 2 (v := .slice A2 y.fMetas.length c2) rfl
    go_wp2_with fail
    (with_reducible refine (sGoodVersion_calls y _ _ (Rp.S_below SY.out HB1.out) (by omega)).mono ?_)
    rintro e w2 ⟨rfl, hb⟩
    have HB2 := Lib.hid (HB1.out.trans (hb.mono HB1.out.size))
    have HX2 := Lib.hid (Box.below HX1.out hb)
    have HY2 := Lib.hid (Box.below HY1.out hb)
    have H42 := Lib.hid (Box.below H41.out hb)
    clear hb HB1 HX1 HY1 H41 y0 y1 y2
    cases h2 : goodVer y
    · have z0 := H42.out.cell 0 (v := .int .i64 0) rfl; have z1 := H42.out.cell 1 (v := .int .i64 0) rfl; have z2 := H42.out.cell 2 (v := .slice none 0 0) rfl; have z3 := H42.out.cell 3 (v := .slice none 0 0) rfl
      have v0 := H42.out.fro 0; have v1 := H42.out.fro 1; have v2 := H42.out.fro 2; have v3 := H42.out.fro 3; have hl := H42.out.lt
      go_wp2
      have B4f := (((H42.out.set 0 (.int .i64 0)).set 1 (.int .i64 0)).set 2 (.slice none 0 0)).set 3 (.slice none 0 0)
      have hkf : KeptF [w.heap.size + 1 + 1] w2 ((((w2.setCell ⟨w.heap.size + 1 + 1, 0, none⟩ (.int .i64 0)).setCell ⟨w.heap.size + 1 + 1, 1, none⟩ (.int .i64 0)).setCell ⟨w.heap.size + 1 + 1, 2, none⟩ (.slice none 0 0)).setCell ⟨w.heap.size + 1 + 1, 3, none⟩ (.slice none 0 0)) := ((((KeptF.refl _ _).set (by simp) _).set (by simp) _).set (by simp) _).set (by simp) _
      have hbf := HB2.out.trans (hkf.toBelow HB2.out.size (fun b hb => by simp at hb; omega))
      have d0 := B4f.cell 0 (v := .int .i64 0) rfl; have d1 := B4f.cell 1 (v := .int .i64 0) rfl; have d2 := B4f.cell 2 (v := .slice none 0 0) rfl; have d3 := B4f.cell 3 (v := .slice none 0 0) rfl
      clear hkf B4f z0 z1 z2 z3 v0 v1 v2 v3 hl
      generalize ((((w2.setCell ⟨w.heap.size + 1 + 1, 0, none⟩ (.int .i64 0)).setCell ⟨w.heap.size + 1 + 1, 1, none⟩ (.int .i64 0)).setCell ⟨w.heap.size + 1 + 1, 2, none⟩ (.slice none 0 0)).setCell ⟨w.heap.size + 1 + 1, 3, none⟩ (.slice none 0 0)) = W4 at *
      exact bodyPost_ret (v := .tuple #[.agg #[.int .i64 0, .int .i64 0, .slice none 0 0, .slice none 0 0], .bool false]) (by simp [results, Try.results55, go_sem, d0, d1, d2, d3]) rfl (BAD.out (by simp [ebOk, h2]) _ hbf)
    · have x0 := HX2.out.cell 0 (v := .int .i64 x.fNext) rfl; have x1 := HX2.out.cell 1 (v := .int .i64 x.fSeq) rfl; have x2 := HX2.out.cell 2 (v := .slice A x.fMetas.length c) rfl; have y0 := HY2.out.cell 0 (v := .int .i64 y.fNext) rfl; have y1 := HY2.out.cell 1 (v := .int .i64 y.fSeq) rfl; have y2 := HY2.out.cell 2 (v := .slice A2 y.fMetas.length c2) rfl
      by_cases h3 : y.fNext < x.fNext
      · have z0 := H42.out.cell 0 (v := .int .i64 0) rfl; have z1 := H42.out.cell 1 (v := .int .i64 0) rfl; have z2 := H42.out.cell 2 (v := .slice none 0 0) rfl; have z3 := H42.out.cell 3 (v := .slice none 0 0) rfl
        have v0 := H42.out.fro 0; have v1 := H42.out.fro 1; have v2 := H42.out.fro 2; have v3 := H42.out.fro 3; have hl := H42.out.lt
        go_wp2
        have B4f := (((H42.out.set 0 (.int .i64 0)).set 1 (.int .i64 0)).set 2 (.slice none 0 0)).set 3 (.slice none 0 0)
        have hkf : KeptF [w.heap.size + 1 + 1] w2 ((((w2.setCell ⟨w.heap.size + 1 + 1, 0, none⟩ (.int .i64 0)).setCell ⟨w.heap.size + 1 + 1, 1, none⟩ (.int .i64 0)).setCell ⟨w.heap.size + 1 + 1, 2, none⟩ (.slice none 0 0)).setCell ⟨w.heap.size + 1 + 1, 3, none⟩ (.slice none 0 0)) := ((((KeptF.refl _ _).set (by simp) _).set (by simp) _).set (by simp) _).set (by simp) _
        have hbf := HB2.out.trans (hkf.toBelow HB2.out.size (fun b hb => by simp at hb; omega))
        have d0 := B4f.cell 0 (v := .int .i64 0) rfl; have d1 := B4f.cell 1 (v := .int .i64 0) rfl; have d2 := B4f.cell 2 (v := .slice none 0 0) rfl; have d3 := B4f.cell 3 (v := .slice none 0 0) rfl
        clear hkf B4f z0 z1 z2 z3 v0 v1 v2 v3 hl
        generalize ((((w2.setCell ⟨w.heap.size + 1 + 1, 0, none⟩ (.int .i64 0)).setCell ⟨w.heap.size + 1 + 1, 1, none⟩ (.int .i64 0)).setCell ⟨w.heap.size + 1 + 1, 2, none⟩ (.slice none 0 0)).setCell ⟨w.heap.size + 1 + 1, 3, none⟩ (.slice none 0 0)) = W4 at *
        exact bodyPost_ret (v := .tuple #[.agg #[.int .i64 0, .int .i64 0, .slice none 0 0, .slice none 0 0], .bool false]) (by simp [results, Try.results55, go_sem, d0, d1, d2, d3]) rfl (BAD.out (by simp [ebOk]; omega) _ hbf)
      · by_cases h4 : y.fSeq < x.fSeq
        · have z0 := H42.out.cell 0 (v := .int .i64 0) rfl; have z1 := H42.out.cell 1 (v := .int .i64 0) rfl; have z2 := H42.out.cell 2 (v := .slice none 0 0) rfl; have z3 := H42.out.cell 3 (v := .slice none 0 0) rfl
          have v0 := H42.out.fro 0; have v1 := H42.out.fro 1; have v2 := H42.out.fro 2; have v3 := H42.out.fro 3; have hl := H42.out.lt
          go_wp2
          have B4f := (((H42.out.set 0 (.int .i64 0)).set 1 (.int .i64 0)).set 2 (.slice none 0 0)).set 3 (.slice none 0 0)
          have hkf : KeptF [w.heap.size + 1 + 1] w2 ((((w2.setCell ⟨w.heap.size + 1 + 1, 0, none⟩ (.int .i64 0)).setCell ⟨w.heap.size + 1 + 1, 1, none⟩ (.int .i64 0)).setCell ⟨w.heap.size + 1 + 1, 2, none⟩ (.slice none 0 0)).setCell ⟨w.heap.size + 1 + 1, 3, none⟩ (.slice none 0 0)) := ((((KeptF.refl _ _).set (by simp) _).set (by simp) _).set (by simp) _).set (by simp) _
          have hbf := HB2.out.trans (hkf.toBelow HB2.out.size (fun b hb => by simp at hb; omega))
          have d0 := B4f.cell 0 (v := .int .i64 0) rfl; have d1 := B4f.cell 1 (v := .int .i64 0) rfl; have d2 := B4f.cell 2 (v := .slice none 0 0) rfl; have d3 := B4f.cell 3 (v := .slice none 0 0) rfl
          clear hkf B4f z0 z1 z2 z3 v0 v1 v2 v3 hl
          generalize ((((w2.setCell ⟨w.heap.size + 1 + 1, 0, none⟩ (.int .i64 0)).setCell ⟨w.heap.size + 1 + 1, 1, none⟩ (.int .i64 0)).setCell ⟨w.heap.size + 1 + 1, 2, none⟩ (.slice none 0 0)).setCell ⟨w.heap.size + 1 + 1, 3, none⟩ (.slice none 0 0)) = W4 at *
          exact bodyPost_ret (v := .tuple #[.agg #[.int .i64 0, .int .i64 0, .slice none 0 0, .slice none 0 0], .bool false]) (by simp [results, Try.results55, go_sem, d0, d1, d2, d3]) rfl (BAD.out (by simp [ebOk]; omega) _ hbf)
        · have hok : ebOk x y = true := by simp [ebOk, h1, h2]; omega
          have hv : ebV x y = ebE x y := by rw [ebV, if_pos hok]
          have HV := Lib.hid hv; have HOK := Lib.hid hok; clear hv hok
          have hz2 := H42.out.lt; have hzx := HX2.out.lt; have hzy := HY2.out.lt
          go_wp2
          go_loopw [42] (fun i wr => ∃ k : Nat, k ≤ x.fMetas.length ∧ i = .int .i64 k ∧ ∃ (L : List Int) (F : List Nat) (P : Option Addr) (n C : Nat), Hid (dropE (x.fMetas.take k) y.fMetas = L) ∧ Hid (n = L.length) ∧ Hid (kInt.Row 3 wr F L (.slice P n C)) ∧ Hid (∀ b ∈ F, w2.heap.size + 1 ≤ b) ∧ Hid F.Nodup ∧ Hid (Below w.heap.size w wr) ∧ Hid (Box wr w.heap.size #[.int .i64 x.fNext, .int .i64 x.fSeq, .slice A x.fMetas.length c] 102) ∧ Hid (Box wr (w.heap.size + 1) #[.int .i64 y.fNext, .int .i64 y.fSeq, .slice A2 y.fMetas.length c2] 102) ∧ Hid (Box wr (w.heap.size + 1 + 1) #[.int .i64 0, .int .i64 0, .slice none 0 0, .slice none 0 0] 92) ∧ Hid (Box wr w2.heap.size #[.int .i64 y.fNext, .int .i64 y.fSeq, .slice P n C, .slice none 0 0] 92) ∧ Hid (w2.heap.size + 1 ≤ wr.heap.size)) (fun i _ => x.fMetas.length - (intOf i).toNat)
          case atStart => exact ⟨0, Nat.zero_le _, rfl, [], [], none, 0, 0, rfl, rfl, Rp.Row_nil _ _ _, by simp [Hid], by simp [Hid], HB2.out.alloc HB2.out.size _, Box.alloc HX2.out, Box.alloc HY2.out, Box.alloc H42.out, Box.new rfl, by simp [Hid]⟩
          case round =>
            obtain ⟨k, hk, rfl, L, F, P, n, C, HL, Hn, HR, HF, HN, HB, HX, HY, H4, HE, HZ⟩ := hrel
            have hll : n ≤ k := by rw [Hn.out, ← HL.out]; have := dropE_len (x.fMetas.take k) y.fMetas; rw [List.length_take] at this; omega
            by_cases hlt : k < x.fMetas.length
            · obtain ⟨b, o, cs, rfl, k1, q1⟩ := Rp.C_get H.out k hlt
              obtain rfl := kMeta_K k1
              have hst := dropE_take (y := y.fMetas) hlt
              rw [HL.out] at hst
              generalize x.fMetas[k] = m at *
              have HST := Lib.hid hst; clear hst HL
              have a0 := (World.cell?_of_block (HB.out.block b (World.block_lt_of_cell? w _ (q1 0 _ rfl)))).trans (q1 0 _ rfl)
              have a1 := (World.cell?_of_block (HB.out.block b (World.block_lt_of_cell? w _ (q1 1 _ rfl)))).trans (q1 1 _ rfl)
              have a2 := (World.cell?_of_block (HB.out.block b (World.block_lt_of_cell? w _ (q1 2 _ rfl)))).trans (q1 2 _ rfl)
              have a3 := (World.cell?_of_block (HB.out.block b (World.block_lt_of_cell? w _ (q1 3 _ rfl)))).trans (q1 3 _ rfl)
              simp only [kMeta_sz, Nat.add_zero] at a0 a1 a2 a3
              clear q1 k1
              have i1 : (0 : Int) ≤ (k : Int) := by omega
              have i2 : (k : Int) < (x.fMetas.length : Int) := by omega
              have y2 := HY.out.cell 2 (v := .slice A2 y.fMetas.length c2) rfl
              have yl := HY.out.lt
              have HBm := Lib.hid (HB.out.alloc HB.out.size (.cells #[.int .i64 m.fNumber, .int .i64 m.fLevel, .string m.fLeast, .string m.fMost] 175))
              go_wp2_with fail
              (with_reducible refine (sHas_calls m y.fMetas _ _ (Rp.S_below SY.out HBm.out) (by omega)).mono ?_)
              rintro e w1 ⟨rfl, hb⟩
              have hz1 := hb.size
              have HB1 := Lib.hid (HBm.out.trans (hb.mono HBm.out.size))
              have HR1 := Lib.hid (Rp.Row_below (Rp.Row_below HR.out ((Below.refl _ _).alloc (Nat.le_refl _) (.cells #[.int .i64 m.fNumber, .int .i64 m.fLevel, .string m.fLeast, .string m.fMost] 175))) hb)
              have HX1 := Lib.hid (Box.below (Box.alloc HX.out) hb)
              have HY1 := Lib.hid (Box.below (Box.alloc HY.out) hb)
              have H41 := Lib.hid (Box.below (Box.alloc H4.out) hb)
              have HE1 := Lib.hid (Box.below (Box.alloc HE.out) hb)
              have BM : Box w1 wr.heap.size #[.int .i64 m.fNumber, .int .i64 m.fLevel, .string m.fLeast, .string m.fMost] 175 := Box.below (Box.new rfl) hb
              have HZ1 := Lib.hid (show w2.heap.size + 1 ≤ w1.heap.size by have := HZ.out; simp at hz1; omega)
              have m0 := BM.cell 0 (v := .int .i64 m.fNumber) rfl
              have e2 := HE1.out.cell 2 (v := .slice P n C) rfl
              have el := HE1.out.lt
              clear hb hz1 BM HR HX HY H4 HE HBm HB y2 yl
              cases hm : hasM y.fMetas m
              · have HS2 : Hid (dropE (x.fMetas.take (k + 1)) y.fMetas = L ++ [m.fNumber]) := by
                  have h := HST.out
                  rw [hm] at h
                  exact h
                clear HST
                go_wp2_with (at_builtin; refine wp_append (d := kInt) rfl _ _ 49 3 rfl Try.underlying49 infoInt rfl (by decide) rfl (by decide) kInt_flat (xs := L) (ys := [m.fNumber]) rfl rfl (Rp.Row_below HR1.out ((Below.refl _ _).alloc (Nat.le_refl _) _)) (Rp.S_one (Box.new (by simp)) rfl) (by have := Hn.out; simp; omega) ?_; intro v1 wa r1 r2 r3 _; obtain ⟨P1, C1, hv1, _⟩ := Rp.Row_K r1; rw [show (L ++ [m.fNumber]).length = n + 1 by rw [Hn.out]; simp] at hv1; subst hv1; have BE2 := Box.kept (Box.alloc HE1.out) r2 (fun h => by have := HF.out _ h; omega); have q2 := BE2.cell 2 (v := .slice P n C) rfl; have f2 := BE2.fro 2; have l2 := BE2.lt; have R1 := Lib.hid r1; have R2 := Lib.hid r2; have R3 := Lib.hid r3; have HE2 := Lib.hid BE2; clear r1 r2 r3 BE2)
                have hne0 : ∀ b : Nat, b < w2.heap.size + 1 → b ∉ F := fun b hb h => by have := HF.out _ h; omega
                have hF1 : ∀ b ∈ Rp.ofOwn (.slice P1 (n + 1) C1), w2.heap.size + 1 ≤ b := fun b hb => by
                  rcases R3.out b hb with h | h
                  · exact HF.out b h
                  · have := HZ1.out; simp at h; omega
                exact ⟨⟨k + 1, by omega, by go_num, L ++ [m.fNumber], _, P1, n + 1, C1, HS2.out, by rw [Hid, Hn.out]; simp, Rp.Row_kept R1.out ((KeptF.refl [w2.heap.size] _).set (by simp) _) (fun b hb h => by have := hF1 b hb; simp at h; omega), hF1, ofOwn_nodup _,
                  (HB1.out.trans ((Below.alloc (Below.refl _ _) HB1.out.size _).trans (R2.out.toBelow (by have := HB1.out.size; simp; omega) (fun b hb => by have := HF.out b hb; omega)))).setCell (by show w.heap.size ≤ w2.heap.size; omega) _,
                  ((Box.alloc HX1.out).kept R2.out (hne0 _ (by omega))).set_other _ (by first | omega | (simp; done) | (simp; omega)), ((Box.alloc HY1.out).kept R2.out (hne0 _ (by omega))).set_other _ (by first | omega | (simp; done) | (simp; omega)), ((Box.alloc H41.out).kept R2.out (hne0 _ (by omega))).set_other _ (by first | omega | (simp; done) | (simp; omega)), HE2.out.set 2 _, by rw [Hid]; have h1 := HZ1.out; have h2 := R2.out.size; simp at h2 ⊢; omega⟩, by simp [intOf]; omega⟩
              · have HS2 : Hid (dropE (x.fMetas.take (k + 1)) y.fMetas = L) := by
                  have h := HST.out
                  rw [hm] at h
                  exact h.trans (List.append_nil L)
                clear HST
                go_wp2
                exact ⟨⟨k + 1, by omega, by go_num, L, F, P, n, C, HS2.out, Hn.out, HR1.out, HF.out, HN.out, HB1.out, HX1.out, HY1.out, H41.out, HE1.out, HZ1.out⟩, by simp [intOf]; omega⟩
            · obtain rfl : k = x.fMetas.length := by omega
              have hLe := HL.out
              rw [List.take_length] at hLe
              have HLe := Lib.hid hLe; clear hLe HL
              have y2 := HY.out.cell 2 (v := .slice A2 y.fMetas.length c2) rfl
              have HB0 := Lib.hid HB.out; have HZ0 := Lib.hid HZ.out
              go_wp2
              clear y2
              go_loopw [62] (fun i wq => ∃ k : Nat, k ≤ y.fMetas.length ∧ i = .int .i64 k ∧ ∃ (M : List DMeta) (G : List Nat) (P' : Option Addr) (n' C' : Nat), Hid (addE x.fMetas (y.fMetas.take k) = M) ∧ Hid (n' = M.length) ∧ Hid (kMeta.Row 175 wq G M (.slice P' n' C')) ∧ Hid (kInt.Row 3 wq F L (.slice P n C)) ∧ Hid (∀ b ∈ G, w2.heap.size + 1 ≤ b ∧ b ∉ F) ∧ Hid G.Nodup ∧ Hid (Below w.heap.size w wq) ∧ Hid (Box wq w.heap.size #[.int .i64 x.fNext, .int .i64 x.fSeq, .slice A x.fMetas.length c] 102) ∧ Hid (Box wq (w.heap.size + 1) #[.int .i64 y.fNext, .int .i64 y.fSeq, .slice A2 y.fMetas.length c2] 102) ∧ Hid (Box wq (w.heap.size + 1 + 1) #[.int .i64 0, .int .i64 0, .slice none 0 0, .slice none 0 0] 92) ∧ Hid (Box wq w2.heap.size #[.int .i64 y.fNext, .int .i64 y.fSeq, .slice P n C, .slice P' n' C'] 92) ∧ Hid (w2.heap.size + 1 ≤ wq.heap.size)) (fun i _ => y.fMetas.length - (intOf i).toNat)
              case atStart => exact ⟨0, Nat.zero_le _, rfl, [], [], none, 0, 0, rfl, rfl, Rp.Row_nil _ _ _, HR.out, by simp [Hid], by simp [Hid], HB.out, HX.out, HY.out, H4.out, HE.out, HZ.out⟩
              case round =>
                clear HR HX HY H4 HE HB HZ
                obtain ⟨k, hk, rfl, M, G, P', n', C', HL, Hn', HR, HD, HG, HGN, HB, HX, HY, H4, HE, HZ⟩ := hrel
                have hll2 : n' ≤ k := by rw [Hn'.out, ← HL.out]; have := addE_len x.fMetas (y.fMetas.take k); rw [List.length_take] at this; omega
                by_cases hlt2 : k < y.fMetas.length
                · obtain ⟨b, o, cs, rfl, k1, q1⟩ := Rp.C_get H2.out k hlt2
                  obtain rfl := kMeta_K k1
                  have hst := addE_take (x := x.fMetas) hlt2
                  rw [HL.out] at hst
                  generalize y.fMetas[k] = m at *
                  have HST := Lib.hid hst; clear hst HL
                  have a0 := (World.cell?_of_block (HB.out.block b (World.block_lt_of_cell? w _ (q1 0 _ rfl)))).trans (q1 0 _ rfl)
                  have a1 := (World.cell?_of_block (HB.out.block b (World.block_lt_of_cell? w _ (q1 1 _ rfl)))).trans (q1 1 _ rfl)
                  have a2 := (World.cell?_of_block (HB.out.block b (World.block_lt_of_cell? w _ (q1 2 _ rfl)))).trans (q1 2 _ rfl)
                  have a3 := (World.cell?_of_block (HB.out.block b (World.block_lt_of_cell? w _ (q1 3 _ rfl)))).trans (q1 3 _ rfl)
                  simp only [kMeta_sz, Nat.add_zero] at a0 a1 a2 a3
                  clear q1 k1
                  have i1 : (0 : Int) ≤ (k : Int) := by omega
                  have i2 : (k : Int) < (y.fMetas.length : Int) := by omega
                  have x2 := HX.out.cell 2 (v := .slice A x.fMetas.length c) rfl
                  have xl := HX.out.lt
                  have HBm := Lib.hid (HB.out.alloc HB.out.size (.cells #[.int .i64 m.fNumber, .int .i64 m.fLevel, .string m.fLeast, .string m.fMost] 175))
                  go_wp2_with fail
                  (with_reducible refine (sHas_calls m x.fMetas _ _ (Rp.S_below SX.out HBm.out) (by omega)).mono ?_)
                  rintro e w1 ⟨rfl, hb⟩
                  have hz1 := hb.size
                  have HB1 := Lib.hid (HBm.out.trans (hb.mono HBm.out.size))
                  have HR1 := Lib.hid (Rp.Row_below (Rp.Row_below HR.out ((Below.refl _ _).alloc (Nat.le_refl _) (.cells #[.int .i64 m.fNumber, .int .i64 m.fLevel, .string m.fLeast, .string m.fMost] 175))) hb)
                  have HD1 := Lib.hid (Rp.Row_below (Rp.Row_below HD.out ((Below.refl _ _).alloc (Nat.le_refl _) (.cells #[.int .i64 m.fNumber, .int .i64 m.fLevel, .string m.fLeast, .string m.fMost] 175))) hb)
                  have HX1 := Lib.hid (Box.below (Box.alloc HX.out) hb)
                  have HY1 := Lib.hid (Box.below (Box.alloc HY.out) hb)
                  have H41 := Lib.hid (Box.below (Box.alloc H4.out) hb)
                  have HE1 := Lib.hid (Box.below (Box.alloc HE.out) hb)
                  have BM : Box w1 _ #[.int .i64 m.fNumber, .int .i64 m.fLevel, .string m.fLeast, .string m.fMost] 175 := Box.below (Box.new rfl) hb
                  have HZ1 := Lib.hid (show w2.heap.size + 1 ≤ w1.heap.size by have := HZ.out; simp at hz1; omega)
                  have m0 := BM.cell 0 (v := .int .i64 m.fNumber) rfl
                  have m1 := BM.cell 1 (v := .int .i64 m.fLevel) rfl
                  have m2 := BM.cell 2 (v := .string m.fLeast) rfl
                  have m3 := BM.cell 3 (v := .string m.fMost) rfl
                  have e2 := HE1.out.cell 3 (v := .slice P' n' C') rfl
                  have el := HE1.out.lt
                  clear hb hz1 BM HR HD HX HY H4 HE HBm HB x2 xl
                  cases hm : hasM x.fMetas m
                  · have HS2 : Hid (addE x.fMetas (y.fMetas.take (k + 1)) = M ++ [m]) := by
                      have h := HST.out
                      rw [hm] at h
                      exact h
                    clear HST
                    go_wp2_with (at_builtin; refine wp_append (d := kMeta) rfl _ _ 90 175 rfl Try.underlying90 infoMeta rfl (by decide) rfl (by decide) kMeta_flat (xs := M) (ys := [m]) rfl rfl (Rp.Row_below HR1.out ((Below.refl _ _).alloc (Nat.le_refl _) _)) (Rp.S_one (Box.new (by simp)) (kMeta_mkK _ m)) (by have := Hn'.out; simp; omega) ?_; intro v1 wa r1 r2 r3 _; obtain ⟨P1, C1, hv1, _⟩ := Rp.Row_K r1; rw [show (M ++ [m]).length = n' + 1 by rw [Hn'.out]; simp] at hv1; subst hv1; have BE2 := Box.kept (Box.alloc HE1.out) r2 (fun h => by have := (HG.out _ h).1; omega); have q2 := BE2.cell 3 (v := .slice P' n' C') rfl; have f2 := BE2.fro 3; have l2 := BE2.lt; have R1 := Lib.hid r1; have R2 := Lib.hid r2; have R3 := Lib.hid r3; have HE2 := Lib.hid BE2; clear r1 r2 r3 BE2)
                    have hne0 : ∀ b : Nat, b < w2.heap.size + 1 → b ∉ G := fun b hb h => by have := (HG.out _ h).1; omega
                    have hDlt := Rp.Row_lt HD1.out
                    have hG1 : ∀ b ∈ Rp.ofOwn (.slice P1 (n' + 1) C1), w2.heap.size + 1 ≤ b ∧ b ∉ F := fun b hb => by
                      rcases R3.out b hb with h | h
                      · exact HG.out b h
                      · have := HZ1.out
                        simp at h
                        exact ⟨by omega, fun hf => by have := hDlt b hf; omega⟩
                    exact ⟨⟨k + 1, by omega, by go_num, M ++ [m], _, P1, n' + 1, C1, HS2.out, by rw [Hid, Hn'.out]; simp, Rp.Row_kept R1.out ((KeptF.refl [w2.heap.size] _).set (by simp) _) (fun b hb h => by have := (hG1 b hb).1; simp at h; omega),
                      Rp.Row_kept (Rp.Row_kept (Rp.Row_below HD1.out ((Below.refl _ _).alloc (Nat.le_refl _) _)) R2.out (fun b hb h => (HG.out b h).2 hb)) ((KeptF.refl [w2.heap.size] _).set (by simp) _) (fun b hb h => by have := HF.out b hb; simp at h; omega), hG1, ofOwn_nodup _,
                      (HB1.out.trans ((Below.alloc (Below.refl _ _) HB1.out.size _).trans (R2.out.toBelow (by have := HB1.out.size; simp; omega) (fun b hb => by have := (HG.out b hb).1; omega)))).setCell (by show w.heap.size ≤ w2.heap.size; omega) _,
                      ((Box.alloc HX1.out).kept R2.out (hne0 _ (by omega))).set_other _ (by first | omega | (simp; done) | (simp; omega)), ((Box.alloc HY1.out).kept R2.out (hne0 _ (by omega))).set_other _ (by first | omega | (simp; done) | (simp; omega)), ((Box.alloc H41.out).kept R2.out (hne0 _ (by omega))).set_other _ (by first | omega | (simp; done) | (simp; omega)), HE2.out.set 3 _, by rw [Hid]; have h1 := HZ1.out; have h2 := R2.out.size; simp at h2 ⊢; omega⟩, by simp [intOf]; omega⟩
                  · have HS2 : Hid (addE x.fMetas (y.fMetas.take (k + 1)) = M) := by
                      have h := HST.out
                      rw [hm] at h
                      exact h.trans (List.append_nil M)
                    clear HST
                    go_wp2
                    exact ⟨⟨k + 1, by omega, by go_num, M, G, P', n', C', HS2.out, Hn'.out, HR1.out, HD1.out, HG.out, HGN.out, HB1.out, HX1.out, HY1.out, H41.out, HE1.out, HZ1.out⟩, by simp [intOf]; omega⟩
                · obtain rfl : k = y.fMetas.length := by omega
                  have hMe := HL.out
                  rw [List.take_length] at hMe
                  have HMe := Lib.hid hMe; clear hMe HL
                  have z0 := HE.out.cell 0 (v := .int .i64 y.fNext) rfl
                  have z1 := HE.out.cell 1 (v := .int .i64 y.fSeq) rfl
                  have z2 := HE.out.cell 2 (v := .slice P n C) rfl
                  have z3 := HE.out.cell 3 (v := .slice P' n' C') rfl
                  have u0 := H4.out.cell 0 (v := .int .i64 0) rfl
                  have u1 := H4.out.cell 1 (v := .int .i64 0) rfl
                  have u2 := H4.out.cell 2 (v := .slice none 0 0) rfl
                  have u3 := H4.out.cell 3 (v := .slice none 0 0) rfl
                  have v0 := H4.out.fro 0; have v1 := H4.out.fro 1; have v2 := H4.out.fro 2; have v3 := H4.out.fro 3
                  have hl1 := HE.out.lt; have hl2 := H4.out.lt
                  go_wp2
                  have B4f := (((H4.out.set 0 (.int .i64 y.fNext)).set 1 (.int .i64 y.fSeq)).set 2 (.slice P n C)).set 3 (.slice P' n' C')
                  have hkf : KeptF [w.heap.size + 1 + 1] wr ((((wr.setCell ⟨w.heap.size + 1 + 1, 0, none⟩ (.int .i64 y.fNext)).setCell ⟨w.heap.size + 1 + 1, 1, none⟩ (.int .i64 y.fSeq)).setCell ⟨w.heap.size + 1 + 1, 2, none⟩ (.slice P n C)).setCell ⟨w.heap.size + 1 + 1, 3, none⟩ (.slice P' n' C')) := ((((KeptF.refl _ _).set (by simp) _).set (by simp) _).set (by simp) _).set (by simp) _
                  have hE : ebE x y = ⟨y.fNext, y.fSeq, L, M⟩ := by rw [ebE, HLe.out, HMe.out]
                  have rd := Rp.Row_kept HD.out hkf (fun b hb h => by have := HF.out b hb; simp at h; omega)
                  have ra := Rp.Row_kept HR.out hkf (fun b hb h => by have := (HG.out b hb).1; simp at h; omega)
                  have hbf := HB.out.trans (hkf.toBelow HB.out.size (fun b hb => by simp at hb; omega))
                  have d0 := B4f.cell 0 (v := .int .i64 y.fNext) rfl
                  have d1 := B4f.cell 1 (v := .int .i64 y.fSeq) rfl
                  have d2 := B4f.cell 2 (v := .slice P n C) rfl
                  have d3 := B4f.cell 3 (v := .slice P' n' C') rfl
                  clear hkf B4f
                  generalize ((((wr.setCell ⟨w.heap.size + 1 + 1, 0, none⟩ (.int .i64 y.fNext)).setCell ⟨w.heap.size + 1 + 1, 1, none⟩ (.int .i64 y.fSeq)).setCell ⟨w.heap.size + 1 + 1, 2, none⟩ (.slice P n C)).setCell ⟨w.heap.size + 1 + 1, 3, none⟩ (.slice P' n' C')) = W4 at *
                  exact bodyPost_ret (v := .tuple #[.agg #[.int .i64 y.fNext, .int .i64 y.fSeq, .slice P n C, .slice P' n' C'], .bool true]) (by simp [results, Try.results55, go_sem, d0, d1, d2, d3]) rfl ⟨[.int .i64 y.fNext, .int .i64 y.fSeq, .slice P n C, .slice P' n' C'], F ++ G, by rw [HOK.out], by rw [HV.out, hE]; exact kEdit_make rd ra, (fun b hb => by
                    rcases List.mem_append.1 hb with h | h
                    · have := HF.out b h; omega
                    · have := (HG.out b h).1; omega), List.nodup_append.2 ⟨HN.out, HGN.out, fun p hp q hq he => (HG.out q hq).2 (he ▸ hp)⟩, hbf⟩
end Go.Proofs.Ytioelmhikablcaa
