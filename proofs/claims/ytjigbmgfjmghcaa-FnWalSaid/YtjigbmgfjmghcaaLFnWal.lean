/- Law FnWal: at every input it returns true. -/
import Derived.Test.YtjigbmgfjmghcaaLwP
namespace Go.Proofs.Ytjigbmgfjmghcaa
open Go Go.RowKit Go.Sort
set_option linter.unusedVariables false
set_option linter.unusedSimpArgs false

set_option maxHeartbeats 8000000 in
set_option maxRecDepth 100000 in
theorem law_FnWal (bs ms : List Int) (A0 B0 : Option Addr) (c0 d0 : Nat) (w : World) (hc : kByte.S w bs (.slice A0 bs.length c0)) (hm : kByte.S w ms (.slice B0 ms.length d0)) (hby : ∀ x ∈ bs, 0 ≤ x ∧ x ≤ 255) (hmy : ∀ x ∈ ms, 0 ≤ x ∧ x ≤ 255) (hcl : bs.length ≤ 140737488355328) (hml : ms.length ≤ 140737488355328) : Calls Try.prog 3 #[.slice A0 bs.length c0, .slice B0 ms.length d0] w
    fun e w' => e = .returned (.bool true) ∧ Below w.heap.size w w' := by
  by_cases hsum : bs.length + ms.length ≤ 1048576
  case neg =>
    have i1 : (1048576 : Int) < (bs.length : Int) + (ms.length : Int) := by omega
    go_enter Try.func3, Try.ntmps3
    go_wp2
    go_ret
    exact ⟨rfl, Below.refl _ _⟩
  have i1 : ¬ (1048576 : Int) < (bs.length : Int) + (ms.length : Int) := by omega
  have HM := Lib.hid hm
  go_enter Try.func3, Try.ntmps3
  go_wp2_with fail
  (with_reducible refine (DrawAppendWal_calls hc hby (by omega)).mono ?_)
  rintro e w1 ⟨x, A1, c1, t, s, rfl, hS, hx, hb⟩
  have Sx := Lib.hid hS; have HWx := Lib.hid hx; have HB := Lib.hid hb
  clear hS hx hb i1 hc
  go_wp2_with fail
  have HA := Lib.hid (show Below w1.heap.size w1 ((w1.alloc (.cells #[.int .i64 x.fFirst, .int .i64 x.fBefore, .slice A1 x.fEntries.length c1] 25)).alloc (.cells #[.int .i64 t, .string s] 27)) from Below.alloc (Below.alloc (Below.refl w1.heap.size w1) (by first | exact Nat.le_refl _ | (simp; done) | (simp; omega)) (.cells #[.int .i64 x.fFirst, .int .i64 x.fBefore, .slice A1 x.fEntries.length c1] 25)) (by first | exact Nat.le_refl _ | (simp; done) | (simp; omega)) (.cells #[.int .i64 t, .string s] 27))
  (with_reducible refine (iAppendWal_calls x ⟨t, s⟩ _ _ (Rp.S_below Sx.out HA.out) (by have h := HWx.out; unfold WalB at h; omega)).mono ?_)
  rintro e w2 ⟨v, rfl, v2, F, rfl, hr, hf, hn, hb⟩
  obtain ⟨X, hX⟩ : ∃ X, X = appendW x ⟨t, s⟩ := ⟨_, rfl⟩
  rw [← hX] at hr ⊢
  have HX := Lib.hid hX; clear hX
  obtain ⟨A2, c2, e2, _, _⟩ := Rp.Row_K hr
  subst e2
  have SX := Lib.hid (Rp.Row_S hr)
  clear hr hf hn
  have SX_ := SX; clear SX
  have hb' := HA.out.trans (hb.mono HA.out.size)
  have Sx := Lib.hid (Rp.S_below Sx.out hb')
  have HB := Lib.hid (HB.out.trans (hb'.mono HB.out.size))
  have Bv5 := Lib.hid (show Box w2 (w1.heap.size) #[.int .i64 x.fFirst, .int .i64 x.fBefore, .slice A1 x.fEntries.length c1] 25 from Box.below (Box.alloc (Box.new rfl)) hb)
  have Bv6 := Lib.hid (show Box w2 (w1.heap.size + 1) #[.int .i64 t, .string s] 27 from Box.below (Box.new (by simp)) hb)
  clear hb hb' HA
  have SX := SX_; clear SX_
  have v5_0 := Bv5.out.cell 0 (v := .int .i64 x.fFirst) rfl
  have v5_1 := Bv5.out.cell 1 (v := .int .i64 x.fBefore) rfl
  have v5_2 := Bv5.out.cell 2 (v := .slice A1 x.fEntries.length c1) rfl
  have u_v5 := Bv5.out.lt
  have v6_0 := Bv6.out.cell 0 (v := .int .i64 t) rfl
  have v6_1 := Bv6.out.cell 1 (v := .string s) rfl
  have u_v6 := Bv6.out.lt
  go_wp2_with fail
  have HA := Lib.hid (show Below w2.heap.size w2 (w2.alloc (.cells #[.int .i64 X.fFirst, .int .i64 X.fBefore, .slice A2 X.fEntries.length c2] 25)) from Below.alloc (Below.refl w2.heap.size w2) (by first | exact Nat.le_refl _ | (simp; done) | (simp; omega)) (.cells #[.int .i64 X.fFirst, .int .i64 X.fBefore, .slice A2 X.fEntries.length c2] 25))
  (with_reducible refine (sAppendWal_calls x ⟨t, s⟩ _ _ (Rp.S_below Sx.out HA.out) (by have h := HWx.out; unfold WalB at h; omega)).mono ?_)
  rintro e w3 ⟨v, rfl, v2, F, rfl, hr, hf, hn, hb⟩
  rw [← HX.out] at hr ⊢
  obtain ⟨A3, c3, e2, _, _⟩ := Rp.Row_K hr
  subst e2
  have SY := Lib.hid (Rp.Row_S hr)
  clear hr hf hn
  clear v5_0 v5_1 v5_2 u_v5 v6_0 v6_1 u_v6
  have SY_ := SY; clear SY
  have hb' := HA.out.trans (hb.mono HA.out.size)
  have Bv5 := Lib.hid (Bv5.out.below hb')
  have Bv6 := Lib.hid (Bv6.out.below hb')
  have Sx := Lib.hid (Rp.S_below Sx.out hb')
  have SX := Lib.hid (Rp.S_below SX.out hb')
  have HB := Lib.hid (HB.out.trans (hb'.mono HB.out.size))
  have Bv7 := Lib.hid (show Box w3 (w2.heap.size) #[.int .i64 X.fFirst, .int .i64 X.fBefore, .slice A2 X.fEntries.length c2] 25 from Box.below (Box.new rfl) hb)
  clear hb hb' HA
  have SY := SY_; clear SY_
  have v7_0 := Bv7.out.cell 0 (v := .int .i64 X.fFirst) rfl
  have v7_1 := Bv7.out.cell 1 (v := .int .i64 X.fBefore) rfl
  have v7_2 := Bv7.out.cell 2 (v := .slice A2 X.fEntries.length c2) rfl
  have u_v7 := Bv7.out.lt
  go_wp2_with fail
  have hXL : X.fEntries.length ≤ 61 := by have h1 := appendW_len x ⟨t, s⟩; rw [← HX.out] at h1; have h := HWx.out; unfold WalB at h; omega
  have HA := Lib.hid (show Below w3.heap.size w3 (w3.alloc (.cells #[.int .i64 X.fFirst, .int .i64 X.fBefore, .slice A3 X.fEntries.length c3] 25)) from Below.alloc (Below.refl w3.heap.size w3) (by first | exact Nat.le_refl _ | (simp; done) | (simp; omega)) (.cells #[.int .i64 X.fFirst, .int .i64 X.fBefore, .slice A3 X.fEntries.length c3] 25))
  (with_reducible refine (same_calls X _ _ _ (Rp.S_below SX.out HA.out) (Rp.S_below SY.out HA.out) (by omega)).mono ?_)
  rintro e w4 ⟨rfl, hb⟩
  clear v7_0 v7_1 v7_2 u_v7
  have hb' := HA.out.trans (hb.mono HA.out.size)
  have Bv5 := Lib.hid (Bv5.out.below hb')
  have Bv6 := Lib.hid (Bv6.out.below hb')
  have Bv7 := Lib.hid (Bv7.out.below hb')
  have Sx := Lib.hid (Rp.S_below Sx.out hb')
  have SX := Lib.hid (Rp.S_below SX.out hb')
  have SY := Lib.hid (Rp.S_below SY.out hb')
  have HB := Lib.hid (HB.out.trans (hb'.mono HB.out.size))
  have Bv9 := Lib.hid (show Box w4 (w3.heap.size) #[.int .i64 X.fFirst, .int .i64 X.fBefore, .slice A3 X.fEntries.length c3] 25 from Box.below (Box.new rfl) hb)
  clear hb hb' HA
  go_upto_if 67 with fail
  obtain ⟨r, hr⟩ : ∃ r, r = appendB x ⟨t, s⟩ := ⟨_, rfl⟩
  rw [← hr]
  have HR := Lib.hid hr; clear hr
  go_cut [] from 68 to 112 (fun wx => Hid (Below w.heap.size w wx))
  case first =>
    cases r
    case false =>
      go_wp2_with fail
      go_meet
      exact HB.out
    case true =>
      obtain ⟨-, eX, gX, tX, cB, cX⟩ := app_facts HX.out HR.out.symm
      have EX := Lib.hid eX; have GX := Lib.hid gX; have CB := Lib.hid cB; have CX := Lib.hid cX; have TX := Lib.hid tX; clear eX gX cB cX tX
      have v7_0 := Bv7.out.cell 0 (v := .int .i64 X.fFirst) rfl
      have v7_1 := Bv7.out.cell 1 (v := .int .i64 X.fBefore) rfl
      have v7_2 := Bv7.out.cell 2 (v := .slice A2 X.fEntries.length c2) rfl
      have u_v7 := Bv7.out.lt
      go_wp2_with fail
      have hl_ := last_calls X _ _ GX.out SX.out
      rw [TX.out] at hl_
      (with_reducible refine hl_.mono ?_)
      rintro e w5 ⟨rfl, hb⟩
      clear hl_
      clear v7_0 v7_1 v7_2 u_v7
      have hb' := hb
      have Bv5 := Lib.hid (Bv5.out.below hb')
      have Bv6 := Lib.hid (Bv6.out.below hb')
      have Bv7 := Lib.hid (Bv7.out.below hb')
      have Bv9 := Lib.hid (Bv9.out.below hb')
      have Sx := Lib.hid (Rp.S_below Sx.out hb')
      have SX := Lib.hid (Rp.S_below SX.out hb')
      have SY := Lib.hid (Rp.S_below SY.out hb')
      have HB := Lib.hid (HB.out.trans (hb'.mono HB.out.size))
      clear hb hb'
      have v7_0 := Bv7.out.cell 0 (v := .int .i64 X.fFirst) rfl
      have v7_1 := Bv7.out.cell 1 (v := .int .i64 X.fBefore) rfl
      have v7_2 := Bv7.out.cell 2 (v := .slice A2 X.fEntries.length c2) rfl
      have u_v7 := Bv7.out.lt
      go_wp2_with fail
      (with_reducible refine (entL_calls X ⟨t, s⟩ _ _ GX.out _ EX.out SX.out).mono ?_)
      rintro e w6 ⟨rfl, hb⟩
      clear v7_0 v7_1 v7_2 u_v7
      have hb' := hb
      have Bv5 := Lib.hid (Bv5.out.below hb')
      have Bv6 := Lib.hid (Bv6.out.below hb')
      have Bv7 := Lib.hid (Bv7.out.below hb')
      have Bv9 := Lib.hid (Bv9.out.below hb')
      have Sx := Lib.hid (Rp.S_below Sx.out hb')
      have SX := Lib.hid (Rp.S_below SX.out hb')
      have SY := Lib.hid (Rp.S_below SY.out hb')
      have HB := Lib.hid (HB.out.trans (hb'.mono HB.out.size))
      clear hb hb'
      have v7_0 := Bv7.out.cell 0 (v := .int .i64 X.fFirst) rfl
      have v7_1 := Bv7.out.cell 1 (v := .int .i64 X.fBefore) rfl
      have v7_2 := Bv7.out.cell 2 (v := .slice A2 X.fEntries.length c2) rfl
      have u_v7 := Bv7.out.lt
      go_wp2_with fail
      have HA := Lib.hid (show Below w6.heap.size w6 (w6.alloc (.cells #[.int .i64 t, .string s] 27)) from Below.alloc (Below.refl w6.heap.size w6) (by first | exact Nat.le_refl _ | (simp; done) | (simp; omega)) (.cells #[.int .i64 t, .string s] 27))
      (with_reducible refine (iCutWal_calls X (X.fFirst + X.fEntries.length - 1) _ _ (Rp.S_below SX.out HA.out) (by omega)).mono ?_)
      rintro e w7 ⟨v, rfl, v2, F, rfl, hr, hf, hn, hb⟩
      rw [CX.out] at hr ⊢
      rw [CB.out]
      obtain ⟨A5, c5, e2, _, _⟩ := Rp.Row_K hr
      subst e2
      have SZ := Lib.hid (Rp.Row_S hr)
      clear hr hf hn
      clear v7_0 v7_1 v7_2 u_v7
      have SZ_ := SZ; clear SZ
      have hb' := HA.out.trans (hb.mono HA.out.size)
      have Bv5 := Lib.hid (Bv5.out.below hb')
      have Bv6 := Lib.hid (Bv6.out.below hb')
      have Bv7 := Lib.hid (Bv7.out.below hb')
      have Bv9 := Lib.hid (Bv9.out.below hb')
      have Sx := Lib.hid (Rp.S_below Sx.out hb')
      have SX := Lib.hid (Rp.S_below SX.out hb')
      have SY := Lib.hid (Rp.S_below SY.out hb')
      have HB := Lib.hid (HB.out.trans (hb'.mono HB.out.size))
      have Bv14 := Lib.hid (show Box w7 (w6.heap.size) #[.int .i64 t, .string s] 27 from Box.below (Box.new rfl) hb)
      clear hb hb' HA
      have SZ := SZ_; clear SZ_
      have v14_0 := Bv14.out.cell 0 (v := .int .i64 t) rfl
      have v14_1 := Bv14.out.cell 1 (v := .string s) rfl
      have u_v14 := Bv14.out.lt
      have v6_0 := Bv6.out.cell 0 (v := .int .i64 t) rfl
      have v6_1 := Bv6.out.cell 1 (v := .string s) rfl
      have u_v6 := Bv6.out.lt
      have v5_0 := Bv5.out.cell 0 (v := .int .i64 x.fFirst) rfl
      have v5_1 := Bv5.out.cell 1 (v := .int .i64 x.fBefore) rfl
      have v5_2 := Bv5.out.cell 2 (v := .slice A1 x.fEntries.length c1) rfl
      have u_v5 := Bv5.out.lt
      go_wp2_with fail
      have HA := Lib.hid (show Below w7.heap.size w7 (w7.alloc (.cells #[.int .i64 x.fFirst, .int .i64 x.fBefore, .slice A5 x.fEntries.length c5] 25)) from Below.alloc (Below.refl w7.heap.size w7) (by first | exact Nat.le_refl _ | (simp; done) | (simp; omega)) (.cells #[.int .i64 x.fFirst, .int .i64 x.fBefore, .slice A5 x.fEntries.length c5] 25))
      (with_reducible refine (same_calls x _ _ _ (Rp.S_below SZ.out HA.out) (Rp.S_below Sx.out HA.out) (by have h := HWx.out; unfold WalB at h; omega)).mono ?_)
      rintro e w8 ⟨rfl, hb⟩
      clear v14_0 v14_1 u_v14 v6_0 v6_1 u_v6 v5_0 v5_1 v5_2 u_v5
      have hb' := HA.out.trans (hb.mono HA.out.size)
      have Bv5 := Lib.hid (Bv5.out.below hb')
      have Bv6 := Lib.hid (Bv6.out.below hb')
      have Bv7 := Lib.hid (Bv7.out.below hb')
      have Bv9 := Lib.hid (Bv9.out.below hb')
      have Bv14 := Lib.hid (Bv14.out.below hb')
      have Sx := Lib.hid (Rp.S_below Sx.out hb')
      have SX := Lib.hid (Rp.S_below SX.out hb')
      have SY := Lib.hid (Rp.S_below SY.out hb')
      have SZ := Lib.hid (Rp.S_below SZ.out hb')
      have HB := Lib.hid (HB.out.trans (hb'.mono HB.out.size))
      have Bv16 := Lib.hid (show Box w8 (w7.heap.size) #[.int .i64 x.fFirst, .int .i64 x.fBefore, .slice A5 x.fEntries.length c5] 25 from Box.below (Box.new rfl) hb)
      clear hb hb' HA
      go_wp2_with fail
      go_meet
      exact HB.out
  case rest =>
    clear HB Sx SX SY Bv5 Bv6 Bv7 Bv9 HX HWx hXL HR
    have HB := hcut; clear hcut
    go_wp2_with fail
    (with_reducible refine (DrawDropWal_calls (Rp.S_below HM.out HB.out) hmy (by omega)).mono ?_)
    rintro e w9 ⟨u, A4, c4, n, rfl, hS, hu, hn, _, hb⟩
    have Su := Lib.hid hS; have HWu := Lib.hid hu; have HB := Lib.hid (HB.out.trans (hb.mono HB.out.size)); have HN := Lib.hid hn
    clear hS hu hb hn
    go_wp2_with fail
    have HA := Lib.hid (show Below w9.heap.size w9 (w9.alloc (.cells #[.int .i64 u.fFirst, .int .i64 u.fBefore, .slice A4 u.fEntries.length c4] 25)) from Below.alloc (Below.refl w9.heap.size w9) (by first | exact Nat.le_refl _ | (simp; done) | (simp; omega)) (.cells #[.int .i64 u.fFirst, .int .i64 u.fBefore, .slice A4 u.fEntries.length c4] 25))
    (with_reducible refine (iDropWal_calls u n _ _ (Rp.S_below Su.out HA.out) (by have h := HWu.out; unfold WalB at h; omega)).mono ?_)
    rintro e w10 ⟨v, rfl, v2, F, rfl, hr, hf, hn, hb⟩
    obtain ⟨V, hV⟩ : ∃ V, V = dropW u n := ⟨_, rfl⟩
    rw [← hV] at hr ⊢
    have HV := Lib.hid hV; clear hV
    obtain ⟨A6, c6, e2, _, _⟩ := Rp.Row_K hr
    subst e2
    have SV := Lib.hid (Rp.Row_S hr)
    clear hr hf hn
    have SV_ := SV; clear SV
    have hb' := HA.out.trans (hb.mono HA.out.size)
    have Su := Lib.hid (Rp.S_below Su.out hb')
    have HB := Lib.hid (HB.out.trans (hb'.mono HB.out.size))
    have Bv18 := Lib.hid (show Box w10 (w9.heap.size) #[.int .i64 u.fFirst, .int .i64 u.fBefore, .slice A4 u.fEntries.length c4] 25 from Box.below (Box.new rfl) hb)
    clear hb hb' HA
    have SV := SV_; clear SV_
    have v18_0 := Bv18.out.cell 0 (v := .int .i64 u.fFirst) rfl
    have v18_1 := Bv18.out.cell 1 (v := .int .i64 u.fBefore) rfl
    have v18_2 := Bv18.out.cell 2 (v := .slice A4 u.fEntries.length c4) rfl
    have u_v18 := Bv18.out.lt
    go_wp2_with fail
    have HA := Lib.hid (show Below w10.heap.size w10 (w10.alloc (.cells #[.int .i64 V.fFirst, .int .i64 V.fBefore, .slice A6 V.fEntries.length c6] 25)) from Below.alloc (Below.refl w10.heap.size w10) (by first | exact Nat.le_refl _ | (simp; done) | (simp; omega)) (.cells #[.int .i64 V.fFirst, .int .i64 V.fBefore, .slice A6 V.fEntries.length c6] 25))
    (with_reducible refine (sDropWal_calls u n _ _ (Rp.S_below Su.out HA.out) (by have h := HWu.out; unfold WalB at h; omega)).mono ?_)
    rintro e w11 ⟨v, rfl, v2, F, rfl, hr, hf, hn, hb⟩
    rw [← HV.out] at hr ⊢
    obtain ⟨A7, c7, e2, _, _⟩ := Rp.Row_K hr
    subst e2
    have SQ := Lib.hid (Rp.Row_S hr)
    clear hr hf hn
    clear v18_0 v18_1 v18_2 u_v18
    have SQ_ := SQ; clear SQ
    have hb' := HA.out.trans (hb.mono HA.out.size)
    have Bv18 := Lib.hid (Bv18.out.below hb')
    have Su := Lib.hid (Rp.S_below Su.out hb')
    have SV := Lib.hid (Rp.S_below SV.out hb')
    have HB := Lib.hid (HB.out.trans (hb'.mono HB.out.size))
    have Bv20 := Lib.hid (show Box w11 (w10.heap.size) #[.int .i64 V.fFirst, .int .i64 V.fBefore, .slice A6 V.fEntries.length c6] 25 from Box.below (Box.new rfl) hb)
    clear hb hb' HA
    have SQ := SQ_; clear SQ_
    have v20_0 := Bv20.out.cell 0 (v := .int .i64 V.fFirst) rfl
    have v20_1 := Bv20.out.cell 1 (v := .int .i64 V.fBefore) rfl
    have v20_2 := Bv20.out.cell 2 (v := .slice A6 V.fEntries.length c6) rfl
    have u_v20 := Bv20.out.lt
    go_wp2_with fail
    have hVL : V.fEntries.length ≤ 60 := by have h1 := dropW_len u n; rw [← HV.out] at h1; have h := HWu.out; unfold WalB at h; omega
    have HA := Lib.hid (show Below w11.heap.size w11 (w11.alloc (.cells #[.int .i64 V.fFirst, .int .i64 V.fBefore, .slice A7 V.fEntries.length c7] 25)) from Below.alloc (Below.refl w11.heap.size w11) (by first | exact Nat.le_refl _ | (simp; done) | (simp; omega)) (.cells #[.int .i64 V.fFirst, .int .i64 V.fBefore, .slice A7 V.fEntries.length c7] 25))
    (with_reducible refine (same_calls V _ _ _ (Rp.S_below SV.out HA.out) (Rp.S_below SQ.out HA.out) (by omega)).mono ?_)
    rintro e w12 ⟨rfl, hb⟩
    clear v20_0 v20_1 v20_2 u_v20
    have hb' := HA.out.trans (hb.mono HA.out.size)
    have Bv18 := Lib.hid (Bv18.out.below hb')
    have Bv20 := Lib.hid (Bv20.out.below hb')
    have Su := Lib.hid (Rp.S_below Su.out hb')
    have SV := Lib.hid (Rp.S_below SV.out hb')
    have SQ := Lib.hid (Rp.S_below SQ.out hb')
    have HB := Lib.hid (HB.out.trans (hb'.mono HB.out.size))
    have Bv22 := Lib.hid (show Box w12 (w11.heap.size) #[.int .i64 V.fFirst, .int .i64 V.fBefore, .slice A7 V.fEntries.length c7] 25 from Box.below (Box.new rfl) hb)
    clear hb hb' HA
    cases hok : dropB u n
    case false =>
      have hz : V.fFirst = 0 := by rw [HV.out, dropW, hok]; rfl
      have v20_0 := Bv20.out.cell 0 (v := .int .i64 V.fFirst) rfl
      have v20_1 := Bv20.out.cell 1 (v := .int .i64 V.fBefore) rfl
      have v20_2 := Bv20.out.cell 2 (v := .slice A6 V.fEntries.length c6) rfl
      have u_v20 := Bv20.out.lt
      rw [hz] at v20_0
      clear hz
      go_wp2
      go_ret
      exact ⟨rfl, HB.out⟩
    case true =>
      obtain ⟨k, hk, fV, eV, gU, gV, nV, tV⟩ := drop_facts HV.out hok
      have hvl : V.fEntries.length + k = u.fEntries.length := by rw [eV, List.length_drop]; omega
      have hff := inB_iff.1 (goodWal_first gU)
      have hfv := inB_iff.1 (goodWal_first gV)
      have FV := Lib.hid fV; have EV := Lib.hid eV; have GU := Lib.hid gU; have GV := Lib.hid gV; have NV := Lib.hid nV; have TV := Lib.hid tV; have HUL := Lib.hid (goodWal_len gU)
      clear fV eV gU gV nV tV
      have v20_0 := Bv20.out.cell 0 (v := .int .i64 V.fFirst) rfl
      have v20_1 := Bv20.out.cell 1 (v := .int .i64 V.fBefore) rfl
      have v20_2 := Bv20.out.cell 2 (v := .slice A6 V.fEntries.length c6) rfl
      have u_v20 := Bv20.out.lt
      go_wp2_with fail
      clear v20_0 v20_1 v20_2 u_v20
      go_loopw [24] (fun i wr => ∃ j : Nat, j ≤ V.fEntries.length ∧ i = .int .i64 (V.fFirst + (j : Int)) ∧ Hid (Box wr (w9.heap.size) #[.int .i64 u.fFirst, .int .i64 u.fBefore, .slice A4 u.fEntries.length c4] 25) ∧ Hid (Box wr (w10.heap.size) #[.int .i64 V.fFirst, .int .i64 V.fBefore, .slice A6 V.fEntries.length c6] 25) ∧ Hid (kEntry.S wr u.fEntries (.slice A4 u.fEntries.length c4)) ∧ Hid (kEntry.S wr V.fEntries (.slice A6 V.fEntries.length c6)) ∧ Hid (Below w.heap.size w wr)) (fun i _ => (V.fFirst + V.fEntries.length - intOf i).toNat)
      case atStart => exact ⟨0, Nat.zero_le _, by simp, Bv18.out, Bv20.out, Su.out, SV.out, HB.out⟩
      case round =>
        clear Bv18 Bv20 Bv22 Su SV SQ HB
        obtain ⟨j, hj, rfl, Bv18, Bv20, Su, SV, HB⟩ := hrel
        by_cases hlt : j < V.fEntries.length
        case pos =>
          have i1 : V.fFirst + (j : Int) < V.fFirst + (V.fEntries.length : Int) := by omega
          have i2 : (j : Int) < (V.fEntries.length : Int) := by omega
          obtain ⟨y, hy⟩ : ∃ y, y = u.fEntries[k + j]'(by omega) := ⟨_, rfl⟩
          have hvj := drop_at EV.out hlt (by omega : k + j < u.fEntries.length)
          rw [← hy] at hvj
          have he1 : u.fFirst + ((k + j : Nat) : Int) = V.fFirst + (j : Int) := by rw [FV.out]; omega
          have HY := Lib.hid hy; have HVJ := Lib.hid hvj; have HE1 := Lib.hid he1
          clear hy hvj he1
          have v18_0 := Bv18.out.cell 0 (v := .int .i64 u.fFirst) rfl
          have v18_1 := Bv18.out.cell 1 (v := .int .i64 u.fBefore) rfl
          have v18_2 := Bv18.out.cell 2 (v := .slice A4 u.fEntries.length c4) rfl
          have u_v18 := Bv18.out.lt
          have v20_0 := Bv20.out.cell 0 (v := .int .i64 V.fFirst) rfl
          have v20_1 := Bv20.out.cell 1 (v := .int .i64 V.fBefore) rfl
          have v20_2 := Bv20.out.cell 2 (v := .slice A6 V.fEntries.length c6) rfl
          have u_v20 := Bv20.out.lt
          go_wp2_with fail
          have h_ := entryAt_calls u (k + j) _ _ GU.out (by omega) Su.out
          rw [HE1.out, ← HY.out] at h_
          (with_reducible refine h_.mono ?_)
          rintro e wa ⟨rfl, hb⟩
          clear h_
          clear v18_0 v18_1 v18_2 u_v18 v20_0 v20_1 v20_2 u_v20
          have hb' := hb
          have Bv18 := Lib.hid (Bv18.out.below hb')
          have Bv20 := Lib.hid (Bv20.out.below hb')
          have Su := Lib.hid (Rp.S_below Su.out hb')
          have SV := Lib.hid (Rp.S_below SV.out hb')
          have HB := Lib.hid (HB.out.trans (hb'.mono HB.out.size))
          clear hb hb'
          have v20_0 := Bv20.out.cell 0 (v := .int .i64 V.fFirst) rfl
          have v20_1 := Bv20.out.cell 1 (v := .int .i64 V.fBefore) rfl
          have v20_2 := Bv20.out.cell 2 (v := .slice A6 V.fEntries.length c6) rfl
          have u_v20 := Bv20.out.lt
          go_wp2_with fail
          have HA := Lib.hid (show Below wa.heap.size wa (wa.alloc (.cells #[.int .i64 y.fTerm, .string y.fData] 27)) from Below.alloc (Below.refl wa.heap.size wa) (by first | exact Nat.le_refl _ | (simp; done) | (simp; omega)) (.cells #[.int .i64 y.fTerm, .string y.fData] 27))
          have h_ := entryAt_calls V j _ _ GV.out hlt (Rp.S_below SV.out HA.out)
          rw [HVJ.out] at h_
          (with_reducible refine h_.mono ?_)
          rintro e wb ⟨rfl, hb⟩
          clear h_
          clear v20_0 v20_1 v20_2 u_v20
          have hb' := HA.out.trans (hb.mono HA.out.size)
          have Bv18 := Lib.hid (Bv18.out.below hb')
          have Bv20 := Lib.hid (Bv20.out.below hb')
          have Su := Lib.hid (Rp.S_below Su.out hb')
          have SV := Lib.hid (Rp.S_below SV.out hb')
          have HB := Lib.hid (HB.out.trans (hb'.mono HB.out.size))
          have Bv25 := Lib.hid (show Box wb (wa.heap.size) #[.int .i64 y.fTerm, .string y.fData] 27 from Box.below (Box.new rfl) hb)
          clear hb hb' HA
          have v25_0 := Bv25.out.cell 0 (v := .int .i64 y.fTerm) rfl
          have v25_1 := Bv25.out.cell 1 (v := .string y.fData) rfl
          have u_v25 := Bv25.out.lt
          have HA := Lib.hid ((Below.refl wb.heap.size wb).alloc (Nat.le_refl _) (.cells #[.int .i64 y.fTerm, .string y.fData] 27))
          go_wp2
          exact ⟨⟨j + 1, by omega, by congr 1; omega, Bv18.out.below HA.out, Bv20.out.below HA.out, Rp.S_below Su.out HA.out, Rp.S_below SV.out HA.out, HB.out.trans (HA.out.mono HB.out.size)⟩, by simp [intOf]; omega⟩
        case neg =>
          have i1 : ¬ V.fFirst + (j : Int) < V.fFirst + (V.fEntries.length : Int) := by omega
          have i2 : ¬ (j : Int) < (V.fEntries.length : Int) := by omega
          have v18_0 := Bv18.out.cell 0 (v := .int .i64 u.fFirst) rfl
          have v18_1 := Bv18.out.cell 1 (v := .int .i64 u.fBefore) rfl
          have v18_2 := Bv18.out.cell 2 (v := .slice A4 u.fEntries.length c4) rfl
          have u_v18 := Bv18.out.lt
          have v20_0 := Bv20.out.cell 0 (v := .int .i64 V.fFirst) rfl
          have v20_1 := Bv20.out.cell 1 (v := .int .i64 V.fBefore) rfl
          have v20_2 := Bv20.out.cell 2 (v := .slice A6 V.fEntries.length c6) rfl
          have u_v20 := Bv20.out.lt
          go_wp2_with fail
          (with_reducible refine (last_calls u _ _ GU.out Su.out).mono ?_)
          rintro e wa ⟨rfl, hb⟩
          clear v18_0 v18_1 v18_2 u_v18 v20_0 v20_1 v20_2 u_v20
          have hb' := hb
          have Bv18 := Lib.hid (Bv18.out.below hb')
          have Bv20 := Lib.hid (Bv20.out.below hb')
          have Su := Lib.hid (Rp.S_below Su.out hb')
          have SV := Lib.hid (Rp.S_below SV.out hb')
          have HB := Lib.hid (HB.out.trans (hb'.mono HB.out.size))
          clear hb hb'
          have v20_0 := Bv20.out.cell 0 (v := .int .i64 V.fFirst) rfl
          have v20_1 := Bv20.out.cell 1 (v := .int .i64 V.fBefore) rfl
          have v20_2 := Bv20.out.cell 2 (v := .slice A6 V.fEntries.length c6) rfl
          have u_v20 := Bv20.out.lt
          go_wp2_with fail
          have h_ := last_calls V _ _ GV.out SV.out
          rw [show V.fFirst + (V.fEntries.length : Int) - 1 = u.fFirst + (u.fEntries.length : Int) - 1 by rw [FV.out]; omega, TV.out] at h_
          (with_reducible refine h_.mono ?_)
          rintro e wb ⟨rfl, hb⟩
          clear h_
          clear v20_0 v20_1 v20_2 u_v20
          have hb' := hb
          have Bv18 := Lib.hid (Bv18.out.below hb')
          have Bv20 := Lib.hid (Bv20.out.below hb')
          have Su := Lib.hid (Rp.S_below Su.out hb')
          have SV := Lib.hid (Rp.S_below SV.out hb')
          have HB := Lib.hid (HB.out.trans (hb'.mono HB.out.size))
          clear hb hb'
          have v20_0 := Bv20.out.cell 0 (v := .int .i64 V.fFirst) rfl
          have v20_1 := Bv20.out.cell 1 (v := .int .i64 V.fBefore) rfl
          have v20_2 := Bv20.out.cell 2 (v := .slice A6 V.fEntries.length c6) rfl
          have u_v20 := Bv20.out.lt
          have nb : V.fFirst = n + 1 := NV.out
          rw [nb] at v20_0
          have hn1 := HN.out
          go_wp2_with fail
          have h_ := iGoodWal_calls V _ _ SV.out (by omega)
          rw [GV.out, nb] at h_
          (with_reducible refine h_.mono ?_)
          rintro e wd ⟨rfl, hb⟩
          have HB := Lib.hid (HB.out.trans (hb.mono HB.out.size))
          clear hb h_
          clear v20_0 v20_1 v20_2 u_v20
          go_wp2
          go_ret
          exact ⟨rfl, HB.out⟩
end Go.Proofs.Ytjigbmgfjmghcaa
