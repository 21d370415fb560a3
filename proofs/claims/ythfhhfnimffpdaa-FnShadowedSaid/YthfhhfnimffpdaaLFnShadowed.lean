/- Law FnShadowed: at every input it returns true. -/
import Derived.Test.YthfhhfnimffpdaaCurSShad
import Derived.Test.YthfhhfnimffpdaaNwShad
namespace Go.Proofs.Ythfhhfnimffpdaa
open Go Go.RowKit Go.Sort Go.Proofs.YthfhhfnimffpdaaW.PrintWords Go.Proofs.YthfhhfnimffpdaaW.PrintLast Go.Proofs.YthfhhfnimffpdaaW.PrintMore Go.Proofs.Ythfhhfnimffpdaa.PFnShadowed
set_option linter.unusedVariables false
set_option linter.unusedSimpArgs false

set_option maxHeartbeats 8000000 in
set_option maxRecDepth 100000 in
theorem law_FnShadowed (bs ms : List Int) (A0 B0 : Option Addr) (c0 d0 : Nat) (w : World) (hc : kByte.S w bs (.slice A0 bs.length c0)) (hm : kByte.S w ms (.slice B0 ms.length d0)) (hby : ∀ x ∈ bs, 0 ≤ x ∧ x ≤ 255) (hmy : ∀ x ∈ ms, 0 ≤ x ∧ x ≤ 255) (hcl : bs.length ≤ 140737488355328) (hml : ms.length ≤ 140737488355328) : Calls Try.prog 3 #[.slice A0 bs.length c0, .slice B0 ms.length d0] w
    fun e w' => e = .returned (.bool true) ∧ Below w.heap.size w w' := by
  by_cases hsum : bs.length + ms.length ≤ 1048576
  case neg =>
    have i1 : (1048576 : Int) < (bs.length : Int) + (ms.length : Int) := by omega
    go_enter Try.func3, Try.ntmps3
    go_wp2
    go_ret
    exact ⟨rfl, Below.refl _ _⟩
  have i1 : ¬ (1048576 : Int) < (bs.length : Int) + (ms.length : Int) := by omega
  have HM := Lib.hid hm
  go_enter Try.func3, Try.ntmps3
  go_wp2_with fail
  (with_reducible refine (DrawDropShadowed_calls hc hby (by omega)).mono ?_)
  rintro e w1 ⟨xs, A1, c1, a, q, rfl, hS, hl, hg, a0, a1, hb⟩
  have Sx := Lib.hid hS; have HB := Lib.hid hb
  clear hS hb i1 hc hg
  obtain ⟨X, O, hA⟩ : ∃ l o, ansD xs a q = (l, o) := ⟨_, _, rfl⟩
  have HA_ := Lib.hid hA; clear hA
  have hXl : X.length ≤ 400 := by have h := ans_len xs a q; rw [HA_.out] at h; exact h
  go_wp2_with fail
  have HA := Lib.hid (show Below w1.heap.size w1 (w1.alloc (.cells #[.slice A1 xs.length c1] 25)) from Below.alloc (Below.refl w1.heap.size w1) (by first | exact Nat.le_refl _ | (simp; done) | (simp; omega)) (.cells #[.slice A1 xs.length c1] 25))
  have h_ := iDrop_calls a q (Rp.S_below Sx.out HA.out) (by omega)
  simp only [HA_.out] at h_
  (with_reducible refine h_.mono ?_)
  rintro e w2 ⟨⟨A2, c2, rfl, hs⟩, hb⟩
  have SX_ := Lib.hid hs
  clear h_ hs
  have hb' := HA.out.trans (hb.mono HA.out.size)
  have Sx := Lib.hid (Rp.S_below Sx.out hb')
  have HB := Lib.hid (HB.out.trans (hb'.mono HB.out.size))
  have Bv5 := Lib.hid (show Box w2 (w1.heap.size) #[.slice A1 xs.length c1] 25 from Box.below (Box.new rfl) hb)
  clear hb hb' HA
  have SX := SX_; clear SX_
  have v5_0 := Bv5.out.cell 0 (v := .slice A1 xs.length c1) rfl
  have u_v5 := Bv5.out.lt
  go_wp2_with fail
  have HA := Lib.hid (show Below w2.heap.size w2 (w2.alloc (.cells #[.slice A2 X.length c2] 25)) from Below.alloc (Below.refl w2.heap.size w2) (by first | exact Nat.le_refl _ | (simp; done) | (simp; omega)) (.cells #[.slice A2 X.length c2] 25))
  have h_ := sDrop_calls a q (Rp.S_below Sx.out HA.out) (by omega)
  simp only [HA_.out] at h_
  (with_reducible refine h_.mono ?_)
  rintro e w3 ⟨⟨A3, c3, rfl, hs⟩, hb⟩
  have SY_ := Lib.hid hs
  clear h_ hs
  clear v5_0 u_v5
  have hb' := HA.out.trans (hb.mono HA.out.size)
  have Bv5 := Lib.hid (Bv5.out.below hb')
  have Sx := Lib.hid (Rp.S_below Sx.out hb')
  have SX := Lib.hid (Rp.S_below SX.out hb')
  have HB := Lib.hid (HB.out.trans (hb'.mono HB.out.size))
  have Bv8 := Lib.hid (show Box w3 (w2.heap.size) #[.slice A2 X.length c2] 25 from Box.below (Box.new rfl) hb)
  clear hb hb' HA
  have SY := SY_; clear SY_
  have v8_0 := Bv8.out.cell 0 (v := .slice A2 X.length c2) rfl
  have u_v8 := Bv8.out.lt
  go_wp2_with fail
  have HA := Lib.hid (show Below w3.heap.size w3 (w3.alloc (.cells #[.slice A3 X.length c3] 25)) from Below.alloc (Below.refl w3.heap.size w3) (by first | exact Nat.le_refl _ | (simp; done) | (simp; omega)) (.cells #[.slice A3 X.length c3] 25))
  (with_reducible refine (sameI_calls (Rp.S_below SX.out HA.out) (Rp.S_below SY.out HA.out) (by omega)).mono ?_)
  rintro e w4 ⟨rfl, hb⟩
  clear v8_0 u_v8
  have hb' := HA.out.trans (hb.mono HA.out.size)
  have Bv5 := Lib.hid (Bv5.out.below hb')
  have Bv8 := Lib.hid (Bv8.out.below hb')
  have Sx := Lib.hid (Rp.S_below Sx.out hb')
  have SX := Lib.hid (Rp.S_below SX.out hb')
  have SY := Lib.hid (Rp.S_below SY.out hb')
  have HB := Lib.hid (HB.out.trans (hb'.mono HB.out.size))
  have Bv10 := Lib.hid (show Box w4 (w3.heap.size) #[.slice A3 X.length c3] 25 from Box.below (Box.new rfl) hb)
  clear hb hb' HA
  clear SY Bv10
  cases O
  case false =>
    have hn : X = [] := by have h := ansD_no (l := xs) (a := a) (b := q) (by rw [HA_.out]); rw [HA_.out] at h; exact h
    have v8_0 := Bv8.out.cell 0 (v := .slice A2 X.length c2) rfl
    have u_v8 := Bv8.out.lt
    subst hn
    simp only [List.length_nil] at v8_0
    go_wp2
    go_ret
    exact ⟨rfl, HB.out⟩
  case true =>
    have hok := ansD_ok (l := xs) (a := a) (b := q) (by rw [HA_.out])
    rw [HA_.out] at hok
    obtain ⟨k1, -, -, k4⟩ := hok
    simp only at k4
    have HOK := Lib.hid k1; have HXE := Lib.hid k4
    clear k1 k4
    go_wp2_with fail
    (with_reducible refine (num_calls (Rp.S_below HM.out HB.out) hmy (by omega)).mono ?_)
    rintro e w5 ⟨r, rfl, r0, r1, hb⟩
    have hb' := hb
    have Bv5 := Lib.hid (Bv5.out.below hb')
    have Bv8 := Lib.hid (Bv8.out.below hb')
    have Sx := Lib.hid (Rp.S_below Sx.out hb')
    have SX := Lib.hid (Rp.S_below SX.out hb')
    have HB := Lib.hid (HB.out.trans (hb'.mono HB.out.size))
    clear hb hb'
    have e1 : Int.tmod r 30 = r % 30 := Int.tmod_eq_emod_of_nonneg r0
    obtain ⟨m, hm2⟩ : ∃ m : Int, r % 30 = m := ⟨_, rfl⟩
    have m0 : 0 ≤ m := by omega
    have m1 : m < 30 := by omega
    rw [hm2] at e1
    clear hm2
    go_wp2
    have hb := (Below.refl w5.heap.size w5).alloc (Nat.le_refl _) (.cells #[.int .i64 0, .int .i64 1, .int .i64 m] 3)
    have Bg := Lib.hid (show Box (w5.alloc (.cells #[.int .i64 0, .int .i64 1, .int .i64 m] 3)) w5.heap.size #[.int .i64 0, .int .i64 1, .int .i64 m] 3 from Box.new rfl)
    generalize w5.alloc (.cells #[.int .i64 0, .int .i64 1, .int .i64 m] 3) = wg at *
    generalize w5.heap.size = gg at Bg ⊢
    have Bv5 := Lib.hid (Bv5.out.below hb); have Bv8 := Lib.hid (Bv8.out.below hb); have Sx := Lib.hid (Rp.S_below Sx.out hb); have SX := Lib.hid (Rp.S_below SX.out hb); have HB := Lib.hid (HB.out.trans (hb.mono HB.out.size))
    clear hb
    go_loopw [70] (fun i wr => ∃ j : Nat, j ≤ 3 ∧ i = .int .i64 (j : Int) ∧ Hid (Box wr gg #[.int .i64 0, .int .i64 1, .int .i64 m] 3) ∧ Hid (Box wr (w1.heap.size) #[.slice A1 xs.length c1] 25) ∧ Hid (Box wr (w2.heap.size) #[.slice A2 X.length c2] 25) ∧ Hid (kIt.S wr xs (.slice A1 xs.length c1)) ∧ Hid (kIt.S wr X (.slice A2 X.length c2)) ∧ Hid (Below w.heap.size w wr)) (fun i _ => 3 - (intOf i).toNat)
    case atStart => exact ⟨0, Nat.zero_le _, rfl, Bg.out, Bv5.out, Bv8.out, Sx.out, SX.out, HB.out⟩
    case round =>
      clear Bg Bv5 Bv8 Sx SX HB
      obtain ⟨j, hj, rfl, Bg, Bv5, Bv8, Sx, SX, HB⟩ := hrel
      by_cases hlt : j < 3
      case pos =>
        have i2 : (j : Int) < 3 := by omega
        have i3 : (0 : Int) ≤ (j : Int) := by omega
        have hcl : ∃ v : Int, wr.cell? ⟨gg, j, none⟩ = some (.int .i64 v) ∧ 0 ≤ v ∧ v < 30 := by
          have hj3 : j = 0 ∨ j = 1 ∨ j = 2 := by omega
          rcases hj3 with rfl | rfl | rfl
          · exact ⟨0, Bg.out.cell 0 rfl, by decide, by decide⟩
          · exact ⟨1, Bg.out.cell 1 rfl, by decide, by decide⟩
          · exact ⟨m, Bg.out.cell 2 rfl, m0, m1⟩
        obtain ⟨v, hcv, v0, v1⟩ := hcl
        obtain ⟨hve, hvo⟩ := drop_vis (l := xs) (a := a) (a' := a + v) HOK.out q a0 (by omega) (by omega)
        rw [← HXE.out] at hve
        obtain ⟨PP, O3, hV⟩ : ∃ p o, visA xs (a + v) = (p, o) := ⟨_, _, rfl⟩
        rw [hV] at hve hvo
        simp only at hvo
        subst hvo
        have hPL : PP.length ≤ 400 := by have h := visA_len xs (a + v); rw [hV] at h; exact h
        have HV_ := Lib.hid hV; have HVE := Lib.hid hve
        clear hV hve
        have v5_0 := Bv5.out.cell 0 (v := .slice A1 xs.length c1) rfl
        have u_v5 := Bv5.out.lt
        go_wp2_with fail
        have h_ := iVis_calls (a + v) Sx.out (by omega)
        simp only [HV_.out] at h_
        (with_reducible refine h_.mono ?_)
        rintro e wa ⟨⟨A4, c4, rfl, hc4, hC4⟩, hb⟩
        have C4_ := Lib.hid hC4; have Bg := Lib.hid (Bg.out.below hb)
        clear h_ hC4 hcv
        clear v5_0 u_v5
        have hb' := hb
        have Bv5 := Lib.hid (Bv5.out.below hb')
        have Bv8 := Lib.hid (Bv8.out.below hb')
        have Sx := Lib.hid (Rp.S_below Sx.out hb')
        have SX := Lib.hid (Rp.S_below SX.out hb')
        have HB := Lib.hid (HB.out.trans (hb'.mono HB.out.size))
        clear hb hb'
        have v8_0 := Bv8.out.cell 0 (v := .slice A2 X.length c2) rfl
        have u_v8 := Bv8.out.lt
        go_wp2_with fail
        have h_ := iVis_calls (a + v) SX.out (by omega)
        simp only [HVE.out] at h_
        (with_reducible refine h_.mono ?_)
        rintro e wb ⟨⟨A5, c5, rfl, hc5, hC5⟩, hb⟩
        have C5_ := Lib.hid hC5; have C4_ := Lib.hid (Kd.C_below C4_.out hb); have Bg := Lib.hid (Bg.out.below hb)
        clear h_ hC5
        clear v8_0 u_v8
        have hb' := hb
        have Bv5 := Lib.hid (Bv5.out.below hb')
        have Bv8 := Lib.hid (Bv8.out.below hb')
        have Sx := Lib.hid (Rp.S_below Sx.out hb')
        have SX := Lib.hid (Rp.S_below SX.out hb')
        have HB := Lib.hid (HB.out.trans (hb'.mono HB.out.size))
        clear hb hb'
        go_wp2_with fail
        (with_reducible refine (same_calls C4_.out hc4 C5_.out hc5 (by omega)).mono ?_)
        rintro e wd ⟨rfl, hb⟩
        have Bg := Lib.hid (Bg.out.below hb)
        clear C4_ C5_
        have hb' := hb
        have Bv5 := Lib.hid (Bv5.out.below hb')
        have Bv8 := Lib.hid (Bv8.out.below hb')
        have Sx := Lib.hid (Rp.S_below Sx.out hb')
        have SX := Lib.hid (Rp.S_below SX.out hb')
        have HB := Lib.hid (HB.out.trans (hb'.mono HB.out.size))
        clear hb hb'
        go_wp2
        exact ⟨⟨j + 1, by omega, by go_num, Bg.out, Bv5.out, Bv8.out, Sx.out, SX.out, HB.out⟩, by simp [intOf]; omega⟩
      case neg =>
        have i2 : ¬ (j : Int) < 3 := by omega
        have hXo : okR X = true := by rw [HXE.out]; exact drop_ok HOK.out a q
        have HXO := Lib.hid hXo; clear hXo Bg
        have v5_0 := Bv5.out.cell 0 (v := .slice A1 xs.length c1) rfl
        have u_v5 := Bv5.out.lt
        go_wp2_with fail
        (with_reducible refine (newOf_calls Sx.out (by omega) HOK.out).mono ?_)
        rintro e wa ⟨top, rfl, ht, hb⟩
        have HT := Lib.hid ht; clear ht
        clear v5_0 u_v5
        have hb' := hb
        have Bv5 := Lib.hid (Bv5.out.below hb')
        have Bv8 := Lib.hid (Bv8.out.below hb')
        have Sx := Lib.hid (Rp.S_below Sx.out hb')
        have SX := Lib.hid (Rp.S_below SX.out hb')
        have HB := Lib.hid (HB.out.trans (hb'.mono HB.out.size))
        clear hb hb'
        have v8_0 := Bv8.out.cell 0 (v := .slice A2 X.length c2) rfl
        have u_v8 := Bv8.out.lt
        go_wp2_with fail
        (with_reducible refine (newOf_calls SX.out (by omega) HXO.out).mono ?_)
        rintro e wb ⟨left, rfl, ht, hb⟩
        have HT2 := Lib.hid ht; clear ht
        clear v8_0 u_v8
        have hb' := hb
        have Bv5 := Lib.hid (Bv5.out.below hb')
        have Bv8 := Lib.hid (Bv8.out.below hb')
        have Sx := Lib.hid (Rp.S_below Sx.out hb')
        have SX := Lib.hid (Rp.S_below SX.out hb')
        have HB := Lib.hid (HB.out.trans (hb'.mono HB.out.size))
        clear hb hb'
        obtain ⟨n1, n2⟩ := drop_new (l := xs) (a := a) HOK.out q a0 HT.out (by rw [← HXE.out]; exact HT2.out)
        have n3 : (X.length : Int) ≤ (xs.length : Int) := by have h := dropL_len xs a q; rw [← HXE.out] at h; omega
        have v5_0 := Bv5.out.cell 0 (v := .slice A1 xs.length c1) rfl
        have u_v5 := Bv5.out.lt
        have v8_0 := Bv8.out.cell 0 (v := .slice A2 X.length c2) rfl
        have u_v8 := Bv8.out.lt
        by_cases n4 : top ≤ a
        case pos =>
          clear n2
          go_wp2
          go_ret
          exact ⟨rfl, HB.out⟩
        case neg =>
          have n5 := n2.resolve_left n4
          subst n5
          clear n2
          go_wp2
          go_ret
          exact ⟨rfl, HB.out⟩
end Go.Proofs.Ythfhhfnimffpdaa
