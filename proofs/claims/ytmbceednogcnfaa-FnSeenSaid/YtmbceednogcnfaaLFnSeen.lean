/- Law FnSeen: at every input it returns true. -/
import Derived.Test.YtmbceednogcnfaaCurSSeen
namespace Go.Proofs.Ytmbceednogcnfaa
open Go Go.RowKit Go.Sort Go.Proofs.YtmbceednogcnfaaW.PrintWords Go.Proofs.YtmbceednogcnfaaW.PrintLast Go.Proofs.YtmbceednogcnfaaW.PrintMore Go.Proofs.Ytmbceednogcnfaa.PFnSeen
set_option linter.unusedVariables false
set_option linter.unusedSimpArgs false

set_option maxHeartbeats 8000000 in
set_option maxRecDepth 100000 in
theorem law_FnSeen (bs ms : List Int) (A0 B0 : Option Addr) (c0 d0 : Nat) (w : World) (hc : kByte.S w bs (.slice A0 bs.length c0)) (hm : kByte.S w ms (.slice B0 ms.length d0)) (hby : ∀ x ∈ bs, 0 ≤ x ∧ x ≤ 255) (hmy : ∀ x ∈ ms, 0 ≤ x ∧ x ≤ 255) (hcl : bs.length ≤ 140737488355328) (hml : ms.length ≤ 140737488355328) : Calls Try.prog 3 #[.slice A0 bs.length c0, .slice B0 ms.length d0] w
    fun e w' => e = .returned (.bool true) ∧ Below w.heap.size w w' := by
  by_cases hsum : bs.length + ms.length ≤ 1048576
  case neg =>
    have i1 : (1048576 : Int) < (bs.length : Int) + (ms.length : Int) := by omega
    go_enter Try.func3, Try.ntmps3
    go_wp2
    go_ret
    exact ⟨rfl, Below.refl _ _⟩
  have i1 : ¬ (1048576 : Int) < (bs.length : Int) + (ms.length : Int) := by omega
  have HM := Lib.hid hm
  go_enter Try.func3, Try.ntmps3
  go_wp2_with fail
  (with_reducible refine (DrawLookIn_calls hc hby (by omega)).mono ?_)
  rintro e w1 ⟨xs, A1, c1, key, a, rfl, hS, hl, hg, a0, a1, hb⟩
  have Sx := Lib.hid hS; have HB := Lib.hid hb
  clear hS hb i1 hc hg
  obtain ⟨V, K, O, hA⟩ : ∃ v k o, ansL xs key a = (v, k, o) := ⟨_, _, _, rfl⟩
  have HA_ := Lib.hid hA; clear hA
  obtain ⟨P, O2, hV⟩ : ∃ p o, visA xs a = (p, o) := ⟨_, _, rfl⟩
  have HV_ := Lib.hid hV; clear hV
  go_wp2_with fail
  have HA := Lib.hid (show Below w1.heap.size w1 (w1.alloc (.cells #[.slice A1 xs.length c1] 25)) from Below.alloc (Below.refl w1.heap.size w1) (by first | exact Nat.le_refl _ | (simp; done) | (simp; omega)) (.cells #[.slice A1 xs.length c1] 25))
  have h_ := iLook_calls key a (Rp.S_below Sx.out HA.out) (by omega)
  simp only [HA_.out] at h_
  (with_reducible refine h_.mono ?_)
  rintro e w2 ⟨rfl, hb⟩
  clear h_
  have hb' := HA.out.trans (hb.mono HA.out.size)
  have Sx := Lib.hid (Rp.S_below Sx.out hb')
  have HB := Lib.hid (HB.out.trans (hb'.mono HB.out.size))
  have Bv5 := Lib.hid (show Box w2 (w1.heap.size) #[.slice A1 xs.length c1] 25 from Box.below (Box.new rfl) hb)
  clear hb hb' HA
  have v5_0 := Bv5.out.cell 0 (v := .slice A1 xs.length c1) rfl
  have u_v5 := Bv5.out.lt
  go_wp2_with fail
  have h_ := sLook_calls key a Sx.out (by omega)
  simp only [HA_.out] at h_
  (with_reducible refine h_.mono ?_)
  rintro e w3 ⟨rfl, hb⟩
  clear h_
  clear v5_0 u_v5
  have hb' := hb
  have Bv5 := Lib.hid (Bv5.out.below hb')
  have Sx := Lib.hid (Rp.S_below Sx.out hb')
  have HB := Lib.hid (HB.out.trans (hb'.mono HB.out.size))
  clear hb hb'
  have v5_0 := Bv5.out.cell 0 (v := .slice A1 xs.length c1) rfl
  have u_v5 := Bv5.out.lt
  go_wp2_with fail
  have h_ := iVis_calls a Sx.out (by omega)
  simp only [HV_.out] at h_
  (with_reducible refine h_.mono ?_)
  rintro e w4 ⟨⟨A2, c2, rfl, hc2, hC2⟩, hb⟩
  have C2_ := Lib.hid hC2
  clear h_ hC2
  clear v5_0 u_v5
  have hb' := hb
  have Bv5 := Lib.hid (Bv5.out.below hb')
  have Sx := Lib.hid (Rp.S_below Sx.out hb')
  have HB := Lib.hid (HB.out.trans (hb'.mono HB.out.size))
  clear hb hb'
  have HPL : P.length ≤ 400 := by have h := visA_len xs a; rw [HV_.out] at h; exact h
  have HSE := Lib.hid (fun (h : O = true) (h1 : O2 = true) => (by have h2 := seen_has (l := xs) (key := key) (a := a) (by rw [HA_.out]; exact h) (by rw [HV_.out]; exact h1); rw [HA_.out, HV_.out] at h2; simp only at h2; rw [h2]; by_cases hk : K = 1 <;> simp [hk]) : O = true → O2 = true → P.any (hasP key V) = (K == 1))
  go_upto_region 9 with fail
  go_cut [79] from 76 to 79 (fun s wx => wx = w4 ∧ s = .bool (O && O2))
  case first =>
    cases O
    all_goals (try cases O2)
    all_goals go_wp2_with fail
    all_goals go_meet
    all_goals exact ⟨rfl, rfl⟩
  case rest =>
    obtain ⟨rfl, rfl⟩ := hcut
    obtain ⟨r, hr⟩ : ∃ r, r = (O && O2) := ⟨_, rfl⟩
    rw [← hr]
    have HR := Lib.hid hr; clear hr
    go_upto_if 79 with fail
    go_cut [] from 80 to 103 (fun wx => Hid (Below w.heap.size w wx))
    case first =>
      cases r
      case false =>
        go_wp2_with fail
        go_meet
        exact HB.out
      case true =>
        have hoo := HR.out.symm
        rw [Bool.and_eq_true] at hoo
        obtain ⟨ho1, ho2⟩ := hoo
        subst ho1
        subst ho2
        clear HR
        have hse := HSE.out rfl rfl
        have HSE2 := Lib.hid hse; clear hse HSE
        go_wp2
        go_loopw [16, 82] (fun f i wr => ∃ j : Nat, j ≤ P.length ∧ f = .bool ((P.take j).any (hasP key V)) ∧ i = .int .i64 (j : Int) ∧ Hid (Below w.heap.size w wr) ∧ Hid (Kd.C k34 wr A2 P.length P)) (fun _ i _ => P.length - (intOf i).toNat)
        case atStart => exact ⟨0, Nat.zero_le _, by simp, rfl, HB.out, C2_.out⟩
        case round =>
          clear HB C2_ Bv5 Sx
          obtain ⟨j, hj, rfl, rfl, HB, C2_⟩ := hrel
          by_cases hlt : j < P.length
          case pos =>
            have i2 : (j : Int) < (P.length : Int) := by omega
            have i3 : (0 : Int) ≤ (j : Int) := by omega
            have htk : P.take (j + 1) = P.take j ++ [P[j]] := by rw [List.take_add_one, List.getElem?_eq_getElem hlt]; rfl
            obtain ⟨ad, rfl, q0, q1⟩ := at_T34 C2_.out (j : Int) i3 i2
            rw [rdPairi_at hlt, Int.toNat_natCast] at q0 q1
            have HTK := Lib.hid htk; clear htk
            generalize P[j] = p at *
            generalize hfa : (P.take j).any (hasP key V) = fa at *
            have HFA := Lib.hid hfa; clear hfa
            go_upto_region 14 with fail
            have hb5 := (Below.refl wr.heap.size wr).alloc (Nat.le_refl _) (.cells #[.string p.f0, .string p.f1] 34)
            have BX := Lib.hid (show Box (wr.alloc (.cells #[.string p.f0, .string p.f1] 34)) wr.heap.size #[.string p.f0, .string p.f1] 34 from Box.new rfl)
            have HB := Lib.hid (HB.out.trans (hb5.mono HB.out.size)); have C2_ := Lib.hid (Kd.C_below C2_.out hb5)
            clear q0 q1 hb5
            generalize wr.alloc (.cells #[.string p.f0, .string p.f1] 34) = w5 at *
            have d0 := BX.out.cell 0 (v := .string p.f0) rfl; have d1 := BX.out.cell 1 (v := .string p.f1) rfl
            have hany : ∀ r, hasP key V p = r → (P.take (j + 1)).any (hasP key V) = (fa || r) := fun r hr => by rw [HTK.out, List.any_append, HFA.out]; simp [hr]
            have HANY := Lib.hid hany; clear hany
            cases fa
            case true =>
              go_wp2
              exact ⟨⟨j + 1, by omega, by rw [HANY.out _ rfl]; rfl, by go_num, HB.out, C2_.out⟩, by simp [intOf]; omega⟩
            case false =>
              by_cases he : p.f0.toList = key.toList
              case neg =>
                have he2 : hasP key V p = false := by simp [hasP, he]
                have HE2 := Lib.hid he2; clear he2
                go_wp2
                exact ⟨⟨j + 1, by omega, by rw [HANY.out _ HE2.out]; rfl, by go_num, HB.out, C2_.out⟩, by simp [intOf]; omega⟩
              case pos =>
                have HE := Lib.hid he
                go_wp2
                exact ⟨⟨j + 1, by omega, by rw [HANY.out _ rfl, hasP, show (p.f0.toList == key.toList) = true by simpa using HE.out]; rfl, by go_num, HB.out, C2_.out⟩, by simp [intOf]; omega⟩
          case neg =>
            have i2 : ¬ (j : Int) < (P.length : Int) := by omega
            obtain rfl : j = P.length := by omega
            rw [List.take_length, HSE2.out]
            go_wp2_with fail
            go_meet
            exact HB.out
    case rest =>
      clear HB Sx Bv5 C2_ HSE HA_ HV_
      have HB := hcut; clear hcut
      go_wp2_with fail
      (with_reducible refine (DrawScanAt_calls (Rp.S_below HM.out HB.out) hmy (by omega)).mono ?_)
      rintro e w5 ⟨ys, A4, c4, lo, hi, t, rfl, hS, hl4, -, hhi, hlo, t0, t1, hb⟩
      have Sy := Lib.hid hS; have HB := Lib.hid (HB.out.trans (hb.mono HB.out.size))
      clear hS hb
      obtain ⟨Q, O4, hQ⟩ : ∃ p o, scanA ys lo hi t = (p, o) := ⟨_, _, rfl⟩
      have HQ_ := Lib.hid hQ; clear hQ
      go_wp2_with fail
      have HA := Lib.hid (show Below w5.heap.size w5 (w5.alloc (.cells #[.slice A4 ys.length c4] 25)) from Below.alloc (Below.refl w5.heap.size w5) (by first | exact Nat.le_refl _ | (simp; done) | (simp; omega)) (.cells #[.slice A4 ys.length c4] 25))
      have h_ := iScan_calls lo hi t (Rp.S_below Sy.out HA.out) (by omega)
      simp only [HQ_.out] at h_
      (with_reducible refine h_.mono ?_)
      rintro e w6 ⟨⟨A5, c5, rfl, hc5, hC5⟩, hb⟩
      have C5_ := Lib.hid hC5
      clear h_ hC5
      have hb' := HA.out.trans (hb.mono HA.out.size)
      have Sy := Lib.hid (Rp.S_below Sy.out hb')
      have HB := Lib.hid (HB.out.trans (hb'.mono HB.out.size))
      have Bv19 := Lib.hid (show Box w6 (w5.heap.size) #[.slice A4 ys.length c4] 25 from Box.below (Box.new rfl) hb)
      clear hb hb' HA
      have v19_0 := Bv19.out.cell 0 (v := .slice A4 ys.length c4) rfl
      have u_v19 := Bv19.out.lt
      go_wp2_with fail
      have h_ := sScan_calls lo hi t Sy.out (by omega)
      simp only [HQ_.out] at h_
      (with_reducible refine h_.mono ?_)
      rintro e w7 ⟨⟨A6, c6, rfl, hc6, hC6⟩, hb⟩
      have C6_ := Lib.hid hC6; have C5_ := Lib.hid (Kd.C_below C5_.out hb)
      clear h_ hC6
      clear v19_0 u_v19
      have hb' := hb
      have Bv19 := Lib.hid (Bv19.out.below hb')
      have Sy := Lib.hid (Rp.S_below Sy.out hb')
      have HB := Lib.hid (HB.out.trans (hb'.mono HB.out.size))
      clear hb hb'
      have HPQ : Q.length ≤ 400 := by have h := scanA_len ys lo hi t; rw [HQ_.out] at h; exact h
      go_wp2_with fail
      (with_reducible refine (same_calls C5_.out hc5 C6_.out hc6 (by omega)).mono ?_)
      rintro e w8 ⟨rfl, hb⟩
      have C5_ := Lib.hid (Kd.C_below C5_.out hb); have HB := Lib.hid (HB.out.trans (hb.mono HB.out.size))
      clear hb Bv19 Sy C6_
      have hin : ∀ p ∈ Q, inB lo hi p.f0 = true := fun p hp => scanA_in (l := ys) (a := t) (by rw [HQ_.out]; exact hp)
      have hup : ∀ (i : Nat) (h : i + 1 < Q.length), Op.bytesLess Q[i].f0.toList Q[i + 1].f0.toList = true := fun i h => by
        have h2 : ∀ (Z : List S34) (hz : (scanA ys lo hi t).1 = Z) (h3 : i + 1 < Z.length), Op.bytesLess Z[i].f0.toList Z[i + 1].f0.toList = true := by
          intro Z hz h3
          subst hz
          exact scanA_next h3
        exact h2 Q (by rw [HQ_.out]) h
      have HIN := Lib.hid hin; have HUP := Lib.hid hup; clear hin hup HQ_
      go_wp2
      go_loopw [138] (fun i wr => ∃ j : Nat, j ≤ Q.length ∧ i = .int .i64 (j : Int) ∧ Hid (Below w.heap.size w wr) ∧ Hid (Kd.C k34 wr A5 Q.length Q)) (fun i _ => Q.length - (intOf i).toNat)
      case atStart => exact ⟨0, Nat.zero_le _, rfl, HB.out, C5_.out⟩
      case round =>
        clear HB C5_
        obtain ⟨j, hj, rfl, HB, C5_⟩ := hrel
        by_cases hlt : j < Q.length
        case neg =>
          have i2 : ¬ (j : Int) < (Q.length : Int) := by omega
          go_wp2
          go_ret
          exact ⟨rfl, HB.out⟩
        case pos =>
          have i2 : (j : Int) < (Q.length : Int) := by omega
          have i3 : (0 : Int) ≤ (j : Int) := by omega
          have hinp := HIN.out Q[j] (List.getElem_mem _)
          simp only [inB, Bool.and_eq_true, Bool.not_eq_true', Bool.or_eq_true, beq_iff_eq] at hinp
          have hprev : ∀ m, j = m + 1 → ∀ hm : m < Q.length, Op.bytesLess Q[m].f0.toList Q[j].f0.toList = true := fun m hm h => by subst hm; exact HUP.out m hlt
          obtain ⟨ad, rfl, q0, q1⟩ := at_T34 C5_.out (j : Int) i3 i2
          rw [rdPairi_at hlt, Int.toNat_natCast] at q0 q1
          have HINP := Lib.hid hinp; have HPREV := Lib.hid hprev
          clear hinp hprev
          generalize Q[j] = p at *
          go_upto_region 26 with fail
          have hb5 := (Below.refl wr.heap.size wr).alloc (Nat.le_refl _) (.cells #[.string p.f0, .string p.f1] 34)
          have BX := Lib.hid (show Box (wr.alloc (.cells #[.string p.f0, .string p.f1] 34)) wr.heap.size #[.string p.f0, .string p.f1] 34 from Box.new rfl)
          have HB := Lib.hid (HB.out.trans (hb5.mono HB.out.size)); have C5_ := Lib.hid (Kd.C_below C5_.out hb5)
          clear q0 q1 hb5
          generalize wr.alloc (.cells #[.string p.f0, .string p.f1] 34) = w5 at *
          have d0 := regr (Below.refl _ _) BX.out.lt (BX.out.cell 0 (v := .string p.f0) rfl); have d1 := regr (Below.refl _ _) BX.out.lt (BX.out.cell 1 (v := .string p.f1) rfl)
          have l1 : Op.bytesLess p.f0.toList lo.toList = false := HINP.out.1
          have l2 : ¬ hi.toList = [] → Op.bytesLess p.f0.toList hi.toList = true := fun h => HINP.out.2.resolve_left h
          by_cases hh : hi.toList = []
          case pos =>
            rcases j with _ | m
            case zero =>
              refine wp_region_quiet_below (by kernel_rfl) (by kernel_rfl) ?_
              repeat (go_big_quiet_step (fail))
              refine wpQuiet_nil ?_
              rintro w6 ⟨pp, rfl⟩
              have hb6 := below_regrown w5 pp.d pp.os
              have HB := Lib.hid (HB.out.trans (hb6.mono HB.out.size)); have C5_ := Lib.hid (Kd.C_below C5_.out hb6)
              clear d0 d1 hb6 
              generalize grow (redrawn w5 pp.d) pp.os = w6 at *
              go_wp2
              exact ⟨⟨0 + 1, by omega, by go_num, HB.out, C5_.out⟩, by simp [intOf]; omega⟩
            case succ =>
              have hm : m < Q.length := by omega
              have l4 := HPREV.out m rfl hm
              have k2 : (m : Int) < (Q.length : Int) := by omega
              have k3 : (0 : Int) ≤ (m : Int) := by omega
              obtain ⟨ad2, e2, q0, q1⟩ := at_T34 C5_.out (m : Int) k3 k2
              rw [rdPairi_at hm, Int.toNat_natCast] at q0 q1
              obtain rfl := Option.some.inj e2
              generalize Q[m] = q at *
              have r0 := regr (Below.refl _ _) (World.block_lt_of_cell? _ _ q0) q0; have r1 := regr (Below.refl _ _) (World.block_lt_of_cell? _ _ q1) q1
              have k1 : (0 : Int) < ((m + 1 : Nat) : Int) := by omega
              have k4 : ((m + 1 : Nat) : Int) - 1 = (m : Int) := by omega
              refine wp_region_quiet_below (by kernel_rfl) (by kernel_rfl) ?_
              repeat (go_big_quiet_step (fail))
              refine wpQuiet_nil ?_
              rintro w6 ⟨pp, rfl⟩
              have hb6 := below_regrown w5 pp.d pp.os
              have HB := Lib.hid (HB.out.trans (hb6.mono HB.out.size)); have C5_ := Lib.hid (Kd.C_below C5_.out hb6)
              clear d0 d1 hb6 r0 r1 q0 q1
              generalize grow (redrawn w5 pp.d) pp.os = w6 at *
              go_wp2
              exact ⟨⟨m + 1 + 1, by omega, by go_num, HB.out, C5_.out⟩, by simp [intOf]; omega⟩
          case neg =>
            have l3 := l2 hh
            have l5 : (hi.toList == ([] : List UInt8)) = false := by simp [hh]
            have l6 : (hi.toList == (⟨#[]⟩ : ByteArray).toList) = false := by simp [hh]
            have l8 : ¬ hi.toList = (⟨#[]⟩ : ByteArray).toList := by simpa using hh
            rcases j with _ | m
            case zero =>
              refine wp_region_quiet_below (by kernel_rfl) (by kernel_rfl) ?_
              repeat (go_big_quiet_step (fail))
              refine wpQuiet_nil ?_
              rintro w6 ⟨pp, rfl⟩
              have hb6 := below_regrown w5 pp.d pp.os
              have HB := Lib.hid (HB.out.trans (hb6.mono HB.out.size)); have C5_ := Lib.hid (Kd.C_below C5_.out hb6)
              clear d0 d1 hb6 
              generalize grow (redrawn w5 pp.d) pp.os = w6 at *
              go_wp2
              exact ⟨⟨0 + 1, by omega, by go_num, HB.out, C5_.out⟩, by simp [intOf]; omega⟩
            case succ =>
              have hm : m < Q.length := by omega
              have l4 := HPREV.out m rfl hm
              have k2 : (m : Int) < (Q.length : Int) := by omega
              have k3 : (0 : Int) ≤ (m : Int) := by omega
              obtain ⟨ad2, e2, q0, q1⟩ := at_T34 C5_.out (m : Int) k3 k2
              rw [rdPairi_at hm, Int.toNat_natCast] at q0 q1
              obtain rfl := Option.some.inj e2
              generalize Q[m] = q at *
              have r0 := regr (Below.refl _ _) (World.block_lt_of_cell? _ _ q0) q0; have r1 := regr (Below.refl _ _) (World.block_lt_of_cell? _ _ q1) q1
              have k1 : (0 : Int) < ((m + 1 : Nat) : Int) := by omega
              have k4 : ((m + 1 : Nat) : Int) - 1 = (m : Int) := by omega
              refine wp_region_quiet_below (by kernel_rfl) (by kernel_rfl) ?_
              repeat (go_big_quiet_step (fail))
              refine wpQuiet_nil ?_
              rintro w6 ⟨pp, rfl⟩
              have hb6 := below_regrown w5 pp.d pp.os
              have HB := Lib.hid (HB.out.trans (hb6.mono HB.out.size)); have C5_ := Lib.hid (Kd.C_below C5_.out hb6)
              clear d0 d1 hb6 r0 r1 q0 q1
              generalize grow (redrawn w5 pp.d) pp.os = w6 at *
              go_wp2
              exact ⟨⟨m + 1 + 1, by omega, by go_num, HB.out, C5_.out⟩, by simp [intOf]; omega⟩
end Go.Proofs.Ytmbceednogcnfaa
