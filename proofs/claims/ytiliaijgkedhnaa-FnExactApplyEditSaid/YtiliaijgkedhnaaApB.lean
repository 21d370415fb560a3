/- Edits that are good, by the reference. -/
import Derived.Test.YtiliaijgkedhnaaApA
namespace Go.Proofs.Ytiliaijgkedhnaa
open Go Go.RowKit Go.Sort
set_option linter.unusedVariables false
set_option linter.unusedSimpArgs false

set_option maxHeartbeats 4000000 in
set_option maxRecDepth 100000 in
theorem sGoodEdit_calls (x : DEdit) (A2 A3 : Option Addr) (c2 c3 : Nat) (w : World) (g2 : kInt.S w x.fDrop (.slice A2 x.fDrop.length c2)) (g3 : kMeta.S w x.fAdd (.slice A3 x.fAdd.length c3)) (l2 : x.fDrop.length ≤ 1048576) (l3 : x.fAdd.length ≤ 1048576) : Calls Try.prog 37 #[.agg #[.int .i64 x.fNext, .int .i64 x.fSeq, .slice A2 x.fDrop.length c2, .slice A3 x.fAdd.length c3]] w
    fun e w' => e = .returned (.bool (goodEd x)) ∧ Below w.heap.size w w' := by
  have hb1 := (Below.refl w.heap.size w).alloc (Nat.le_refl _) (.cells #[.int .i64 x.fNext, .int .i64 x.fSeq, .slice A2 x.fDrop.length c2, .slice A3 x.fAdd.length c3] 37)
  have BX := Lib.hid (show Box (w.alloc (.cells #[.int .i64 x.fNext, .int .i64 x.fSeq, .slice A2 x.fDrop.length c2, .slice A3 x.fAdd.length c3] 37)) w.heap.size #[.int .i64 x.fNext, .int .i64 x.fSeq, .slice A2 x.fDrop.length c2, .slice A3 x.fAdd.length c3] 37 from Box.new rfl)
  have G2 := Lib.hid (Rp.S_below g2 hb1); have G3 := Lib.hid (Rp.S_below g3 hb1); have HB := Lib.hid hb1
  obtain ⟨A_, c_, e_, _, hC⟩ := G2.out
  obtain ⟨rfl, _, rfl⟩ := Value.slice.inj e_
  have H := Lib.hid hC
  clear g2 g3 hb1 e_ hC
  go_enter Try.func37, Try.ntmps37
  go_upto_region 1 with fail
  generalize w.alloc (.cells #[.int .i64 x.fNext, .int .i64 x.fSeq, .slice A2 x.fDrop.length c2, .slice A3 x.fAdd.length c3] 37) = w1 at *
  have c0 := BX.out.cell 0 (v := .int .i64 x.fNext) rfl; have c1 := BX.out.cell 1 (v := .int .i64 x.fSeq) rfl; have c2_ := BX.out.cell 2 (v := .slice A2 x.fDrop.length c2) rfl; have c3_ := BX.out.cell 3 (v := .slice A3 x.fAdd.length c3) rfl
  have hE := Lib.hid (show goodEd x = (cntOk x.fNext x.fSeq && decide ((x.fDrop.length : Int) ≤ 30) && metasOk x.fAdd && numFrom none x.fDrop) from rfl)
  go_wp2
  go_loopw [8] (fun i wr => ∃ k : Nat, k ≤ x.fDrop.length ∧ i = .int .i64 (k : Int) ∧ Hid (numFrom none x.fDrop = numFrom (prevI x.fDrop k) (x.fDrop.drop k)) ∧ Hid (wr = w1)) (fun i _ => x.fDrop.length - (intOf i).toNat)
  case atStart => exact ⟨0, Nat.zero_le _, rfl, rfl, rfl⟩
  case round =>
    obtain ⟨k, hk, rfl, HN, HW⟩ := hrel
    obtain rfl := HW.out
    by_cases hlt : k < x.fDrop.length
    case neg =>
      have i1 : ¬ (k : Int) < (x.fDrop.length : Int) := by omega
      have hnn : numFrom none x.fDrop = true := by rw [HN.out, List.drop_eq_nil_of_le (by omega)]; rfl
      have HNN := Lib.hid hnn; clear hnn
      cases h1 : cntOk x.fNext x.fSeq
      case false =>
        have H1 := Lib.hid h1; clear h1
        go_wp2_with ((with_reducible refine (sNext_calls _ _ _).mono ?_); rintro e wq ⟨rfl, rfl⟩; rw [H1.out])
        go_ret
        exact ⟨by rw [hE.out, H1.out]; rfl, HB.out⟩
      case true =>
        have H1 := Lib.hid h1; clear h1
        by_cases h2 : (x.fDrop.length : Int) ≤ 30
        case neg =>
          have H2 := Lib.hid h2
          go_wp2_with ((with_reducible refine (sNext_calls _ _ _).mono ?_); rintro e wq ⟨rfl, rfl⟩; rw [H1.out])
          go_ret
          exact ⟨by rw [hE.out, H1.out, decide_eq_false (show ¬ (x.fDrop.length : Int) ≤ 30 by have := H2.out; omega)]; rfl, HB.out⟩
        case pos =>
          have H2 := Lib.hid h2
          cases h3 : metasOk x.fAdd
          all_goals
            have H3 := Lib.hid h3; clear h3
            go_wp2_with (first | ((with_reducible refine (sNext_calls _ _ _).mono ?_); rintro e wq ⟨rfl, rfl⟩; rw [H1.out]) | ((with_reducible refine (sMetas_calls x.fAdd _ _ G3.out (by omega)).mono ?_); rintro e wq ⟨rfl, hb⟩; rw [H3.out]; have HB := Lib.hid (HB.out.trans (hb.mono HB.out.size)); clear hb))
            go_ret
            exact ⟨by rw [hE.out, H1.out, H3.out, HNN.out, decide_eq_true H2.out]; rfl, HB.out⟩
    case pos =>
      have i1 : (k : Int) < (x.fDrop.length : Int) := by omega
      have i0 : (0 : Int) ≤ (k : Int) := by omega
      obtain ⟨b, o, rfl, a0⟩ := intS_at H.out (Below.refl _ _) k hlt
      have hs := num_step hlt
      have HS := Lib.hid hs; clear hs
      have HF := Lib.hid (fun (h : numFrom none x.fDrop = false) => (by rw [hE.out, h, Bool.and_false] : goodEd x = false))
      rcases Nat.eq_zero_or_pos k with hz | hz
      · have HO := Lib.hid (fun y => show overI (prevI x.fDrop k) y = true by rw [prevI, if_pos hz]; rfl)
        have i3 : ¬ (0 : Int) < (k : Int) := by omega
        clear hz
        generalize x.fDrop[k] = y at *
        cases h1 : inR y 1 100000
        · have H1 := Lib.hid h1; clear h1
          go_wp2_with ((with_reducible refine (sInR_calls y 1 100000 _).mono ?_); rintro e wq ⟨rfl, rfl⟩; rw [H1.out])
          go_ret
          exact ⟨by rw [HF.out (by rw [HN.out, HS.out, H1.out]; rfl)]; rfl, HB.out⟩
        · have H1 := Lib.hid h1; clear h1
          go_wp2_with ((with_reducible refine (sInR_calls y 1 100000 _).mono ?_); rintro e wq ⟨rfl, rfl⟩; rw [H1.out])
          exact ⟨⟨k + 1, by omega, by go_num, by rw [Hid, HN.out, HS.out, H1.out, HO.out]; rfl, trivial⟩, by simp [intOf]; omega⟩
      · obtain ⟨m, hm⟩ : ∃ m, k = m + 1 := ⟨k - 1, by omega⟩
        have hml : m < x.fDrop.length := by omega
        obtain ⟨b2, o2, e2, d0⟩ := intS_at H.out (Below.refl _ _) m hml
        obtain ⟨rfl, rfl⟩ : b = b2 ∧ o = o2 := by simpa using e2
        have HPV := Lib.hid (show prevI x.fDrop k = some x.fDrop[m] by subst hm; exact prevI_succ hml)
        clear e2
        generalize x.fDrop[m] = z at *
        generalize x.fDrop[k] = y at *
        have j1 : (m : Int) < (x.fDrop.length : Int) := by omega
        have j0 : (0 : Int) ≤ (m : Int) := by omega
        have j2 : (0 : Int) < (k : Int) := by omega
        have j3 : (k : Int) - 1 = (m : Int) := by omega
        clear hm
        cases h1 : inR y 1 100000
        · have H1 := Lib.hid h1; clear h1
          go_wp2_with ((with_reducible refine (sInR_calls y 1 100000 _).mono ?_); rintro e wq ⟨rfl, rfl⟩; rw [H1.out])
          go_ret
          exact ⟨by rw [HF.out (by rw [HN.out, HS.out, H1.out]; rfl)]; rfl, HB.out⟩
        · have H1 := Lib.hid h1; clear h1
          by_cases h2 : z < y
          · have HO := Lib.hid (show overI (prevI x.fDrop k) y = true by rw [HPV.out]; exact decide_eq_true h2)
            have h3 : ¬ y ≤ z := by omega
            go_wp2_with ((with_reducible refine (sInR_calls y 1 100000 _).mono ?_); rintro e wq ⟨rfl, rfl⟩; rw [H1.out])
            exact ⟨⟨k + 1, by omega, by go_num, by rw [Hid, HN.out, HS.out, H1.out, HO.out]; rfl, trivial⟩, by simp [intOf]; omega⟩
          · have HO := Lib.hid (show overI (prevI x.fDrop k) y = false by rw [HPV.out]; exact decide_eq_false h2)
            have h3 : y ≤ z := by omega
            go_wp2_with ((with_reducible refine (sInR_calls y 1 100000 _).mono ?_); rintro e wq ⟨rfl, rfl⟩; rw [H1.out])
            go_ret
            exact ⟨by rw [HF.out (by rw [HN.out, HS.out, H1.out, HO.out]; rfl)]; rfl, HB.out⟩
end Go.Proofs.Ytiliaijgkedhnaa
