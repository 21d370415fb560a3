/- Edits that are good. -/
import Derived.Test.YtiliaijgkedhnaaApP
import Derived.Test.YtiliaijgkedhnaaVerB
import Derived.Test.YtiliaijgkedhnaaInt
namespace Go.Proofs.Ytiliaijgkedhnaa
open Go Go.RowKit Go.Sort
set_option linter.unusedVariables false
set_option linter.unusedSimpArgs false

def prevI (xs : List Int) (k : Nat) : Option Int := if k = 0 then none else xs[k - 1]?
theorem prevI_succ {xs : List Int} {k : Nat} (h : k < xs.length) : prevI xs (k + 1) = some xs[k] := by
  rw [prevI, if_neg (by omega), Nat.add_sub_cancel, List.getElem?_eq_getElem h]
theorem num_step {xs : List Int} {k : Nat} (h : k < xs.length) : numFrom (prevI xs k) (xs.drop k) = (inR xs[k] 1 100000 && overI (prevI xs k) xs[k] && numFrom (prevI xs (k + 1)) (xs.drop (k + 1))) := by
  rw [List.drop_eq_getElem_cons h, numFrom, prevI_succ h]
theorem intS_at {w wr : World} {A : Option Addr} {xs : List Int} (h : kInt.C w A xs) (hB : Below w.heap.size w wr) (k : Nat) (hk : k < xs.length) : ∃ b o, A = some ⟨b, o, none⟩ ∧ wr.cell? ⟨b, o + k, none⟩ = some (.int .i64 xs[k]) := by
  obtain ⟨b, o, cs, rfl, k1, q1⟩ := Rp.C_get h k hk
  obtain rfl : cs = [.int .i64 xs[k]] := k1
  have h1 := q1 0 _ rfl
  refine ⟨b, o, rfl, ?_⟩
  have h2 := (World.cell?_of_block (hB.block b (World.block_lt_of_cell? w _ h1))).trans h1
  simpa [Rp.int, Rp.scalar] using h2
set_option maxHeartbeats 4000000 in
set_option maxRecDepth 100000 in
theorem iNums_calls (xs : List Int) (A : Option Addr) (c : Nat) (w : World) (g : kInt.S w xs (.slice A xs.length c)) (hl : xs.length ≤ 140737488355328) : Calls Try.prog 44 #[.slice A xs.length c] w
    fun e w' => e = .returned (.bool (numFrom none xs)) ∧ w' = w := by
  obtain ⟨A_, c_, e_, _, hC⟩ := g
  obtain ⟨rfl, _, rfl⟩ := Value.slice.inj e_
  have H := Lib.hid hC; clear hC e_
  go_enter Try.func44, Try.ntmps44
  go_wp2
  go_loopw [7] (fun i wr => ∃ k : Nat, k ≤ xs.length ∧ i = .int .i64 (k : Int) ∧ Hid (numFrom none xs = numFrom (prevI xs k) (xs.drop k)) ∧ Hid (wr = w)) (fun i _ => xs.length - (intOf i).toNat)
  case atStart => exact ⟨0, Nat.zero_le _, rfl, rfl, rfl⟩
  case round =>
    obtain ⟨k, hk, rfl, HN, HW⟩ := hrel
    obtain rfl := HW.out
    by_cases hlt : k < xs.length
    case neg =>
      have i1 : ¬ (k : Int) < (xs.length : Int) := by omega
      go_wp2
      go_ret
      exact ⟨by rw [HN.out, List.drop_eq_nil_of_le (by omega)]; rfl, rfl⟩
    case pos =>
      have i1 : (k : Int) < (xs.length : Int) := by omega
      have i0 : (0 : Int) ≤ (k : Int) := by omega
      obtain ⟨b, o, rfl, a0⟩ := intS_at H.out (Below.refl _ _) k hlt
      have hs := num_step hlt
      have HS := Lib.hid hs; clear hs
      have hp := prevI_succ hlt
      have HP := Lib.hid hp; clear hp
      rcases Nat.eq_zero_or_pos k with hz | hz
      · have HO := Lib.hid (fun x => show overI (prevI xs k) x = true by rw [prevI, if_pos hz]; rfl)
        have i3 : ¬ (0 : Int) < (k : Int) := by omega
        clear hz
        generalize xs[k] = x at *
        cases h1 : inR x 1 100000
        · have H1 := Lib.hid h1; clear h1
          go_wp2_with ((with_reducible refine (iInR_calls x 1 100000 _).mono ?_); rintro e wq ⟨rfl, rfl⟩; rw [H1.out])
          go_ret
          exact ⟨by rw [HN.out, HS.out, H1.out]; rfl, rfl⟩
        · have H1 := Lib.hid h1; clear h1
          go_wp2_with ((with_reducible refine (iInR_calls x 1 100000 _).mono ?_); rintro e wq ⟨rfl, rfl⟩; rw [H1.out])
          exact ⟨⟨k + 1, by omega, by go_num, by rw [Hid, HN.out, HS.out, H1.out, HO.out]; rfl, trivial⟩, by simp [intOf]; omega⟩
      · obtain ⟨m, hm⟩ : ∃ m, k = m + 1 := ⟨k - 1, by omega⟩
        have hml : m < xs.length := by omega
        obtain ⟨b2, o2, e2, d0⟩ := intS_at H.out (Below.refl _ _) m hml
        obtain ⟨rfl, rfl⟩ : b = b2 ∧ o = o2 := by simpa using e2
        have HPV := Lib.hid (show prevI xs k = some xs[m] by subst hm; exact prevI_succ hml)
        clear e2
        generalize xs[m] = z at *
        generalize xs[k] = x at *
        have j1 : (m : Int) < (xs.length : Int) := by omega
        have j0 : (0 : Int) ≤ (m : Int) := by omega
        have j2 : (0 : Int) < (k : Int) := by omega
        have j3 : (k : Int) - 1 = (m : Int) := by omega
        clear hm
        cases h1 : inR x 1 100000
        · have H1 := Lib.hid h1; clear h1
          go_wp2_with ((with_reducible refine (iInR_calls x 1 100000 _).mono ?_); rintro e wq ⟨rfl, rfl⟩; rw [H1.out])
          go_ret
          exact ⟨by rw [HN.out, HS.out, H1.out]; rfl, rfl⟩
        · have H1 := Lib.hid h1; clear h1
          by_cases h2 : z < x
          · have HO := Lib.hid (show overI (prevI xs k) x = true by rw [HPV.out]; exact decide_eq_true h2)
            have h3 : ¬ x ≤ z := by omega
            go_wp2_with ((with_reducible refine (iInR_calls x 1 100000 _).mono ?_); rintro e wq ⟨rfl, rfl⟩; rw [H1.out])
            exact ⟨⟨k + 1, by omega, by go_num, by rw [Hid, HN.out, HS.out, H1.out, HO.out]; rfl, trivial⟩, by simp [intOf]; omega⟩
          · have HO := Lib.hid (show overI (prevI xs k) x = false by rw [HPV.out]; exact decide_eq_false h2)
            have h3 : x ≤ z := by omega
            go_wp2_with ((with_reducible refine (iInR_calls x 1 100000 _).mono ?_); rintro e wq ⟨rfl, rfl⟩; rw [H1.out])
            go_ret
            exact ⟨by rw [HN.out, HS.out, H1.out, HO.out]; rfl, rfl⟩
set_option maxHeartbeats 4000000 in
set_option maxRecDepth 100000 in
theorem iGoodEdit_calls (x : DEdit) (A2 A3 : Option Addr) (c2 c3 : Nat) (w : World) (g2 : kInt.S w x.fDrop (.slice A2 x.fDrop.length c2)) (g3 : kMeta.S w x.fAdd (.slice A3 x.fAdd.length c3)) (l2 : x.fDrop.length ≤ 1048576) (l3 : x.fAdd.length ≤ 1048576) : Calls Try.prog 22 #[.agg #[.int .i64 x.fNext, .int .i64 x.fSeq, .slice A2 x.fDrop.length c2, .slice A3 x.fAdd.length c3]] w
    fun e w' => e = .returned (.bool (goodEd x)) ∧ Below w.heap.size w w' := by
  have hb1 := (Below.refl w.heap.size w).alloc (Nat.le_refl _) (.cells #[.int .i64 x.fNext, .int .i64 x.fSeq, .slice A2 x.fDrop.length c2, .slice A3 x.fAdd.length c3] 37)
  have BX := Lib.hid (show Box (w.alloc (.cells #[.int .i64 x.fNext, .int .i64 x.fSeq, .slice A2 x.fDrop.length c2, .slice A3 x.fAdd.length c3] 37)) w.heap.size #[.int .i64 x.fNext, .int .i64 x.fSeq, .slice A2 x.fDrop.length c2, .slice A3 x.fAdd.length c3] 37 from Box.new rfl)
  have G2 := Lib.hid (Rp.S_below g2 hb1); have G3 := Lib.hid (Rp.S_below g3 hb1); have HB := Lib.hid hb1
  clear g2 g3 hb1
  go_enter Try.func22, Try.ntmps22
  go_upto_region 1 with fail
  generalize w.alloc (.cells #[.int .i64 x.fNext, .int .i64 x.fSeq, .slice A2 x.fDrop.length c2, .slice A3 x.fAdd.length c3] 37) = w1 at *
  have c0 := BX.out.cell 0 (v := .int .i64 x.fNext) rfl; have c1 := BX.out.cell 1 (v := .int .i64 x.fSeq) rfl; have c2_ := BX.out.cell 2 (v := .slice A2 x.fDrop.length c2) rfl; have c3_ := BX.out.cell 3 (v := .slice A3 x.fAdd.length c3) rfl
  have hE := Lib.hid (show goodEd x = (cntOk x.fNext x.fSeq && decide ((x.fDrop.length : Int) ≤ 30) && metasOk x.fAdd && numFrom none x.fDrop) from rfl)
  cases h1 : cntOk x.fNext x.fSeq
  case false =>
    go_wp2_with ((with_reducible refine (iNext_calls _ _ _).mono ?_); rintro e wq ⟨rfl, rfl⟩; rw [h1])
    go_ret
    exact ⟨by rw [hE.out, h1]; rfl, HB.out⟩
  case true =>
    by_cases h2 : (x.fDrop.length : Int) ≤ 30
    case neg =>
      have H2 := Lib.hid h2
      go_wp2_with ((with_reducible refine (iNext_calls _ _ _).mono ?_); rintro e wq ⟨rfl, rfl⟩; rw [h1])
      go_ret
      exact ⟨by rw [hE.out, h1, decide_eq_false (show ¬ (x.fDrop.length : Int) ≤ 30 by have := H2.out; omega)]; rfl, HB.out⟩
    case pos =>
      have H2 := Lib.hid h2
      cases h3 : metasOk x.fAdd
      all_goals
        have H1 := Lib.hid h1; have H3 := Lib.hid h3; clear h1 h3
        go_wp2_with (first | ((with_reducible refine (iNext_calls _ _ _).mono ?_); rintro e wq ⟨rfl, rfl⟩; rw [H1.out]) | ((with_reducible refine (iMetas_calls x.fAdd _ _ G3.out (by omega)).mono ?_); rintro e wq ⟨rfl, hb⟩; rw [H3.out]; have BX := Lib.hid (BX.out.below hb); have G2 := Lib.hid (Rp.S_below G2.out hb); have HB := Lib.hid (HB.out.trans (hb.mono HB.out.size)); clear hb c0 c1 c2_ c3_; have c2_ := BX.out.cell 2 (v := .slice A2 x.fDrop.length c2) rfl) | ((with_reducible refine (iNums_calls x.fDrop _ _ _ G2.out (by omega)).mono ?_); rintro e wq ⟨rfl, rfl⟩))
        go_ret
      · exact ⟨by rw [hE.out, H1.out, H3.out, decide_eq_true H2.out]; rfl, HB.out⟩
      · exact ⟨by rw [hE.out, H1.out, H3.out, decide_eq_true H2.out]; rfl, HB.out⟩
end Go.Proofs.Ytiliaijgkedhnaa
