/- The newest item. -/
import Derived.Test.YthfhhfnimffpdaaKSeShad
namespace Go.Proofs.Ythfhhfnimffpdaa
open Go Go.RowKit Go.Sort Go.Proofs.YthfhhfnimffpdaaW.PrintWords Go.Proofs.YthfhhfnimffpdaaW.PrintLast Go.Proofs.YthfhhfnimffpdaaW.PrintMore Go.Proofs.Ythfhhfnimffpdaa.PFnShadowed
set_option linter.unusedVariables false
set_option linter.unusedSimpArgs false

set_option maxHeartbeats 4000000 in
set_option maxRecDepth 100000 in
theorem cloNew_calls (y z : S50) (w : World) : Calls Try.prog 38 #[.agg #[.string y.f0, .int .i64 y.f1, .int .i64 y.f2, .string y.f3], .agg #[.string z.f0, .int .i64 z.f1, .int .i64 z.f2, .string z.f3]] w
    fun e w' => e = .returned (.int .i64 (cmpZ y.f1 z.f1)) ∧ Below w.heap.size w w' := by
  go_enter Try.func38, Try.ntmps38
  go_wp2_with ((with_reducible refine (cmp_Compare_int.calls y.f1 z.f1 _ _ (cmpZ_f _ _)).mono ?_); rintro e wq ⟨rfl, hd⟩; have HD := Lib.hid hd; clear hd)
  go_ret
  exact ⟨rfl, (Below.alloc ((Below.refl w.heap.size w).alloc (Nat.le_refl _) _) (by simp) _).trans (HD.out.below.mono (by simp; omega))⟩
set_option maxHeartbeats 4000000 in
set_option maxRecDepth 100000 in
theorem max_calls {xs : List S50} {A : Option Addr} {c : Nat} {w : World} (g : kIt.S w xs (.slice A xs.length c)) (hl : xs.length ≤ 1000000) (hn : 1 ≤ xs.length) :
    Calls Try.prog 37 #[.slice A xs.length c, (.func (.func 38) #[] #[])] w
    fun e w' => ∃ z : S50, e = .returned (.agg #[.string z.f0, .int .i64 z.f1, .int .i64 z.f2, .string z.f3]) ∧ z ∈ xs ∧ (∀ y ∈ xs, y.f1 ≤ z.f1) ∧ Below w.heap.size w w' := by
  obtain ⟨A_, c_, e_, hc, h⟩ := g
  obtain ⟨rfl, _, rfl⟩ := Value.slice.inj e_
  have H := Lib.hid h; clear h e_
  obtain ⟨b, o, rfl, a0, a1, a2, a3⟩ := it_at H.out (Below.refl _ _) 0 (by omega)
  have hm0 : xs[0] ∈ xs := List.getElem_mem _
  have ht0 : ∀ y ∈ xs.take 1, y.f1 ≤ xs[0].f1 := fun y hy => by
    obtain ⟨n, h1, rfl⟩ := List.mem_iff_getElem.1 hy
    rw [List.length_take] at h1
    obtain rfl : n = 0 := by omega
    simp
  have HM := Lib.hid hm0; have HT := Lib.hid ht0
  clear hm0 ht0
  generalize xs[0] = y at *
  simp only [Nat.zero_mul, Nat.add_zero] at a0 a1 a2 a3
  have BB0 : Box ((w.alloc (.cells #[.string ⟨#[]⟩, .int .i64 0, .int .i64 0, .string ⟨#[]⟩] 50)).alloc (.cells #[.string y.f0, .int .i64 y.f1, .int .i64 y.f2, .string y.f3] 50)) w.heap.size #[.string ⟨#[]⟩, .int .i64 0, .int .i64 0, .string ⟨#[]⟩] 50 := Box.alloc (Box.new rfl)
  have BB1 : Box ((w.alloc (.cells #[.string ⟨#[]⟩, .int .i64 0, .int .i64 0, .string ⟨#[]⟩] 50)).alloc (.cells #[.string y.f0, .int .i64 y.f1, .int .i64 y.f2, .string y.f3] 50)) (w.heap.size + 1) #[.string y.f0, .int .i64 y.f1, .int .i64 y.f2, .string y.f3] 50 := Box.new (by simp)
  have HBB := ((Below.refl w.heap.size w).alloc (Nat.le_refl _) (.cells #[.string ⟨#[]⟩, .int .i64 0, .int .i64 0, .string ⟨#[]⟩] 50)).alloc (by simp) (.cells #[.string y.f0, .int .i64 y.f1, .int .i64 y.f2, .string y.f3] 50)
  have X0 := Lib.hid BB0; have X1 := Lib.hid BB1; have HBX := Lib.hid HBB
  clear BB0 BB1 HBB
  have ub : b < w.heap.size := World.block_lt_of_cell? w _ a0
  have i0 : ¬ (xs.length : Int) < 1 := by omega
  have i1 : (0 : Int) < (xs.length : Int) := by omega
  go_enter Try.func37, Try.ntmps37
  go_wp2
  go_loopw [6] (fun i wr => ∃ (k : Nat) (z : S50), 1 ≤ k ∧ k ≤ xs.length ∧ i = .int .i64 (k : Int) ∧ Hid (z ∈ xs) ∧ Hid (∀ y ∈ xs.take k, y.f1 ≤ z.f1) ∧ Hid (Below w.heap.size w wr) ∧ Hid (Box wr w.heap.size #[.string ⟨#[]⟩, .int .i64 0, .int .i64 0, .string ⟨#[]⟩] 50) ∧ Hid (Box wr (w.heap.size + 1) #[.string z.f0, .int .i64 z.f1, .int .i64 z.f2, .string z.f3] 50)) (fun i _ => xs.length - (intOf i).toNat)
  case atStart => exact ⟨1, y, Nat.le_refl _, hn, rfl, HM.out, HT.out, HBX.out, X0.out, X1.out⟩
  case round =>
    clear HM HT X0 X1 HBX a0 a1 a2 a3
    obtain ⟨k, z, hk1, hk, rfl, HM, HT, HB, X0, X1⟩ := hrel
    by_cases hlt : k < xs.length
    case neg =>
      have i3 : ¬ (k : Int) < (xs.length : Int) := by omega
      obtain rfl : k = xs.length := by omega
      have r0 := X1.out.cell 0 (v := .string z.f0) rfl; have r1 := X1.out.cell 1 (v := .int .i64 z.f1) rfl; have r2 := X1.out.cell 2 (v := .int .i64 z.f2) rfl; have r3 := X1.out.cell 3 (v := .string z.f3) rfl
      have z0 := X0.out.cell 0 (v := .string ⟨#[]⟩) rfl; have z1 := X0.out.cell 1 (v := .int .i64 0) rfl; have z2 := X0.out.cell 2 (v := .int .i64 0) rfl; have z3 := X0.out.cell 3 (v := .string ⟨#[]⟩) rfl
      have fz := X0.out.fro
      go_wp2
      have hk : KeptF [w.heap.size] wr (Rp.setN wr w.heap.size 0 [.string z.f0, .int .i64 z.f1, .int .i64 z.f2, .string z.f3]) := Rp.setN_kept (by simp) _ _ _ (KeptF.refl _ _)
      have bf : Box (Rp.setN wr w.heap.size 0 [.string z.f0, .int .i64 z.f1, .int .i64 z.f2, .string z.f3]) w.heap.size #[.string z.f0, .int .i64 z.f1, .int .i64 z.f2, .string z.f3] 50 := by
        have h := Box.setN [.string z.f0, .int .i64 z.f1, .int .i64 z.f2, .string z.f3] X0.out 0
        rw [setA_all (by rfl)] at h
        exact h
      change bodyPost _ _ _ _ _ (Rp.setN wr w.heap.size 0 [.string z.f0, .int .i64 z.f1, .int .i64 z.f2, .string z.f3])
      have HF := Lib.hid (HB.out.trans (hk.toBelow HB.out.size (by simp)))
      clear r0 r1 r2 r3 z0 z1 z2 z3 fz hk
      generalize Rp.setN wr w.heap.size 0 [.string z.f0, .int .i64 z.f1, .int .i64 z.f2, .string z.f3] = wf at *
      have d0 := bf.cell 0 (v := .string z.f0) rfl; have d1 := bf.cell 1 (v := .int .i64 z.f1) rfl; have d2 := bf.cell 2 (v := .int .i64 z.f2) rfl; have d3 := bf.cell 3 (v := .string z.f3) rfl
      refine bodyPost_ret (v := .agg #[.string z.f0, .int .i64 z.f1, .int .i64 z.f2, .string z.f3]) (by simp [results, Try.results37, go_sem, d0, d1, d2, d3]) rfl ⟨z, rfl, HM.out, fun y hy => HT.out y (by rw [List.take_length]; exact hy), HF.out⟩
    case pos =>
      obtain ⟨b_, o_, eb, a0, a1, a2, a3⟩ := it_at H.out HB.out k hlt
      obtain ⟨rfl, rfl⟩ : b = b_ ∧ o = o_ := by simpa using eb
      have htk : xs.take (k + 1) = xs.take k ++ [xs[k]] := by rw [List.take_add_one, List.getElem?_eq_getElem hlt]; rfl
      have hmk : xs[k] ∈ xs := List.getElem_mem _
      have HTK := Lib.hid htk; have HMK := Lib.hid hmk
      clear eb htk hmk
      generalize xs[k] = y at *
      have t0 := regr (Below.refl _ _) (World.block_lt_of_cell? _ _ a0) a0; have t1 := regr (Below.refl _ _) (World.block_lt_of_cell? _ _ a1) a1; have t2 := regr (Below.refl _ _) (World.block_lt_of_cell? _ _ a2) a2; have t3 := regr (Below.refl _ _) (World.block_lt_of_cell? _ _ a3) a3
      have r0 := regr (Below.refl _ _) X1.out.lt (X1.out.cell 0 (v := .string z.f0) rfl); have r1 := regr (Below.refl _ _) X1.out.lt (X1.out.cell 1 (v := .int .i64 z.f1) rfl); have r2 := regr (Below.refl _ _) X1.out.lt (X1.out.cell 2 (v := .int .i64 z.f2) rfl); have r3 := regr (Below.refl _ _) X1.out.lt (X1.out.cell 3 (v := .string z.f3) rfl)
      have i2 : (0 : Int) ≤ (k : Int) := by omega
      have i3 : (k : Int) < (xs.length : Int) := by omega
      have c_m : ∀ W : World, Calls Try.prog 38 #[.agg #[.string y.f0, .int .i64 y.f1, .int .i64 y.f2, .string y.f3], .agg #[.string z.f0, .int .i64 z.f1, .int .i64 z.f2, .string z.f3]] W (fun e w' => e = .returned (.int .i64 (cmpZ y.f1 z.f1)) ∧ Below W.heap.size W w') := fun W => cloNew_calls y z W
      by_cases hgt : z.f1 < y.f1
      case pos =>
        have hcm : cmpZ y.f1 z.f1 = 1 := by unfold cmpZ; rw [if_neg (by omega), if_pos (by omega)]
        rw [hcm] at c_m
        have HGT := Lib.hid hgt; clear hgt hcm
        go_wp2
        refine wp_region_quiet_below (by kernel_rfl) (by kernel_rfl) ?_
        repeat (go_big_quiet_step (with_reducible exact Calls.regrown_of (c_m _)))
        refine wpQuiet_nil ?_
        rintro w1 ⟨p, rfl⟩
        have HB1 := Lib.hid (HB.out.trans ((below_regrown wr p.d p.os).mono HB.out.size))
        have Y0 := Lib.hid (X0.out.below (below_regrown wr p.d p.os))
        have Y1 := Lib.hid (X1.out.below (below_regrown wr p.d p.os))
        clear X0 X1 r0 r1 r2 r3 a0 a1 a2 a3
        have a0 := (t0 p.d p.os); have a1 := (t1 p.d p.os); have a2 := (t2 p.d p.os); have a3 := (t3 p.d p.os)
        clear t0 t1 t2 t3 c_m
        generalize grow (redrawn wr p.d) p.os = w1 at *
        have r0 := Y1.out.cell 0 (v := .string z.f0) rfl; have r1 := Y1.out.cell 1 (v := .int .i64 z.f1) rfl; have r2 := Y1.out.cell 2 (v := .int .i64 z.f2) rfl; have r3 := Y1.out.cell 3 (v := .string z.f3) rfl
        have fz := Y1.out.fro
        have ul := Y1.out.lt
        go_wp2
        have hk2 : KeptF [w.heap.size + 1] w1 (Rp.setN w1 (w.heap.size + 1) 0 [.string y.f0, .int .i64 y.f1, .int .i64 y.f2, .string y.f3]) := Rp.setN_kept (by simp) _ _ _ (KeptF.refl _ _)
        have bf : Box (Rp.setN w1 (w.heap.size + 1) 0 [.string y.f0, .int .i64 y.f1, .int .i64 y.f2, .string y.f3]) (w.heap.size + 1) #[.string y.f0, .int .i64 y.f1, .int .i64 y.f2, .string y.f3] 50 := by
          have h := Box.setN [.string y.f0, .int .i64 y.f1, .int .i64 y.f2, .string y.f3] Y1.out 0
          rw [setA_all (by rfl)] at h
          exact h
        have bz : Box (Rp.setN w1 (w.heap.size + 1) 0 [.string y.f0, .int .i64 y.f1, .int .i64 y.f2, .string y.f3]) w.heap.size #[.string ⟨#[]⟩, .int .i64 0, .int .i64 0, .string ⟨#[]⟩] 50 := Box.setN_other Y0.out _ _ _ (by omega)
        exact ⟨⟨k + 1, y, by omega, by omega, by go_num, HMK.out, fun q hq => by
          rw [HTK.out] at hq
          rcases List.mem_append.1 hq with hq | hq
          · have := HT.out q hq
            have := HGT.out
            omega
          · rw [List.mem_singleton.1 hq]
            exact Int.le_refl _, HB1.out.trans (hk2.toBelow HB1.out.size (by simp)), bz, bf⟩, by simp [intOf]; omega⟩
      case neg =>
        have hcm : cmpZ y.f1 z.f1 = -1 ∨ cmpZ y.f1 z.f1 = 0 := by by_cases h : y.f1 < z.f1; exact .inl (by rw [cmpZ, if_pos h]); exact .inr (by rw [cmpZ, if_neg h, if_neg (by omega)])
        have HGT := Lib.hid hgt; clear hgt
        rcases hcm with hcm | hcm
        all_goals
          rw [hcm] at c_m
          clear hcm
          go_wp2
          refine wp_region_quiet_below (by kernel_rfl) (by kernel_rfl) ?_
          repeat (go_big_quiet_step (with_reducible exact Calls.regrown_of (c_m _)))
          refine wpQuiet_nil ?_
          rintro w1 ⟨p, rfl⟩
          have HB1 := Lib.hid (HB.out.trans ((below_regrown wr p.d p.os).mono HB.out.size))
          have Y0 := Lib.hid (X0.out.below (below_regrown wr p.d p.os))
          have Y1 := Lib.hid (X1.out.below (below_regrown wr p.d p.os))
          clear X0 X1 r0 r1 r2 r3 a0 a1 a2 a3 t0 t1 t2 t3 c_m
          generalize grow (redrawn wr p.d) p.os = w1 at *
          go_wp2
          exact ⟨⟨k + 1, z, by omega, by omega, by go_num, HM.out, fun q hq => by
            rw [HTK.out] at hq
            rcases List.mem_append.1 hq with hq | hq
            · exact HT.out q hq
            · rw [List.mem_singleton.1 hq]
              have := HGT.out
              omega, HB1.out, Y0.out, Y1.out⟩, by simp [intOf]; omega⟩
set_option maxHeartbeats 4000000 in
set_option maxRecDepth 100000 in
theorem newest_calls {xs : List S50} {A : Option Addr} {c : Nat} {w : World} (g : kIt.S w xs (.slice A xs.length c)) (hl : xs.length ≤ 1000000) : Calls Try.prog 22 #[.slice A xs.length c] w
    fun e w' => ∃ r : Int, e = .returned (.int .i64 r) ∧ newIs xs r ∧ Below w.heap.size w w' := by
  have G := Lib.hid g; clear g
  go_enter Try.func22, Try.ntmps22
  by_cases h0 : xs.length = 0
  case pos =>
    have h1 : (xs.length : Int) = 0 := by omega
    go_wp2
    go_ret
    exact ⟨0, rfl, .inl ⟨List.length_eq_zero_iff.1 h0, rfl⟩, Below.refl _ _⟩
  case neg =>
    have h1 : ¬ (xs.length : Int) = 0 := by omega
    go_wp2_with fail
    (with_reducible refine (max_calls G.out hl (by omega)).mono ?_)
    rintro e w1 ⟨z, rfl, hz, ha, hb⟩
    have HZ := Lib.hid hz; have HA := Lib.hid ha; have HB := Lib.hid hb
    clear hz ha hb
    have hfl : Sem.run Try.prog (Instr.field 50 (.agg #[.string z.f0, .int .i64 z.f1, .int .i64 z.f2, .string z.f3]) 1) w1 = .ok (.int .i64 z.f1) w1 := rfl
    go_wp2
    go_ret
    exact ⟨z.f1, rfl, .inr ⟨z, HZ.out, rfl, HA.out⟩, HB.out⟩
set_option maxHeartbeats 4000000 in
set_option maxRecDepth 100000 in
theorem newOf_calls {xs : List S50} {A : Option Addr} {c : Nat} {w : World} (g : kIt.S w xs (.slice A xs.length c)) (hl : xs.length ≤ 1000000) (hok : okR xs = true) : Calls Try.prog 11 #[.agg #[.slice A xs.length c]] w
    fun e w' => ∃ r : Int, e = .returned (.tuple #[.int .i64 r, .bool true]) ∧ newIs xs r ∧ Below w.heap.size w w' := by
  have hb1 := (Below.refl w.heap.size w).alloc (Nat.le_refl _) (.cells #[.slice A xs.length c] 25)
  have BX := Lib.hid (show Box (w.alloc (.cells #[.slice A xs.length c] 25)) w.heap.size #[.slice A xs.length c] 25 from Box.new rfl)
  have G := Lib.hid (Rp.S_below g hb1); have HB := Lib.hid hb1
  clear g hb1
  go_enter Try.func11, Try.ntmps11
  go_upto_region 1 with fail
  generalize w.alloc (.cells #[.slice A xs.length c] 25) = w1 at *
  have c0 := BX.out.cell 0 (v := .slice A xs.length c) rfl
  have h_ := iOk_calls G.out hl
  rw [hok] at h_
  have HO := Lib.hid h_; clear h_
  go_wp2_with fail
  (with_reducible refine HO.out.mono ?_)
  rintro e w2 ⟨rfl, hb⟩
  have BX := Lib.hid (BX.out.below hb); have G := Lib.hid (Rp.S_below G.out hb); have HB := Lib.hid (HB.out.trans (hb.mono HB.out.size))
  clear c0 hb HO
  have c0 := BX.out.cell 0 (v := .slice A xs.length c) rfl
  go_wp2_with fail
  (with_reducible refine (newest_calls G.out hl).mono ?_)
  rintro e w3 ⟨r, rfl, hr, hb⟩
  have HB := Lib.hid (HB.out.trans (hb.mono HB.out.size)); have HR := Lib.hid hr
  clear c0 hb hr
  go_wp2
  go_ret2
  exact ⟨r, rfl, HR.out, HB.out⟩
end Go.Proofs.Ythfhhfnimffpdaa
