/- What logs have in common: the plain law, and spec.l12Common walked. -/
import Derived.Test.YthnjcolbdoaabaaHiB
import Derived.Test.YthnjcolbdoaabaaMkE
import Derived.Test.YthnjcolbdoaabaaMade
namespace Go.Proofs.Ythnjcolbdoaabaa
open Go Go.RowKit Go.Sort
set_option linter.unusedVariables false
set_option linter.unusedSimpArgs false

instance : DecidableEq DEntry := fun a b => match a, b with
  | ⟨t1, d1⟩, ⟨t2, d2⟩ => decidable_of_iff (t1 = t2 ∧ d1 = d2) (by simp)
def lcpN : List DEntry → List DEntry → Nat
  | x :: xs, y :: ys => if x = y then lcpN xs ys + 1 else 0
  | _, _ => 0
theorem lcpN_left : ∀ a b : List DEntry, lcpN a b ≤ a.length
  | [], _ => by simp [lcpN]
  | _ :: _, [] => by simp [lcpN]
  | x :: xs, y :: ys => by
    rw [lcpN]
    have := lcpN_left xs ys
    split <;> simp <;> omega
theorem lcpN_right : ∀ a b : List DEntry, lcpN a b ≤ b.length
  | [], _ => by simp [lcpN]
  | _ :: _, [] => by simp [lcpN]
  | x :: xs, y :: ys => by
    rw [lcpN]
    have := lcpN_right xs ys
    split <;> simp <;> omega
theorem lcpN_yes : ∀ {a b : List DEntry} {k : Nat}, k ≤ lcpN a b → (ha : k < a.length) → (hb : k < b.length) → a[k] = b[k] → k + 1 ≤ lcpN a b
  | x :: xs, y :: ys, 0, _, _, _, h => by
    rw [lcpN, if_pos (by simpa using h)]; omega
  | x :: xs, y :: ys, k + 1, h, ha, hb, he => by
    rw [lcpN] at h ⊢
    split at h
    · rename_i hxy
      rw [if_pos hxy]
      have := lcpN_yes (a := xs) (b := ys) (k := k) (by omega) (by simpa using ha) (by simpa using hb) (by simpa using he)
      omega
    · omega
theorem lcpN_no : ∀ {a b : List DEntry} {k : Nat}, k ≤ lcpN a b → (ha : k < a.length) → (hb : k < b.length) → a[k] ≠ b[k] → lcpN a b = k
  | x :: xs, y :: ys, 0, _, _, _, h => by
    rw [lcpN, if_neg (by simpa using h)]
  | x :: xs, y :: ys, k + 1, h, ha, hb, he => by
    rw [lcpN] at h ⊢
    split at h
    · rename_i hxy
      rw [if_pos hxy]
      have := lcpN_no (a := xs) (b := ys) (k := k) (by omega) (by simpa using ha) (by simpa using hb) (by simpa using he)
      omega
    · omega
def lcp (a b : List DEntry) : List DEntry := a.take (lcpN a b)
theorem lcpN_self : ∀ a : List DEntry, lcpN a a = a.length
  | [] => rfl
  | x :: xs => by rw [lcpN, if_pos rfl, lcpN_self xs]; rfl
theorem lcp_self (a : List DEntry) : lcp a a = a := by rw [lcp, lcpN_self, List.take_length]
theorem lcp_len (a b : List DEntry) : (lcp a b).length ≤ a.length := by rw [lcp, List.length_take]; omega
theorem toL_inj {a b : ByteArray} (h : a.toList = b.toList) : a = b := by
  rw [ByteArray.toList_eq, ByteArray.toList_eq] at h
  cases a; cases b
  congr 1
  exact Array.ext' h
/-- The cells of element k of a slice that is read. -/
theorem entC {w : World} {A : Option Addr} {xs : List DEntry} (h : kEntry.C w A xs) (k : Nat) (hk : k < xs.length) : ∃ b o, A = some ⟨b, o, none⟩ ∧ w.cell? ⟨b, o + k * 2, none⟩ = some (.int .i64 xs[k].fTerm) ∧ w.cell? ⟨b, o + k * 2 + 1, none⟩ = some (.string xs[k].fData) := by
  obtain ⟨b, o, cs, rfl, k1, q1⟩ := Rp.C_get h k hk
  obtain rfl := kEntry_K k1
  refine ⟨b, o, rfl, ?_, ?_⟩
  · have := q1 0 _ rfl
    simpa [kEntry_sz] using this
  · have := q1 1 _ rfl
    simpa [kEntry_sz] using this
set_option maxHeartbeats 4000000 in
set_option maxRecDepth 100000 in
theorem common_calls (xs ys : List DEntry) (v0 v1 : Value) (w : World) (g0 : kEntry.S w xs v0) (g1 : kEntry.S w ys v1) (h0 : xs.length ≤ 1048576) (h1 : ys.length ≤ 1048576) : Calls Try.prog 109 #[v0, v1] w
    fun e w' => Below w.heap.size w w' ∧ ∃ v, e = .returned v ∧ kEntry.S w' (lcp xs ys) v := by
  have G0 := Lib.hid g0; have G1 := Lib.hid g1
  obtain ⟨A0, c0, rfl, z0, k0⟩ := g0
  obtain ⟨A1, c1, rfl, _, k1⟩ := g1
  have H0 := Lib.hid k0; have H1 := Lib.hid k1
  have hca := z0.1
  clear k0 k1 z0
  have hc0 : (xs.length : Int) ≤ 1048576 := by omega
  have hc1 : (ys.length : Int) ≤ 1048576 := by omega
  go_enter Try.func109, Try.ntmps109
  go_wp2
  go_loopw [5] (fun i wr => ∃ k : Nat, i = .int .i64 k ∧ Hid (k ≤ lcpN xs ys) ∧ Hid (Below w.heap.size w wr)) (fun i _ => xs.length - (intOf i).toNat)
  case atStart => exact ⟨0, rfl, Nat.zero_le _, Below.refl _ _⟩
  case round =>
    obtain ⟨k, rfl, HK, HB⟩ := hrel
    have hk0 := Nat.le_trans HK.out (lcpN_left xs ys)
    have hk1 := Nat.le_trans HK.out (lcpN_right xs ys)
    have hkc : k ≤ c0 := Nat.le_trans hk0 hca
    have H0 := Lib.hid (Rp.C_below HB.out.block H0.out)
    have H1 := Lib.hid (Rp.C_below HB.out.block H1.out)
    have i2 : (0 : Int) ≤ (k : Int) := by omega
    by_cases hlt0 : k < xs.length
    · have i3 : (k : Int) < (xs.length : Int) := by omega
      by_cases hlt1 : k < ys.length
      · obtain ⟨b0, o0, rfl, a00, a01⟩ := entC H0.out k hlt0
        obtain ⟨b1, o1, rfl, a10, a11⟩ := entC H1.out k hlt1
        have HY := Lib.hid (lcpN_yes HK.out hlt0 hlt1)
        have HN := Lib.hid (lcpN_no HK.out hlt0 hlt1)
        generalize hx : xs[k] = x at *
        generalize hy : ys[k] = y at *
        clear hx hy
        obtain ⟨t0, d0⟩ := x
        obtain ⟨t1, d1⟩ := y
        have i4 : (k : Int) < (ys.length : Int) := by omega
        dsimp only at a00 a01 a10 a11
        by_cases e1 : d0 = d1
        · subst e1
          by_cases e0 : t0 = t1
          · subst e0
            go_upto_region 2 with fail
            refine wp_region_still_lit (by kernel_rfl) (by kernel_rfl) ?_
            repeat still_step
            refine wpStill_nil ?_
            change Exit.then _ _ _ _ wr.drew
            have HB := Lib.hid (show Below w.heap.size w wr.drew from HB.out.drew)
            generalize wr.drew = wd at *
            clear a00 a01 a10 a11
            go_wp2
            exact ⟨⟨k + 1, by go_num, HY.out rfl, HB.out⟩, by simp [intOf]; omega⟩
          · have HX := Lib.hid (HN.out (by simp [e0]))
            go_upto_region 2 with fail
            refine wp_region_still_lit (by kernel_rfl) (by kernel_rfl) ?_
            repeat still_step
            refine wpStill_nil ?_
            change Exit.then _ _ _ _ wr.drew
            have HB := Lib.hid (show Below w.heap.size w wr.drew from HB.out.drew)
            generalize wr.drew = wd at *
            clear a00 a01 a10 a11
            go_wp2
            go_ret
            exact ⟨HB.out, _, rfl, by rw [lcp, HX.out]; exact (Rp.S_cut (Rp.S_below G0.out HB.out) 2 rfl 0 k (by omega) rfl (by first | exact .inl rfl | exact .inr ⟨by omega, rfl⟩ | exact .inl (by cases A0 <;> rfl)) (by first | rfl | omega))⟩
        · have e1' : ¬ d0.toList = d1.toList := fun h => e1 (toL_inj h)
          have HX := Lib.hid (HN.out (by simp [e1]))
          by_cases e0 : t0 = t1
          · subst e0
            go_upto_region 2 with fail
            refine wp_region_still_lit (by kernel_rfl) (by kernel_rfl) ?_
            repeat still_step
            refine wpStill_nil ?_
            change Exit.then _ _ _ _ wr.drew
            have HB := Lib.hid (show Below w.heap.size w wr.drew from HB.out.drew)
            generalize wr.drew = wd at *
            clear a00 a01 a10 a11
            go_wp2
            go_ret
            exact ⟨HB.out, _, rfl, by rw [lcp, HX.out]; exact (Rp.S_cut (Rp.S_below G0.out HB.out) 2 rfl 0 k (by omega) rfl (by first | exact .inl rfl | exact .inr ⟨by omega, rfl⟩ | exact .inl (by cases A0 <;> rfl)) (by first | rfl | omega))⟩
          · skip
            go_upto_region 2 with fail
            refine wp_region_still_lit (by kernel_rfl) (by kernel_rfl) ?_
            repeat still_step
            refine wpStill_nil ?_
            change Exit.then _ _ _ _ wr.drew
            have HB := Lib.hid (show Below w.heap.size w wr.drew from HB.out.drew)
            generalize wr.drew = wd at *
            clear a00 a01 a10 a11
            go_wp2
            go_ret
            exact ⟨HB.out, _, rfl, by rw [lcp, HX.out]; exact (Rp.S_cut (Rp.S_below G0.out HB.out) 2 rfl 0 k (by omega) rfl (by first | exact .inl rfl | exact .inr ⟨by omega, rfl⟩ | exact .inl (by cases A0 <;> rfl)) (by first | rfl | omega))⟩
      · have i4 : ¬ (k : Int) < (ys.length : Int) := by omega
        have HX := Lib.hid (show lcpN xs ys = k by have := HK.out; have := lcpN_right xs ys; omega)
        go_upto_region 2 with fail
        refine wp_region_quiet_below (by kernel_rfl) (by kernel_rfl) ?_
        repeat (go_big_quiet_step (fail))
        refine wpQuiet_nil ?_
        rintro w3_ ⟨p, rfl⟩
        have HB := Lib.hid (HB.out.trans ((below_regrown wr p.d p.os).mono HB.out.size))
        generalize grow (redrawn wr p.d) p.os = wd at *
        go_wp2
        go_ret
        exact ⟨HB.out, _, rfl, by rw [lcp, HX.out]; exact (Rp.S_cut (Rp.S_below G0.out HB.out) 2 rfl 0 k (by omega) rfl (by first | exact .inl rfl | exact .inr ⟨by omega, rfl⟩ | exact .inl (by cases A0 <;> rfl)) (by first | rfl | omega))⟩
    · have i3 : ¬ (k : Int) < (xs.length : Int) := by omega
      have HX := Lib.hid (show lcpN xs ys = k by have := HK.out; have := lcpN_left xs ys; omega)
      go_upto_region 2 with fail
      refine wp_region_quiet_below (by kernel_rfl) (by kernel_rfl) ?_
      repeat (go_big_quiet_step (fail))
      refine wpQuiet_nil ?_
      rintro w3_ ⟨p, rfl⟩
      have HB := Lib.hid (HB.out.trans ((below_regrown wr p.d p.os).mono HB.out.size))
      generalize grow (redrawn wr p.d) p.os = wd at *
      go_wp2
      go_ret
      exact ⟨HB.out, _, rfl, by rw [lcp, HX.out]; exact (Rp.S_cut (Rp.S_below G0.out HB.out) 2 rfl 0 k (by omega) rfl (by first | exact .inl rfl | exact .inr ⟨by omega, rfl⟩ | exact .inl (by cases A0 <;> rfl)) (by first | rfl | omega))⟩
end Go.Proofs.Ythnjcolbdoaabaa
