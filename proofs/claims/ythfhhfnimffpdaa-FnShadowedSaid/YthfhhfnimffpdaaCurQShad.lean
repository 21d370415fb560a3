/- Runs that are drawn: where an item is put. -/
import Derived.Test.YthfhhfnimffpdaaKSeShad
import Derived.Test.YthfhhfnimffpdaaCurK
namespace Go.Proofs.Ythfhhfnimffpdaa
open Go Go.RowKit Go.Sort Go.Proofs.YthfhhfnimffpdaaW.PrintWords Go.Proofs.YthfhhfnimffpdaaW.PrintLast Go.Proofs.YthfhhfnimffpdaaW.PrintMore Go.Proofs.Ythfhhfnimffpdaa.PFnShadowed
set_option linter.unusedVariables false
set_option linter.unusedSimpArgs false

set_option maxHeartbeats 4000000 in
set_option maxRecDepth 100000 in
theorem seek_e (x : S50) {xs : List S50} {A : Option Addr} {c : Nat} {w : World} (h : kIt.S w xs (.slice A xs.length c)) (hl : xs.length ≤ 1000) : Calls Try.prog 53 #[.slice A xs.length c, .agg #[.string x.f0, .int .i64 x.f1, .int .i64 x.f2, .string x.f3]] w
    fun e w' => ∃ k : Nat, e = .returned (.int .i64 (k : Int)) ∧ k ≤ xs.length ∧ Below w.heap.size w w' := by
  have y0 : Box (w.alloc (.cells #[.string x.f0, .int .i64 x.f1, .int .i64 x.f2, .string x.f3] 50)) w.heap.size #[.string x.f0, .int .i64 x.f1, .int .i64 x.f2, .string x.f3] 50 := Box.new rfl
  have hb1 := (Below.refl w.heap.size w).alloc (Nat.le_refl _) (.cells #[.string x.f0, .int .i64 x.f1, .int .i64 x.f2, .string x.f3] 50)
  have hz : w.heap.size + 1 ≤ (w.alloc (.cells #[.string x.f0, .int .i64 x.f1, .int .i64 x.f2, .string x.f3] 50)).heap.size := by simp
  obtain ⟨A', c', e, hcc, hC⟩ := h
  obtain ⟨rfl, _, rfl⟩ := Value.slice.inj e
  have HC := Lib.hid hC
  clear hC e hcc
  go_enter Try.func53, Try.ntmps53
  go_upto_region 1 with fail
  generalize w.alloc (.cells #[.string x.f0, .int .i64 x.f1, .int .i64 x.f2, .string x.f3] 50) = w1 at *
  have BX := Lib.hid y0; have HB := Lib.hid hb1
  clear y0 hb1
  go_wp2
  go_loopw [5, 6] (fun lo hi wr => ∃ a b : Nat, a ≤ b ∧ b ≤ xs.length ∧ lo = .int .i64 (a : Int) ∧ hi = .int .i64 (b : Int) ∧ Hid (Below w.heap.size w wr) ∧ Hid (Box wr w.heap.size #[.string x.f0, .int .i64 x.f1, .int .i64 x.f2, .string x.f3] 50) ∧ w.heap.size + 1 ≤ wr.heap.size) (fun lo hi _ => (intOf hi - intOf lo).toNat)
  case atStart => exact ⟨0, xs.length, Nat.zero_le _, Nat.le_refl _, rfl, rfl, HB.out, BX.out, hz⟩
  case round =>
    clear HB BX hz
    obtain ⟨a, b, hab, hb, rfl, rfl, HB, BX, hz⟩ := hrel
    by_cases hlt : a < b
    case pos =>
      have i1 : (a : Int) < (b : Int) := by omega
      obtain ⟨m, hm⟩ : ∃ m : Nat, (a + b) / 2 = m := ⟨_, rfl⟩
      have hm1 : a ≤ m := by omega
      have hm2 : m < b := by omega
      have i2 : ((a : Int) + (b : Int)) / 2 = (m : Int) := by omega
      have i3 : ((a : Int) + (b : Int)).tdiv 2 = (m : Int) := by rw [Int.tdiv_eq_ediv_of_nonneg (by omega)]; omega
      obtain ⟨g, o, rfl, d0, d1, d2, d3⟩ := it_at HC.out HB.out m (by omega)
      generalize xs[m] = y at *
      have r0 := regr (Below.refl _ _) (World.block_lt_of_cell? _ _ d0) d0; have r1 := regr (Below.refl _ _) (World.block_lt_of_cell? _ _ d1) d1; have r2 := regr (Below.refl _ _) (World.block_lt_of_cell? _ _ d2) d2; have r3 := regr (Below.refl _ _) (World.block_lt_of_cell? _ _ d3) d3
      have b0 := regr (Below.refl _ _) BX.out.lt (BX.out.cell 0 rfl); have b1 := regr (Below.refl _ _) BX.out.lt (BX.out.cell 1 rfl); have b2 := regr (Below.refl _ _) BX.out.lt (BX.out.cell 2 rfl); have b3 := regr (Below.refl _ _) BX.out.lt (BX.out.cell 3 rfl)
      have j1 : (0 : Int) ≤ (m : Int) := by omega
      have j2 : (m : Int) < (xs.length : Int) := by omega
      go_upto_region 5 with fail
      have c_h1 : ∀ W : World, Calls Try.prog 47 #[.agg #[.string y.f0, .int .i64 y.f1, .int .i64 y.f2, .string y.f3], .agg #[.string x.f0, .int .i64 x.f1, .int .i64 x.f2, .string x.f3]] W (fun e w' => e = .returned (.int .i64 (cmpI y x)) ∧ Below W.heap.size W w') := fun W => sCmp_calls y x W
      generalize cmpI y x = r at *
      refine wp_region_quiet_below (by kernel_rfl) (by kernel_rfl) ?_
      repeat (go_big_quiet_step (first | (with_reducible exact Calls.regrown_of (c_h1 _))))
      refine wpQuiet_nil ?_
      rintro w2 ⟨p, rfl⟩
      have hb2 := below_regrown wr p.d p.os
      have HB2 := Lib.hid (HB.out.trans (hb2.mono HB.out.size)); have BX2 := Lib.hid (BX.out.below hb2); have hz2 := Nat.le_trans hz hb2.size
      clear r0 r1 r2 r3 b0 b1 b2 b3 d0 d1 d2 d3 hb2 c_h1
      generalize grow (redrawn wr p.d) p.os = w2 at *
      by_cases hr : r < 0
      · go_wp2
        exact ⟨⟨m + 1, b, by omega, hb, by go_num, rfl, HB2.out, BX2.out, hz2⟩, by simp [intOf]; omega⟩
      · go_wp2
        exact ⟨⟨a, m, hm1, by omega, rfl, rfl, HB2.out, BX2.out, hz2⟩, by simp [intOf]; omega⟩
    case neg =>
      have i1 : ¬ (a : Int) < (b : Int) := by omega
      go_wp2
      go_ret
      exact ⟨a, rfl, by omega, HB.out⟩
set_option maxHeartbeats 4000000 in
set_option maxRecDepth 100000 in
theorem put_e (x : S50) {xs : List S50} {A : Option Addr} {c : Nat} {w : World} {F : List Nat} (h : kIt.Row 50 w F xs (.slice A xs.length c)) (hl : xs.length ≤ 1000) : Calls Try.prog 42 #[.slice A xs.length c, .agg #[.string x.f0, .int .i64 x.f1, .int .i64 x.f2, .string x.f3]] w
    fun e w' => ∃ (ys : List S50) (A2 : Option Addr) (c2 : Nat), e = .returned (.slice A2 ys.length c2) ∧ kIt.Row 50 w' (Rp.ofOwn (.slice A2 ys.length c2)) ys (.slice A2 ys.length c2) ∧ ys.length ≤ xs.length + 1 ∧ (∀ y ∈ ys, y ∈ xs ∨ y = x) ∧ (∀ b ∈ Rp.ofOwn (.slice A2 ys.length c2), b ∈ F ∨ w.heap.size ≤ b) ∧ Below w.heap.size w w' := by
  have hFe := Rp.Row_flat kIt_flat h
  subst hFe
  have y0 : Box (w.alloc (.cells #[.string x.f0, .int .i64 x.f1, .int .i64 x.f2, .string x.f3] 50)) w.heap.size #[.string x.f0, .int .i64 x.f1, .int .i64 x.f2, .string x.f3] 50 := Box.new rfl
  have hb1 := (Below.refl w.heap.size w).alloc (Nat.le_refl _) (.cells #[.string x.f0, .int .i64 x.f1, .int .i64 x.f2, .string x.f3] 50)
  have hz : w.heap.size + 1 ≤ (w.alloc (.cells #[.string x.f0, .int .i64 x.f1, .int .i64 x.f2, .string x.f3] 50)).heap.size := by simp
  have HLT := Lib.hid (Rp.Row_lt h)
  have HR := Lib.hid (Rp.Row_below h hb1)
  have SX := Lib.hid (Rp.Row_S HR.out)
  go_enter Try.func42, Try.ntmps42
  go_upto_region 1 with fail
  generalize w.alloc (.cells #[.string x.f0, .int .i64 x.f1, .int .i64 x.f2, .string x.f3] 50) = w1 at *
  have BX := Lib.hid y0; have HB := Lib.hid hb1
  clear y0 hb1 h
  have b0 := BX.out.cell 0 (v := .string x.f0) rfl; have b1 := BX.out.cell 1 (v := .int .i64 x.f1) rfl; have b2 := BX.out.cell 2 (v := .int .i64 x.f2) rfl; have b3 := BX.out.cell 3 (v := .string x.f3) rfl
  go_wp2_with fail
  (with_reducible refine (seek_e x SX.out hl).mono ?_)
  rintro e w2 ⟨k, rfl, hk, hb⟩
  have HR := Lib.hid (Rp.Row_below HR.out hb); have SX := Lib.hid (Rp.Row_S HR.out); have BX := Lib.hid (BX.out.below hb); have HB := Lib.hid (HB.out.trans (hb.mono HB.out.size)); have hz := Nat.le_trans hz hb.size
  clear b0 b1 b2 b3 hb
  go_upto_region 2 with fail
  go_cut [22] from 10 to 22 (fun s wx => ∃ r : Bool, s = .bool r ∧ Hid (kIt.Row 50 wx (Rp.ofOwn (.slice A xs.length c)) xs (.slice A xs.length c)) ∧ Hid (Box wx w.heap.size #[.string x.f0, .int .i64 x.f1, .int .i64 x.f2, .string x.f3] 50) ∧ Hid (Below w.heap.size w wx) ∧ w.heap.size + 1 ≤ wx.heap.size)
  case first =>
    have b0 := regr (Below.refl _ _) BX.out.lt (BX.out.cell 0 rfl); have b1 := regr (Below.refl _ _) BX.out.lt (BX.out.cell 1 rfl); have b2 := regr (Below.refl _ _) BX.out.lt (BX.out.cell 2 rfl); have b3 := regr (Below.refl _ _) BX.out.lt (BX.out.cell 3 rfl)
    by_cases hlt : k < xs.length
    case neg =>
      have i1 : ¬ (k : Int) < (xs.length : Int) := by omega
      refine wp_region_quiet_below (by kernel_rfl) (by kernel_rfl) ?_
      repeat (go_big_quiet_step (fail))
      refine wpQuiet_nil ?_
      rintro w3 ⟨p, rfl⟩
      have hb := below_regrown w2 p.d p.os
      generalize grow (redrawn w2 p.d) p.os = w3 at *
      go_wp2_with fail
      go_meet
      exact ⟨false, rfl, Rp.Row_below HR.out hb, BX.out.below hb, HB.out.trans (hb.mono HB.out.size), Nat.le_trans hz hb.size⟩
    case pos =>
      have i1 : (k : Int) < (xs.length : Int) := by omega
      have j1 : (0 : Int) ≤ (k : Int) := by omega
      obtain ⟨A_, c_, e_, _, hC⟩ := SX.out
      obtain ⟨rfl, _, rfl⟩ := Value.slice.inj e_
      obtain ⟨g, o, rfl, d0, d1, d2, d3⟩ := it_at hC (Below.refl _ _) k hlt
      clear hC e_
      generalize xs[k] = y at *
      have r0 := regr (Below.refl _ _) (World.block_lt_of_cell? _ _ d0) d0; have r1 := regr (Below.refl _ _) (World.block_lt_of_cell? _ _ d1) d1; have r2 := regr (Below.refl _ _) (World.block_lt_of_cell? _ _ d2) d2; have r3 := regr (Below.refl _ _) (World.block_lt_of_cell? _ _ d3) d3
      have c_h1 : ∀ W : World, Calls Try.prog 47 #[.agg #[.string y.f0, .int .i64 y.f1, .int .i64 y.f2, .string y.f3], .agg #[.string x.f0, .int .i64 x.f1, .int .i64 x.f2, .string x.f3]] W (fun e w' => e = .returned (.int .i64 (cmpI y x)) ∧ Below W.heap.size W w') := fun W => sCmp_calls y x W
      generalize cmpI y x = r at *
      refine wp_region_quiet_below (by kernel_rfl) (by kernel_rfl) ?_
      repeat (go_big_quiet_step (first | (with_reducible exact Calls.regrown_of (c_h1 _))))
      refine wpQuiet_nil ?_
      rintro w3 ⟨p, rfl⟩
      have hb := below_regrown w2 p.d p.os
      generalize grow (redrawn w2 p.d) p.os = w3 at *
      go_wp2_with fail
      go_meet
      exact ⟨_, rfl, Rp.Row_below HR.out hb, BX.out.below hb, HB.out.trans (hb.mono HB.out.size), Nat.le_trans hz hb.size⟩
  case rest =>
    clear HR SX BX HB hz
    obtain ⟨r, rfl, HR, BX, HB, hz⟩ := hcut
    have SX := Lib.hid (Rp.Row_S HR.out)
    cases r
    case true =>
      go_wp2
      go_ret
      exact ⟨xs, A, c, rfl, HR.out, by omega, fun y hy => .inl hy, fun b hb => .inl hb, HB.out⟩
    case false =>
      have i1 : (0 : Int) ≤ (k : Int) := by omega
      have i2 : (k : Int) ≤ (xs.length : Int) := by omega
      have hcap : xs.length ≤ c := by obtain ⟨A_, c_, e_, hc, _⟩ := SX.out; obtain ⟨_, _, rfl⟩ := Value.slice.inj e_; exact hc.1
      have i3 : (k : Int) ≤ (c : Int) := by omega
      go_upto_region 6 with (at_builtin; go_loud (refine wp_append (d := kIt) rfl _ _ 23 50 rfl Try.underlying23 infoIt rfl (by decide) rfl (by decide) kIt_flat (xs := []) (ys := xs.take k) rfl rfl (Rp.Row_nil _ _ _) (Rp.S_take SX.out k hk) (by simp; omega) ?_; intro va wa r1 r2 r3 r4; clear r4; obtain ⟨P1, C1, e1, _, _⟩ := Rp.Row_K r1; rw [show (([] : List S50) ++ xs.take k).length = k by simp; omega] at e1; subst e1; have R1 := Lib.hid (show kIt.Row 50 wa (Rp.ofOwn (.slice P1 k C1)) (xs.take k) (.slice P1 k C1) from r1); have T1 := Lib.hid (fun b hb => (by rcases r3 b hb with h | h; cases h; omega) : ∀ b ∈ Rp.ofOwn (.slice P1 k C1), w.heap.size + 1 ≤ b); have hk2 := r2.toBelow (B := wc.heap.size) (Nat.le_refl _) (by simp); have BX := Lib.hid (BX.out.below hk2); have HR := Lib.hid (Rp.Row_below HR.out hk2); have HB := Lib.hid (HB.out.trans (hk2.mono HB.out.size)); have hz := Nat.le_trans hz hk2.size; clear r1 r2 r3 hk2 SX))
      have b0 := BX.out.cell 0 (v := .string x.f0) rfl; have b1 := BX.out.cell 1 (v := .int .i64 x.f1) rfl; have b2 := BX.out.cell 2 (v := .int .i64 x.f2) rfl; have b3 := BX.out.cell 3 (v := .string x.f3) rfl
      go_upto_region 7 with (at_builtin; go_loud (refine wp_append (d := kIt) rfl _ _ 23 50 rfl Try.underlying23 infoIt rfl (by decide) rfl (by decide) kIt_flat (xs := xs.take k) (ys := [x]) rfl rfl (Rp.Row_below R1.out ((Below.refl _ _).alloc (Nat.le_refl _) _)) (Rp.S_one (Box.new (by simp)) rfl) (by simp; omega) ?_; intro va wa r1 r2 r3 r4; clear r4; obtain ⟨P2, C2, e1, _, _⟩ := Rp.Row_K r1; rw [show (xs.take k ++ [x] : List S50).length = k + 1 by simp; omega] at e1; subst e1; have hz1 := r2.size; simp at hz1; have HR := Lib.hid (Rp.Row_kept (Rp.Row_below HR.out ((Below.refl _ _).alloc (Nat.le_refl _) _)) r2 (fun b h hm => by have := HLT.out b h; have := T1.out b hm; omega)); have HB := Lib.hid ((HB.out.alloc HB.out.size _).trans (r2.toBelow (by have := HB.out.size; simp; omega) (fun b h => by have := T1.out b h; omega))); have R2 := Lib.hid r1; have T2 := Lib.hid (fun b h => (by rcases r3 b h with h | h; exact T1.out b h; simp at h; omega) : ∀ b ∈ Rp.ofOwn (.slice P2 (k + 1) C2), w.heap.size + 1 ≤ b); have HZ := Lib.hid hz; clear hz; have hz := Nat.le_trans HZ.out (Nat.le_of_lt (Nat.lt_of_succ_le hz1)); clear r1 r2 r3 hz1 R1 T1))
      have SX := Lib.hid (Rp.Row_S HR.out)
      clear BX HZ b0 b1 b2 b3
      by_cases hz2 : c = k
      case pos =>
        obtain rfl := hz2.symm
        have hlk : xs.length = k := by omega
        have SC := Lib.hid (by have h := Rp.S_cut SX.out 4 rfl k (xs.length - k) (by omega) rfl (.inr ⟨rfl, rfl⟩) rfl; rw [List.take_of_length_le (by simp), show xs.length - k = 0 by omega, show k - k = 0 by omega] at h; exact h)
        have h00 : xs.length - k = 0 := by omega
        have HLK := Lib.hid hlk; clear hlk
        go_wp2_with (at_builtin; go_loud (refine wp_append (d := kIt) rfl _ _ 23 50 rfl Try.underlying23 infoIt rfl (by decide) rfl (by decide) kIt_flat (xs := xs.take k ++ [x]) (ys := xs.drop k) rfl rfl R2.out SC.out (by simp; omega) ?_; intro va wa r1 r2 r3 r4; clear r4; obtain ⟨P3, C3, e1, _, _⟩ := Rp.Row_K r1; rw [show (xs.take k ++ [x] ++ xs.drop k : List S50).length = xs.length + 1 by simp; omega] at e1; subst e1; have R3 := Lib.hid r1; have T3 := Lib.hid (fun b h => (by rcases r3 b h with h | h; exact T2.out b h; omega) : ∀ b ∈ Rp.ofOwn (.slice P3 (xs.length + 1) C3), w.heap.size + 1 ≤ b); have HB := Lib.hid (HB.out.trans (r2.toBelow HB.out.size (fun b h => by have := T2.out b h; omega))); clear r1 r2 r3))
        go_ret
        exact ⟨xs.take k ++ [x] ++ xs.drop k, P3, C3, by rw [show (xs.take k ++ [x] ++ xs.drop k : List S50).length = xs.length + 1 by simp; omega]; rfl, by rw [show (xs.take k ++ [x] ++ xs.drop k : List S50).length = xs.length + 1 by simp; omega]; exact R3.out, by simp; omega, fun y hy => by simp only [List.mem_append, List.mem_singleton] at hy; rcases hy with (hy | hy) | hy; exact .inl (List.mem_of_mem_take hy); exact .inr hy; exact .inl (List.mem_of_mem_drop hy), fun b hb => .inr (by rw [show (xs.take k ++ [x] ++ xs.drop k : List S50).length = xs.length + 1 by simp; omega] at hb; have := T3.out b hb; omega), HB.out⟩
      case neg =>
        have SC := Lib.hid (by have h := Rp.S_cut SX.out 4 rfl k (xs.length - k) (by omega) rfl (.inl rfl) rfl; rw [List.take_of_length_le (by simp)] at h; exact h)
        go_wp2_with (at_builtin; go_loud (refine wp_append (d := kIt) rfl _ _ 23 50 rfl Try.underlying23 infoIt rfl (by decide) rfl (by decide) kIt_flat (xs := xs.take k ++ [x]) (ys := xs.drop k) rfl rfl R2.out SC.out (by simp; omega) ?_; intro va wa r1 r2 r3 r4; clear r4; obtain ⟨P3, C3, e1, _, _⟩ := Rp.Row_K r1; rw [show (xs.take k ++ [x] ++ xs.drop k : List S50).length = xs.length + 1 by simp; omega] at e1; subst e1; have R3 := Lib.hid r1; have T3 := Lib.hid (fun b h => (by rcases r3 b h with h | h; exact T2.out b h; omega) : ∀ b ∈ Rp.ofOwn (.slice P3 (xs.length + 1) C3), w.heap.size + 1 ≤ b); have HB := Lib.hid (HB.out.trans (r2.toBelow HB.out.size (fun b h => by have := T2.out b h; omega))); clear r1 r2 r3))
        go_ret
        exact ⟨xs.take k ++ [x] ++ xs.drop k, P3, C3, by rw [show (xs.take k ++ [x] ++ xs.drop k : List S50).length = xs.length + 1 by simp; omega]; rfl, by rw [show (xs.take k ++ [x] ++ xs.drop k : List S50).length = xs.length + 1 by simp; omega]; exact R3.out, by simp; omega, fun y hy => by simp only [List.mem_append, List.mem_singleton] at hy; rcases hy with (hy | hy) | hy; exact .inl (List.mem_of_mem_take hy); exact .inr hy; exact .inl (List.mem_of_mem_drop hy), fun b hb => .inr (by rw [show (xs.take k ++ [x] ++ xs.drop k : List S50).length = xs.length + 1 by simp; omega] at hb; have := T3.out b hb; omega), HB.out⟩
end Go.Proofs.Ythfhhfnimffpdaa
