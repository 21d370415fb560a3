/- Drawn runs. -/
import Derived.Test.YthfhhfnimffpdaaCurQShad
namespace Go.Proofs.Ythfhhfnimffpdaa
open Go Go.RowKit Go.Sort Go.Proofs.YthfhhfnimffpdaaW.PrintWords Go.Proofs.YthfhhfnimffpdaaW.PrintLast Go.Proofs.YthfhhfnimffpdaaW.PrintMore Go.Proofs.Ythfhhfnimffpdaa.PFnShadowed
set_option linter.unusedVariables false
set_option linter.unusedSimpArgs false

set_option maxHeartbeats 4000000 in
set_option maxRecDepth 100000 in
theorem run_calls (n : Nat) {w : World} {b : Nat} {bs : List Int} {A : Option Addr} {c top : Nat} (h : Cur w b bs A c top) (hn : n ≤ 400) (ht : top + 60 * n ≤ 1000000) (hb : b < w.heap.size) (hA : bs ≠ [] → ∀ a, A = some a → a.block < w.heap.size) : Calls Try.prog 23 #[.pointer (some ⟨b, 0, none⟩), .int .i64 (n : Int)] w
    fun e w' => ∃ (xs : List S50) (A2 : Option Addr) (c2 : Nat), e = .returned (.slice A2 xs.length c2) ∧ kIt.Row 50 w' (Rp.ofOwn (.slice A2 xs.length c2)) xs (.slice A2 xs.length c2) ∧ xs.length ≤ n ∧ (∀ y ∈ xs, goodI y = true) ∧ (∀ b' ∈ Rp.ofOwn (.slice A2 xs.length c2), w.heap.size ≤ b') ∧ KeptF [b] w w' ∧ Cur w' b bs A c (top + 60 * n) := by
  have H := Lib.hid h; have HA := Lib.hid hA
  clear h hA
  go_enter Try.func23, Try.ntmps23
  go_wp2
  go_loopw [1, 5] (fun i l wr => ∃ (k : Nat) (xs : List S50) (A2 : Option Addr) (c2 : Nat), xs.length + k ≤ n ∧ i = .int .i64 (k : Int) ∧ l = .slice A2 xs.length c2 ∧ Hid (kIt.Row 50 wr (Rp.ofOwn (.slice A2 xs.length c2)) xs (.slice A2 xs.length c2)) ∧ Hid (∀ y ∈ xs, goodI y = true) ∧ Hid (∀ b' ∈ Rp.ofOwn (.slice A2 xs.length c2), w.heap.size ≤ b') ∧ Hid (KeptF [b] w wr) ∧ Hid (Cur wr b bs A c (top + 60 * (n - k)))) (fun i _ _ => (intOf i).toNat)
  case atStart => exact ⟨n, [], none, 0, by simp, rfl, rfl, Rp.Row_nil _ _ _, by simp [Hid], by simp [Hid, Rp.ofOwn, Value.ownBlock], KeptF.refl _ _, H.out.mono (by omega)⟩
  case round =>
    clear H
    obtain ⟨k, xs, A2, c2, hk, rfl, rfl, HR, HG, HF, HK, H⟩ := hrel
    have hwr := HK.out.size
    rcases k with _ | m
    case zero =>
      have i1 : ¬ ((0 : Nat) : Int) > 0 := by omega
      go_wp2
      go_ret
      exact ⟨xs, A2, c2, rfl, HR.out, by omega, HG.out, HF.out, HK.out, H.out.mono (by omega)⟩
    case succ =>
      have i1 : (0 : Int) < ((m + 1 : Nat) : Int) := by omega
      have i2 : ((m + 1 : Nat) : Int) - 1 = (m : Int) := by omega
      go_wp2_with fail
      (with_reducible refine (item_calls H.out (by omega) (by omega) (fun he a ha => by have := HA.out he a ha; omega)).mono ?_)
      rintro e w2 ⟨ks, sq, kd, vs, rfl, -, -, -, -, hk2, h'⟩
      have hsz2 := hk2.size
      have HR := Lib.hid (Rp.Row_kept HR.out hk2 (fun x hx hm => by have := HF.out x hx; simp at hm; omega))
      have HK := Lib.hid (HK.out.trans hk2)
      have hb5 := (Below.refl w2.heap.size w2).alloc (Nat.le_refl _) (.cells #[.string ks, .int .i64 sq, .int .i64 kd, .string vs] 50)
      have HR := Lib.hid (Rp.Row_below HR.out hb5); have HK := Lib.hid (HK.out.below hb5); have H := Lib.hid ((h'.mono (show _ ≤ top + 60 * (n - m) by omega)).below hb5)
      have BX := Lib.hid (show Box (w2.alloc (.cells #[.string ks, .int .i64 sq, .int .i64 kd, .string vs] 50)) w2.heap.size #[.string ks, .int .i64 sq, .int .i64 kd, .string vs] 50 from Box.new rfl)
      have hsz3 : w2.heap.size + 1 ≤ (w2.alloc (.cells #[.string ks, .int .i64 sq, .int .i64 kd, .string vs] 50)).heap.size := by simp
      clear hk2 h' hb5
      go_upto_region 5 with fail
      generalize w2.alloc (.cells #[.string ks, .int .i64 sq, .int .i64 kd, .string vs] 50) = w3 at *
      have d0 := BX.out.cell 0 (v := .string ks) rfl; have d1 := BX.out.cell 1 (v := .int .i64 sq) rfl; have d2 := BX.out.cell 2 (v := .int .i64 kd) rfl; have d3 := BX.out.cell 3 (v := .string vs) rfl
      go_wp2_with fail
      (with_reducible refine (show Calls Try.prog 41 #[.agg #[.string ks, .int .i64 sq, .int .i64 kd, .string vs]] w3 _ from sGood_calls ⟨ks, sq, kd, vs⟩ w3).mono ?_)
      rintro e w4 ⟨rfl, hb4⟩
      have HR := Lib.hid (Rp.Row_below HR.out hb4); have HK := Lib.hid (HK.out.below hb4); have H := Lib.hid (H.out.below hb4); have BX := Lib.hid (BX.out.below hb4); have hsz4 := hb4.size
      clear d0 d1 d2 d3 hb4
      cases hg : goodI ⟨ks, sq, kd, vs⟩
      case false =>
        go_wp2
        exact ⟨⟨m, xs, A2, c2, by omega, by go_num, rfl, HR.out, HG.out, HF.out, HK.out, H.out⟩, by simp [intOf]⟩
      case true =>
        have d0 := BX.out.cell 0 (v := .string ks) rfl; have d1 := BX.out.cell 1 (v := .int .i64 sq) rfl; have d2 := BX.out.cell 2 (v := .int .i64 kd) rfl; have d3 := BX.out.cell 3 (v := .string vs) rfl
        go_wp2_with fail
        (with_reducible refine (show Calls Try.prog 42 #[.slice A2 xs.length c2, .agg #[.string ks, .int .i64 sq, .int .i64 kd, .string vs]] w4 _ from put_e ⟨ks, sq, kd, vs⟩ HR.out (by omega)).mono ?_)
        rintro e w5 ⟨ys, A3, c3, rfl, hr, hl, hm, hf, hb5⟩
        have HR := Lib.hid hr; have HL := Lib.hid hl
        have HG := Lib.hid (fun y hy => (hm y hy).elim (HG.out y) (fun e => by rw [e]; exact hg) : ∀ y ∈ ys, goodI y = true)
        have HF := Lib.hid (fun x hx => (hf x hx).elim (HF.out x) (fun h => by omega) : ∀ b' ∈ Rp.ofOwn (.slice A3 ys.length c3), w.heap.size ≤ b')
        have HK := Lib.hid (HK.out.below hb5); have H := Lib.hid (H.out.below hb5)
        clear hr hm hf hb5 d0 d1 d2 d3 hl
        go_wp2
        exact ⟨⟨m, ys, A3, c3, by have := HL.out; omega, by go_num, rfl, HR.out, HG.out, HF.out, HK.out, H.out⟩, by simp [intOf]⟩
set_option maxHeartbeats 4000000 in
set_option maxRecDepth 100000 in
theorem oneRun_calls {w : World} {b : Nat} {bs : List Int} {A : Option Addr} {c top : Nat} (h : Cur w b bs A c top) (ht : top ≤ 100000) (hb : b < w.heap.size) (hA : bs ≠ [] → ∀ a, A = some a → a.block < w.heap.size) : Calls Try.prog 12 #[.pointer (some ⟨b, 0, none⟩)] w
    fun e w' => ∃ (xs : List S50) (A2 : Option Addr) (c2 : Nat), e = .returned (.agg #[.slice A2 xs.length c2]) ∧ kIt.Row 50 w' (Rp.ofOwn (.slice A2 xs.length c2)) xs (.slice A2 xs.length c2) ∧ xs.length ≤ 13 ∧ (∀ y ∈ xs, goodI y = true) ∧ (∀ b' ∈ Rp.ofOwn (.slice A2 xs.length c2), w.heap.size ≤ b') ∧ KeptF [b] w w' ∧ Cur w' b bs A c (top + 1000) := by
  have H := Lib.hid h; have HA := Lib.hid hA
  clear h hA
  have y0 : Box (w.alloc (.cells #[.slice none 0 0] 25)) w.heap.size #[.slice none 0 0] 25 := Box.new rfl
  have hb1 := (Below.refl w.heap.size w).alloc (Nat.le_refl _) (.cells #[.slice none 0 0] 25)
  have hz : w.heap.size + 1 ≤ (w.alloc (.cells #[.slice none 0 0] 25)).heap.size := by simp
  have H := Lib.hid (H.out.below hb1); have HK := Lib.hid (show KeptF [b] w _ from KeptF.of_below hb1); have BX := Lib.hid y0
  clear y0 hb1
  go_enter Try.func12, Try.ntmps12
  go_upto_region 1 with fail
  generalize w.alloc (.cells #[.slice none 0 0] 25) = w1 at *
  go_wp2_with fail
  (with_reducible refine (pick_calls 14 H.out (by omega)).mono ?_)
  rintro e w2 ⟨r, rfl, r0, r1, hk, h'⟩
  obtain ⟨n, rfl⟩ : ∃ n : Nat, r = (n : Int) := ⟨r.toNat, by omega⟩
  have hn : n ≤ 13 := by omega
  clear r0 r1
  have BX := Lib.hid (BX.out.kept hk (by simp; omega)); have HK := Lib.hid (HK.out.trans hk); have hz := Nat.le_trans hz hk.size; have H := Lib.hid h'
  clear hk h'
  go_wp2_with fail
  (with_reducible refine (run_calls n H.out (by omega) (by omega) (by omega) (fun he a ha => by have := HA.out he a ha; omega)).mono ?_)
  rintro e w3 ⟨xs, A2, c2, rfl, hr, hl, hg, hf, hk, h'⟩
  have BX := Lib.hid (BX.out.kept hk (by simp; omega)); have HK := Lib.hid (HK.out.trans hk); have H := Lib.hid (h'.mono (show _ ≤ top + 900 by omega)); have HR := Lib.hid hr; have HG := Lib.hid hg; have HF := Lib.hid (fun x hx => Nat.le_trans hz (hf x hx) : ∀ b' ∈ Rp.ofOwn (.slice A2 xs.length c2), w.heap.size + 1 ≤ b'); have hz := Nat.le_trans hz hk.size
  clear hk h' hr hg hf
  have hl2 : xs.length ≤ 13 := by omega
  go_upto_region 3 with fail
  go_cut [16] from 10 to 16 (fun s wx => ∃ q : Bool, s = .bool q ∧ (q = true → 1 < xs.length) ∧ Hid (Box wx w.heap.size #[.slice none 0 0] 25) ∧ Hid (KeptF [b] w wx) ∧ Hid (Cur wx b bs A c (top + 902)) ∧ Hid (kIt.Row 50 wx (Rp.ofOwn (.slice A2 xs.length c2)) xs (.slice A2 xs.length c2)) ∧ w.heap.size + 1 ≤ wx.heap.size)
  case first =>
    by_cases hlen : 1 < xs.length
    case neg =>
      have i1 : ¬ (1 : Int) < (xs.length : Int) := by omega
      go_wp2_with fail
      go_meet
      exact ⟨false, rfl, by simp, BX.out, HK.out, H.out.mono (by omega), HR.out, hz⟩
    case pos =>
      have i1 : (1 : Int) < (xs.length : Int) := by omega
      go_wp2_with fail
      (with_reducible refine (one_calls 40 H.out (by omega)).mono ?_)
      rintro e wq ⟨q, rfl, hk, h'⟩
      have BX := Lib.hid (BX.out.kept hk (by simp; omega)); have HK := Lib.hid (HK.out.trans hk); have H := Lib.hid h'; have HR := Lib.hid (Rp.Row_kept HR.out hk (fun x hx hm => by have := HF.out x hx; simp at hm; omega)); have hz := Nat.le_trans hz hk.size
      clear hk h'
      go_wp2_with fail
      go_meet
      exact ⟨q, rfl, fun _ => hlen, BX.out, HK.out, H.out.mono (by omega), HR.out, hz⟩
  case rest =>
    clear BX HK H HR hz
    obtain ⟨q, rfl, hq, BX, HK, H, HR, hz⟩ := hcut
    go_upto_if 16 with fail
    go_cut [] from 17 to 21 (fun wx => ∃ ys : List S50, ys.length = xs.length ∧ Hid (∀ y ∈ ys, goodI y = true) ∧ Hid (Box wx w.heap.size #[.slice none 0 0] 25) ∧ Hid (KeptF [b] w wx) ∧ Hid (Cur wx b bs A c (top + 902)) ∧ Hid (kIt.Row 50 wx (Rp.ofOwn (.slice A2 xs.length c2)) ys (.slice A2 xs.length c2)) ∧ w.heap.size + 1 ≤ wx.heap.size)
    case first =>
      cases q
      case false =>
        go_wp2_with fail
        go_meet
        exact ⟨xs, rfl, HG.out, BX.out, HK.out, H.out, HR.out, hz⟩
      case true =>
        have hlen := hq rfl
        obtain ⟨A_, c_, e_, _, hC⟩ := Rp.Row_K HR.out
        obtain ⟨rfl, _, rfl⟩ := Value.slice.inj e_
        obtain ⟨g, o, rfl, d0, d1, d2, d3⟩ := it_at hC (Below.refl _ _) 0 (by omega)
        obtain ⟨g', o', eA, u0, u1, u2, u3⟩ := it_at hC (Below.refl _ _) 1 (by omega)
        simp only [Option.some.injEq, Addr.mk.injEq, and_true] at eA
        obtain ⟨rfl, rfl⟩ := eA
        have ho : o = 0 := by
          obtain ⟨inner, Fs, ho, _, _⟩ := HR.out
          rcases ho.2 with ⟨h1, _⟩ | ⟨g2, cap, cur, h1, _⟩
          · cases h1
          · simp only [Value.slice.injEq, Option.some.injEq, Addr.mk.injEq] at h1
            exact h1.1.2.1
        subst ho
        have hgw : w.heap.size + 1 ≤ g := HF.out g (by simp [Rp.ofOwn, Value.ownBlock])
        have hm0 : goodI xs[0] = true := HG.out _ (List.getElem_mem _)
        have HM0 := Lib.hid hm0
        obtain ⟨F', q1, q2, q3, q4⟩ := Rp.Row_put HR.out (by simp [Rp.ofOwn, Value.ownBlock]) 1 hlen xs[0] [.string xs[0].f0, .int .i64 xs[0].f1, .int .i64 xs[0].f2, .string xs[0].f3] [] ⟨rfl, rfl⟩ (by simp) (by simp)
        have hFF := Rp.Row_flat kIt_flat q1
        subst hFF
        have HR2 := Lib.hid q1
        have i1 : (1 : Int) < (xs.length : Int) := by omega
        have i0 : (0 : Int) < (xs.length : Int) := by omega
        have fz : ∀ j, wc.frozen? ⟨g, j, none⟩ = false := by
          obtain ⟨inner, Fs, ho, _, _⟩ := HR.out
          rcases ho.2 with ⟨h1, _⟩ | ⟨g2, cap, cur, h1, _, hh, _⟩
          · cases h1
          · simp only [Value.slice.injEq, Option.some.injEq, Addr.mk.injEq] at h1
            obtain ⟨⟨rfl, _⟩, _⟩ := h1
            exact fun j => by simp [World.frozen?, hh]
        have HX0 := Lib.hid (rfl : xs[0] = xs[0])
        clear q1 q2 q3 q4 hC e_ hm0
        simp only [Nat.zero_mul, Nat.zero_add, Nat.one_mul] at d0 d1 d2 d3 u0 u1 u2 u3
        generalize hx0 : xs[0] = y0 at *
        generalize xs[1] = y1 at *
        go_wp2_with fail
        change Met _ _ (Rp.setN wc g 4 [.string y0.f0, .int .i64 y0.f1, .int .i64 y0.f2, .string y0.f3])
        have hk : KeptF [g] wc (Rp.setN wc g 4 [.string y0.f0, .int .i64 y0.f1, .int .i64 y0.f2, .string y0.f3]) := Rp.setN_kept (by simp) _ _ _ (KeptF.refl _ _)
        go_meet
        exact ⟨xs.set 1 y0, by simp, fun y hy => (List.mem_or_eq_of_mem_set hy).elim (HG.out y) (fun e => by rw [e]; exact HM0.out), BX.out.kept hk (by simp; omega), KeptF.newer HK.out (by omega) hk, H.out.kept hk (by simp; omega) (fun he a ha => by have := HA.out he a ha; simp; omega), HR2.out, Nat.le_trans hz hk.size⟩
    case rest =>
      clear BX HK H HR hz HG
      obtain ⟨ys, hyl, HG, BX, HK, H, HR, hz⟩ := hcut
      rename World => wd
      have c0 := BX.out.cell 0 (v := .slice none 0 0) rfl
      have f0 := BX.out.fro
      go_wp2
      have hk : KeptF [w.heap.size] wd (wd.setCell ⟨w.heap.size, 0, none⟩ (.slice A2 xs.length c2)) := kept_set _ _ _ _
      have bf := BX.out.set 0 (.slice A2 xs.length c2)
      have HR := Lib.hid (Row_ne HR.out hk (fun h => by have := HF.out _ h; omega))
      have H := Lib.hid (H.out.kept hk (by simp; omega) (fun he a ha => by have := HA.out he a ha; simp; omega))
      have HK := Lib.hid (KeptF.newer HK.out (Nat.le_refl _) hk)
      clear c0 f0 hk
      generalize wd.setCell ⟨w.heap.size, 0, none⟩ (.slice A2 xs.length c2) = wf at *
      have d0 := bf.cell 0 (v := .slice A2 xs.length c2) rfl
      refine bodyPost_ret (v := .agg #[.slice A2 xs.length c2]) (by simp [results, Try.results12, go_sem, d0]) rfl ⟨ys, A2, c2, by rw [hyl], by rw [hyl]; exact HR.out, by omega, HG.out, fun x hx => by rw [hyl] at hx; have := HF.out x hx; omega, HK.out, H.out.mono (by omega)⟩
end Go.Proofs.Ythfhhfnimffpdaa
