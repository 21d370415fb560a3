/- Drawn arguments of the law FnShadowed. -/
import Derived.Test.YthfhhfnimffpdaaCurRShad
namespace Go.Proofs.Ythfhhfnimffpdaa
open Go Go.RowKit Go.Sort Go.Proofs.YthfhhfnimffpdaaW.PrintWords Go.Proofs.YthfhhfnimffpdaaW.PrintLast Go.Proofs.YthfhhfnimffpdaaW.PrintMore Go.Proofs.Ythfhhfnimffpdaa.PFnShadowed
set_option linter.unusedVariables false
set_option linter.unusedSimpArgs false

set_option maxHeartbeats 4000000 in
set_option maxRecDepth 100000 in
theorem code_in {w : World} {bs : List Int} {A : Option Addr} {n c : Nat} (h : kByte.S w bs (.slice A n c)) : bs ≠ [] → ∀ a, A = some a → a.block < w.heap.size := by
  intro he a ha
  obtain ⟨A_, c_, e_, _, hC⟩ := h
  obtain ⟨rfl, _, rfl⟩ := Value.slice.inj e_
  obtain ⟨g, o, cs, rfl, k1, q1⟩ := Rp.C_get hC 0 (List.length_pos_iff.2 he)
  obtain rfl : cs = [.int .u8 (bs[0]'(List.length_pos_iff.2 he))] := k1
  have := World.block_lt_of_cell? w _ (q1 0 _ rfl)
  obtain rfl := Option.some.inj ha
  exact this
set_option maxHeartbeats 4000000 in
set_option maxRecDepth 100000 in
theorem DrawDropShadowed_calls {w : World} {bs : List Int} {A : Option Addr} {c : Nat} (h : kByte.S w bs (.slice A bs.length c)) (hby : ∀ x ∈ bs, 0 ≤ x ∧ x ≤ 255) (hln : bs.length ≤ 1048576) : Calls Try.prog 4 #[.slice A bs.length c] w
    fun e w' => ∃ (xs : List S50) (A2 : Option Addr) (c2 : Nat) (a : Int) (q : Bool), e = .returned (.tuple #[.agg #[.slice A2 xs.length c2], .int .i64 a, .bool q]) ∧ kIt.S w' xs (.slice A2 xs.length c2) ∧ xs.length ≤ 13 ∧ (∀ y ∈ xs, goodI y = true) ∧ 0 ≤ a ∧ a ≤ 23 ∧ Below w.heap.size w w' := by
  have hA := code_in h
  have y0 : Box ((w.alloc (.cells #[.slice none 0 0] 25)).alloc (.cells #[.slice A bs.length c, .int .i64 0, .int .u64 0] 43)) w.heap.size #[.slice none 0 0] 25 := Box.alloc (Box.new rfl)
  have y1 : Box ((w.alloc (.cells #[.slice none 0 0] 25)).alloc (.cells #[.slice A bs.length c, .int .i64 0, .int .u64 0] 43)) (w.heap.size + 1) #[.slice A bs.length c, .int .i64 0, .int .u64 0] 43 := Box.new (by simp)
  have hb1 : Below w.heap.size w ((w.alloc (.cells #[.slice none 0 0] 25)).alloc (.cells #[.slice A bs.length c, .int .i64 0, .int .u64 0] 43)) := Below.alloc (Below.alloc (Below.refl _ _) (Nat.le_refl _) _) (by simp) _
  have hz : w.heap.size + 2 ≤ ((w.alloc (.cells #[.slice none 0 0] 25)).alloc (.cells #[.slice A bs.length c, .int .i64 0, .int .u64 0] 43)).heap.size := by simp
  go_enter Try.func4, Try.ntmps4
  go_upto_region 2 with fail
  generalize (w.alloc (.cells #[.slice none 0 0] 25)).alloc (.cells #[.slice A bs.length c, .int .i64 0, .int .u64 0] 43) = w1 at *
  obtain ⟨b, hb⟩ : ∃ b, b = w.heap.size + 1 := ⟨_, rfl⟩
  rw [← hb] at y1 ⊢
  have hbl : w.heap.size < b ∧ b < w1.heap.size := by omega
  clear hb
  obtain ⟨hbl1, hbl2⟩ := hbl
  have H := Lib.hid (show Cur w1 b bs A c 0 from ⟨⟨0, 0, y1, Nat.le_refl _, by decide, by decide⟩, Rp.S_below h hb1, fun he a ha => by have := hA he a ha; omega, hby, hln⟩)
  have BX := Lib.hid y0; have HB := Lib.hid hb1; have HA := Lib.hid hA
  clear h hb1 y0 y1 hA
  go_wp2_with fail
  (with_reducible refine (oneRun_calls H.out (by decide) (by omega) (fun he a ha => by have := HA.out he a ha; omega)).mono ?_)
  rintro e w2 ⟨xs, A2, c2, rfl, hr, hl, hg, hf, hk, h'⟩
  have HR := Lib.hid hr; have HG := Lib.hid hg; have HF := Lib.hid (fun x hx => (by have := hf x hx; omega) : ∀ b' ∈ Rp.ofOwn (.slice A2 xs.length c2), b < b')
  clear hr hg hf
  have BX := Lib.hid (BX.out.kept hk (by simp; omega)); have HB := Lib.hid (HB.out.trans (hk.toBelow HB.out.size (by simp; omega))); have hz := Nat.le_trans hz hk.size; have hbl2 := Nat.lt_of_lt_of_le hbl2 hk.size; have H := Lib.hid h'; clear hk h'
  go_wp2_with fail
  (with_reducible refine (pick_calls 24 H.out (by decide)).mono ?_)
  rintro e w3 ⟨a, rfl, a0, a1, hk, h'⟩
  have BX := Lib.hid (BX.out.kept hk (by simp; omega)); have HB := Lib.hid (HB.out.trans (hk.toBelow HB.out.size (by simp; omega))); have hz := Nat.le_trans hz hk.size; have hbl2 := Nat.lt_of_lt_of_le hbl2 hk.size; have H := Lib.hid h'; have HR := Lib.hid (Rp.Row_kept HR.out hk (fun x hx hm => by have := HF.out x hx; simp at hm; omega)); clear hk h'
  go_wp2_with fail
  (with_reducible refine (one_calls 2 H.out (by decide)).mono ?_)
  rintro e w4 ⟨q, rfl, hk, h'⟩
  have BX := Lib.hid (BX.out.kept hk (by simp; omega)); have HB := Lib.hid (HB.out.trans (hk.toBelow HB.out.size (by simp; omega))); have hz := Nat.le_trans hz hk.size; have hbl2 := Nat.lt_of_lt_of_le hbl2 hk.size; have H := Lib.hid h'; have HR := Lib.hid (Rp.Row_kept HR.out hk (fun x hx hm => by have := HF.out x hx; simp at hm; omega)); clear hk h'
  have c0 := BX.out.cell 0 (v := .slice none 0 0) rfl
  have f0 := BX.out.fro
  go_wp2
  have hk : KeptF [w.heap.size] w4 (w4.setCell ⟨w.heap.size, 0, none⟩ (.slice A2 xs.length c2)) := kept_set _ _ _ _
  have bf := BX.out.set 0 (.slice A2 xs.length c2)
  have HR := Lib.hid (Row_ne HR.out hk (fun h => by have := HF.out _ h; omega))
  have HB := Lib.hid (HB.out.trans (hk.toBelow HB.out.size (by simp)))
  clear c0 f0 hk
  generalize w4.setCell ⟨w.heap.size, 0, none⟩ (.slice A2 xs.length c2) = wf at *
  have d0 := bf.cell 0 (v := .slice A2 xs.length c2) rfl
  refine bodyPost_ret (v := .tuple #[.agg #[.slice A2 xs.length c2], .int .i64 a, .bool q]) (by simp [results, Try.results4, go_sem, d0]) rfl ⟨xs, A2, c2, a, q, rfl, Rp.Row_S HR.out, hl, HG.out, a0, by omega, HB.out⟩
end Go.Proofs.Ythfhhfnimffpdaa
