/- Where drawn inputs come from: the cursor over the code. -/
import Derived.Test.YthfhhfnimffpdaaInt
import Derived.Test.YthfhhfnimffpdaaMade
import Derived.Test.YthfhhfnimffpdaaInv
import Derived.StillTailTactics
import Derived.Laws.BitsLemmas
namespace Go.Proofs.Ythfhhfnimffpdaa
open Go Go.RowKit Go.Sort
set_option linter.unusedVariables false
set_option linter.unusedSimpArgs false

theorem wp_genC {P : Program} {c : Code} {R : Exit → Act → World → Prop} {a : Act} {Q : World → Prop} (w : World) (hq : Q w) (h : ∀ w', Q w' → Code.wp P c R a w') : Code.wp P c R a w := h w hq
abbrev kByte : Rp Int := Rp.int .u8
/-- The cursor in block b: over the code bs, no more than top steps on. -/
structure Cur (w : World) (b : Nat) (bs : List Int) (A : Option Addr) (c : Nat) (top : Nat) : Prop where
  box : ∃ (k : Nat) (sd : Int), Box w b #[.slice A bs.length c, .int .i64 (k : Int), .int .u64 sd] 43 ∧ k ≤ top ∧ 0 ≤ sd ∧ sd < 18446744073709551616
  cells : kByte.S w bs (.slice A bs.length c)
  ne : bs ≠ [] → ∀ a, A = some a → a.block ≠ b
  byte : ∀ x ∈ bs, 0 ≤ x ∧ x ≤ 255
  len : bs.length ≤ 1048576
theorem S_keptC {α : Type} {d : Rp α} {w w' : World} {xs : List α} {A : Option Addr} {n c b : Nat} (hf : d.Flat) (h : d.S w xs (.slice A n c)) (hk : KeptF [b] w w') (hne : ∀ a, A = some a → a.block ≠ b) : d.S w' xs (.slice A n c) := by
  obtain ⟨A', c', e, h1, h2⟩ := h
  simp only [Value.slice.injEq] at e
  obtain ⟨rfl, rfl, rfl⟩ := e
  refine ⟨A, c, rfl, h1, ?_⟩
  rcases h2 with h2 | ⟨g, off, rfl, h2⟩
  · exact .inl h2
  · refine .inr ⟨g, off, rfl, fun i x hi => ?_⟩
    obtain ⟨cs, k1, k2⟩ := h2 i x hi
    refine ⟨cs, d.M_K (hf.2 k1), fun j u hu => ?_⟩
    have := k2 j u hu
    rw [World.cell?_of_block (hk.block g (World.block_lt_of_cell? w _ this) (by simpa using hne _ rfl))]
    exact this
theorem S_keptE {w w' : World} {xs : List Int} {A : Option Addr} {n c b : Nat} (h : kByte.S w xs (.slice A n c)) (hk : KeptF [b] w w') (hne : xs ≠ [] → ∀ a, A = some a → a.block ≠ b) : kByte.S w' xs (.slice A n c) := by
  by_cases he : xs = []
  · subst he
    obtain ⟨A_, c_, e_, z_, _⟩ := h
    obtain ⟨rfl, _, rfl⟩ := Value.slice.inj e_
    exact ⟨A, c, e_, z_, .inl rfl⟩
  · exact S_keptC ⟨fun h => h.1, fun h => ⟨rfl, h⟩⟩ h hk (hne he)
theorem kByte_flat : kByte.Flat := ⟨fun h => h.1, fun h => ⟨rfl, h⟩⟩
theorem wrap_lo (x : Int) : 0 ≤ IntKind.u64.wrap x := by simp [IntKind.wrap, IntKind.bits, IntKind.signed]; omega
theorem wrap_hi (x : Int) : IntKind.u64.wrap x < 18446744073709551616 := by simp [IntKind.wrap, IntKind.bits, IntKind.signed]; omega
theorem and255 {x : Int} (h0 : 0 ≤ x) (h1 : x < 18446744073709551616) : 0 ≤ bits .and .u64 (x / 1099511627776) 255 ∧ bits .and .u64 (x / 1099511627776) 255 ≤ 255 := by
  have h := bits_mask .u64 63 (by decide) (fun n a b => by simp [IntKind.wrap, IntKind.bits, IntKind.signed]; omega) 8 (by decide) (x / 1099511627776) (by omega) (by omega)
  rw [show ((2 : Int) ^ 8 - 1) = 255 by decide, show ((2 : Int) ^ 8) = 256 by decide] at h
  rw [h]
  omega
set_option maxHeartbeats 4000000 in
set_option maxRecDepth 100000 in
theorem next_calls {w : World} {b : Nat} {bs : List Int} {A : Option Addr} {c top : Nat} (h : Cur w b bs A c top) (ht : top ≤ 1000000000) : Calls Try.prog 24 #[.pointer (some ⟨b, 0, none⟩)] w
    fun e w' => ∃ r : Int, e = .returned (.int .i64 r) ∧ 0 ≤ r ∧ r ≤ 255 ∧ KeptF [b] w w' ∧ Cur w' b bs A c (top + 1) := by
  obtain ⟨⟨k, sd, B, hk, h0, h1⟩, S, ne, by_, hl⟩ := h
  have BX := Lib.hid B
  have SX := Lib.hid S
  obtain ⟨A_, c_, e_, z_, hC⟩ := S
  obtain ⟨rfl, _, rfl⟩ := Value.slice.inj e_
  clear e_ z_
  have HC := Lib.hid hC; clear hC
  by_cases hlt : k < bs.length
  · have i3 : (k : Int) < (bs.length : Int) := by omega
    have i2 : (0 : Int) ≤ (k : Int) := by omega
    obtain ⟨ba, oa, cs, hA, k1, q1⟩ := Rp.C_get HC.out k hlt
    subst hA
    obtain rfl : cs = [.int .u8 bs[k]] := k1
    have a0 : w.cell? ⟨ba, oa + k, none⟩ = some (.int .u8 bs[k]) := by
      have := q1 0 _ rfl
      simpa [Rp.int, Rp.scalar] using this
    obtain ⟨x0, x1⟩ := by_ _ (List.getElem_mem hlt)
    clear q1
    generalize bs[k] = x at *
    have nb : ba ≠ b := ne (fun h => by rw [h] at hlt; simp at hlt) ⟨ba, oa, none⟩ rfl
    have c0 := B.cell 0 (v := .slice (some ⟨ba, oa, none⟩) bs.length c) rfl
    have c1 := B.cell 1 (v := .int .i64 (k : Int)) rfl
    have c2 := B.cell 2 (v := .int .u64 sd) rfl
    have f1 := B.fro
    clear B
    go_enter Try.func24, Try.ntmps24
    go_upto_region 2 with fail
    refine wp_region_still_lit (by kernel_rfl) (by kernel_rfl) ?_
    repeat still_step
    refine wpStill_nil ?_
    change Exit.then _ _ _ _ w.drew
    have HK := Lib.hid (show KeptF [b] w w.drew from (KeptF.refl _ _).drew)
    have BX := Lib.hid BX.out.drew
    have a0 : w.drew.cell? ⟨ba, oa + k, none⟩ = some (.int .u8 x) := a0
    clear c0 c1 c2 f1
    generalize w.drew = w1 at *
    have c0 := BX.out.cell 0 (v := .slice (some ⟨ba, oa, none⟩) bs.length c) rfl
    have c1 := BX.out.cell 1 (v := .int .i64 (k : Int)) rfl
    have hk2 : (k : Int) ≤ 1000000000 := by omega
    have wx : IntKind.i64.wrap x = x := by rw [IntKind.wrap_i64]; omega
    have wu : IntKind.u64.wrap x = x := by simp [IntKind.wrap, IntKind.bits, IntKind.signed]; omega
    go_upto_region 3 with fail
    refine wp_region_still_lit (by kernel_rfl) (by kernel_rfl) ?_
    repeat still_step
    refine wpStill_nil ?_
    change Exit.then _ _ _ _ w1.drew
    have HK := Lib.hid HK.out.drew
    have BX := Lib.hid BX.out.drew
    clear c0 c1 a0
    generalize w1.drew = w2 at *
    have c0 := BX.out.cell 0 (v := .slice (some ⟨ba, oa, none⟩) bs.length c) rfl
    have c1 := BX.out.cell 1 (v := .int .i64 (k : Int)) rfl
    have c2 := BX.out.cell 2 (v := .int .u64 sd) rfl
    have f1 := BX.out.fro
    go_upto_region 6 with fail
    refine wp_genC (Q := fun W => (∃ s2 : Int, Box W b #[.slice (some ⟨ba, oa, none⟩) bs.length c, .int .i64 ((k : Int) + 1), .int .u64 s2] 43 ∧ 0 ≤ s2 ∧ s2 < 18446744073709551616) ∧ KeptF [b] w W) _ ⟨⟨_, (BX.out.set 1 _).set 2 _, wrap_lo _, wrap_hi _⟩, (HK.out.set (p := ⟨b, 1, none⟩) (by simp) _).set (p := ⟨b, 2, none⟩) (by simp) _⟩ ?_
    clear c0 c1 c2 f1 BX HK
    rintro w4 ⟨⟨s2, B4, s0, s1⟩, hk4⟩
    have BX := Lib.hid B4.drew; have HK := Lib.hid hk4.drew
    have c0 := B4.cell 0 (v := .slice (some ⟨ba, oa, none⟩) bs.length c) rfl
    have c1 := B4.cell 1 (v := .int .i64 ((k : Int) + 1)) rfl
    clear B4 hk4
    have i4 : (k : Int) + 1 ≤ (bs.length : Int) := by omega
    refine wp_region_still_lit (by kernel_rfl) (by kernel_rfl) ?_
    repeat still_step
    refine wpStill_nil ?_
    change Exit.then _ _ _ _ w4.drew
    clear c0 c1
    generalize w4.drew = w5 at *
    go_wp2
    go_ret
    exact ⟨x, rfl, x0, x1, HK.out, ⟨⟨k + 1, s2, BX.out, by omega, s0, s1⟩, S_keptE SX.out HK.out ne, ne, by_, hl⟩⟩
  · have i3 : ¬ (k : Int) < (bs.length : Int) := by omega
    have hk2 : (k : Int) ≤ 1000000000 := by omega
    have c0 := B.cell 0 (v := .slice A bs.length c) rfl
    have c1 := B.cell 1 (v := .int .i64 (k : Int)) rfl
    clear B
    go_enter Try.func24, Try.ntmps24
    go_upto_region 2 with fail
    refine wp_region_still_lit (by kernel_rfl) (by kernel_rfl) ?_
    repeat still_step
    refine wpStill_nil ?_
    change Exit.then _ _ _ _ w.drew
    have HK := Lib.hid (show KeptF [b] w w.drew from (KeptF.refl _ _).drew)
    have BX := Lib.hid BX.out.drew
    clear c0 c1
    generalize w.drew = w2 at *
    have c0 := BX.out.cell 0 (v := .slice A bs.length c) rfl
    have c1 := BX.out.cell 1 (v := .int .i64 (k : Int)) rfl
    have c2 := BX.out.cell 2 (v := .int .u64 sd) rfl
    have f1 := BX.out.fro
    go_upto_region 6 with fail
    refine wp_genC (Q := fun W => (∃ s2 : Int, Box W b #[.slice A bs.length c, .int .i64 ((k : Int) + 1), .int .u64 s2] 43 ∧ 0 ≤ s2 ∧ s2 < 18446744073709551616) ∧ KeptF [b] w W) _ ⟨⟨_, (BX.out.set 1 _).set 2 _, wrap_lo _, wrap_hi _⟩, (HK.out.set (p := ⟨b, 1, none⟩) (by simp) _).set (p := ⟨b, 2, none⟩) (by simp) _⟩ ?_
    clear c0 c1 c2 f1 BX HK
    rintro w4 ⟨⟨s2, B4, s0, s1⟩, hk4⟩
    have BX := Lib.hid B4.drew; have HK := Lib.hid hk4.drew
    have c0 := B4.cell 0 (v := .slice A bs.length c) rfl
    have c1 := B4.cell 1 (v := .int .i64 ((k : Int) + 1)) rfl
    clear B4 hk4
    have i4 : ¬ (k : Int) + 1 ≤ (bs.length : Int) := by omega
    refine wp_region_still_lit (by kernel_rfl) (by kernel_rfl) ?_
    repeat still_step
    refine wpStill_nil ?_
    change Exit.then _ _ _ _ w4.drew
    clear c0 c1
    generalize w4.drew = w5 at *
    have c2 := BX.out.cell 2 (v := .int .u64 s2) rfl
    obtain ⟨y0, y1⟩ := and255 s0 s1
    have wy : IntKind.i64.wrap (bits .and .u64 (s2 / 1099511627776) 255) = bits .and .u64 (s2 / 1099511627776) 255 := by rw [IntKind.wrap_i64]; omega
    go_wp2
    go_ret
    exact ⟨_, rfl, y0, y1, HK.out, ⟨⟨k + 1, s2, BX.out, by omega, s0, s1⟩, S_keptE SX.out HK.out ne, ne, by_, hl⟩⟩
end Go.Proofs.Ythfhhfnimffpdaa
