/- Law FnExactNewEngine: it returns true. -/
import Derived.Test.YtaeignjpklgelaaNeC
namespace Go.Proofs.Ytaeignjpklgelaa
open Go Go.RowKit Go.Sort
set_option linter.unusedVariables false
set_option linter.unusedSimpArgs false

theorem mk_six : (mkL mkInt [-1, -1, -1, -1, -1] 1).2 = 6 := by decide
set_option maxHeartbeats 4000000 in
set_option maxRecDepth 100000 in
theorem law_NewEngine (w : World) : Calls Try.prog 3 #[] w
    fun e w' => e = .returned (.bool true) ∧ Below w.heap.size w w' := by
  go_enter Try.func3, Try.ntmps3
  go_wp2_with fail
  (with_reducible refine (sNewEngine_c _).mono ?_)
  rintro e w1 ⟨P0, C0, rfl, F0, r0, f0, n0, hb⟩
  have HB := Lib.hid hb
  have R0 := Lib.hid r0
  have SZ := Lib.hid hb.size
  have L0 := Lib.hid (fun b h => Rp.Row_lt r0 b h : ∀ b ∈ F0, b < w1.heap.size)
  clear r0 f0 n0 hb
  go_wp2_with fail
  have HA := Lib.hid ((Below.refl w1.heap.size w1).alloc (Nat.le_refl _) (.cells #[.int .i64 0, .slice P0 5 C0, .slice none 0 0, .int .i64 1, .int .i64 0, .slice none 0 0, .slice none 0 0] 31))
  (with_reducible refine (iNewEngine_c _).mono ?_)
  rintro e w2 ⟨P1, C1, rfl, F1, r1, f1, n1, hb⟩
  have B0 := Lib.hid (show Box w2 w1.heap.size #[.int .i64 0, .slice P0 5 C0, .slice none 0 0, .int .i64 1, .int .i64 0, .slice none 0 0, .slice none 0 0] 31 from Box.below (Box.new rfl) hb)
  have hb' := HA.out.trans (hb.mono HA.out.size)
  have R0 := Lib.hid (Rp.Row_below R0.out hb')
  have HB := Lib.hid (HB.out.trans (hb'.mono HB.out.size))
  have R1 := Lib.hid r1; have N1 := Lib.hid n1
  have LF := Lib.hid (fun b h => (by have := f1 b h; simp at this; omega) : ∀ b ∈ F1, w1.heap.size + 1 ≤ b)
  have L1 := Lib.hid (fun b h => Rp.Row_lt r1 b h : ∀ b ∈ F1, b < w2.heap.size)
  clear r1 n1 f1 hb hb' HA
  have a0 := B0.out.cell 0 (v := .int .i64 0) rfl
  have a1 := B0.out.cell 1 (v := .slice P0 5 C0) rfl
  have a2 := B0.out.cell 2 (v := .slice none 0 0) rfl
  have a3 := B0.out.cell 3 (v := .int .i64 1) rfl
  have a4 := B0.out.cell 4 (v := .int .i64 0) rfl
  have a5 := B0.out.cell 5 (v := .slice none 0 0) rfl
  have a6 := B0.out.cell 6 (v := .slice none 0 0) rfl
  have u0 := B0.out.lt
  have HA := Lib.hid ((Below.refl w2.heap.size w2).alloc (Nat.le_refl _) (.cells #[.int .i64 0, .slice P1 5 C1, .slice none 0 0, .int .i64 1, .int .i64 0, .slice none 0 0, .slice none 0 0] 31))
  go_wp2_with fail
  (with_reducible refine (eqEngine_c [-1, -1, -1, -1, -1] _ _ _ (Rp.S_below (Rp.Row_S R1.out) HA.out) (Rp.S_below (Rp.Row_S R0.out) HA.out) (by decide)).mono ?_)
  rintro e w3 ⟨rfl, hb⟩
  have B1 := Lib.hid (show Box w3 w2.heap.size #[.int .i64 0, .slice P1 5 C1, .slice none 0 0, .int .i64 1, .int .i64 0, .slice none 0 0, .slice none 0 0] 31 from Box.below (Box.new rfl) hb)
  have hb' := HA.out.trans (hb.mono HA.out.size)
  have B0 := Lib.hid (B0.out.below hb')
  have R0 := Lib.hid (Rp.Row_below R0.out hb')
  have R1 := Lib.hid (Rp.Row_below R1.out hb')
  have HB := Lib.hid (HB.out.trans (hb'.mono HB.out.size))
  clear hb hb' HA u0
  clear a0 a1 a2 a3 a4 a5 a6
  have b0 := B1.out.cell 0 (v := .int .i64 0) rfl
  have b1 := B1.out.cell 1 (v := .slice P1 5 C1) rfl
  have b2 := B1.out.cell 2 (v := .slice none 0 0) rfl
  have b3 := B1.out.cell 3 (v := .int .i64 1) rfl
  have b4 := B1.out.cell 4 (v := .int .i64 0) rfl
  have b5 := B1.out.cell 5 (v := .slice none 0 0) rfl
  have b6 := B1.out.cell 6 (v := .slice none 0 0) rfl
  go_wp2_with fail
  (with_reducible refine (markEngine_c [-1, -1, -1, -1, -1] 1 F1 _ _ R1.out N1.out (by decide) (by rw [mk_six]; decide) (by decide)).mono ?_)
  rintro e w4 ⟨rfl, hr, hk⟩
  rw [mk_six]
  have M1 := Lib.hid hr
  have R0 := Lib.hid (Rp.Row_kept R0.out hk (fun b h1 h2 => by have := L0.out b h1; have := LF.out b h2; omega))
  have B0 := Lib.hid (B0.out.kept hk (fun h => by have := LF.out _ h; omega))
  have B1 := Lib.hid (B1.out.kept hk (fun h => by have := L1.out _ h; omega))
  have HB := Lib.hid (HB.out.trans (hk.toBelow HB.out.size (fun b h => by have := LF.out b h; have := HB.out.size; have := SZ.out; omega)))
  clear hr hk R1
  clear b0 b1 b2 b3 b4 b5 b6
  have b0 := B1.out.cell 0 (v := .int .i64 0) rfl
  have b1 := B1.out.cell 1 (v := .slice P1 5 C1) rfl
  have b2 := B1.out.cell 2 (v := .slice none 0 0) rfl
  have b3 := B1.out.cell 3 (v := .int .i64 1) rfl
  have b4 := B1.out.cell 4 (v := .int .i64 0) rfl
  have b5 := B1.out.cell 5 (v := .slice none 0 0) rfl
  have b6 := B1.out.cell 6 (v := .slice none 0 0) rfl
  go_wp2_with fail
  (with_reducible refine (heldEngine_c [-1, -1, -1, -1, -1] 1 _ _ (Rp.Row_S M1.out) (by decide) (by rw [mk_six]; decide) (by decide)).mono ?_)
  rintro e w5 ⟨rfl, hb⟩
  rw [mk_six]
  have B0 := Lib.hid (B0.out.below hb)
  have B1 := Lib.hid (B1.out.below hb)
  have R0 := Lib.hid (Rp.Row_below R0.out hb)
  have M1 := Lib.hid (Rp.Row_below M1.out hb)
  have HB := Lib.hid (HB.out.trans (hb.mono HB.out.size))
  clear hb
  clear b0 b1 b2 b3 b4 b5 b6
  go_wp2_with fail
  (with_reducible refine (iNewEngine_c _).mono ?_)
  rintro e w6 ⟨P2, C2, rfl, F2, r2, -, -, hb⟩
  have R2 := Lib.hid r2
  have B0 := Lib.hid (B0.out.below hb)
  have B1 := Lib.hid (B1.out.below hb)
  have R0 := Lib.hid (Rp.Row_below R0.out hb)
  have M1 := Lib.hid (Rp.Row_below M1.out hb)
  have HB := Lib.hid (HB.out.trans (hb.mono HB.out.size))
  clear hb r2
  have a0 := B0.out.cell 0 (v := .int .i64 0) rfl
  have a1 := B0.out.cell 1 (v := .slice P0 5 C0) rfl
  have a2 := B0.out.cell 2 (v := .slice none 0 0) rfl
  have a3 := B0.out.cell 3 (v := .int .i64 1) rfl
  have a4 := B0.out.cell 4 (v := .int .i64 0) rfl
  have a5 := B0.out.cell 5 (v := .slice none 0 0) rfl
  have a6 := B0.out.cell 6 (v := .slice none 0 0) rfl
  have u0 := B0.out.lt
  have HA := Lib.hid ((Below.refl w6.heap.size w6).alloc (Nat.le_refl _) (.cells #[.int .i64 0, .slice P2 5 C2, .slice none 0 0, .int .i64 1, .int .i64 0, .slice none 0 0, .slice none 0 0] 31))
  go_wp2_with fail
  (with_reducible refine (eqEngine_c [-1, -1, -1, -1, -1] _ _ _ (Rp.S_below (Rp.Row_S R2.out) HA.out) (Rp.S_below (Rp.Row_S R0.out) HA.out) (by decide)).mono ?_)
  rintro e w7 ⟨rfl, hb⟩
  have hb' := HA.out.trans (hb.mono HA.out.size)
  have B1 := Lib.hid (B1.out.below hb')
  have M1 := Lib.hid (Rp.Row_below M1.out hb')
  have HB := Lib.hid (HB.out.trans (hb'.mono HB.out.size))
  clear hb hb' HA u0 R0 R2 B0
  clear a0 a1 a2 a3 a4 a5 a6
  have b0 := B1.out.cell 0 (v := .int .i64 0) rfl
  have b1 := B1.out.cell 1 (v := .slice P1 5 C1) rfl
  have b2 := B1.out.cell 2 (v := .slice none 0 0) rfl
  have b3 := B1.out.cell 3 (v := .int .i64 1) rfl
  have b4 := B1.out.cell 4 (v := .int .i64 0) rfl
  have b5 := B1.out.cell 5 (v := .slice none 0 0) rfl
  have b6 := B1.out.cell 6 (v := .slice none 0 0) rfl
  go_wp2_with fail
  (with_reducible refine (heldEngine_c [-1, -1, -1, -1, -1] 1 _ _ (Rp.Row_S M1.out) (by decide) (by rw [mk_six]; decide) (by decide)).mono ?_)
  rintro e w8 ⟨rfl, hb⟩
  rw [mk_six]
  have HB := Lib.hid (HB.out.trans (hb.mono HB.out.size))
  clear hb
  clear b0 b1 b2 b3 b4 b5 b6
  go_wp2
  go_ret
  exact ⟨rfl, HB.out⟩
end Go.Proofs.Ytaeignjpklgelaa
