/- The laws' own check of marked texts. -/
import Derived.Test.YtioelmhikablcaaStr
namespace Go.Proofs.Ytioelmhikablcaa
open Go Go.RowKit Go.Sort
set_option linter.unusedVariables false
set_option linter.unusedSimpArgs false

set_option maxHeartbeats 2000000 in
set_option maxRecDepth 100000 in
theorem heldStringS_calls (xs : List ByteArray) (k : Int) (v : Value) (w : World) (h : kTxt.S w (mkL mkTxt xs k).1 v) (h0 : 0 ≤ k) (h1 : (mkL mkTxt xs k).2 ≤ 4611686018427387904) (hl : xs.length ≤ 140737488355328) :
    Calls Try.prog 21 #[v, .int .i64 k] w fun e w' => e = .returned (.int .i64 (mkL mkTxt xs k).2) ∧ Below w.heap.size w w' := by
  obtain ⟨A, c, rfl, hc, hC⟩ := h
  rw [mkL_len] at hc ⊢
  have H := Lib.hid hC; clear hC
  have H1 := Lib.hid h1; clear h1
  go_enter Try.func21, Try.ntmps21
  go_wp2
  go_loopw [1, 5] (fun a n wr => ∃ i : Nat, i ≤ xs.length ∧ n = .int .i64 i ∧ a = .int .i64 (mkNo mkTxt xs k i) ∧ Hid (Below w.heap.size w wr)) (fun _ n _ => xs.length - (intOf n).toNat)
  case atStart => exact ⟨0, Nat.zero_le _, rfl, by rw [mkNo_zero], Below.refl _ _⟩
  case round =>
    obtain ⟨i, hi, rfl, rfl, HB⟩ := hrel
    by_cases hlt : i < xs.length
    · have b1 := mkNo_ge (mk := mkTxt) (k := k) mkTxt_le (Nat.le_of_lt hlt)
      have b2 := mkNo_top (mk := mkTxt) (k := k) mkTxt_le (i := i + 1) hlt
      have b4 : mkNo mkTxt xs k (i + 1) = mkNo mkTxt xs k i + 1 := mkNo_succ (mk := mkTxt) (k := k) hlt
      have b5 := H1.out
      obtain ⟨b, o, cs, rfl, k1, q1⟩ := Rp.C_get H.out i (by rw [mkL_len]; exact hlt)
      rw [mkL_get' hlt] at k1
      obtain rfl : cs = [.string (mtxt (mkNo mkTxt xs k i))] := k1
      have a0 := (World.cell?_of_block (HB.out.block b (World.block_lt_of_cell? w _ (q1 0 _ rfl)))).trans (q1 0 _ rfl)
      simp only [Rp.str, Rp.scalar, Nat.mul_one, Nat.add_zero] at a0
      clear q1
      have c1 : 0 ≤ mkNo mkTxt xs k i := by omega
      have c2 : mkNo mkTxt xs k i + 1 ≤ 4611686018427387904 := by omega
      clear b1 b2 b5
      have B4 := Lib.hid b4; clear b4
      generalize mkNo mkTxt xs k i = kk at *
      have i1 : (0 : Int) ≤ (i : Int) := by omega
      have i2 : (i : Int) < (xs.length : Int) := by omega
      have r0 := regr (Below.refl _ _) (World.block_lt_of_cell? wr _ a0) a0
      have c_m : ∀ W : World, Calls Try.prog 91 #[.int .i64 kk] W (fun e w' => e = .returned (.string (mtxt kk)) ∧ Below W.heap.size W w') := fun W => markText_calls kk W (by omega)
      go_upto_region 4 with fail
      refine wp_region_quiet_below (by kernel_rfl) (by kernel_rfl) ?_
      repeat (go_big_quiet_step (first | (with_reducible exact Calls.regrown_of (c_m _))))
      refine wpQuiet_nil ?_
      rintro w4 ⟨p, rfl⟩
      have hb := below_regrown wr p.d p.os
      have HB := Lib.hid (HB.out.trans (hb.mono HB.out.size))
      clear r0 hb a0
      generalize grow (redrawn wr p.d) p.os = w4 at *
      go_wp2
      exact ⟨⟨i + 1, by omega, by go_num, by rw [B4.out]; try go_num, HB.out⟩, by simp [intOf]; omega⟩
    · go_wp2
      go_ret
      obtain rfl : i = xs.length := by omega
      exact ⟨ret_int mkNo_all, HB.out⟩
theorem heldStringS_k {x : List ByteArray} {v : Value} {k : Int} {w : World} (hk : kStringS.K w (mkStringS x k).1 [v]) (h0 : 0 ≤ k) (h1 : (mkStringS x k).2 ≤ 4611686018427387904) (hs : smStringS 140737488355328 x) : Calls Try.prog 21 #[v, .int .i64 k] w
    fun e w' => e = .returned (.int .i64 (mkStringS x k).2) ∧ Below w.heap.size w w' := by
  obtain ⟨_, h, g⟩ := kStringS_read hk
  obtain rfl := (List.cons.inj h).1
  exact heldStringS_calls x k v w g h0 h1 hs
end Go.Proofs.Ytioelmhikablcaa
