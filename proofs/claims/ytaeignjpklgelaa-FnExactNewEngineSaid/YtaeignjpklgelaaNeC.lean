/- The first engine, made. -/
import Derived.Test.YtaeignjpklgelaaNeB
namespace Go.Proofs.Ytaeignjpklgelaa
open Go Go.RowKit Go.Sort
set_option linter.unusedVariables false
set_option linter.unusedSimpArgs false

set_option maxHeartbeats 4000000 in
set_option maxRecDepth 100000 in
theorem iNewVersion_c (w : World) : Calls Try.prog 12 #[] w fun e w' => e = .returned (.agg #[.int .i64 1, .int .i64 0, .slice none 0 0]) ∧ Below w.heap.size w w' := by
  go_enter Try.func12, Try.ntmps12
  go_upto_region 1 with fail
  have B0 : Box (w.alloc (.cells #[.int .i64 0, .int .i64 0, .slice none 0 0] 28)) w.heap.size #[.int .i64 0, .int .i64 0, .slice none 0 0] 28 := Box.new rfl
  have HB := Lib.hid ((Below.refl w.heap.size w).alloc (Nat.le_refl _) (.cells #[.int .i64 0, .int .i64 0, .slice none 0 0] 28))
  generalize w.alloc (.cells #[.int .i64 0, .int .i64 0, .slice none 0 0] 28) = w1 at *
  have BX := Lib.hid B0
  have c0 := B0.cell 0 (v := .int .i64 0) rfl; have c1 := B0.cell 1 (v := .int .i64 0) rfl; have c2 := B0.cell 2 (v := .slice none 0 0) rfl
  have f0 := B0.fro
  clear B0
  go_wp2
  have hk : KeptF [w.heap.size] w1 (Rp.setN w1 (w.heap.size) 0 [.int .i64 1, .int .i64 0, .slice none 0 0]) := Rp.setN_kept (by simp) _ _ _ (KeptF.refl _ _)
  have bf : Box (Rp.setN w1 (w.heap.size) 0 [.int .i64 1, .int .i64 0, .slice none 0 0]) (w.heap.size) #[.int .i64 1, .int .i64 0, .slice none 0 0] 28 := by
    have h := Box.setN [.int .i64 1, .int .i64 0, .slice none 0 0] BX.out 0
    rw [setA_all (by rfl)] at h
    exact h
  change bodyPost _ _ _ _ _ (Rp.setN w1 (w.heap.size) 0 [.int .i64 1, .int .i64 0, .slice none 0 0])
  clear c0 c1 c2 f0
  generalize Rp.setN w1 (w.heap.size) 0 [.int .i64 1, .int .i64 0, .slice none 0 0] = wf at *
  have d0 := bf.cell 0 (v := .int .i64 1) rfl
  have d1 := bf.cell 1 (v := .int .i64 0) rfl
  have d2 := bf.cell 2 (v := .slice none 0 0) rfl
  refine bodyPost_ret (v := .agg #[.int .i64 1, .int .i64 0, .slice none 0 0]) (by simp [results, Try.results12, go_sem, d0, d1, d2]) rfl ⟨rfl, HB.out.trans (hk.toBelow HB.out.size (by simp))⟩
set_option maxHeartbeats 4000000 in
set_option maxRecDepth 100000 in
theorem sNewVersion_c (w : World) : Calls Try.prog 10 #[] w fun e w' => e = .returned (.agg #[.int .i64 1, .int .i64 0, .slice none 0 0]) ∧ Below w.heap.size w w' := by
  go_enter Try.func10, Try.ntmps10
  go_upto_region 1 with fail
  have B0 : Box (w.alloc (.cells #[.int .i64 0, .int .i64 0, .slice none 0 0] 28)) w.heap.size #[.int .i64 0, .int .i64 0, .slice none 0 0] 28 := Box.new rfl
  have HB := Lib.hid ((Below.refl w.heap.size w).alloc (Nat.le_refl _) (.cells #[.int .i64 0, .int .i64 0, .slice none 0 0] 28))
  generalize w.alloc (.cells #[.int .i64 0, .int .i64 0, .slice none 0 0] 28) = w1 at *
  have BX := Lib.hid B0
  have c0 := B0.cell 0 (v := .int .i64 0) rfl; have c1 := B0.cell 1 (v := .int .i64 0) rfl; have c2 := B0.cell 2 (v := .slice none 0 0) rfl
  have f0 := B0.fro
  clear B0
  go_wp2
  have hk : KeptF [w.heap.size] w1 (Rp.setN w1 (w.heap.size) 0 [.int .i64 1, .int .i64 0, .slice none 0 0]) := Rp.setN_kept (by simp) _ _ _ (KeptF.refl _ _)
  have bf : Box (Rp.setN w1 (w.heap.size) 0 [.int .i64 1, .int .i64 0, .slice none 0 0]) (w.heap.size) #[.int .i64 1, .int .i64 0, .slice none 0 0] 28 := by
    have h := Box.setN [.int .i64 1, .int .i64 0, .slice none 0 0] BX.out 0
    rw [setA_all (by rfl)] at h
    exact h
  change bodyPost _ _ _ _ _ (Rp.setN w1 (w.heap.size) 0 [.int .i64 1, .int .i64 0, .slice none 0 0])
  clear c0 c1 c2 f0
  generalize Rp.setN w1 (w.heap.size) 0 [.int .i64 1, .int .i64 0, .slice none 0 0] = wf at *
  have d0 := bf.cell 0 (v := .int .i64 1) rfl
  have d1 := bf.cell 1 (v := .int .i64 0) rfl
  have d2 := bf.cell 2 (v := .slice none 0 0) rfl
  refine bodyPost_ret (v := .agg #[.int .i64 1, .int .i64 0, .slice none 0 0]) (by simp [results, Try.results10, go_sem, d0, d1, d2]) rfl ⟨rfl, HB.out.trans (hk.toBelow HB.out.size (by simp))⟩
set_option maxHeartbeats 4000000 in
set_option maxRecDepth 100000 in
theorem iNewSkip_c (w : World) : Calls Try.prog 11 #[] w fun e w' => ∃ v, e = .returned (.agg #[v, .slice none 0 0]) ∧ MadeR kInt 3 [-1, -1, -1, -1, -1] w w' v := by
  go_enter Try.func11, Try.ntmps11
  go_upto_region 1 with fail
  have B0 : Box (w.alloc (.cells #[.slice none 0 0, .slice none 0 0] 25)) w.heap.size #[.slice none 0 0, .slice none 0 0] 25 := Box.new rfl
  have HB := Lib.hid ((Below.refl w.heap.size w).alloc (Nat.le_refl _) (.cells #[.slice none 0 0, .slice none 0 0] 25))
  have hsz : w.heap.size + 1 ≤ (w.alloc (.cells #[.slice none 0 0, .slice none 0 0] 25)).heap.size := by simp
  generalize w.alloc (.cells #[.slice none 0 0, .slice none 0 0] 25) = w1 at *
  have BX := Lib.hid B0
  clear B0
  have BR : Box (w1.alloc (.cells #[.int .i64 (-1)] 3)) w1.heap.size #[.int .i64 (-1)] 3 := Box.new rfl
  have HB1 := Lib.hid ((Below.refl w1.heap.size w1).alloc (Nat.le_refl _) (.cells #[.int .i64 (-1)] 3))
  have hcell := BR.cell 0 (v := .int .i64 (-1)) rfl
  clear BR
  have HC := Lib.hid (repeat_calls w1.heap.size (w1.alloc (.cells #[.int .i64 (-1)] 3)) hcell)
  clear hcell
  go_wp2_with ((with_reducible refine HC.out.mono ?_); rintro e w2 ⟨v, rfl, F, hr, hf, hn, hb⟩; obtain ⟨P_, C_, e1, _, _⟩ := id (Rp.Row_K hr); subst e1; have HR := Lib.hid hr; have hb2 := HB1.out.trans (hb.mono HB1.out.size); have HF := Lib.hid (fun b h => Nat.le_trans HB1.out.size (hf b h) : ∀ b ∈ F, w1.heap.size ≤ b); have HN := Lib.hid hn; have BX := Lib.hid (BX.out.below hb2); have HB := Lib.hid (HB.out.trans (hb2.mono HB.out.size)); have HS := Lib.hid (Nat.le_trans hsz hb2.size); clear hr hf hn hb hb2; have c0 := BX.out.cell 0 (v := .slice none 0 0) rfl; have c1 := BX.out.cell 1 (v := .slice none 0 0) rfl; have f0 := BX.out.fro)
  have hk : KeptF [w.heap.size] w2 (Rp.setN w2 (w.heap.size) 0 [.slice P_ 5 C_, .slice none 0 0]) := Rp.setN_kept (by simp) _ _ _ (KeptF.refl _ _)
  have bf : Box (Rp.setN w2 (w.heap.size) 0 [.slice P_ 5 C_, .slice none 0 0]) (w.heap.size) #[.slice P_ 5 C_, .slice none 0 0] 25 := by
    have h := Box.setN [.slice P_ 5 C_, .slice none 0 0] BX.out 0
    rw [setA_all (by rfl)] at h
    exact h
  change bodyPost _ _ _ _ _ (Rp.setN w2 (w.heap.size) 0 [.slice P_ 5 C_, .slice none 0 0])
  have HQ := Lib.hid (Row_ne HR.out hk (fun h => by have := HF.out _ h; omega))
  have HW := Lib.hid (HB.out.trans (hk.toBelow HB.out.size (by simp)))
  clear c0 c1 f0 hk
  generalize Rp.setN w2 (w.heap.size) 0 [.slice P_ 5 C_, .slice none 0 0] = wf at *
  have d0 := bf.cell 0 (v := .slice P_ 5 C_) rfl
  have d1 := bf.cell 1 (v := .slice none 0 0) rfl
  refine bodyPost_ret (v := .agg #[.slice P_ 5 C_, .slice none 0 0]) (by simp [results, Try.results11, go_sem, d0, d1]) rfl ⟨_, rfl, F, HQ.out, fun b h => by have := HF.out b h; omega, HN.out, HW.out⟩
theorem repl_five : ∀ k, List.replicate (k + 1) (-1 : Int) = List.replicate k (-1) ++ [-1] := fun k => List.replicate_succ' ..
set_option maxHeartbeats 4000000 in
set_option maxRecDepth 100000 in
theorem sNewSkip_c (w : World) : Calls Try.prog 9 #[] w fun e w' => ∃ v, e = .returned (.agg #[v, .slice none 0 0]) ∧ MadeR kInt 3 [-1, -1, -1, -1, -1] w w' v := by
  go_enter Try.func9, Try.ntmps9
  go_upto_region 2 with fail
  have Bc0 : Box ((w.alloc (.cells #[.slice none 0 0, .slice none 0 0] 25)).alloc (.cells #[.slice none 0 0, .slice none 0 0] 25)) w.heap.size #[.slice none 0 0, .slice none 0 0] 25 := Box.alloc (Box.new rfl)
  have Bc1 : Box ((w.alloc (.cells #[.slice none 0 0, .slice none 0 0] 25)).alloc (.cells #[.slice none 0 0, .slice none 0 0] 25)) (w.heap.size + 1) #[.slice none 0 0, .slice none 0 0] 25 := Box.new (by simp)
  have HB := Lib.hid (Below.alloc ((Below.refl w.heap.size w).alloc (Nat.le_refl _) (.cells #[.slice none 0 0, .slice none 0 0] 25)) (by simp) (.cells #[.slice none 0 0, .slice none 0 0] 25))
  have hsz : w.heap.size + 2 ≤ ((w.alloc (.cells #[.slice none 0 0, .slice none 0 0] 25)).alloc (.cells #[.slice none 0 0, .slice none 0 0] 25)).heap.size := by simp
  generalize (w.alloc (.cells #[.slice none 0 0, .slice none 0 0] 25)).alloc (.cells #[.slice none 0 0, .slice none 0 0] 25) = w1 at *
  have X0 := Lib.hid Bc0; have X1 := Lib.hid Bc1
  clear Bc0 Bc1
  go_wp2
  go_loopw [2] (fun i wr => ∃ k : Nat, k ≤ 5 ∧ i = .int .i64 k ∧ ∃ v, Hid (kInt.Row 3 wr (Rp.ofOwn v) (List.replicate k (-1)) v) ∧ Hid (∀ b ∈ Rp.ofOwn v, w.heap.size + 2 ≤ b) ∧ Hid (Below w.heap.size w wr) ∧ Hid (w.heap.size + 2 ≤ wr.heap.size) ∧ Hid (Box wr w.heap.size #[.slice none 0 0, .slice none 0 0] 25) ∧ Hid (Box wr (w.heap.size + 1) #[v, .slice none 0 0] 25)) (fun i _ => 5 - (intOf i).toNat)
  case atStart => exact ⟨0, Nat.zero_le _, rfl, .slice none 0 0, Rp.Row_nil _ _ _, by simp [Hid, Rp.ofOwn, Value.ownBlock], HB.out, hsz, X0.out, X1.out⟩
  case round =>
    clear HB hsz X0 X1
    obtain ⟨k, hk, rfl, v_, HR, HF, HB, HS, X0, X1⟩ := hrel
    obtain ⟨A, c, e1, _, _⟩ := Rp.Row_K HR.out
    rw [List.length_replicate] at e1
    subst e1
    by_cases hlk : k < 5
    · have i3 : (k : Int) < 5 := by omega
      have c0 := X1.out.cell 0 (v := .slice A k c) rfl
      have u1 := X1.out.lt
      have HNL := Lib.hid (show (List.replicate k (-1 : Int)).length + 1 ≤ 16777216 by rw [List.length_replicate]; omega)
      go_wp2_with (at_builtin; go_loud (refine wp_append (d := kInt) rfl _ _ 22 3 rfl Try.underlying22 infoInt rfl (by decide) rfl (by decide) kInt_flat (xs := List.replicate k (-1)) (ys := [-1]) rfl rfl (Rp.Row_below HR.out ((Below.refl _ _).alloc (Nat.le_refl _) _)) (Rp.S_one (Box.new rfl) rfl) HNL.out ?_; intro va w2 r1 r2 r3 r4; clear r4; rw [← repl_five] at r1; obtain ⟨P_, C_, e2, _, _⟩ := id (Rp.Row_K r1); rw [List.length_replicate] at e2; subst e2; have R1 := Lib.hid r1; have R3 := Lib.hid r3; have Y0 := Lib.hid ((Box.alloc X0.out).kept r2 (fun h => by have := HF.out _ h; omega)); have y1 := (Box.alloc X1.out).kept r2 (fun h => by have := HF.out _ h; omega); have HB2 := Lib.hid ((Below.alloc HB.out HB.out.size _).trans (r2.toBelow (by have := HB.out.size; simp; omega) (fun b hb => by have := HF.out b hb; omega))); have HS2 := Lib.hid (Nat.le_trans (Nat.le_trans HS.out (by simp)) r2.size); clear c0 r1 r2 r3; have c0 := y1.cell 0 (v := .slice A k c) rfl; have f1 := y1.fro; have u1 := y1.lt; have Y1 := Lib.hid y1; clear y1))
      have hk := kept_set w2 (w.heap.size + 1) 0 (.slice P_ (k + 1) C_)
      have hF : ∀ b ∈ Rp.ofOwn (.slice P_ (k + 1) C_), w.heap.size + 2 ≤ b := fun b hb => by
        rcases R3.out b hb with h | h
        · exact HF.out b h
        · have := HS.out; simp at h; omega
      exact ⟨⟨k + 1, by omega, by go_num, .slice P_ (k + 1) C_, Row_ne R1.out hk (fun h => by have := hF _ h; omega), hF, HB2.out.setCell (p := ⟨w.heap.size + 1, 0, none⟩) (by simp) _, Nat.le_trans HS2.out hk.size, Box_ne Y0.out hk (by omega), Y1.out.set 0 _⟩, by simp [intOf]; omega⟩
    · obtain rfl : k = 5 := by omega
      have c0 := X1.out.cell 0 (v := .slice A 5 c) rfl
      have c1 := X1.out.cell 1 (v := .slice none 0 0) rfl
      have a0 := X0.out.cell 0 (v := .slice none 0 0) rfl
      have a1 := X0.out.cell 1 (v := .slice none 0 0) rfl
      have f0 := X0.out.fro
      have BX := X0
      go_wp2
      have hk : KeptF [w.heap.size] wr (Rp.setN wr (w.heap.size) 0 [.slice A 5 c, .slice none 0 0]) := Rp.setN_kept (by simp) _ _ _ (KeptF.refl _ _)
      have bf : Box (Rp.setN wr (w.heap.size) 0 [.slice A 5 c, .slice none 0 0]) (w.heap.size) #[.slice A 5 c, .slice none 0 0] 25 := by
        have h := Box.setN [.slice A 5 c, .slice none 0 0] BX.out 0
        rw [setA_all (by rfl)] at h
        exact h
      change bodyPost _ _ _ _ _ (Rp.setN wr (w.heap.size) 0 [.slice A 5 c, .slice none 0 0])
      have HQ := Lib.hid (Row_ne HR.out hk (fun h => by have := HF.out _ h; omega))
      have HW := Lib.hid (HB.out.trans (hk.toBelow HB.out.size (by simp)))
      clear c0 c1 a0 a1 f0 hk
      generalize Rp.setN wr (w.heap.size) 0 [.slice A 5 c, .slice none 0 0] = wf at *
      have d0 := bf.cell 0 (v := .slice A 5 c) rfl
      have d1 := bf.cell 1 (v := .slice none 0 0) rfl
      refine bodyPost_ret (v := .agg #[.slice A 5 c, .slice none 0 0]) (by simp [results, Try.results9, go_sem, d0, d1]) rfl ⟨_, rfl, _, HQ.out, fun b h => by have := HF.out b h; omega, ofOwn_nodup _, HW.out⟩
set_option maxHeartbeats 4000000 in
set_option maxRecDepth 100000 in
theorem iNewEngine_c (w : World) : Calls Try.prog 5 #[] w fun e w' => ∃ P_ C_, e = .returned (.agg #[.int .i64 0, .slice P_ 5 C_, .slice none 0 0, .int .i64 1, .int .i64 0, .slice none 0 0, .slice none 0 0]) ∧ MadeR kInt 3 [-1, -1, -1, -1, -1] w w' (.slice P_ 5 C_) := by
  go_enter Try.func5, Try.ntmps5
  go_upto_region 1 with fail
  have B0 : Box (w.alloc (.cells #[.int .i64 0, .slice none 0 0, .slice none 0 0, .int .i64 0, .int .i64 0, .slice none 0 0, .slice none 0 0] 31)) w.heap.size #[.int .i64 0, .slice none 0 0, .slice none 0 0, .int .i64 0, .int .i64 0, .slice none 0 0, .slice none 0 0] 31 := Box.new rfl
  have HB := Lib.hid ((Below.refl w.heap.size w).alloc (Nat.le_refl _) (.cells #[.int .i64 0, .slice none 0 0, .slice none 0 0, .int .i64 0, .int .i64 0, .slice none 0 0, .slice none 0 0] 31))
  have hsz : w.heap.size + 1 ≤ (w.alloc (.cells #[.int .i64 0, .slice none 0 0, .slice none 0 0, .int .i64 0, .int .i64 0, .slice none 0 0, .slice none 0 0] 31)).heap.size := by simp
  generalize w.alloc (.cells #[.int .i64 0, .slice none 0 0, .slice none 0 0, .int .i64 0, .int .i64 0, .slice none 0 0, .slice none 0 0] 31) = w1 at *
  have BX := Lib.hid B0
  clear B0
  go_wp2_with fail
  (with_reducible refine (iNewSkip_c _).mono ?_)
  rintro e w2 ⟨v, rfl, F, hr, hf, hn, hb⟩
  obtain ⟨P_, C_, e1, _, _⟩ := id (Rp.Row_K hr)
  subst e1
  have HR := Lib.hid hr; have HF := Lib.hid hf; have HN := Lib.hid hn
  have BX := Lib.hid (BX.out.below hb); have HB := Lib.hid (HB.out.trans (hb.mono HB.out.size)); have HS := Lib.hid (Nat.le_trans hsz hb.size)
  clear hr hf hn hb
  go_wp2_with ((with_reducible refine (iNewVersion_c _).mono ?_); rintro e w3 ⟨rfl, hb⟩; have HR := Lib.hid (Rp.Row_below HR.out hb); have BX := Lib.hid (BX.out.below hb); have HB := Lib.hid (HB.out.trans (hb.mono HB.out.size)); clear hb; have c0 := BX.out.cell 0 (v := .int .i64 0) rfl; have c1 := BX.out.cell 1 (v := .slice none 0 0) rfl; have c2 := BX.out.cell 2 (v := .slice none 0 0) rfl; have c3 := BX.out.cell 3 (v := .int .i64 0) rfl; have c4 := BX.out.cell 4 (v := .int .i64 0) rfl; have c5 := BX.out.cell 5 (v := .slice none 0 0) rfl; have c6 := BX.out.cell 6 (v := .slice none 0 0) rfl; have f0 := BX.out.fro)
  have hk : KeptF [w.heap.size] w3 (Rp.setN w3 (w.heap.size) 0 [.int .i64 0, .slice P_ 5 C_, .slice none 0 0, .int .i64 1, .int .i64 0, .slice none 0 0, .slice none 0 0]) := Rp.setN_kept (by simp) _ _ _ (KeptF.refl _ _)
  have bf : Box (Rp.setN w3 (w.heap.size) 0 [.int .i64 0, .slice P_ 5 C_, .slice none 0 0, .int .i64 1, .int .i64 0, .slice none 0 0, .slice none 0 0]) (w.heap.size) #[.int .i64 0, .slice P_ 5 C_, .slice none 0 0, .int .i64 1, .int .i64 0, .slice none 0 0, .slice none 0 0] 31 := by
    have h := Box.setN [.int .i64 0, .slice P_ 5 C_, .slice none 0 0, .int .i64 1, .int .i64 0, .slice none 0 0, .slice none 0 0] BX.out 0
    rw [setA_all (by rfl)] at h
    exact h
  change bodyPost _ _ _ _ _ (Rp.setN w3 (w.heap.size) 0 [.int .i64 0, .slice P_ 5 C_, .slice none 0 0, .int .i64 1, .int .i64 0, .slice none 0 0, .slice none 0 0])
  have HQ := Lib.hid (Row_ne HR.out hk (fun h => by have := HF.out _ h; omega))
  have HW := Lib.hid (HB.out.trans (hk.toBelow HB.out.size (by simp)))
  clear c0 c1 c2 c3 c4 c5 c6 f0 hk
  generalize Rp.setN w3 (w.heap.size) 0 [.int .i64 0, .slice P_ 5 C_, .slice none 0 0, .int .i64 1, .int .i64 0, .slice none 0 0, .slice none 0 0] = wf at *
  have d0 := bf.cell 0 (v := .int .i64 0) rfl
  have d1 := bf.cell 1 (v := .slice P_ 5 C_) rfl
  have d2 := bf.cell 2 (v := .slice none 0 0) rfl
  have d3 := bf.cell 3 (v := .int .i64 1) rfl
  have d4 := bf.cell 4 (v := .int .i64 0) rfl
  have d5 := bf.cell 5 (v := .slice none 0 0) rfl
  have d6 := bf.cell 6 (v := .slice none 0 0) rfl
  refine bodyPost_ret (v := .agg #[.int .i64 0, .slice P_ 5 C_, .slice none 0 0, .int .i64 1, .int .i64 0, .slice none 0 0, .slice none 0 0]) (by simp [results, Try.results5, go_sem, d0, d1, d2, d3, d4, d5, d6]) rfl ⟨_, _, rfl, F, HQ.out, fun b h => by have := HF.out b h; omega, HN.out, HW.out⟩
set_option maxHeartbeats 4000000 in
set_option maxRecDepth 100000 in
theorem sNewEngine_c (w : World) : Calls Try.prog 4 #[] w fun e w' => ∃ P_ C_, e = .returned (.agg #[.int .i64 0, .slice P_ 5 C_, .slice none 0 0, .int .i64 1, .int .i64 0, .slice none 0 0, .slice none 0 0]) ∧ MadeR kInt 3 [-1, -1, -1, -1, -1] w w' (.slice P_ 5 C_) := by
  go_enter Try.func4, Try.ntmps4
  go_upto_region 1 with fail
  have B0 : Box (w.alloc (.cells #[.int .i64 0, .slice none 0 0, .slice none 0 0, .int .i64 0, .int .i64 0, .slice none 0 0, .slice none 0 0] 31)) w.heap.size #[.int .i64 0, .slice none 0 0, .slice none 0 0, .int .i64 0, .int .i64 0, .slice none 0 0, .slice none 0 0] 31 := Box.new rfl
  have HB := Lib.hid ((Below.refl w.heap.size w).alloc (Nat.le_refl _) (.cells #[.int .i64 0, .slice none 0 0, .slice none 0 0, .int .i64 0, .int .i64 0, .slice none 0 0, .slice none 0 0] 31))
  have hsz : w.heap.size + 1 ≤ (w.alloc (.cells #[.int .i64 0, .slice none 0 0, .slice none 0 0, .int .i64 0, .int .i64 0, .slice none 0 0, .slice none 0 0] 31)).heap.size := by simp
  generalize w.alloc (.cells #[.int .i64 0, .slice none 0 0, .slice none 0 0, .int .i64 0, .int .i64 0, .slice none 0 0, .slice none 0 0] 31) = w1 at *
  have BX := Lib.hid B0
  clear B0
  go_wp2_with fail
  (with_reducible refine (sNewSkip_c _).mono ?_)
  rintro e w2 ⟨v, rfl, F, hr, hf, hn, hb⟩
  obtain ⟨P_, C_, e1, _, _⟩ := id (Rp.Row_K hr)
  subst e1
  have HR := Lib.hid hr; have HF := Lib.hid hf; have HN := Lib.hid hn
  have BX := Lib.hid (BX.out.below hb); have HB := Lib.hid (HB.out.trans (hb.mono HB.out.size)); have HS := Lib.hid (Nat.le_trans hsz hb.size)
  clear hr hf hn hb
  go_wp2_with ((with_reducible refine (sNewVersion_c _).mono ?_); rintro e w3 ⟨rfl, hb⟩; have HR := Lib.hid (Rp.Row_below HR.out hb); have BX := Lib.hid (BX.out.below hb); have HB := Lib.hid (HB.out.trans (hb.mono HB.out.size)); clear hb; have c0 := BX.out.cell 0 (v := .int .i64 0) rfl; have c1 := BX.out.cell 1 (v := .slice none 0 0) rfl; have c2 := BX.out.cell 2 (v := .slice none 0 0) rfl; have c3 := BX.out.cell 3 (v := .int .i64 0) rfl; have c4 := BX.out.cell 4 (v := .int .i64 0) rfl; have c5 := BX.out.cell 5 (v := .slice none 0 0) rfl; have c6 := BX.out.cell 6 (v := .slice none 0 0) rfl; have f0 := BX.out.fro)
  have hk : KeptF [w.heap.size] w3 (Rp.setN w3 (w.heap.size) 0 [.int .i64 0, .slice P_ 5 C_, .slice none 0 0, .int .i64 1, .int .i64 0, .slice none 0 0, .slice none 0 0]) := Rp.setN_kept (by simp) _ _ _ (KeptF.refl _ _)
  have bf : Box (Rp.setN w3 (w.heap.size) 0 [.int .i64 0, .slice P_ 5 C_, .slice none 0 0, .int .i64 1, .int .i64 0, .slice none 0 0, .slice none 0 0]) (w.heap.size) #[.int .i64 0, .slice P_ 5 C_, .slice none 0 0, .int .i64 1, .int .i64 0, .slice none 0 0, .slice none 0 0] 31 := by
    have h := Box.setN [.int .i64 0, .slice P_ 5 C_, .slice none 0 0, .int .i64 1, .int .i64 0, .slice none 0 0, .slice none 0 0] BX.out 0
    rw [setA_all (by rfl)] at h
    exact h
  change bodyPost _ _ _ _ _ (Rp.setN w3 (w.heap.size) 0 [.int .i64 0, .slice P_ 5 C_, .slice none 0 0, .int .i64 1, .int .i64 0, .slice none 0 0, .slice none 0 0])
  have HQ := Lib.hid (Row_ne HR.out hk (fun h => by have := HF.out _ h; omega))
  have HW := Lib.hid (HB.out.trans (hk.toBelow HB.out.size (by simp)))
  clear c0 c1 c2 c3 c4 c5 c6 f0 hk
  generalize Rp.setN w3 (w.heap.size) 0 [.int .i64 0, .slice P_ 5 C_, .slice none 0 0, .int .i64 1, .int .i64 0, .slice none 0 0, .slice none 0 0] = wf at *
  have d0 := bf.cell 0 (v := .int .i64 0) rfl
  have d1 := bf.cell 1 (v := .slice P_ 5 C_) rfl
  have d2 := bf.cell 2 (v := .slice none 0 0) rfl
  have d3 := bf.cell 3 (v := .int .i64 1) rfl
  have d4 := bf.cell 4 (v := .int .i64 0) rfl
  have d5 := bf.cell 5 (v := .slice none 0 0) rfl
  have d6 := bf.cell 6 (v := .slice none 0 0) rfl
  refine bodyPost_ret (v := .agg #[.int .i64 0, .slice P_ 5 C_, .slice none 0 0, .int .i64 1, .int .i64 0, .slice none 0 0, .slice none 0 0]) (by simp [results, Try.results4, go_sem, d0, d1, d2, d3, d4, d5, d6]) rfl ⟨_, _, rfl, F, HQ.out, fun b h => by have := HF.out b h; omega, HN.out, HW.out⟩
end Go.Proofs.Ytaeignjpklgelaa
