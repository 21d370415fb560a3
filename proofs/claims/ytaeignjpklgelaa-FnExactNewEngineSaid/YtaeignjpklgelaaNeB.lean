/- The first engine: what makes it, compares it, marks it, and holds it. -/
import Derived.Test.YtaeignjpklgelaaNeA
namespace Go.Proofs.Ytaeignjpklgelaa
open Go Go.RowKit Go.Sort
set_option linter.unusedVariables false
set_option linter.unusedSimpArgs false

set_option maxHeartbeats 1000000 in
theorem eqTowerS_nil (w : World) : Calls Try.prog 24 #[.slice none 0 0, .slice none 0 0] w fun e w' => e = .returned (.bool true) ∧ w' = w := by
  go_enter Try.func24, Try.ntmps24
  go_wp2
  go_loopw [5] (fun n wr => n = .int .i64 0 ∧ Hid (wr = w)) (fun _ _ => 0)
  case atStart => exact ⟨rfl, rfl⟩
  case round =>
    obtain ⟨rfl, HW⟩ := hrel
    go_wp2
    go_ret
    exact ⟨rfl, HW.out⟩
set_option maxHeartbeats 1000000 in
theorem markTowerS_nil (k : Int) (w : World) : Calls Try.prog 28 #[.slice none 0 0, .int .i64 k] w fun e w' => e = .returned (.int .i64 k) ∧ w' = w := by
  go_enter Try.func28, Try.ntmps28
  go_wp2
  go_loopw [1, 5] (fun a n wr => a = .int .i64 k ∧ n = .int .i64 0 ∧ Hid (wr = w)) (fun _ _ _ => 0)
  case atStart => exact ⟨rfl, rfl, rfl⟩
  case round =>
    obtain ⟨rfl, rfl, HW⟩ := hrel
    go_wp2
    go_ret
    exact ⟨rfl, HW.out⟩
set_option maxHeartbeats 1000000 in
theorem heldTowerS_nil (k : Int) (w : World) : Calls Try.prog 32 #[.slice none 0 0, .int .i64 k] w fun e w' => e = .returned (.int .i64 k) ∧ w' = w := by
  go_enter Try.func32, Try.ntmps32
  go_wp2
  go_loopw [1, 5] (fun a n wr => a = .int .i64 k ∧ n = .int .i64 0 ∧ Hid (wr = w)) (fun _ _ _ => 0)
  case atStart => exact ⟨rfl, rfl, rfl⟩
  case round =>
    obtain ⟨rfl, rfl, HW⟩ := hrel
    go_wp2
    go_ret
    exact ⟨rfl, HW.out⟩
set_option maxHeartbeats 1000000 in
theorem eqMetaS_nil (w : World) : Calls Try.prog 25 #[.slice none 0 0, .slice none 0 0] w fun e w' => e = .returned (.bool true) ∧ w' = w := by
  go_enter Try.func25, Try.ntmps25
  go_wp2
  go_loopw [5] (fun n wr => n = .int .i64 0 ∧ Hid (wr = w)) (fun _ _ => 0)
  case atStart => exact ⟨rfl, rfl⟩
  case round =>
    obtain ⟨rfl, HW⟩ := hrel
    go_wp2
    go_ret
    exact ⟨rfl, HW.out⟩
set_option maxHeartbeats 1000000 in
theorem markMetaS_nil (k : Int) (w : World) : Calls Try.prog 29 #[.slice none 0 0, .int .i64 k] w fun e w' => e = .returned (.int .i64 k) ∧ w' = w := by
  go_enter Try.func29, Try.ntmps29
  go_wp2
  go_loopw [1, 5] (fun a n wr => a = .int .i64 k ∧ n = .int .i64 0 ∧ Hid (wr = w)) (fun _ _ _ => 0)
  case atStart => exact ⟨rfl, rfl, rfl⟩
  case round =>
    obtain ⟨rfl, rfl, HW⟩ := hrel
    go_wp2
    go_ret
    exact ⟨rfl, HW.out⟩
set_option maxHeartbeats 1000000 in
theorem heldMetaS_nil (k : Int) (w : World) : Calls Try.prog 33 #[.slice none 0 0, .int .i64 k] w fun e w' => e = .returned (.int .i64 k) ∧ w' = w := by
  go_enter Try.func33, Try.ntmps33
  go_wp2
  go_loopw [1, 5] (fun a n wr => a = .int .i64 k ∧ n = .int .i64 0 ∧ Hid (wr = w)) (fun _ _ _ => 0)
  case atStart => exact ⟨rfl, rfl, rfl⟩
  case round =>
    obtain ⟨rfl, rfl, HW⟩ := hrel
    go_wp2
    go_ret
    exact ⟨rfl, HW.out⟩
set_option maxHeartbeats 1000000 in
theorem eqStoredS_nil (w : World) : Calls Try.prog 15 #[.slice none 0 0, .slice none 0 0] w fun e w' => e = .returned (.bool true) ∧ w' = w := by
  go_enter Try.func15, Try.ntmps15
  go_wp2
  go_loopw [5] (fun n wr => n = .int .i64 0 ∧ Hid (wr = w)) (fun _ _ => 0)
  case atStart => exact ⟨rfl, rfl⟩
  case round =>
    obtain ⟨rfl, HW⟩ := hrel
    go_wp2
    go_ret
    exact ⟨rfl, HW.out⟩
set_option maxHeartbeats 1000000 in
theorem markStoredS_nil (k : Int) (w : World) : Calls Try.prog 18 #[.slice none 0 0, .int .i64 k] w fun e w' => e = .returned (.int .i64 k) ∧ w' = w := by
  go_enter Try.func18, Try.ntmps18
  go_wp2
  go_loopw [1, 5] (fun a n wr => a = .int .i64 k ∧ n = .int .i64 0 ∧ Hid (wr = w)) (fun _ _ _ => 0)
  case atStart => exact ⟨rfl, rfl, rfl⟩
  case round =>
    obtain ⟨rfl, rfl, HW⟩ := hrel
    go_wp2
    go_ret
    exact ⟨rfl, HW.out⟩
set_option maxHeartbeats 1000000 in
theorem heldStoredS_nil (k : Int) (w : World) : Calls Try.prog 21 #[.slice none 0 0, .int .i64 k] w fun e w' => e = .returned (.int .i64 k) ∧ w' = w := by
  go_enter Try.func21, Try.ntmps21
  go_wp2
  go_loopw [1, 5] (fun a n wr => a = .int .i64 k ∧ n = .int .i64 0 ∧ Hid (wr = w)) (fun _ _ _ => 0)
  case atStart => exact ⟨rfl, rfl, rfl⟩
  case round =>
    obtain ⟨rfl, rfl, HW⟩ := hrel
    go_wp2
    go_ret
    exact ⟨rfl, HW.out⟩
set_option maxHeartbeats 4000000 in
set_option maxRecDepth 100000 in
theorem eqSkip_c (xs : List Int) (v1 v2 : Value) (w : World) (g1 : kInt.S w xs v1) (g2 : kInt.S w xs v2) (hl : xs.length ≤ 1000) : Calls Try.prog 13 #[.agg #[v1, .slice none 0 0], .agg #[v2, .slice none 0 0]] w
    fun e w' => e = .returned (.bool true) ∧ Below w.heap.size w w' := by
  have G1 := Lib.hid g1; have G2 := Lib.hid g2
  clear g1 g2
  have HA := Lib.hid (Below.alloc ((Below.refl w.heap.size w).alloc (Nat.le_refl _) (.cells #[v1, .slice none 0 0] 25)) (by simp) (.cells #[v2, .slice none 0 0] 25))
  go_enter Try.func13, Try.ntmps13
  go_wp2_with fail
  (with_reducible refine (eqIntS_calls xs v1 v2 _ (Rp.S_below G1.out HA.out) (Rp.S_below G2.out HA.out) (by omega)).mono ?_)
  rintro e w1 ⟨rfl, hb⟩
  have B1 := Box.below (Box.alloc (o := .cells #[v2, .slice none 0 0] 25) (Box.new (w := w) (cs := #[v1, .slice none 0 0]) (T := 25) rfl)) hb
  have B2 : Box w1 (w.heap.size + 1) #[v2, .slice none 0 0] 25 := Box.below (Box.new (by simp)) hb
  have HB := Lib.hid (HA.out.trans (hb.mono HA.out.size))
  have c1 := B1.cell 1 (v := .slice none 0 0) rfl
  have c2 := B2.cell 1 (v := .slice none 0 0) rfl
  clear hb B1 B2 HA
  go_wp2_with ((with_reducible refine (eqTowerS_nil _).mono ?_); rintro e wq ⟨rfl, hw⟩; rw [hw]; clear hw)
  go_ret
  exact ⟨rfl, HB.out⟩
set_option maxHeartbeats 4000000 in
set_option maxRecDepth 100000 in
theorem eqVersion_c  (w : World) : Calls Try.prog 14 #[.agg #[.int .i64 1, .int .i64 0, .slice none 0 0], .agg #[.int .i64 1, .int .i64 0, .slice none 0 0]] w
    fun e w' => e = .returned (.bool true) ∧ Below w.heap.size w w' := by
  have HA := Lib.hid (Below.alloc ((Below.refl w.heap.size w).alloc (Nat.le_refl _) (.cells #[.int .i64 1, .int .i64 0, .slice none 0 0] 28)) (by simp) (.cells #[.int .i64 1, .int .i64 0, .slice none 0 0] 28))
  go_enter Try.func14, Try.ntmps14
  go_wp2_with ((with_reducible refine (eqMetaS_nil _).mono ?_); rintro e wq ⟨rfl, hw⟩; rw [hw]; clear hw)
  go_ret
  exact ⟨rfl, HA.out⟩
set_option maxHeartbeats 4000000 in
set_option maxRecDepth 100000 in
theorem eqEngine_c (xs : List Int) (v1 v2 : Value) (w : World) (g1 : kInt.S w xs v1) (g2 : kInt.S w xs v2) (hl : xs.length ≤ 1000) : Calls Try.prog 6 #[.agg #[.int .i64 0, v1, .slice none 0 0, .int .i64 1, .int .i64 0, .slice none 0 0, .slice none 0 0], .agg #[.int .i64 0, v2, .slice none 0 0, .int .i64 1, .int .i64 0, .slice none 0 0, .slice none 0 0]] w
    fun e w' => e = .returned (.bool true) ∧ Below w.heap.size w w' := by
  have G1 := Lib.hid g1; have G2 := Lib.hid g2
  clear g1 g2
  have HA := Lib.hid (Below.alloc ((Below.refl w.heap.size w).alloc (Nat.le_refl _) (.cells #[.int .i64 0, v1, .slice none 0 0, .int .i64 1, .int .i64 0, .slice none 0 0, .slice none 0 0] 31)) (by simp) (.cells #[.int .i64 0, v2, .slice none 0 0, .int .i64 1, .int .i64 0, .slice none 0 0, .slice none 0 0] 31))
  go_enter Try.func6, Try.ntmps6
  go_wp2_with fail
  (with_reducible refine (eqSkip_c xs v1 v2 _ (Rp.S_below G1.out HA.out) (Rp.S_below G2.out HA.out) hl).mono ?_)
  rintro e w1 ⟨rfl, hb⟩
  have B1 := Lib.hid (Box.below (Box.alloc (o := .cells #[.int .i64 0, v2, .slice none 0 0, .int .i64 1, .int .i64 0, .slice none 0 0, .slice none 0 0] 31) (Box.new (w := w) (cs := #[.int .i64 0, v1, .slice none 0 0, .int .i64 1, .int .i64 0, .slice none 0 0, .slice none 0 0]) (T := 31) rfl)) hb)
  have B2 := Lib.hid (show Box w1 (w.heap.size + 1) #[.int .i64 0, v2, .slice none 0 0, .int .i64 1, .int .i64 0, .slice none 0 0, .slice none 0 0] 31 from Box.below (Box.new (by simp)) hb)
  have HB := Lib.hid (HA.out.trans (hb.mono HA.out.size))
  clear hb HA
  have a0 := B1.out.cell 0 (v := .int .i64 0) rfl; have b0 := B2.out.cell 0 (v := .int .i64 0) rfl
  have a1 := B1.out.cell 1 (v := v1) rfl; have b1 := B2.out.cell 1 (v := v2) rfl
  have a2 := B1.out.cell 2 (v := .slice none 0 0) rfl; have b2 := B2.out.cell 2 (v := .slice none 0 0) rfl
  have a3 := B1.out.cell 3 (v := .int .i64 1) rfl; have b3 := B2.out.cell 3 (v := .int .i64 1) rfl
  have a4 := B1.out.cell 4 (v := .int .i64 0) rfl; have b4 := B2.out.cell 4 (v := .int .i64 0) rfl
  have a5 := B1.out.cell 5 (v := .slice none 0 0) rfl; have b5 := B2.out.cell 5 (v := .slice none 0 0) rfl
  have a6 := B1.out.cell 6 (v := .slice none 0 0) rfl; have b6 := B2.out.cell 6 (v := .slice none 0 0) rfl
  go_wp2_with fail
  (with_reducible refine (eqVersion_c _).mono ?_)
  rintro e w2 ⟨rfl, hb⟩
  have B1 := Lib.hid (B1.out.below hb)
  have B2 := Lib.hid (B2.out.below hb)
  have HB := Lib.hid (HB.out.trans (hb.mono HB.out.size))
  clear hb a0 b0 a1 b1 a2 b2 a3 b3 a4 b4 a5 b5 a6 b6
  have a0 := B1.out.cell 0 (v := .int .i64 0) rfl; have b0 := B2.out.cell 0 (v := .int .i64 0) rfl
  have a1 := B1.out.cell 1 (v := v1) rfl; have b1 := B2.out.cell 1 (v := v2) rfl
  have a2 := B1.out.cell 2 (v := .slice none 0 0) rfl; have b2 := B2.out.cell 2 (v := .slice none 0 0) rfl
  have a3 := B1.out.cell 3 (v := .int .i64 1) rfl; have b3 := B2.out.cell 3 (v := .int .i64 1) rfl
  have a4 := B1.out.cell 4 (v := .int .i64 0) rfl; have b4 := B2.out.cell 4 (v := .int .i64 0) rfl
  have a5 := B1.out.cell 5 (v := .slice none 0 0) rfl; have b5 := B2.out.cell 5 (v := .slice none 0 0) rfl
  have a6 := B1.out.cell 6 (v := .slice none 0 0) rfl; have b6 := B2.out.cell 6 (v := .slice none 0 0) rfl
  go_wp2_with ((with_reducible refine (eqStoredS_nil _).mono ?_); rintro e wq ⟨rfl, hw⟩; rw [hw]; clear hw)
  go_ret
  exact ⟨rfl, HB.out⟩
set_option maxHeartbeats 4000000 in
set_option maxRecDepth 100000 in
theorem markSkip_c (xs : List Int) (k : Int) (F : List Nat) (v : Value) (w : World) (h : kInt.Row 3 w F xs v) (hn : F.Nodup) (h0 : 0 ≤ k) (h1 : (mkL mkInt xs k).2 ≤ 4611686018427387904) (hl : xs.length ≤ 1000) : Calls Try.prog 16 #[.agg #[v, .slice none 0 0], .int .i64 k] w
    fun e w' => e = .returned (.int .i64 (mkL mkInt xs k).2) ∧ kInt.Row 3 w' F (mkL mkInt xs k).1 v ∧ KeptF F w w' := by
  have R := Lib.hid h; have L1 := Lib.hid h1
  have HL := Lib.hid (fun b hb => Nat.ne_of_lt (Rp.Row_lt h b hb) : ∀ b ∈ F, b ≠ w.heap.size)
  clear h h1
  go_enter Try.func16, Try.ntmps16
  go_wp2_with fail
  (with_reducible refine (markIntS_calls xs k F v _ (Rp.Row_below R.out ((Below.refl _ _).alloc (Nat.le_refl _) _)) hn h0 L1.out (by omega)).mono ?_)
  rintro e w1 ⟨rfl, hr, hk⟩
  have B : Box w1 w.heap.size #[v, .slice none 0 0] 25 := Box.kept (Box.new rfl) hk (fun hm => HL.out _ hm rfl)
  have c1 := B.cell 1 (v := .slice none 0 0) rfl
  have HR := Lib.hid hr; have HK := Lib.hid (((KeptF.refl _ _).alloc _).trans hk)
  clear hr hk B
  go_wp2_with ((with_reducible refine (markTowerS_nil _ _).mono ?_); rintro e wq ⟨rfl, hw⟩; rw [hw]; clear hw)
  go_ret
  exact ⟨rfl, HR.out, HK.out⟩
set_option maxHeartbeats 1000000 in
theorem markVersion_c (k : Int) (w : World) : Calls Try.prog 17 #[.agg #[.int .i64 1, .int .i64 0, .slice none 0 0], .int .i64 k] w fun e w' => e = .returned (.int .i64 k) ∧ Below w.heap.size w w' := by
  have HA := Lib.hid ((Below.refl w.heap.size w).alloc (Nat.le_refl _) (.cells #[.int .i64 1, .int .i64 0, .slice none 0 0] 28))
  go_enter Try.func17, Try.ntmps17
  go_wp2_with ((with_reducible refine (markMetaS_nil _ _).mono ?_); rintro e wq ⟨rfl, hw⟩; rw [hw]; clear hw)
  go_ret
  exact ⟨rfl, HA.out⟩
set_option maxHeartbeats 4000000 in
set_option maxRecDepth 100000 in
theorem markEngine_c (xs : List Int) (k : Int) (F : List Nat) (v : Value) (w : World) (h : kInt.Row 3 w F xs v) (hn : F.Nodup) (h0 : 0 ≤ k) (h1 : (mkL mkInt xs k).2 ≤ 4611686018427387904) (hl : xs.length ≤ 1000) : Calls Try.prog 7 #[.agg #[.int .i64 0, v, .slice none 0 0, .int .i64 1, .int .i64 0, .slice none 0 0, .slice none 0 0], .int .i64 k] w
    fun e w' => e = .returned (.int .i64 (mkL mkInt xs k).2) ∧ kInt.Row 3 w' F (mkL mkInt xs k).1 v ∧ KeptF F w w' := by
  have R := Lib.hid h; have L1 := Lib.hid h1
  have HL := Lib.hid (fun b hb => Nat.ne_of_lt (Rp.Row_lt h b hb) : ∀ b ∈ F, b ≠ w.heap.size)
  clear h h1
  go_enter Try.func7, Try.ntmps7
  go_wp2_with fail
  (with_reducible refine (markSkip_c xs k F v _ (Rp.Row_below R.out ((Below.refl _ _).alloc (Nat.le_refl _) _)) hn h0 L1.out hl).mono ?_)
  rintro e w1 ⟨rfl, hr, hk⟩
  have B : Box w1 w.heap.size #[.int .i64 0, v, .slice none 0 0, .int .i64 1, .int .i64 0, .slice none 0 0, .slice none 0 0] 31 := Box.kept (Box.new rfl) hk (fun hm => HL.out _ hm rfl)
  have BX := Lib.hid B
  have c0 := B.cell 0 (v := .int .i64 0) rfl
  have c1 := B.cell 1 (v := v) rfl
  have c2 := B.cell 2 (v := .slice none 0 0) rfl
  have c3 := B.cell 3 (v := .int .i64 1) rfl
  have c4 := B.cell 4 (v := .int .i64 0) rfl
  have c5 := B.cell 5 (v := .slice none 0 0) rfl
  have c6 := B.cell 6 (v := .slice none 0 0) rfl
  have HR := Lib.hid hr; have HK := Lib.hid (((KeptF.refl _ _).alloc _).trans hk)
  clear hr hk B
  go_wp2_with fail
  (with_reducible refine (markVersion_c _ _).mono ?_)
  rintro e w2 ⟨rfl, hb⟩
  have HR := Lib.hid (Rp.Row_below HR.out hb)
  have B := BX.out.below hb
  have HK := Lib.hid (HK.out.below hb)
  clear c0 c1 c2 c3 c4 c5 c6
  have c0 := B.cell 0 (v := .int .i64 0) rfl
  have c1 := B.cell 1 (v := v) rfl
  have c2 := B.cell 2 (v := .slice none 0 0) rfl
  have c3 := B.cell 3 (v := .int .i64 1) rfl
  have c4 := B.cell 4 (v := .int .i64 0) rfl
  have c5 := B.cell 5 (v := .slice none 0 0) rfl
  have c6 := B.cell 6 (v := .slice none 0 0) rfl
  clear hb B
  go_wp2_with ((with_reducible refine (markStoredS_nil _ _).mono ?_); rintro e wq ⟨rfl, hw⟩; rw [hw]; clear hw)
  go_ret
  exact ⟨rfl, HR.out, HK.out⟩
set_option maxHeartbeats 4000000 in
set_option maxRecDepth 100000 in
theorem heldSkip_c (xs : List Int) (k : Int) (v : Value) (w : World) (g : kInt.S w (mkL mkInt xs k).1 v) (h0 : 0 ≤ k) (h1 : (mkL mkInt xs k).2 ≤ 4611686018427387904) (hl : xs.length ≤ 1000) : Calls Try.prog 19 #[.agg #[v, .slice none 0 0], .int .i64 k] w
    fun e w' => e = .returned (.int .i64 (mkL mkInt xs k).2) ∧ Below w.heap.size w w' := by
  have G := Lib.hid g; have L1 := Lib.hid h1
  clear g h1
  have n0 : ¬ (mkL mkInt xs k).2 < 0 := by have := mkL_le mkInt_le xs k; omega
  have HA := Lib.hid ((Below.refl w.heap.size w).alloc (Nat.le_refl _) (.cells #[v, .slice none 0 0] 25))
  go_enter Try.func19, Try.ntmps19
  go_wp2_with fail
  (with_reducible refine (heldIntS_calls xs k v _ (Rp.S_below G.out HA.out) h0 L1.out (by omega)).mono ?_)
  rintro e w1 ⟨rfl, hb⟩
  have B : Box w1 w.heap.size #[v, .slice none 0 0] 25 := Box.below (Box.new rfl) hb
  have c1 := B.cell 1 (v := .slice none 0 0) rfl
  have HB := Lib.hid (HA.out.trans (hb.mono HA.out.size))
  clear hb B HA L1 G
  go_wp2_with ((with_reducible refine (heldTowerS_nil _ _).mono ?_); rintro e wq ⟨rfl, hw⟩; rw [hw]; clear hw)
  go_ret
  exact ⟨rfl, HB.out⟩
set_option maxHeartbeats 1000000 in
theorem heldVersion_c (k : Int) (w : World) (h0 : ¬ k < 0) : Calls Try.prog 20 #[.agg #[.int .i64 1, .int .i64 0, .slice none 0 0], .int .i64 k] w fun e w' => e = .returned (.int .i64 k) ∧ Below w.heap.size w w' := by
  have HA := Lib.hid ((Below.refl w.heap.size w).alloc (Nat.le_refl _) (.cells #[.int .i64 1, .int .i64 0, .slice none 0 0] 28))
  go_enter Try.func20, Try.ntmps20
  go_wp2_with ((with_reducible refine (heldMetaS_nil _ _).mono ?_); rintro e wq ⟨rfl, hw⟩; rw [hw]; clear hw)
  go_ret
  exact ⟨rfl, HA.out⟩
set_option maxHeartbeats 4000000 in
set_option maxRecDepth 100000 in
theorem heldEngine_c (xs : List Int) (k : Int) (v : Value) (w : World) (g : kInt.S w (mkL mkInt xs k).1 v) (h0 : 0 ≤ k) (h1 : (mkL mkInt xs k).2 ≤ 4611686018427387904) (hl : xs.length ≤ 1000) : Calls Try.prog 8 #[.agg #[.int .i64 0, v, .slice none 0 0, .int .i64 1, .int .i64 0, .slice none 0 0, .slice none 0 0], .int .i64 k] w
    fun e w' => e = .returned (.int .i64 (mkL mkInt xs k).2) ∧ Below w.heap.size w w' := by
  have G := Lib.hid g; have L1 := Lib.hid h1
  clear g h1
  have n0 : ¬ (mkL mkInt xs k).2 < 0 := by have := mkL_le mkInt_le xs k; omega
  have HA := Lib.hid ((Below.refl w.heap.size w).alloc (Nat.le_refl _) (.cells #[.int .i64 0, v, .slice none 0 0, .int .i64 1, .int .i64 0, .slice none 0 0, .slice none 0 0] 31))
  go_enter Try.func8, Try.ntmps8
  go_wp2_with fail
  (with_reducible refine (heldSkip_c xs k v _ (Rp.S_below G.out HA.out) h0 L1.out hl).mono ?_)
  rintro e w1 ⟨rfl, hb⟩
  have B : Box w1 w.heap.size #[.int .i64 0, v, .slice none 0 0, .int .i64 1, .int .i64 0, .slice none 0 0, .slice none 0 0] 31 := Box.below (Box.new rfl) hb
  have BX := Lib.hid B
  have c0 := B.cell 0 (v := .int .i64 0) rfl
  have c1 := B.cell 1 (v := v) rfl
  have c2 := B.cell 2 (v := .slice none 0 0) rfl
  have c3 := B.cell 3 (v := .int .i64 1) rfl
  have c4 := B.cell 4 (v := .int .i64 0) rfl
  have c5 := B.cell 5 (v := .slice none 0 0) rfl
  have c6 := B.cell 6 (v := .slice none 0 0) rfl
  have HB := Lib.hid (HA.out.trans (hb.mono HA.out.size))
  clear hb B HA L1 G
  go_wp2_with fail
  (with_reducible refine (heldVersion_c _ _ (by omega)).mono ?_)
  rintro e w2 ⟨rfl, hb⟩
  have B := BX.out.below hb
  have HB := Lib.hid (HB.out.trans (hb.mono HB.out.size))
  clear c0 c1 c2 c3 c4 c5 c6
  have c0 := B.cell 0 (v := .int .i64 0) rfl
  have c1 := B.cell 1 (v := v) rfl
  have c2 := B.cell 2 (v := .slice none 0 0) rfl
  have c3 := B.cell 3 (v := .int .i64 1) rfl
  have c4 := B.cell 4 (v := .int .i64 0) rfl
  have c5 := B.cell 5 (v := .slice none 0 0) rfl
  have c6 := B.cell 6 (v := .slice none 0 0) rfl
  clear hb B
  go_wp2_with ((with_reducible refine (heldStoredS_nil _ _).mono ?_); rintro e wq ⟨rfl, hw⟩; rw [hw]; clear hw)
  go_ret
  exact ⟨rfl, HB.out⟩
end Go.Proofs.Ytaeignjpklgelaa
