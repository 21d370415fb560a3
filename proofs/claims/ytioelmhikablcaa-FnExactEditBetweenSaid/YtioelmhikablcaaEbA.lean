/- EditBetween: has a list this Meta, walked on both sides. -/
import Derived.Test.YtioelmhikablcaaEbP
namespace Go.Proofs.Ytioelmhikablcaa
open Go Go.RowKit Go.Sort
set_option linter.unusedVariables false
set_option linter.unusedSimpArgs false

theorem any_takeM {α : Type} {p : α → Bool} {xs : List α} {k : Nat} (h : k < xs.length) : (xs.take (k + 1)).any p = ((xs.take k).any p || p xs[k]) := by
  rw [List.take_add_one, List.getElem?_eq_getElem h, List.any_append]
  simp
theorem any_atM {α : Type} {p : α → Bool} {xs : List α} {k : Nat} (h : k < xs.length) (hp : p xs[k] = true) : xs.any p = true := by
  rw [List.any_eq_true]
  exact ⟨xs[k], List.getElem_mem h, hp⟩
set_option maxHeartbeats 2000000 in
set_option maxRecDepth 100000 in
theorem idxM_calls (m : DMeta) (xs : List DMeta) (v : Value) (w : World) (gs : kMeta.S w xs v) (hl : xs.length ≤ 140737488355328) :
    Calls Try.prog 230 #[v, .agg #[.int .i64 m.fNumber, .int .i64 m.fLevel, .string m.fLeast, .string m.fMost]] w
    fun e w' => ∃ r : Int, e = .returned (.int .i64 r) ∧ decide (0 ≤ r) = hasM xs m ∧ Below w.heap.size w w' := by
  obtain ⟨A, c, rfl, hc, h⟩ := gs
  have H := Lib.hid h; clear h
  go_enter Try.func230, Try.ntmps230
  go_wp2
  go_loopw [8] (fun i wr => ∃ k : Nat, k ≤ xs.length ∧ i = .int .i64 k ∧ Hid ((xs.take k).any (eqM m) = false) ∧ Hid (Below w.heap.size w wr) ∧ Hid (Box wr w.heap.size #[.int .i64 m.fNumber, .int .i64 m.fLevel, .string m.fLeast, .string m.fMost] 175)) (fun i _ => xs.length - (intOf i).toNat)
  case atStart => exact ⟨0, Nat.zero_le _, rfl, rfl, (Below.refl _ _).alloc (Nat.le_refl _) _, Box.new rfl⟩
  case round =>
    obtain ⟨k, hk, rfl, HE, HB, HX⟩ := hrel
    by_cases hlt : k < xs.length
    · obtain ⟨b, o, cs, rfl, k1, q1⟩ := Rp.C_get H.out k hlt
      obtain rfl := kMeta_K k1
      have hany := any_takeM (p := eqM m) hlt
      have hat := any_atM (p := eqM m) hlt
      rw [HE.out, Bool.false_or] at hany
      generalize he : xs[k] = y at *
      have HG := Lib.hid he; clear he
      have HA := Lib.hid hany; clear hany HE
      have HT := Lib.hid hat; clear hat
      have a0 := (World.cell?_of_block (HB.out.block b (World.block_lt_of_cell? w _ (q1 0 _ rfl)))).trans (q1 0 _ rfl)
      have a1 := (World.cell?_of_block (HB.out.block b (World.block_lt_of_cell? w _ (q1 1 _ rfl)))).trans (q1 1 _ rfl)
      have a2 := (World.cell?_of_block (HB.out.block b (World.block_lt_of_cell? w _ (q1 2 _ rfl)))).trans (q1 2 _ rfl)
      have a3 := (World.cell?_of_block (HB.out.block b (World.block_lt_of_cell? w _ (q1 3 _ rfl)))).trans (q1 3 _ rfl)
      simp only [kMeta_sz, Nat.add_zero] at a0 a1 a2 a3
      clear q1 k1
      have i1 : (0 : Int) ≤ (k : Int) := by omega
      have i2 : (k : Int) < (xs.length : Int) := by omega
      have heq : ∀ W, (binOp .eql 175 (.agg #[.int .i64 m.fNumber, .int .i64 m.fLevel, .string m.fLeast, .string m.fMost]) (.agg #[.int .i64 y.fNumber, .int .i64 y.fLevel, .string y.fLeast, .string y.fMost])).run Try.prog W = .ok (.bool (eqM m y)) W := eqMeta_op m y
      have hgr := grMeta_op
      have x0 := HX.out.cell 0 (v := .int .i64 m.fNumber) rfl
      have x1 := HX.out.cell 1 (v := .int .i64 m.fLevel) rfl
      have x2 := HX.out.cell 2 (v := .string m.fLeast) rfl
      have x3 := HX.out.cell 3 (v := .string m.fMost) rfl
      cases hm : eqM m y
      all_goals
        rw [hm] at heq
        go_upto_region 4 with fail
        have r0 := regr (Below.refl _ _) (World.block_lt_of_cell? wr _ x0) x0
        have r1 := regr (Below.refl _ _) (World.block_lt_of_cell? wr _ x1) x1
        have r2 := regr (Below.refl _ _) (World.block_lt_of_cell? wr _ x2) x2
        have r3 := regr (Below.refl _ _) (World.block_lt_of_cell? wr _ x3) x3
        have s0 := regr (Below.refl _ _) (World.block_lt_of_cell? wr _ a0) a0
        have s1 := regr (Below.refl _ _) (World.block_lt_of_cell? wr _ a1) a1
        have s2 := regr (Below.refl _ _) (World.block_lt_of_cell? wr _ a2) a2
        have s3 := regr (Below.refl _ _) (World.block_lt_of_cell? wr _ a3) a3
        clear x0 x1 x2 x3 a0 a1 a2 a3
        refine wp_region_quiet_below (by kernel_rfl) (by kernel_rfl) ?_
        repeat (go_big_quiet_step (fail))
        refine wpQuiet_nil ?_
        rintro w2 ⟨p, rfl⟩
        have HB2 := Lib.hid (HB.out.trans ((below_regrown wr p.d p.os).mono HB.out.size))
        have HX2 := Lib.hid (HX.out.below (below_regrown wr p.d p.os))
        clear r0 r1 r2 r3 s0 s1 s2 s3
        generalize grow (redrawn wr p.d) p.os = w2 at *
        go_wp2
      · exact ⟨⟨k + 1, by omega, by go_num, by rw [Hid, HA.out, hm], HB2.out, HX2.out⟩, by simp [intOf]; omega⟩
      · go_ret
        refine ⟨k, rfl, ?_, HB2.out⟩
        unfold hasM
        rw [HT.out hm]
        simp
    · go_wp2
      go_ret
      obtain rfl : k = xs.length := by omega
      refine ⟨-1, rfl, ?_, HB.out⟩
      have h1 := HE.out
      rw [List.take_length] at h1
      unfold hasM
      rw [h1]
      rfl
set_option maxHeartbeats 1000000 in
theorem iHas_calls (m : DMeta) (xs : List DMeta) (v : Value) (w : World) (gs : kMeta.S w xs v) (hl : xs.length ≤ 140737488355328) :
    Calls Try.prog 200 #[v, .agg #[.int .i64 m.fNumber, .int .i64 m.fLevel, .string m.fLeast, .string m.fMost]] w
    fun e w' => e = .returned (.bool (hasM xs m)) ∧ Below w.heap.size w w' := by
  have G := Lib.hid gs; clear gs
  go_enter Try.func200, Try.ntmps200
  go_wp2_with fail
  (with_reducible refine (idxM_calls m xs v _ (Rp.S_below G.out ((Below.refl _ _).alloc (Nat.le_refl _) _)) hl).mono ?_)
  rintro e w1 ⟨r, rfl, hr, hb⟩
  have HR := Lib.hid hr; have HB := Lib.hid (((Below.refl _ w).alloc (Nat.le_refl _) _).trans (hb.mono (by simp)))
  clear hr hb
  go_wp2
  go_ret
  exact ⟨by rw [← HR.out]; rfl, HB.out⟩
set_option maxHeartbeats 2000000 in
set_option maxRecDepth 100000 in
theorem sHas_calls (m : DMeta) (xs : List DMeta) (v : Value) (w : World) (gs : kMeta.S w xs v) (hl : xs.length ≤ 140737488355328) :
    Calls Try.prog 131 #[v, .agg #[.int .i64 m.fNumber, .int .i64 m.fLevel, .string m.fLeast, .string m.fMost]] w
    fun e w' => e = .returned (.bool (hasM xs m)) ∧ Below w.heap.size w w' := by
  obtain ⟨A, c, rfl, hc, h⟩ := gs
  have H := Lib.hid h; clear h
  go_enter Try.func131, Try.ntmps131
  go_wp2
  go_loopw [9] (fun i wr => ∃ k : Nat, k ≤ xs.length ∧ i = .int .i64 k ∧ Hid ((xs.take k).any (eqM m) = false) ∧ Hid (Below w.heap.size w wr) ∧ Hid (Box wr w.heap.size #[.int .i64 m.fNumber, .int .i64 m.fLevel, .string m.fLeast, .string m.fMost] 175)) (fun i _ => xs.length - (intOf i).toNat)
  case atStart => exact ⟨0, Nat.zero_le _, rfl, rfl, (Below.refl _ _).alloc (Nat.le_refl _) _, Box.new rfl⟩
  case round =>
    obtain ⟨k, hk, rfl, HE, HB, HX⟩ := hrel
    by_cases hlt : k < xs.length
    · obtain ⟨b, o, cs, rfl, k1, q1⟩ := Rp.C_get H.out k hlt
      obtain rfl := kMeta_K k1
      have hany := any_takeM (p := eqM m) hlt
      have hat := any_atM (p := eqM m) hlt
      rw [HE.out, Bool.false_or] at hany
      generalize he : xs[k] = y at *
      have HG := Lib.hid he; clear he
      have HA := Lib.hid hany; clear hany HE
      have HT := Lib.hid hat; clear hat
      have a0 := (World.cell?_of_block (HB.out.block b (World.block_lt_of_cell? w _ (q1 0 _ rfl)))).trans (q1 0 _ rfl)
      have a1 := (World.cell?_of_block (HB.out.block b (World.block_lt_of_cell? w _ (q1 1 _ rfl)))).trans (q1 1 _ rfl)
      have a2 := (World.cell?_of_block (HB.out.block b (World.block_lt_of_cell? w _ (q1 2 _ rfl)))).trans (q1 2 _ rfl)
      have a3 := (World.cell?_of_block (HB.out.block b (World.block_lt_of_cell? w _ (q1 3 _ rfl)))).trans (q1 3 _ rfl)
      simp only [kMeta_sz, Nat.add_zero] at a0 a1 a2 a3
      clear q1 k1
      have i1 : (0 : Int) ≤ (k : Int) := by omega
      have i2 : (k : Int) < (xs.length : Int) := by omega
      have heq : ∀ W, (binOp .eql 175 (.agg #[.int .i64 y.fNumber, .int .i64 y.fLevel, .string y.fLeast, .string y.fMost]) (.agg #[.int .i64 m.fNumber, .int .i64 m.fLevel, .string m.fLeast, .string m.fMost])).run Try.prog W = .ok (.bool (eqM m y)) W := fun W => by rw [eqM_comm]; exact eqMeta_op y m W
      have hgr := grMeta_op
      have x0 := HX.out.cell 0 (v := .int .i64 m.fNumber) rfl
      have x1 := HX.out.cell 1 (v := .int .i64 m.fLevel) rfl
      have x2 := HX.out.cell 2 (v := .string m.fLeast) rfl
      have x3 := HX.out.cell 3 (v := .string m.fMost) rfl
      have xl := HX.out.lt
      have HB2 := Lib.hid (HB.out.alloc HB.out.size (.cells #[.int .i64 y.fNumber, .int .i64 y.fLevel, .string y.fLeast, .string y.fMost] 175))
      have HX2 := Lib.hid (Box.alloc (o := .cells #[.int .i64 y.fNumber, .int .i64 y.fLevel, .string y.fLeast, .string y.fMost] 175) HX.out)
      cases hm : eqM m y
      all_goals
        rw [hm] at heq
        go_wp2
      · exact ⟨⟨k + 1, by omega, by go_num, by rw [Hid, HA.out, hm], HB2.out, HX2.out⟩, by simp [intOf]; omega⟩
      · go_ret
        exact ⟨by rw [show hasM xs m = true from HT.out hm]; rfl, HB2.out⟩
    · go_wp2
      go_ret
      obtain rfl : k = xs.length := by omega
      have h1 := HE.out
      rw [List.take_length] at h1
      exact ⟨by rw [show hasM xs m = false from h1]; rfl, HB.out⟩
end Go.Proofs.Ytioelmhikablcaa
