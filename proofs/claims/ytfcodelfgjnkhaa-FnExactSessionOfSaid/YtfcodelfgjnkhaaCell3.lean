/- Cells and sessions found, walked: the methods and the reference. -/
import Derived.Test.YtfcodelfgjnkhaaCell2
import Derived.Test.YtfcodelfgjnkhaaCellP
namespace Go.Proofs.Ytfcodelfgjnkhaa
open Go Go.RowKit Go.Sort
set_option linter.unusedVariables false
set_option linter.unusedSimpArgs false

def linPair (xs : List DPair) (key : ByteArray) : Nat := linR (lessPair xs key) 0 xs.length
theorem lessPair_at {xs : List DPair} {key : ByteArray} {k : Nat} (h : k < xs.length) : lessPair xs key k = Op.bytesLess xs[k].fKey.toList key.toList := by rw [lessPair, atPair_eq h, cmpS_neg]
theorem isPair_at {xs : List DPair} {key : ByteArray} {k : Nat} (h : k < xs.length) : isPair xs key k = (xs[k].fKey.toList == key.toList) := by rw [isPair, atPair_eq h, cmpS_zero, decide_eq_true h, Bool.true_and]
theorem isPair_off {xs : List DPair} {key : ByteArray} {k : Nat} (h : ¬ k < xs.length) : isPair xs key k = false := by rw [isPair, decide_eq_false h, Bool.false_and]
set_option maxHeartbeats 1000000 in
theorem atPairM_calls (xs : List DPair) (key : ByteArray) (v : Value) (b : Nat) (w : World) (c0 : w.cell? ⟨b, 0, none⟩ = some v) (g : kPair.S w xs v) (hl : xs.length ≤ 1048576) : Calls Try.prog 81 #[.pointer (some ⟨b, 0, none⟩), .string key] w
    fun e w' => e = .returned (.tuple #[.int .i64 (bsPair xs key), .bool (isPair xs key (bsPair xs key))]) ∧ Below w.heap.size w w' := by
  have G := Lib.hid g; clear g
  go_enter Try.func81, Try.ntmps81
  go_wp2_with ((with_reducible refine (bsfPair_calls xs key v _ G.out hl).mono ?_); rintro e w1 ⟨rfl, hb⟩; have HB := Lib.hid hb; clear hb)
  exact bodyPost_ret (v := .tuple #[.int .i64 (bsPair xs key), .bool (isPair xs key (bsPair xs key))]) (by simp [results, Try.results81, go_sem]) rfl ⟨rfl, HB.out⟩
set_option maxHeartbeats 2000000 in
set_option maxRecDepth 100000 in
theorem linPair_calls (xs : List DPair) (key : ByteArray) (v : Value) (w : World) (g : kPair.S w xs v) (hl : xs.length ≤ 1048576) : Calls Try.prog 80 #[v, .string key] w
    fun e w' => e = .returned (.tuple #[.int .i64 (linPair xs key), .bool (isPair xs key (linPair xs key))]) ∧ Below w.heap.size w w' := by
  obtain ⟨A, c, rfl, hc, h⟩ := g
  have H := Lib.hid h; clear h
  go_enter Try.func80, Try.ntmps80
  go_wp2
  go_loopw [6] (fun i wr => ∃ k : Nat, i = .int .i64 k ∧ k ≤ xs.length ∧ Hid (linR (lessPair xs key) k xs.length = linPair xs key) ∧ Hid (Below w.heap.size w wr)) (fun i _ => xs.length - (intOf i).toNat)
  case atStart => exact ⟨0, rfl, Nat.zero_le _, rfl, Below.refl _ _⟩
  case round =>
    obtain ⟨k, rfl, hk, HE, HB⟩ := hrel
    have hE := HE.out
    rw [linR] at hE
    by_cases hlt : k < xs.length
    · rw [dif_pos hlt, lessPair_at hlt] at hE
      have his := isPair_at (key := key) hlt
      obtain ⟨b, o, cs, rfl, k1, q1⟩ := Rp.C_get H.out k hlt
      obtain rfl := kPair_K k1
      generalize xs[k] = y at *
      have HI := Lib.hid his; clear his
      have a0 := (World.cell?_of_block (HB.out.block b (World.block_lt_of_cell? w _ (q1 0 _ rfl)))).trans (q1 0 _ rfl)
      simp only [kPair_sz, Nat.add_zero] at a0
      have a1 := (World.cell?_of_block (HB.out.block b (World.block_lt_of_cell? w _ (q1 1 _ rfl)))).trans (q1 1 _ rfl)
      simp only [kPair_sz, Nat.add_zero] at a1
      clear q1 k1
      have i1 : (0 : Int) ≤ (k : Int) := by omega
      have i2 : (k : Int) < (xs.length : Int) := by omega
      cases h1 : Op.bytesLess y.fKey.toList key.toList
      · rw [h1, if_neg (by simp)] at hE
        have HE2 := Lib.hid hE; clear hE HE
        skip
        go_upto_region 4 with fail
        have r0 := regr (Below.refl _ wr) (World.block_lt_of_cell? wr _ a0) a0
        have r1 := regr (Below.refl _ wr) (World.block_lt_of_cell? wr _ a1) a1
        refine wp_region_quiet_below (by kernel_rfl) (by kernel_rfl) ?_
        repeat (go_big_quiet_step (fail))
        refine wpQuiet_nil ?_
        rintro w2 ⟨p, rfl⟩
        have HB2 := Lib.hid (HB.out.trans ((below_regrown wr p.d p.os).mono HB.out.size))
        go_wp2
        exact bodyPost_ret (v := .tuple #[.int .i64 (linPair xs key), .bool (isPair xs key (linPair xs key))]) (by simp [results, Try.results80, go_sem, ← HE2.out, HI.out]; try rfl) rfl ⟨rfl, HB2.out⟩
      · rw [h1, if_pos rfl] at hE
        have HE2 := Lib.hid hE; clear hE HE
        skip
        go_wp2
        exact ⟨⟨k + 1, by go_num, by omega, HE2.out, HB.out⟩, by simp [intOf]; omega⟩
    · rw [dif_neg hlt] at hE
      have HE2 := Lib.hid hE; clear hE HE
      have HO := Lib.hid (isPair_off (key := key) hlt)
      go_upto_region 4 with fail
      refine wp_region_quiet_below (by kernel_rfl) (by kernel_rfl) ?_
      repeat (go_big_quiet_step (fail))
      refine wpQuiet_nil ?_
      rintro w2 ⟨p, rfl⟩
      have HB2 := Lib.hid (HB.out.trans ((below_regrown wr p.d p.os).mono HB.out.size))
      go_wp2
      exact bodyPost_ret (v := .tuple #[.int .i64 (linPair xs key), .bool (isPair xs key (linPair xs key))]) (by simp [results, Try.results80, go_sem, ← HE2.out, HO.out]) rfl ⟨rfl, HB2.out⟩

def linSession (xs : List DSession) (key : Int) : Nat := linR (lessSession xs key) 0 xs.length
theorem lessSession_at {xs : List DSession} {key : Int} {k : Nat} (h : k < xs.length) : lessSession xs key k = decide (xs[k].fId < key) := by rw [lessSession, atSession_eq h, cmpI_neg]
theorem isSession_at {xs : List DSession} {key : Int} {k : Nat} (h : k < xs.length) : isSession xs key k = decide (xs[k].fId = key) := by rw [isSession, atSession_eq h, cmpI_zero, decide_eq_true h, Bool.true_and]
theorem isSession_off {xs : List DSession} {key : Int} {k : Nat} (h : ¬ k < xs.length) : isSession xs key k = false := by rw [isSession, decide_eq_false h, Bool.false_and]
set_option maxHeartbeats 1000000 in
theorem atSessionM_calls (xs : List DSession) (key : Int) (v : Value) (b : Nat) (w : World) (c0 : w.cell? ⟨b, 1, none⟩ = some v) (g : kSession.S w xs v) (hl : xs.length ≤ 1048576) : Calls Try.prog 83 #[.pointer (some ⟨b, 0, none⟩), .int .i64 key] w
    fun e w' => e = .returned (.tuple #[.int .i64 (bsSession xs key), .bool (isSession xs key (bsSession xs key))]) ∧ Below w.heap.size w w' := by
  have G := Lib.hid g; clear g
  go_enter Try.func83, Try.ntmps83
  go_wp2_with ((with_reducible refine (bsfSession_calls xs key v _ G.out hl).mono ?_); rintro e w1 ⟨rfl, hb⟩; have HB := Lib.hid hb; clear hb)
  exact bodyPost_ret (v := .tuple #[.int .i64 (bsSession xs key), .bool (isSession xs key (bsSession xs key))]) (by simp [results, Try.results83, go_sem]) rfl ⟨rfl, HB.out⟩
set_option maxHeartbeats 2000000 in
set_option maxRecDepth 100000 in
theorem linSession_calls (xs : List DSession) (key : Int) (v : Value) (w : World) (g : kSession.S w xs v) (hl : xs.length ≤ 1048576) : Calls Try.prog 82 #[v, .int .i64 key] w
    fun e w' => e = .returned (.tuple #[.int .i64 (linSession xs key), .bool (isSession xs key (linSession xs key))]) ∧ Below w.heap.size w w' := by
  obtain ⟨A, c, rfl, hc, h⟩ := g
  have H := Lib.hid h; clear h
  go_enter Try.func82, Try.ntmps82
  go_wp2
  go_loopw [6] (fun i wr => ∃ k : Nat, i = .int .i64 k ∧ k ≤ xs.length ∧ Hid (linR (lessSession xs key) k xs.length = linSession xs key) ∧ Hid (Below w.heap.size w wr)) (fun i _ => xs.length - (intOf i).toNat)
  case atStart => exact ⟨0, rfl, Nat.zero_le _, rfl, Below.refl _ _⟩
  case round =>
    obtain ⟨k, rfl, hk, HE, HB⟩ := hrel
    have hE := HE.out
    rw [linR] at hE
    by_cases hlt : k < xs.length
    · rw [dif_pos hlt, lessSession_at hlt] at hE
      have his := isSession_at (key := key) hlt
      obtain ⟨b, o, cs, rfl, k1, q1⟩ := Rp.C_get H.out k hlt
      obtain rfl := kSession_K k1
      generalize xs[k] = y at *
      have HI := Lib.hid his; clear his
      have a0 := (World.cell?_of_block (HB.out.block b (World.block_lt_of_cell? w _ (q1 0 _ rfl)))).trans (q1 0 _ rfl)
      simp only [kSession_sz, Nat.add_zero] at a0
      have a1 := (World.cell?_of_block (HB.out.block b (World.block_lt_of_cell? w _ (q1 1 _ rfl)))).trans (q1 1 _ rfl)
      simp only [kSession_sz, Nat.add_zero] at a1
      have a2 := (World.cell?_of_block (HB.out.block b (World.block_lt_of_cell? w _ (q1 2 _ rfl)))).trans (q1 2 _ rfl)
      simp only [kSession_sz, Nat.add_zero] at a2
      have a3 := (World.cell?_of_block (HB.out.block b (World.block_lt_of_cell? w _ (q1 3 _ rfl)))).trans (q1 3 _ rfl)
      simp only [kSession_sz, Nat.add_zero] at a3
      clear q1 k1
      have i1 : (0 : Int) ≤ (k : Int) := by omega
      have i2 : (k : Int) < (xs.length : Int) := by omega
      cases h1 : decide (y.fId < key)
      · rw [h1, if_neg (by simp)] at hE
        have HE2 := Lib.hid hE; clear hE HE
        have h1p := of_decide_eq_false h1
        go_upto_region 4 with fail
        have r0 := regr (Below.refl _ wr) (World.block_lt_of_cell? wr _ a0) a0
        have r1 := regr (Below.refl _ wr) (World.block_lt_of_cell? wr _ a1) a1
        have r2 := regr (Below.refl _ wr) (World.block_lt_of_cell? wr _ a2) a2
        have r3 := regr (Below.refl _ wr) (World.block_lt_of_cell? wr _ a3) a3
        refine wp_region_quiet_below (by kernel_rfl) (by kernel_rfl) ?_
        repeat (go_big_quiet_step (fail))
        refine wpQuiet_nil ?_
        rintro w2 ⟨p, rfl⟩
        have HB2 := Lib.hid (HB.out.trans ((below_regrown wr p.d p.os).mono HB.out.size))
        go_wp2
        exact bodyPost_ret (v := .tuple #[.int .i64 (linSession xs key), .bool (isSession xs key (linSession xs key))]) (by simp [results, Try.results82, go_sem, ← HE2.out, HI.out]; try rfl) rfl ⟨rfl, HB2.out⟩
      · rw [h1, if_pos rfl] at hE
        have HE2 := Lib.hid hE; clear hE HE
        have h1p := of_decide_eq_true h1
        go_wp2
        exact ⟨⟨k + 1, by go_num, by omega, HE2.out, HB.out⟩, by simp [intOf]; omega⟩
    · rw [dif_neg hlt] at hE
      have HE2 := Lib.hid hE; clear hE HE
      have HO := Lib.hid (isSession_off (key := key) hlt)
      go_upto_region 4 with fail
      refine wp_region_quiet_below (by kernel_rfl) (by kernel_rfl) ?_
      repeat (go_big_quiet_step (fail))
      refine wpQuiet_nil ?_
      rintro w2 ⟨p, rfl⟩
      have HB2 := Lib.hid (HB.out.trans ((below_regrown wr p.d p.os).mono HB.out.size))
      go_wp2
      exact bodyPost_ret (v := .tuple #[.int .i64 (linSession xs key), .bool (isSession xs key (linSession xs key))]) (by simp [results, Try.results82, go_sem, ← HE2.out, HO.out]) rfl ⟨rfl, HB2.out⟩
end Go.Proofs.Ytfcodelfgjnkhaa
