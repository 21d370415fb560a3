/- Cells and sessions found, walked. -/
import Derived.Test.YtfcodelfgjnkhaaCell
namespace Go.Proofs.Ytfcodelfgjnkhaa
open Go Go.RowKit Go.Sort
set_option linter.unusedVariables false
set_option linter.unusedSimpArgs false

set_option maxHeartbeats 1000000 in
theorem cloPair_calls (x : DPair) (key : ByteArray) (w : World) : Calls Try.prog 99 #[.agg #[.string x.fKey, .string x.fValue], .string key] w fun e w' => e = .returned (.int .i64 (cmpS x.fKey key)) ∧ Below w.heap.size w w' := by
  go_enter Try.func99, Try.ntmps99
  go_wp2_with (with_reducible refine (cmpS_calls _ _ _).mono ?_; rintro e w1 ⟨rfl, rfl⟩)
  go_ret
  exact ⟨rfl, (Below.refl _ _).alloc (Nat.le_refl _) _⟩
def atPair (xs : List DPair) (key : ByteArray) (k : Nat) : Int := match xs[k]? with | some x => cmpS x.fKey key | none => 0
theorem atPair_eq {xs : List DPair} {key : ByteArray} {k : Nat} (h : k < xs.length) : atPair xs key k = cmpS xs[k].fKey key := by rw [atPair, List.getElem?_eq_getElem h]
def lessPair (xs : List DPair) (key : ByteArray) (k : Nat) : Bool := decide (atPair xs key k < 0)
def bsPair (xs : List DPair) (key : ByteArray) : Nat := bsR (lessPair xs key) 0 xs.length
def isPair (xs : List DPair) (key : ByteArray) (k : Nat) : Bool := decide (k < xs.length) && decide (atPair xs key k = 0)
set_option maxHeartbeats 2000000 in
set_option maxRecDepth 100000 in
theorem bsfPair_calls (xs : List DPair) (key : ByteArray) (v : Value) (w : World) (g : kPair.S w xs v) (hl : xs.length ≤ 1048576) : Calls Try.prog 98 #[v, .string key, .func (.func 99) #[] #[]] w
    fun e w' => e = .returned (.tuple #[.int .i64 (bsPair xs key), .bool (isPair xs key (bsPair xs key))]) ∧ Below w.heap.size w w' := by
  obtain ⟨A, c, rfl, hc, h⟩ := g
  have H := Lib.hid h; clear h
  go_enter Try.func98, Try.ntmps98
  go_wp2
  go_loopw [9, 10] (fun i j wr => ∃ a b : Nat, i = .int .i64 a ∧ j = .int .i64 b ∧ a ≤ b ∧ b ≤ xs.length ∧ Hid (bsR (lessPair xs key) a b = bsPair xs key) ∧ Hid (Below w.heap.size w wr)) (fun i j _ => (intOf j).toNat - (intOf i).toNat)
  case atStart => exact ⟨0, xs.length, rfl, rfl, Nat.zero_le _, Nat.le_refl _, rfl, Below.refl _ _⟩
  case round =>
    obtain ⟨i, j, rfl, rfl, hij, hj, HE, HB⟩ := hrel
    have hE := HE.out
    rw [bsR] at hE
    by_cases hlt : i < j
    · rw [dif_pos hlt] at hE
      have HE2 := Lib.hid hE; clear hE HE
      obtain ⟨b, o, cs, rfl, k1, q1⟩ := Rp.C_get H.out ((i + j) / 2) (by omega)
      obtain rfl := kPair_K k1
      have hat := atPair_eq (key := key) (show (i + j) / 2 < xs.length by omega)
      generalize xs[(i + j) / 2] = y at *
      have HAT := Lib.hid hat; clear hat
      have a0 := (World.cell?_of_block (HB.out.block b (World.block_lt_of_cell? w _ (q1 0 _ rfl)))).trans (q1 0 _ rfl)
      simp only [kPair_sz, Nat.add_zero] at a0
      have a1 := (World.cell?_of_block (HB.out.block b (World.block_lt_of_cell? w _ (q1 1 _ rfl)))).trans (q1 1 _ rfl)
      simp only [kPair_sz, Nat.add_zero] at a1
      clear q1 k1
      have e1 : ((i : Int) + (j : Int)) / 2 = (((i + j) / 2 : Nat) : Int) := by omega
      have e2 : IntKind.u64.wrap ((i : Int) + (j : Int)) = (i : Int) + (j : Int) := by rw [IntKind.wrap_u64]; omega
      have e2' : IntKind.u64.wrap ((i + j : Nat) : Int) = ((i + j : Nat) : Int) := by rw [IntKind.wrap_u64]; omega
      have e3 : IntKind.i64.wrap (((i + j) / 2 : Nat) : Int) = (((i + j) / 2 : Nat) : Int) := by rw [IntKind.wrap_i64]; omega
      have hm : (i + j) / 2 < xs.length := by omega
      have hm2 : (i + j) / 2 < j := by omega
      have hm3 : i ≤ (i + j) / 2 := by omega
      generalize hmm : (i + j) / 2 = m at *
      have HMM := Lib.hid hmm; clear hmm
      have i1 : (0 : Int) ≤ (m : Int) := by omega
      have i2 : (m : Int) < (xs.length : Int) := by omega
      by_cases hneg : atPair xs key m < 0
      · have hE3 := HE2.out
        rw [if_pos (show lessPair xs key m = true from decide_eq_true hneg)] at hE3
        have HE3 := Lib.hid hE3; clear hE3 HE2
        go_wp2_with ((with_reducible refine (cloPair_calls y key _).mono ?_); rintro e w1 ⟨rfl, hb⟩; rw [← HAT.out]; have HB1 := Lib.hid (HB.out.trans (hb.mono HB.out.size)); clear hb)
        exact ⟨⟨m + 1, j, by go_num, rfl, by omega, hj, HE3.out, HB1.out⟩, by simp [intOf]; omega⟩
      · have hE3 := HE2.out
        rw [if_neg (show ¬ lessPair xs key m = true by simp [lessPair, hneg])] at hE3
        have HE3 := Lib.hid hE3; clear hE3 HE2
        go_wp2_with ((with_reducible refine (cloPair_calls y key _).mono ?_); rintro e w1 ⟨rfl, hb⟩; rw [← HAT.out]; have HB1 := Lib.hid (HB.out.trans (hb.mono HB.out.size)); clear hb)
        exact ⟨⟨i, m, rfl, rfl, hm3, by omega, HE3.out, HB1.out⟩, by simp [intOf]; omega⟩
    · rw [dif_neg hlt] at hE
      obtain rfl : i = j := by omega
      have HE2 := Lib.hid hE; clear hE HE
      by_cases hin : i < xs.length
      · obtain ⟨b, o, cs, rfl, k1, q1⟩ := Rp.C_get H.out i hin
        obtain rfl := kPair_K k1
        have hat := atPair_eq (key := key) hin
        generalize xs[i] = y at *
        have HAT := Lib.hid hat; clear hat
        have a0 := (World.cell?_of_block (HB.out.block b (World.block_lt_of_cell? w _ (q1 0 _ rfl)))).trans (q1 0 _ rfl)
        simp only [kPair_sz, Nat.add_zero] at a0
        have a1 := (World.cell?_of_block (HB.out.block b (World.block_lt_of_cell? w _ (q1 1 _ rfl)))).trans (q1 1 _ rfl)
        simp only [kPair_sz, Nat.add_zero] at a1
        clear q1 k1
        have i1 : (0 : Int) ≤ (i : Int) := by omega
        have i2 : (i : Int) < (xs.length : Int) := by omega
        go_wp2_with ((with_reducible refine (cloPair_calls y key _).mono ?_); rintro e w1 ⟨rfl, hb⟩; rw [← HAT.out]; have HB1 := Lib.hid (HB.out.trans (hb.mono HB.out.size)); clear hb)
        exact bodyPost_ret (v := .tuple #[.int .i64 (bsPair xs key), .bool (isPair xs key (bsPair xs key))]) (by simp [results, Try.results98, go_sem, isPair, ← HE2.out, hin]; rfl) rfl ⟨rfl, HB1.out⟩
      · go_wp2
        exact bodyPost_ret (v := .tuple #[.int .i64 (bsPair xs key), .bool (isPair xs key (bsPair xs key))]) (by simp [results, Try.results98, go_sem, isPair, ← HE2.out, hin]) rfl ⟨rfl, HB.out⟩

set_option maxHeartbeats 1000000 in
theorem cloSession_calls (x : DSession) (key : Int) (w : World) : Calls Try.prog 102 #[.agg #[.int .i64 x.fId, .int .i64 x.fLast, .int .i64 x.fReply.fCode, .string x.fReply.fValue], .int .i64 key] w fun e w' => e = .returned (.int .i64 (cmpI x.fId key)) ∧ Below w.heap.size w w' := by
  go_enter Try.func102, Try.ntmps102
  go_wp2_with (with_reducible refine (cmpI_calls _ _ _).mono ?_; rintro e w1 ⟨rfl, rfl⟩)
  go_ret
  exact ⟨rfl, (Below.refl _ _).alloc (Nat.le_refl _) _⟩
def atSession (xs : List DSession) (key : Int) (k : Nat) : Int := match xs[k]? with | some x => cmpI x.fId key | none => 0
theorem atSession_eq {xs : List DSession} {key : Int} {k : Nat} (h : k < xs.length) : atSession xs key k = cmpI xs[k].fId key := by rw [atSession, List.getElem?_eq_getElem h]
def lessSession (xs : List DSession) (key : Int) (k : Nat) : Bool := decide (atSession xs key k < 0)
def bsSession (xs : List DSession) (key : Int) : Nat := bsR (lessSession xs key) 0 xs.length
def isSession (xs : List DSession) (key : Int) (k : Nat) : Bool := decide (k < xs.length) && decide (atSession xs key k = 0)
set_option maxHeartbeats 2000000 in
set_option maxRecDepth 100000 in
theorem bsfSession_calls (xs : List DSession) (key : Int) (v : Value) (w : World) (g : kSession.S w xs v) (hl : xs.length ≤ 1048576) : Calls Try.prog 101 #[v, .int .i64 key, .func (.func 102) #[] #[]] w
    fun e w' => e = .returned (.tuple #[.int .i64 (bsSession xs key), .bool (isSession xs key (bsSession xs key))]) ∧ Below w.heap.size w w' := by
  obtain ⟨A, c, rfl, hc, h⟩ := g
  have H := Lib.hid h; clear h
  go_enter Try.func101, Try.ntmps101
  go_wp2
  go_loopw [9, 10] (fun i j wr => ∃ a b : Nat, i = .int .i64 a ∧ j = .int .i64 b ∧ a ≤ b ∧ b ≤ xs.length ∧ Hid (bsR (lessSession xs key) a b = bsSession xs key) ∧ Hid (Below w.heap.size w wr)) (fun i j _ => (intOf j).toNat - (intOf i).toNat)
  case atStart => exact ⟨0, xs.length, rfl, rfl, Nat.zero_le _, Nat.le_refl _, rfl, Below.refl _ _⟩
  case round =>
    obtain ⟨i, j, rfl, rfl, hij, hj, HE, HB⟩ := hrel
    have hE := HE.out
    rw [bsR] at hE
    by_cases hlt : i < j
    · rw [dif_pos hlt] at hE
      have HE2 := Lib.hid hE; clear hE HE
      obtain ⟨b, o, cs, rfl, k1, q1⟩ := Rp.C_get H.out ((i + j) / 2) (by omega)
      obtain rfl := kSession_K k1
      have hat := atSession_eq (key := key) (show (i + j) / 2 < xs.length by omega)
      generalize xs[(i + j) / 2] = y at *
      have HAT := Lib.hid hat; clear hat
      have a0 := (World.cell?_of_block (HB.out.block b (World.block_lt_of_cell? w _ (q1 0 _ rfl)))).trans (q1 0 _ rfl)
      simp only [kSession_sz, Nat.add_zero] at a0
      have a1 := (World.cell?_of_block (HB.out.block b (World.block_lt_of_cell? w _ (q1 1 _ rfl)))).trans (q1 1 _ rfl)
      simp only [kSession_sz, Nat.add_zero] at a1
      have a2 := (World.cell?_of_block (HB.out.block b (World.block_lt_of_cell? w _ (q1 2 _ rfl)))).trans (q1 2 _ rfl)
      simp only [kSession_sz, Nat.add_zero] at a2
      have a3 := (World.cell?_of_block (HB.out.block b (World.block_lt_of_cell? w _ (q1 3 _ rfl)))).trans (q1 3 _ rfl)
      simp only [kSession_sz, Nat.add_zero] at a3
      clear q1 k1
      have e1 : ((i : Int) + (j : Int)) / 2 = (((i + j) / 2 : Nat) : Int) := by omega
      have e2 : IntKind.u64.wrap ((i : Int) + (j : Int)) = (i : Int) + (j : Int) := by rw [IntKind.wrap_u64]; omega
      have e2' : IntKind.u64.wrap ((i + j : Nat) : Int) = ((i + j : Nat) : Int) := by rw [IntKind.wrap_u64]; omega
      have e3 : IntKind.i64.wrap (((i + j) / 2 : Nat) : Int) = (((i + j) / 2 : Nat) : Int) := by rw [IntKind.wrap_i64]; omega
      have hm : (i + j) / 2 < xs.length := by omega
      have hm2 : (i + j) / 2 < j := by omega
      have hm3 : i ≤ (i + j) / 2 := by omega
      generalize hmm : (i + j) / 2 = m at *
      have HMM := Lib.hid hmm; clear hmm
      have i1 : (0 : Int) ≤ (m : Int) := by omega
      have i2 : (m : Int) < (xs.length : Int) := by omega
      by_cases hneg : atSession xs key m < 0
      · have hE3 := HE2.out
        rw [if_pos (show lessSession xs key m = true from decide_eq_true hneg)] at hE3
        have HE3 := Lib.hid hE3; clear hE3 HE2
        go_wp2_with ((with_reducible refine (cloSession_calls y key _).mono ?_); rintro e w1 ⟨rfl, hb⟩; rw [← HAT.out]; have HB1 := Lib.hid (HB.out.trans (hb.mono HB.out.size)); clear hb)
        exact ⟨⟨m + 1, j, by go_num, rfl, by omega, hj, HE3.out, HB1.out⟩, by simp [intOf]; omega⟩
      · have hE3 := HE2.out
        rw [if_neg (show ¬ lessSession xs key m = true by simp [lessSession, hneg])] at hE3
        have HE3 := Lib.hid hE3; clear hE3 HE2
        go_wp2_with ((with_reducible refine (cloSession_calls y key _).mono ?_); rintro e w1 ⟨rfl, hb⟩; rw [← HAT.out]; have HB1 := Lib.hid (HB.out.trans (hb.mono HB.out.size)); clear hb)
        exact ⟨⟨i, m, rfl, rfl, hm3, by omega, HE3.out, HB1.out⟩, by simp [intOf]; omega⟩
    · rw [dif_neg hlt] at hE
      obtain rfl : i = j := by omega
      have HE2 := Lib.hid hE; clear hE HE
      by_cases hin : i < xs.length
      · obtain ⟨b, o, cs, rfl, k1, q1⟩ := Rp.C_get H.out i hin
        obtain rfl := kSession_K k1
        have hat := atSession_eq (key := key) hin
        generalize xs[i] = y at *
        have HAT := Lib.hid hat; clear hat
        have a0 := (World.cell?_of_block (HB.out.block b (World.block_lt_of_cell? w _ (q1 0 _ rfl)))).trans (q1 0 _ rfl)
        simp only [kSession_sz, Nat.add_zero] at a0
        have a1 := (World.cell?_of_block (HB.out.block b (World.block_lt_of_cell? w _ (q1 1 _ rfl)))).trans (q1 1 _ rfl)
        simp only [kSession_sz, Nat.add_zero] at a1
        have a2 := (World.cell?_of_block (HB.out.block b (World.block_lt_of_cell? w _ (q1 2 _ rfl)))).trans (q1 2 _ rfl)
        simp only [kSession_sz, Nat.add_zero] at a2
        have a3 := (World.cell?_of_block (HB.out.block b (World.block_lt_of_cell? w _ (q1 3 _ rfl)))).trans (q1 3 _ rfl)
        simp only [kSession_sz, Nat.add_zero] at a3
        clear q1 k1
        have i1 : (0 : Int) ≤ (i : Int) := by omega
        have i2 : (i : Int) < (xs.length : Int) := by omega
        go_wp2_with ((with_reducible refine (cloSession_calls y key _).mono ?_); rintro e w1 ⟨rfl, hb⟩; rw [← HAT.out]; have HB1 := Lib.hid (HB.out.trans (hb.mono HB.out.size)); clear hb)
        exact bodyPost_ret (v := .tuple #[.int .i64 (bsSession xs key), .bool (isSession xs key (bsSession xs key))]) (by simp [results, Try.results101, go_sem, isSession, ← HE2.out, hin]; rfl) rfl ⟨rfl, HB1.out⟩
      · go_wp2
        exact bodyPost_ret (v := .tuple #[.int .i64 (bsSession xs key), .bool (isSession xs key (bsSession xs key))]) (by simp [results, Try.results101, go_sem, isSession, ← HE2.out, hin]) rfl ⟨rfl, HB.out⟩
end Go.Proofs.Ytfcodelfgjnkhaa
