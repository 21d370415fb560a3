/- The laws' own functions of some types, one by one. -/
import Derived.Test.YtfcodelfgjnkhaaTxt
namespace Go.Proofs.Ytfcodelfgjnkhaa
open Go Go.RowKit Go.Sort
set_option linter.unusedVariables false
set_option linter.unusedSimpArgs false

structure DPair where
  fKey : ByteArray
  fValue : ByteArray
def kPair : Rp DPair := Rp.iso (Rp.pair (Rp.str) (Rp.str)) (fun x => (x.fKey, x.fValue))
theorem kPair_sz : kPair.sz = 2 := rfl
theorem kPair_K {w : World} {x : DPair} {cs : List Value} (h : kPair.K w x cs) : cs = [.string x.fKey, .string x.fValue] := by
  obtain ⟨_, _, rfl, rfl, rfl⟩ := h
  rfl
theorem kPair_M {w : World} {F : List Nat} {x : DPair} {cs : List Value} (h : kPair.M w F x cs) : F = [] ∧ cs = [.string x.fKey, .string x.fValue] := by
  obtain ⟨_, _, _, _, rfl, rfl, ⟨rfl, rfl⟩, ⟨rfl, rfl⟩⟩ := h
  exact ⟨rfl, rfl⟩
theorem kPair_mk (w : World) (x : DPair) : kPair.M w [] x [.string x.fKey, .string x.fValue] := ⟨[.string x.fKey], [.string x.fValue], [], [], rfl, rfl, ⟨rfl, rfl⟩, ⟨rfl, rfl⟩⟩
theorem kPair_mkK (w : World) (x : DPair) : kPair.K w x [.string x.fKey, .string x.fValue] := kPair.M_K (kPair_mk w x)

def szNPair (x : DPair) : Nat := x.fKey.size + x.fValue.size

def wfPair (x : DPair) : Prop := x.fKey.size ≤ 140737488355328 ∧ x.fValue.size ≤ 140737488355328

set_option maxHeartbeats 1000000 in
set_option maxRecDepth 100000 in
theorem szPair_calls (x : DPair) (left : Int) (w : World) (h0 : 0 ≤ left) (h1 : left ≤ 140737488355328) (hw : wfPair x) : Calls Try.prog 93 #[.agg #[.string x.fKey, .string x.fValue], .int .i64 left] w
    fun e w' => e = .returned (.int .i64 (szR (szNPair x) left)) ∧ Below w.heap.size w w' := by
  have HF := Lib.hid (show (szNPair x : Int) = (x.fKey.size : Int) + (x.fValue.size : Int) by unfold szNPair; omega)
  obtain ⟨hs0, hs1⟩ := hw
  go_enter Try.func93, Try.ntmps93
  go_wp2
  all_goals (go_ret; exact ⟨ret_int (by rw [szR_of HF.out]; first | (rw [if_pos (by omega)]; try omega) | (rw [if_neg (by omega)])), (by repeat (first | exact Below.refl _ _ | (refine Below.setCell ?_ (by first | (simp; done) | (simp; omega)) _) | (refine Below.alloc ?_ (by first | (simp; done) | (simp; omega)) _)))⟩)

set_option maxHeartbeats 1000000 in
set_option maxRecDepth 100000 in
theorem eqPair_calls (x : DPair) (w : World) : Calls Try.prog 97 #[.agg #[.string x.fKey, .string x.fValue], .agg #[.string x.fKey, .string x.fValue]] w
    fun e w' => e = .returned (.bool true) ∧ Below w.heap.size w w' := by
  go_enter Try.func97, Try.ntmps97
  go_wp2
  go_ret
  exact ⟨rfl, (by repeat (first | exact Below.refl _ _ | (refine Below.setCell ?_ (by first | (simp; done) | (simp; omega)) _) | (refine Below.alloc ?_ (by first | (simp; done) | (simp; omega)) _)))⟩

set_option maxHeartbeats 1000000 in
set_option maxRecDepth 100000 in
theorem toPair_calls (x : DPair) (w : World) : Calls Try.prog 95 #[.agg #[.string x.fKey, .string x.fValue]] w
    fun e w' => e = .returned (.agg #[.string x.fKey, .string x.fValue]) ∧ Below w.heap.size w w' := by
  go_enter Try.func95, Try.ntmps95
  go_wp2
  exact bodyPost_ret (v := .agg #[.string x.fKey, .string x.fValue]) (by simp [results, Try.results95, go_sem]) rfl ⟨rfl, (by repeat (first | exact Below.refl _ _ | (refine Below.setCell ?_ (by first | (simp; done) | (simp; omega)) _) | (refine Below.alloc ?_ (by first | (simp; done) | (simp; omega)) _)))⟩

theorem infoPair : (Try.prog.info? 110).map (fun i => (i.zero, i.size, i.bytes)) = some (some (.agg #[.string ⟨#[]⟩, .string ⟨#[]⟩]), 2, 32) := by kernel_rfl
def zPair : DPair := ⟨⟨#[]⟩, ⟨#[]⟩⟩

set_option maxHeartbeats 1000000 in
set_option maxRecDepth 100000 in
theorem szPairS_calls (xs : List DPair) (left : Int) (v : Value) (w : World) (h : kPair.S w xs v) (h0 : 0 ≤ left) (h1 : left ≤ 140737488355328) (hw : ∀ x ∈ xs, wfPair x) (hl : xs.length ≤ 140737488355328) :
    Calls Try.prog 73 #[v, .int .i64 left] w fun e w' => e = .returned (.int .i64 (szR (szL szNPair xs) left)) ∧ Below w.heap.size w w' := by
  obtain ⟨A, c, rfl, hc, h⟩ := h
  have H := Lib.hid h; clear h
  have HW := Lib.hid hw; clear hw
  have HF := Lib.hid (show ((szL szNPair xs : Nat) : Int) = xs.length + sumN szNPair xs by unfold szL; omega)
  by_cases hq : (xs.length : Int) ≤ left
  · go_enter Try.func73, Try.ntmps73
    go_wp2
    go_loopw [1, 5] (fun l i wr => ∃ k : Nat, k ≤ xs.length ∧ i = .int .i64 k ∧ l = .int .i64 (left - xs.length - sumN szNPair (xs.take k)) ∧ 0 ≤ left - xs.length - sumN szNPair (xs.take k) ∧ Hid (Below w.heap.size w wr)) (fun _ i _ => xs.length - (intOf i).toNat)
    case atStart => exact ⟨0, Nat.zero_le _, rfl, by simp [sumN], by simp [sumN]; omega, Below.refl _ _⟩
    case round =>
      obtain ⟨k, hk, rfl, rfl, hs, HB⟩ := hrel
      by_cases hlt : k < xs.length
      · obtain ⟨b, o, cs, rfl, k1, q1⟩ := Rp.C_get H.out k hlt
        obtain rfl := kPair_K k1
        have hx := HW.out xs[k] (List.getElem_mem hlt)
        have hs2 := sumN_take (f := szNPair) hlt
        have hs3 := sumN_le (f := szNPair) (xs := xs) (k + 1)
        generalize he : xs[k] = x at *
        generalize hs4 : sumN szNPair (xs.take (k + 1)) = s1 at *
        generalize hs5 : sumN szNPair (xs.take k) = s0 at *
        have HE := Lib.hid he; clear he
        have HS4 := Lib.hid hs4; clear hs4
        have HS5 := Lib.hid hs5; clear hs5
        have HS2 := Lib.hid hs2; clear hs2
        have a0 := (World.cell?_of_block (HB.out.block b (World.block_lt_of_cell? w _ (q1 0 _ rfl)))).trans (q1 0 _ rfl)
        simp only [kPair_sz, Nat.add_zero] at a0
        have a1 := (World.cell?_of_block (HB.out.block b (World.block_lt_of_cell? w _ (q1 0 _ rfl)))).trans (q1 1 _ rfl)
        simp only [kPair_sz, Nat.add_zero] at a1
        clear q1 k1
        have i1 : (0 : Int) ≤ (k : Int) := by omega
        have i2 : (k : Int) < (xs.length : Int) := by omega
        go_wp2_with fail
        (with_reducible refine (szPair_calls x _ _ (by omega) (by omega) hx).mono ?_)
        rintro e w1 ⟨rfl, hb⟩
        have HB1 := Lib.hid (HB.out.trans (hb.mono HB.out.size)); clear hb
        by_cases hy : (szNPair x : Int) ≤ left - xs.length - s0
        · rw [szR_yes hy]
          go_wp2
          exact ⟨⟨k + 1, by omega, by go_num, by rw [HS4.out, HS2.out]; go_num, by rw [HS4.out, HS2.out]; omega, HB1.out⟩, by simp [intOf]; omega⟩
        · rw [szR_no hy]
          go_wp2
          go_ret
          exact ⟨ret_int (by rw [szR_of HF.out, if_neg (by have := HS2.out; omega)]), HB1.out⟩
      · go_wp2
        go_ret
        obtain rfl : k = xs.length := by omega
        rw [sumN_all] at hs
        exact ⟨ret_int (by rw [szR_of HF.out, if_pos (by omega), sumN_all]; omega), HB.out⟩
  · go_enter Try.func73, Try.ntmps73
    go_wp2
    go_ret
    exact ⟨ret_int (by rw [szR_of HF.out, if_neg (by omega)]), Below.refl _ _⟩

set_option maxHeartbeats 1000000 in
set_option maxRecDepth 100000 in
theorem eqPairS_calls (xs : List DPair) (v1 v2 : Value) (w : World) (h1 : kPair.S w xs v1) (h2 : kPair.S w xs v2) (hl : xs.length ≤ 140737488355328) :
    Calls Try.prog 78 #[v1, v2] w fun e w' => e = .returned (.bool true) ∧ Below w.heap.size w w' := by
  obtain ⟨A1, c1, rfl, hc1, h1⟩ := h1
  obtain ⟨A2, c2, rfl, hc2, h2⟩ := h2
  have H1 := Lib.hid h1; clear h1
  have H2 := Lib.hid h2; clear h2
  go_enter Try.func78, Try.ntmps78
  go_wp2
  go_loopw [5] (fun i wr => ∃ k : Nat, k ≤ xs.length ∧ i = .int .i64 k ∧ Hid (Below w.heap.size w wr)) (fun i _ => xs.length - (intOf i).toNat)
  case atStart => exact ⟨0, Nat.zero_le _, rfl, Below.refl _ _⟩
  case round =>
    obtain ⟨k, hk, rfl, HB⟩ := hrel
    by_cases hlt : k < xs.length
    · obtain ⟨b1, o1, cs1, rfl, k1, q1⟩ := Rp.C_get H1.out k hlt
      obtain ⟨b2, o2, cs2, rfl, k2, q2⟩ := Rp.C_get H2.out k hlt
      obtain rfl := kPair_K k1
      obtain rfl := kPair_K k2
      generalize he : xs[k] = x at *
      have HE := Lib.hid he; clear he
      have a10 := regr HB.out (World.block_lt_of_cell? w _ (q1 0 _ rfl)) (q1 0 _ rfl)
      simp only [kPair_sz, Nat.add_zero] at a10
      have a11 := regr HB.out (World.block_lt_of_cell? w _ (q1 1 _ rfl)) (q1 1 _ rfl)
      simp only [kPair_sz, Nat.add_zero] at a11
      have a20 := regr HB.out (World.block_lt_of_cell? w _ (q2 0 _ rfl)) (q2 0 _ rfl)
      simp only [kPair_sz, Nat.add_zero] at a20
      have a21 := regr HB.out (World.block_lt_of_cell? w _ (q2 1 _ rfl)) (q2 1 _ rfl)
      simp only [kPair_sz, Nat.add_zero] at a21
      clear q1 q2 k1 k2
      have i1 : (0 : Int) ≤ (k : Int) := by omega
      have i2 : (k : Int) < (xs.length : Int) := by omega
      go_wp2
      refine wp_region_quiet_below (by kernel_rfl) (by kernel_rfl) ?_
      repeat (go_big_quiet_step (exact Calls.regrown_of (eqPair_calls x _)))
      refine wpQuiet_nil ?_
      rintro w1 ⟨p, rfl⟩
      go_wp2
      exact ⟨⟨k + 1, by omega, by go_num, HB.out.trans ((below_regrown _ _ _).mono HB.out.size)⟩, by simp [intOf]; omega⟩
    · go_wp2
      go_ret
      exact ⟨rfl, HB.out⟩

set_option maxHeartbeats 1000000 in
set_option maxRecDepth 100000 in
theorem toPairS_calls (xs : List DPair) (v : Value) (w : World) (h : kPair.S w xs v) (hl : xs.length ≤ 1048576) :
    Calls Try.prog 75 #[v] w fun e w' => ∃ v' F, e = .returned v' ∧ kPair.Row 110 w' F xs v' ∧ (∀ b ∈ F, w.heap.size ≤ b) ∧ F.Nodup ∧ Below w.heap.size w w' := by
  obtain ⟨A, c, rfl, hc, h⟩ := h
  have H := Lib.hid h; clear h
  obtain ⟨w0, hmk, hR, hB, hlt0⟩ := mk_full w 68 110 kPair zPair Try.underlying68 infoPair rfl (fun w => kPair_mk w _) xs.length hl (by decide)
  have HR := Lib.hid hR; clear hR
  have HB := Lib.hid hB; clear hB
  go_enter Try.func75, Try.ntmps75
  go_wp2
  clear hmk
  go_loopw [4] (fun i wr => ∃ k : Nat, k ≤ xs.length ∧ i = .int .i64 k ∧ (∃ F, Hid (kPair.Row 110 wr F (fillL xs zPair k) (.slice (some ⟨w.heap.size, 0, none⟩) xs.length xs.length)) ∧ Hid (F.Nodup ∧ ∀ b ∈ F, w.heap.size ≤ b)) ∧ Hid (Below w.heap.size w wr)) (fun i _ => xs.length - (intOf i).toNat)
  case atStart => exact ⟨0, Nat.zero_le _, rfl, ⟨_, by rw [fillL_zero]; exact HR.out, by simp [Hid]⟩, HB.out⟩
  case round =>
    clear HR HB hlt0
    obtain ⟨k, hk, rfl, ⟨F, HR, HF⟩, HB⟩ := hrel
    by_cases hlt : k < xs.length
    · obtain ⟨b, o, cs, rfl, k1, q1⟩ := Rp.C_get H.out k hlt
      obtain rfl := kPair_K k1
      have hs := fillL_set (z := zPair) hlt
      generalize he : xs[k] = x at *
      have HS := Lib.hid hs; clear hs
      have HE := Lib.hid he; clear he
      have a0 := (World.cell?_of_block (HB.out.block b (World.block_lt_of_cell? w _ (q1 0 _ rfl)))).trans (q1 0 _ rfl)
      simp only [kPair_sz, Nat.add_zero] at a0
      have a1 := (World.cell?_of_block (HB.out.block b (World.block_lt_of_cell? w _ (q1 1 _ rfl)))).trans (q1 1 _ rfl)
      simp only [kPair_sz, Nat.add_zero] at a1
      clear q1 k1
      have i1 : (0 : Int) ≤ (k : Int) := by omega
      have i2 : (k : Int) < (xs.length : Int) := by omega
      go_wp2_with fail
      (with_reducible refine (toPair_calls x _).mono ?_)
      rintro e w1 ⟨rfl, hb⟩
      have HR1 := Rp.Row_below HR.out hb
      have HB1 := HB.out.trans (hb.mono HB.out.size)
      clear hb HB HR
      have hk2 : k < (fillL xs zPair k).length := by rw [fillL_len hk]; exact hlt
      obtain ⟨g, cap, cz, F1, q0, hgF, hgl, q2, _, _, q3, q4⟩ := Rp.Row_open HR1 HF.out.1 k hk2
      rw [fillL_get hlt hk2] at q2
      obtain ⟨rfl, rfl⟩ := kPair_M q2
      obtain rfl : w.heap.size = g := by simp at q0; exact q0.1
      have z0 : w1.cell? ⟨w.heap.size, k * 2, none⟩ = some (.string ⟨#[]⟩) := q3 0 _ rfl
      have z1 : w1.cell? ⟨w.heap.size, k * 2 + 1, none⟩ = some (.string ⟨#[]⟩) := q3 1 _ rfl
      have y0 : w1.frozen? ⟨w.heap.size, k * 2, none⟩ = false := q4 _
      have y1 : w1.frozen? ⟨w.heap.size, k * 2 + 1, none⟩ = false := q4 _
      have HP := Rp.Row_put HR1 HF.out.1 k hk2 x _ [] (kPair_mk w1 x) (by simp) (by simp)
      rw [HS.out] at HP
      have HP := Lib.hid HP
      have HB1 := Lib.hid HB1
      clear q0 q2 q3 q4 hgF hgl hk2 HR1
      go_wp2
      obtain ⟨F', p1, p2, p3, p4⟩ := HP.out
      exact ⟨⟨k + 1, by omega, by go_num, ⟨F', p1, p2, fun b hb => HF.out.2 b (by simpa using p3 b hb)⟩, (Rp.setN_kept (F := F) p4 [.string x.fKey, .string x.fValue] w1 (k * 2) (KeptF.refl _ _) |>.toBelow HB1.out.size HF.out.2 |> HB1.out.trans)⟩, by simp [intOf]; omega⟩
    · go_wp2
      go_ret
      obtain rfl : k = xs.length := by omega
      exact ⟨_, _, rfl, by simpa [fillL_all] using HR.out, HF.out.2, HF.out.1, HB.out⟩

def mkPair (x : DPair) (k : Int) : DPair × Int := ((⟨(mtxt k), (mtxt (k + 1))⟩ : DPair), k + 2)
theorem mkPair_le (x : DPair) (k : Int) : k ≤ (mkPair x k).2 := by simp only [mkPair]; omega

theorem kPair_flat : kPair.Flat := ⟨fun h => (kPair_M h).1, fun h => by obtain rfl := kPair_K h; exact kPair_mk _ _⟩

structure DReply where
  fCode : Int
  fValue : ByteArray
def kReply : Rp DReply := Rp.iso (Rp.pair (Rp.int .i64) (Rp.str)) (fun x => (x.fCode, x.fValue))
theorem kReply_sz : kReply.sz = 2 := rfl
theorem kReply_K {w : World} {x : DReply} {cs : List Value} (h : kReply.K w x cs) : cs = [.int .i64 x.fCode, .string x.fValue] := by
  obtain ⟨_, _, rfl, rfl, rfl⟩ := h
  rfl
theorem kReply_M {w : World} {F : List Nat} {x : DReply} {cs : List Value} (h : kReply.M w F x cs) : F = [] ∧ cs = [.int .i64 x.fCode, .string x.fValue] := by
  obtain ⟨_, _, _, _, rfl, rfl, ⟨rfl, rfl⟩, ⟨rfl, rfl⟩⟩ := h
  exact ⟨rfl, rfl⟩
theorem kReply_mk (w : World) (x : DReply) : kReply.M w [] x [.int .i64 x.fCode, .string x.fValue] := ⟨[.int .i64 x.fCode], [.string x.fValue], [], [], rfl, rfl, ⟨rfl, rfl⟩, ⟨rfl, rfl⟩⟩
theorem kReply_mkK (w : World) (x : DReply) : kReply.K w x [.int .i64 x.fCode, .string x.fValue] := kReply.M_K (kReply_mk w x)

def szNReply (x : DReply) : Nat := x.fValue.size

def wfReply (x : DReply) : Prop := x.fValue.size ≤ 140737488355328

set_option maxHeartbeats 1000000 in
set_option maxRecDepth 100000 in
theorem szReply_calls (x : DReply) (left : Int) (w : World) (h0 : 0 ≤ left) (h1 : left ≤ 140737488355328) (hw : wfReply x) : Calls Try.prog 104 #[.agg #[.int .i64 x.fCode, .string x.fValue], .int .i64 left] w
    fun e w' => e = .returned (.int .i64 (szR (szNReply x) left)) ∧ Below w.heap.size w w' := by
  have HF := Lib.hid (show (szNReply x : Int) = (x.fValue.size : Int) by unfold szNReply; omega)
  have hs0 : x.fValue.size ≤ 140737488355328 := hw
  clear hw
  go_enter Try.func104, Try.ntmps104
  go_wp2
  all_goals (go_ret; exact ⟨ret_int (by rw [szR_of HF.out]; first | (rw [if_pos (by omega)]; try omega) | (rw [if_neg (by omega)])), (by repeat (first | exact Below.refl _ _ | (refine Below.setCell ?_ (by first | (simp; done) | (simp; omega)) _) | (refine Below.alloc ?_ (by first | (simp; done) | (simp; omega)) _)))⟩)

set_option maxHeartbeats 1000000 in
set_option maxRecDepth 100000 in
theorem eqReply_calls (x : DReply) (w : World) : Calls Try.prog 84 #[.agg #[.int .i64 x.fCode, .string x.fValue], .agg #[.int .i64 x.fCode, .string x.fValue]] w
    fun e w' => e = .returned (.bool true) ∧ Below w.heap.size w w' := by
  go_enter Try.func84, Try.ntmps84
  go_wp2
  go_ret
  exact ⟨rfl, (by repeat (first | exact Below.refl _ _ | (refine Below.setCell ?_ (by first | (simp; done) | (simp; omega)) _) | (refine Below.alloc ?_ (by first | (simp; done) | (simp; omega)) _)))⟩

set_option maxHeartbeats 1000000 in
set_option maxRecDepth 100000 in
theorem toReply_calls (x : DReply) (w : World) : Calls Try.prog 105 #[.agg #[.int .i64 x.fCode, .string x.fValue]] w
    fun e w' => e = .returned (.agg #[.int .i64 x.fCode, .string x.fValue]) ∧ Below w.heap.size w w' := by
  go_enter Try.func105, Try.ntmps105
  go_wp2
  exact bodyPost_ret (v := .agg #[.int .i64 x.fCode, .string x.fValue]) (by simp [results, Try.results105, go_sem]) rfl ⟨rfl, (by repeat (first | exact Below.refl _ _ | (refine Below.setCell ?_ (by first | (simp; done) | (simp; omega)) _) | (refine Below.alloc ?_ (by first | (simp; done) | (simp; omega)) _)))⟩

structure DSession where
  fId : Int
  fLast : Int
  fReply : DReply
def kSession : Rp DSession := Rp.iso (Rp.pair (Rp.int .i64) (Rp.pair (Rp.int .i64) (kReply))) (fun x => (x.fId, x.fLast, x.fReply))
theorem kSession_sz : kSession.sz = 4 := rfl
theorem kSession_K {w : World} {x : DSession} {cs : List Value} (h : kSession.K w x cs) : cs = [.int .i64 x.fId, .int .i64 x.fLast, .int .i64 x.fReply.fCode, .string x.fReply.fValue] := by
  obtain ⟨_, _, rfl, rfl, ⟨_, _, rfl, rfl, ⟨_, _, rfl, rfl, rfl⟩⟩⟩ := h
  rfl
theorem kSession_M {w : World} {F : List Nat} {x : DSession} {cs : List Value} (h : kSession.M w F x cs) : F = [] ∧ cs = [.int .i64 x.fId, .int .i64 x.fLast, .int .i64 x.fReply.fCode, .string x.fReply.fValue] := by
  obtain ⟨_, _, _, _, rfl, rfl, ⟨rfl, rfl⟩, ⟨_, _, _, _, rfl, rfl, ⟨rfl, rfl⟩, ⟨_, _, _, _, rfl, rfl, ⟨rfl, rfl⟩, ⟨rfl, rfl⟩⟩⟩⟩ := h
  exact ⟨rfl, rfl⟩
theorem kSession_mk (w : World) (x : DSession) : kSession.M w [] x [.int .i64 x.fId, .int .i64 x.fLast, .int .i64 x.fReply.fCode, .string x.fReply.fValue] := ⟨[.int .i64 x.fId], [.int .i64 x.fLast, .int .i64 x.fReply.fCode, .string x.fReply.fValue], [], [], rfl, rfl, ⟨rfl, rfl⟩, ⟨[.int .i64 x.fLast], [.int .i64 x.fReply.fCode, .string x.fReply.fValue], [], [], rfl, rfl, ⟨rfl, rfl⟩, (kReply_mk w x.fReply)⟩⟩
theorem kSession_mkK (w : World) (x : DSession) : kSession.K w x [.int .i64 x.fId, .int .i64 x.fLast, .int .i64 x.fReply.fCode, .string x.fReply.fValue] := kSession.M_K (kSession_mk w x)

def szNSession (x : DSession) : Nat := x.fReply.fValue.size

def wfSession (x : DSession) : Prop := x.fReply.fValue.size ≤ 140737488355328

set_option maxHeartbeats 1000000 in
set_option maxRecDepth 100000 in
theorem szSession_calls (x : DSession) (left : Int) (w : World) (h0 : 0 ≤ left) (h1 : left ≤ 140737488355328) (hw : wfSession x) : Calls Try.prog 94 #[.agg #[.int .i64 x.fId, .int .i64 x.fLast, .int .i64 x.fReply.fCode, .string x.fReply.fValue], .int .i64 left] w
    fun e w' => e = .returned (.int .i64 (szR (szNSession x) left)) ∧ Below w.heap.size w w' := by
  have HF := Lib.hid (show (szNSession x : Int) = (x.fReply.fValue.size : Int) by unfold szNSession; omega)
  have hs0 : x.fReply.fValue.size ≤ 140737488355328 := hw
  clear hw
  go_enter Try.func94, Try.ntmps94
  have wi0 : wfReply x.fReply := hs0
  go_wp2_with fail
  (with_reducible refine (szReply_calls x.fReply _ _ (by omega) (by omega) wi0).mono ?_); rintro e w1 ⟨rfl, hb⟩; have HB0 := Lib.hid hb; clear hb
  have e0 : (szNReply x.fReply : Int) = (x.fReply.fValue.size : Int) := by unfold szNReply; omega
  by_cases q0 : (x.fReply.fValue.size : Int) ≤ left
  · rw [szR_of e0, if_pos q0]
    clear e0
    go_wp2
    all_goals (go_ret; exact ⟨ret_int (by rw [szR_of HF.out]; first | (rw [if_pos (by omega)]; try omega) | (rw [if_neg (by omega)])), (by repeat (first | exact Below.refl _ _ | (refine Below.trans ?_ (HB0.out.mono (by first | (simp; done) | (simp at *; omega)))) | (refine Below.setCell ?_ (by first | (simp; done) | (simp; omega)) _) | (refine Below.alloc ?_ (by first | (simp; done) | (simp; omega)) _)))⟩)
  · rw [szR_of e0, if_neg q0]
    clear e0
    go_wp2
    all_goals (go_ret; exact ⟨ret_int (by rw [szR_of HF.out]; first | (rw [if_pos (by omega)]; try omega) | (rw [if_neg (by omega)])), (by repeat (first | exact Below.refl _ _ | (refine Below.trans ?_ (HB0.out.mono (by first | (simp; done) | (simp at *; omega)))) | (refine Below.setCell ?_ (by first | (simp; done) | (simp; omega)) _) | (refine Below.alloc ?_ (by first | (simp; done) | (simp; omega)) _)))⟩)

set_option maxHeartbeats 1000000 in
set_option maxRecDepth 100000 in
theorem eqSession_calls (x : DSession) (w : World) : Calls Try.prog 46 #[.agg #[.int .i64 x.fId, .int .i64 x.fLast, .int .i64 x.fReply.fCode, .string x.fReply.fValue], .agg #[.int .i64 x.fId, .int .i64 x.fLast, .int .i64 x.fReply.fCode, .string x.fReply.fValue]] w
    fun e w' => e = .returned (.bool true) ∧ Below w.heap.size w w' := by
  go_enter Try.func46, Try.ntmps46
  go_wp2_with (first | ((with_reducible refine (eqReply_calls x.fReply _).mono ?_); rintro e w1 ⟨rfl, hb⟩; have HB := Lib.hid hb; clear hb))
  go_ret
  exact ⟨rfl, (by repeat (first | exact Below.refl _ _ | (refine Below.trans ?_ (HB.out.mono (by first | (simp; done) | (simp at *; omega)))) | (refine Below.setCell ?_ (by first | (simp; done) | (simp; omega)) _) | (refine Below.alloc ?_ (by first | (simp; done) | (simp; omega)) _)))⟩

set_option maxHeartbeats 1000000 in
set_option maxRecDepth 100000 in
theorem toSession_calls (x : DSession) (w : World) : Calls Try.prog 96 #[.agg #[.int .i64 x.fId, .int .i64 x.fLast, .int .i64 x.fReply.fCode, .string x.fReply.fValue]] w
    fun e w' => e = .returned (.agg #[.int .i64 x.fId, .int .i64 x.fLast, .int .i64 x.fReply.fCode, .string x.fReply.fValue]) ∧ Below w.heap.size w w' := by
  go_enter Try.func96, Try.ntmps96
  go_wp2_with fail
  (with_reducible refine (toReply_calls x.fReply _).mono ?_)
  rintro e w1 ⟨rfl, hb⟩
  have B1 : Box w1 (w.heap.size + 1) #[.int .i64 0, .int .i64 0, .int .i64 0, .string ⟨#[]⟩] 80 := Box.below (Box.alloc (Box.new (by simp))) hb
  have B2 : Box w1 (w.heap.size + 1 + 1) #[.int .i64 x.fId, .int .i64 x.fLast, .int .i64 0, .string ⟨#[]⟩] 80 := Box.below (Box.new (by simp)) hb
  have HB := Lib.hid (Below.trans ((((Below.refl w.heap.size w).alloc (Nat.le_refl _) _).alloc (by simp) _).alloc (by simp; omega) _) (hb.mono (by simp; omega)))
  have sz : w.heap.size + 1 + 1 + 1 ≤ w1.heap.size := by simpa using hb.size
  clear hb
  have c1_0 := B1.cell 0 (v := .int .i64 0) rfl
  have c2_0 := B2.cell 0 (v := .int .i64 x.fId) rfl
  have c1_1 := B1.cell 1 (v := .int .i64 0) rfl
  have c2_1 := B2.cell 1 (v := .int .i64 x.fLast) rfl
  have c1_2 := B1.cell 2 (v := .int .i64 0) rfl
  have c2_2 := B2.cell 2 (v := .int .i64 0) rfl
  have c1_3 := B1.cell 3 (v := .string ⟨#[]⟩) rfl
  have c2_3 := B2.cell 3 (v := .string ⟨#[]⟩) rfl
  have f1 := B1.fro
  have f2 := B2.fro
  have HX1 := Lib.hid B1; have HX2 := Lib.hid B2; clear B1 B2
  go_wp2
  have hk : KeptF [w.heap.size + 1, w.heap.size + 1 + 1] w1 (Rp.setN (Rp.setN w1 (w.heap.size + 1 + 1) 2 [.int .i64 x.fReply.fCode, .string x.fReply.fValue]) (w.heap.size + 1) 0 [.int .i64 x.fId, .int .i64 x.fLast, .int .i64 x.fReply.fCode, .string x.fReply.fValue]) := Rp.setN_kept (by simp) _ _ _ (Rp.setN_kept (by simp) _ _ _ (KeptF.refl _ _))
  have bf : Box (Rp.setN (Rp.setN w1 (w.heap.size + 1 + 1) 2 [.int .i64 x.fReply.fCode, .string x.fReply.fValue]) (w.heap.size + 1) 0 [.int .i64 x.fId, .int .i64 x.fLast, .int .i64 x.fReply.fCode, .string x.fReply.fValue]) (w.heap.size + 1) #[.int .i64 x.fId, .int .i64 x.fLast, .int .i64 x.fReply.fCode, .string x.fReply.fValue] 80 := Box.setN _ (Box.setN_other HX1.out _ _ _ (by omega)) 0
  change bodyPost _ _ _ _ _ (Rp.setN (Rp.setN w1 (w.heap.size + 1 + 1) 2 [.int .i64 x.fReply.fCode, .string x.fReply.fValue]) (w.heap.size + 1) 0 [.int .i64 x.fId, .int .i64 x.fLast, .int .i64 x.fReply.fCode, .string x.fReply.fValue])
  clear c1_0 f1 f2 c2_0 c2_1 c2_2 c2_3 c1_1 c1_2 c1_3
  generalize (Rp.setN (Rp.setN w1 (w.heap.size + 1 + 1) 2 [.int .i64 x.fReply.fCode, .string x.fReply.fValue]) (w.heap.size + 1) 0 [.int .i64 x.fId, .int .i64 x.fLast, .int .i64 x.fReply.fCode, .string x.fReply.fValue]) = wf at *
  have d0 := bf.cell 0 (v := .int .i64 x.fId) rfl
  have d1 := bf.cell 1 (v := .int .i64 x.fLast) rfl
  have d2 := bf.cell 2 (v := .int .i64 x.fReply.fCode) rfl
  have d3 := bf.cell 3 (v := .string x.fReply.fValue) rfl
  exact bodyPost_ret (v := .agg #[.int .i64 x.fId, .int .i64 x.fLast, .int .i64 x.fReply.fCode, .string x.fReply.fValue]) (by simp [results, Try.results96, go_sem, d0, d1, d2, d3]) rfl ⟨rfl, HB.out.trans (hk.toBelow HB.out.size (by simp; omega))⟩

theorem infoSession : (Try.prog.info? 80).map (fun i => (i.zero, i.size, i.bytes)) = some (some (.agg #[.int .i64 0, .int .i64 0, .int .i64 0, .string ⟨#[]⟩]), 4, 40) := by kernel_rfl
def zSession : DSession := ⟨0, 0, ⟨0, ⟨#[]⟩⟩⟩

set_option maxHeartbeats 1000000 in
set_option maxRecDepth 100000 in
theorem szSessionS_calls (xs : List DSession) (left : Int) (v : Value) (w : World) (h : kSession.S w xs v) (h0 : 0 ≤ left) (h1 : left ≤ 140737488355328) (hw : ∀ x ∈ xs, wfSession x) (hl : xs.length ≤ 140737488355328) :
    Calls Try.prog 74 #[v, .int .i64 left] w fun e w' => e = .returned (.int .i64 (szR (szL szNSession xs) left)) ∧ Below w.heap.size w w' := by
  obtain ⟨A, c, rfl, hc, h⟩ := h
  have H := Lib.hid h; clear h
  have HW := Lib.hid hw; clear hw
  have HF := Lib.hid (show ((szL szNSession xs : Nat) : Int) = xs.length + sumN szNSession xs by unfold szL; omega)
  by_cases hq : (xs.length : Int) ≤ left
  · go_enter Try.func74, Try.ntmps74
    go_wp2
    go_loopw [1, 5] (fun l i wr => ∃ k : Nat, k ≤ xs.length ∧ i = .int .i64 k ∧ l = .int .i64 (left - xs.length - sumN szNSession (xs.take k)) ∧ 0 ≤ left - xs.length - sumN szNSession (xs.take k) ∧ Hid (Below w.heap.size w wr)) (fun _ i _ => xs.length - (intOf i).toNat)
    case atStart => exact ⟨0, Nat.zero_le _, rfl, by simp [sumN], by simp [sumN]; omega, Below.refl _ _⟩
    case round =>
      obtain ⟨k, hk, rfl, rfl, hs, HB⟩ := hrel
      by_cases hlt : k < xs.length
      · obtain ⟨b, o, cs, rfl, k1, q1⟩ := Rp.C_get H.out k hlt
        obtain rfl := kSession_K k1
        have hx := HW.out xs[k] (List.getElem_mem hlt)
        have hs2 := sumN_take (f := szNSession) hlt
        have hs3 := sumN_le (f := szNSession) (xs := xs) (k + 1)
        generalize he : xs[k] = x at *
        generalize hs4 : sumN szNSession (xs.take (k + 1)) = s1 at *
        generalize hs5 : sumN szNSession (xs.take k) = s0 at *
        have HE := Lib.hid he; clear he
        have HS4 := Lib.hid hs4; clear hs4
        have HS5 := Lib.hid hs5; clear hs5
        have HS2 := Lib.hid hs2; clear hs2
        have a0 := (World.cell?_of_block (HB.out.block b (World.block_lt_of_cell? w _ (q1 0 _ rfl)))).trans (q1 0 _ rfl)
        simp only [kSession_sz, Nat.add_zero] at a0
        have a1 := (World.cell?_of_block (HB.out.block b (World.block_lt_of_cell? w _ (q1 0 _ rfl)))).trans (q1 1 _ rfl)
        simp only [kSession_sz, Nat.add_zero] at a1
        have a2 := (World.cell?_of_block (HB.out.block b (World.block_lt_of_cell? w _ (q1 0 _ rfl)))).trans (q1 2 _ rfl)
        simp only [kSession_sz, Nat.add_zero] at a2
        have a3 := (World.cell?_of_block (HB.out.block b (World.block_lt_of_cell? w _ (q1 0 _ rfl)))).trans (q1 3 _ rfl)
        simp only [kSession_sz, Nat.add_zero] at a3
        clear q1 k1
        have i1 : (0 : Int) ≤ (k : Int) := by omega
        have i2 : (k : Int) < (xs.length : Int) := by omega
        go_wp2_with fail
        (with_reducible refine (szSession_calls x _ _ (by omega) (by omega) hx).mono ?_)
        rintro e w1 ⟨rfl, hb⟩
        have HB1 := Lib.hid (HB.out.trans (hb.mono HB.out.size)); clear hb
        by_cases hy : (szNSession x : Int) ≤ left - xs.length - s0
        · rw [szR_yes hy]
          go_wp2
          exact ⟨⟨k + 1, by omega, by go_num, by rw [HS4.out, HS2.out]; go_num, by rw [HS4.out, HS2.out]; omega, HB1.out⟩, by simp [intOf]; omega⟩
        · rw [szR_no hy]
          go_wp2
          go_ret
          exact ⟨ret_int (by rw [szR_of HF.out, if_neg (by have := HS2.out; omega)]), HB1.out⟩
      · go_wp2
        go_ret
        obtain rfl : k = xs.length := by omega
        rw [sumN_all] at hs
        exact ⟨ret_int (by rw [szR_of HF.out, if_pos (by omega), sumN_all]; omega), HB.out⟩
  · go_enter Try.func74, Try.ntmps74
    go_wp2
    go_ret
    exact ⟨ret_int (by rw [szR_of HF.out, if_neg (by omega)]), Below.refl _ _⟩

set_option maxHeartbeats 1000000 in
set_option maxRecDepth 100000 in
theorem eqSessionS_calls (xs : List DSession) (v1 v2 : Value) (w : World) (h1 : kSession.S w xs v1) (h2 : kSession.S w xs v2) (hl : xs.length ≤ 140737488355328) :
    Calls Try.prog 79 #[v1, v2] w fun e w' => e = .returned (.bool true) ∧ Below w.heap.size w w' := by
  obtain ⟨A1, c1, rfl, hc1, h1⟩ := h1
  obtain ⟨A2, c2, rfl, hc2, h2⟩ := h2
  have H1 := Lib.hid h1; clear h1
  have H2 := Lib.hid h2; clear h2
  go_enter Try.func79, Try.ntmps79
  go_wp2
  go_loopw [5] (fun i wr => ∃ k : Nat, k ≤ xs.length ∧ i = .int .i64 k ∧ Hid (Below w.heap.size w wr)) (fun i _ => xs.length - (intOf i).toNat)
  case atStart => exact ⟨0, Nat.zero_le _, rfl, Below.refl _ _⟩
  case round =>
    obtain ⟨k, hk, rfl, HB⟩ := hrel
    by_cases hlt : k < xs.length
    · obtain ⟨b1, o1, cs1, rfl, k1, q1⟩ := Rp.C_get H1.out k hlt
      obtain ⟨b2, o2, cs2, rfl, k2, q2⟩ := Rp.C_get H2.out k hlt
      obtain rfl := kSession_K k1
      obtain rfl := kSession_K k2
      generalize he : xs[k] = x at *
      have HE := Lib.hid he; clear he
      have a10 := regr HB.out (World.block_lt_of_cell? w _ (q1 0 _ rfl)) (q1 0 _ rfl)
      simp only [kSession_sz, Nat.add_zero] at a10
      have a11 := regr HB.out (World.block_lt_of_cell? w _ (q1 1 _ rfl)) (q1 1 _ rfl)
      simp only [kSession_sz, Nat.add_zero] at a11
      have a12 := regr HB.out (World.block_lt_of_cell? w _ (q1 2 _ rfl)) (q1 2 _ rfl)
      simp only [kSession_sz, Nat.add_zero] at a12
      have a13 := regr HB.out (World.block_lt_of_cell? w _ (q1 3 _ rfl)) (q1 3 _ rfl)
      simp only [kSession_sz, Nat.add_zero] at a13
      have a20 := regr HB.out (World.block_lt_of_cell? w _ (q2 0 _ rfl)) (q2 0 _ rfl)
      simp only [kSession_sz, Nat.add_zero] at a20
      have a21 := regr HB.out (World.block_lt_of_cell? w _ (q2 1 _ rfl)) (q2 1 _ rfl)
      simp only [kSession_sz, Nat.add_zero] at a21
      have a22 := regr HB.out (World.block_lt_of_cell? w _ (q2 2 _ rfl)) (q2 2 _ rfl)
      simp only [kSession_sz, Nat.add_zero] at a22
      have a23 := regr HB.out (World.block_lt_of_cell? w _ (q2 3 _ rfl)) (q2 3 _ rfl)
      simp only [kSession_sz, Nat.add_zero] at a23
      clear q1 q2 k1 k2
      have i1 : (0 : Int) ≤ (k : Int) := by omega
      have i2 : (k : Int) < (xs.length : Int) := by omega
      go_wp2
      refine wp_region_quiet_below (by kernel_rfl) (by kernel_rfl) ?_
      repeat (go_big_quiet_step (exact Calls.regrown_of (eqSession_calls x _)))
      refine wpQuiet_nil ?_
      rintro w1 ⟨p, rfl⟩
      go_wp2
      exact ⟨⟨k + 1, by omega, by go_num, HB.out.trans ((below_regrown _ _ _).mono HB.out.size)⟩, by simp [intOf]; omega⟩
    · go_wp2
      go_ret
      exact ⟨rfl, HB.out⟩

set_option maxHeartbeats 1000000 in
set_option maxRecDepth 100000 in
theorem toSessionS_calls (xs : List DSession) (v : Value) (w : World) (h : kSession.S w xs v) (hl : xs.length ≤ 1048576) :
    Calls Try.prog 76 #[v] w fun e w' => ∃ v' F, e = .returned v' ∧ kSession.Row 80 w' F xs v' ∧ (∀ b ∈ F, w.heap.size ≤ b) ∧ F.Nodup ∧ Below w.heap.size w w' := by
  obtain ⟨A, c, rfl, hc, h⟩ := h
  have H := Lib.hid h; clear h
  obtain ⟨w0, hmk, hR, hB, hlt0⟩ := mk_full w 69 80 kSession zSession Try.underlying69 infoSession rfl (fun w => kSession_mk w _) xs.length hl (by decide)
  have HR := Lib.hid hR; clear hR
  have HB := Lib.hid hB; clear hB
  go_enter Try.func76, Try.ntmps76
  go_wp2
  clear hmk
  go_loopw [4] (fun i wr => ∃ k : Nat, k ≤ xs.length ∧ i = .int .i64 k ∧ (∃ F, Hid (kSession.Row 80 wr F (fillL xs zSession k) (.slice (some ⟨w.heap.size, 0, none⟩) xs.length xs.length)) ∧ Hid (F.Nodup ∧ ∀ b ∈ F, w.heap.size ≤ b)) ∧ Hid (Below w.heap.size w wr)) (fun i _ => xs.length - (intOf i).toNat)
  case atStart => exact ⟨0, Nat.zero_le _, rfl, ⟨_, by rw [fillL_zero]; exact HR.out, by simp [Hid]⟩, HB.out⟩
  case round =>
    clear HR HB hlt0
    obtain ⟨k, hk, rfl, ⟨F, HR, HF⟩, HB⟩ := hrel
    by_cases hlt : k < xs.length
    · obtain ⟨b, o, cs, rfl, k1, q1⟩ := Rp.C_get H.out k hlt
      obtain rfl := kSession_K k1
      have hs := fillL_set (z := zSession) hlt
      generalize he : xs[k] = x at *
      have HS := Lib.hid hs; clear hs
      have HE := Lib.hid he; clear he
      have a0 := (World.cell?_of_block (HB.out.block b (World.block_lt_of_cell? w _ (q1 0 _ rfl)))).trans (q1 0 _ rfl)
      simp only [kSession_sz, Nat.add_zero] at a0
      have a1 := (World.cell?_of_block (HB.out.block b (World.block_lt_of_cell? w _ (q1 1 _ rfl)))).trans (q1 1 _ rfl)
      simp only [kSession_sz, Nat.add_zero] at a1
      have a2 := (World.cell?_of_block (HB.out.block b (World.block_lt_of_cell? w _ (q1 2 _ rfl)))).trans (q1 2 _ rfl)
      simp only [kSession_sz, Nat.add_zero] at a2
      have a3 := (World.cell?_of_block (HB.out.block b (World.block_lt_of_cell? w _ (q1 3 _ rfl)))).trans (q1 3 _ rfl)
      simp only [kSession_sz, Nat.add_zero] at a3
      clear q1 k1
      have i1 : (0 : Int) ≤ (k : Int) := by omega
      have i2 : (k : Int) < (xs.length : Int) := by omega
      go_wp2_with fail
      (with_reducible refine (toSession_calls x _).mono ?_)
      rintro e w1 ⟨rfl, hb⟩
      have HR1 := Rp.Row_below HR.out hb
      have HB1 := HB.out.trans (hb.mono HB.out.size)
      clear hb HB HR
      have hk2 : k < (fillL xs zSession k).length := by rw [fillL_len hk]; exact hlt
      obtain ⟨g, cap, cz, F1, q0, hgF, hgl, q2, _, _, q3, q4⟩ := Rp.Row_open HR1 HF.out.1 k hk2
      rw [fillL_get hlt hk2] at q2
      obtain ⟨rfl, rfl⟩ := kSession_M q2
      obtain rfl : w.heap.size = g := by simp at q0; exact q0.1
      have z0 : w1.cell? ⟨w.heap.size, k * 4, none⟩ = some (.int .i64 0) := q3 0 _ rfl
      have z1 : w1.cell? ⟨w.heap.size, k * 4 + 1, none⟩ = some (.int .i64 0) := q3 1 _ rfl
      have z2 : w1.cell? ⟨w.heap.size, k * 4 + 2, none⟩ = some (.int .i64 0) := q3 2 _ rfl
      have z3 : w1.cell? ⟨w.heap.size, k * 4 + 3, none⟩ = some (.string ⟨#[]⟩) := q3 3 _ rfl
      have y0 : w1.frozen? ⟨w.heap.size, k * 4, none⟩ = false := q4 _
      have y1 : w1.frozen? ⟨w.heap.size, k * 4 + 1, none⟩ = false := q4 _
      have y2 : w1.frozen? ⟨w.heap.size, k * 4 + 2, none⟩ = false := q4 _
      have y3 : w1.frozen? ⟨w.heap.size, k * 4 + 3, none⟩ = false := q4 _
      have HP := Rp.Row_put HR1 HF.out.1 k hk2 x _ [] (kSession_mk w1 x) (by simp) (by simp)
      rw [HS.out] at HP
      have HP := Lib.hid HP
      have HB1 := Lib.hid HB1
      clear q0 q2 q3 q4 hgF hgl hk2 HR1
      go_wp2
      obtain ⟨F', p1, p2, p3, p4⟩ := HP.out
      exact ⟨⟨k + 1, by omega, by go_num, ⟨F', p1, p2, fun b hb => HF.out.2 b (by simpa using p3 b hb)⟩, (Rp.setN_kept (F := F) p4 [.int .i64 x.fId, .int .i64 x.fLast, .int .i64 x.fReply.fCode, .string x.fReply.fValue] w1 (k * 4) (KeptF.refl _ _) |>.toBelow HB1.out.size HF.out.2 |> HB1.out.trans)⟩, by simp [intOf]; omega⟩
    · go_wp2
      go_ret
      obtain rfl : k = xs.length := by omega
      exact ⟨_, _, rfl, by simpa [fillL_all] using HR.out, HF.out.2, HF.out.1, HB.out⟩

def mkSession (x : DSession) (k : Int) : DSession × Int := ((⟨k, (k + 1), (⟨(k + 2), (mtxt (k + 3))⟩ : DReply)⟩ : DSession), k + 4)
theorem mkSession_le (x : DSession) (k : Int) : k ≤ (mkSession x k).2 := by simp only [mkSession]; omega

theorem kSession_flat : kSession.Flat := ⟨fun h => (kSession_M h).1, fun h => by obtain rfl := kSession_K h; exact kSession_mk _ _⟩

end Go.Proofs.Ytfcodelfgjnkhaa
