/- The laws' own functions of some types, one by one. -/
import Derived.Test.YthnjcolbdoaabaaN3
import Derived.Test.YthnjcolbdoaabaaKitB
namespace Go.Proofs.Ythnjcolbdoaabaa
open Go Go.RowKit Go.Sort
set_option linter.unusedVariables false
set_option linter.unusedSimpArgs false

structure DLead where
  fTerm : Int
  fNode : Int
def kLead : Rp DLead := Rp.iso (Rp.pair (Rp.int .i64) (Rp.int .i64)) (fun x => (x.fTerm, x.fNode))
theorem kLead_sz : kLead.sz = 2 := rfl
theorem kLead_K {w : World} {x : DLead} {cs : List Value} (h : kLead.K w x cs) : cs = [.int .i64 x.fTerm, .int .i64 x.fNode] := by
  obtain ⟨_, _, rfl, rfl, rfl⟩ := h
  rfl
theorem kLead_M {w : World} {F : List Nat} {x : DLead} {cs : List Value} (h : kLead.M w F x cs) : F = [] ∧ cs = [.int .i64 x.fTerm, .int .i64 x.fNode] := by
  obtain ⟨_, _, _, _, rfl, rfl, ⟨rfl, rfl⟩, ⟨rfl, rfl⟩⟩ := h
  exact ⟨rfl, rfl⟩
theorem kLead_mk (w : World) (x : DLead) : kLead.M w [] x [.int .i64 x.fTerm, .int .i64 x.fNode] := ⟨[.int .i64 x.fTerm], [.int .i64 x.fNode], [], [], rfl, rfl, ⟨rfl, rfl⟩, ⟨rfl, rfl⟩⟩
theorem kLead_mkK (w : World) (x : DLead) : kLead.K w x [.int .i64 x.fTerm, .int .i64 x.fNode] := kLead.M_K (kLead_mk w x)

def szNLead (x : DLead) : Nat := 0

def wfLead (x : DLead) : Prop := True

set_option maxHeartbeats 1000000 in
set_option maxRecDepth 100000 in
theorem eqLead_calls (x : DLead) (w : World) : Calls Try.prog 95 #[.agg #[.int .i64 x.fTerm, .int .i64 x.fNode], .agg #[.int .i64 x.fTerm, .int .i64 x.fNode]] w
    fun e w' => e = .returned (.bool true) ∧ Below w.heap.size w w' := by
  go_enter Try.func95, Try.ntmps95
  go_wp2
  go_ret
  exact ⟨rfl, (by repeat (first | exact Below.refl _ _ | (refine Below.setCell ?_ (by first | (simp; done) | (simp; omega)) _) | (refine Below.alloc ?_ (by first | (simp; done) | (simp; omega)) _)))⟩

set_option maxHeartbeats 1000000 in
set_option maxRecDepth 100000 in
theorem toLead_calls (x : DLead) (w : World) : Calls Try.prog 127 #[.agg #[.int .i64 x.fTerm, .int .i64 x.fNode]] w
    fun e w' => e = .returned (.agg #[.int .i64 x.fTerm, .int .i64 x.fNode]) ∧ Below w.heap.size w w' := by
  go_enter Try.func127, Try.ntmps127
  go_wp2
  exact bodyPost_ret (v := .agg #[.int .i64 x.fTerm, .int .i64 x.fNode]) (by simp [results, Try.results127, go_sem]) rfl ⟨rfl, (by repeat (first | exact Below.refl _ _ | (refine Below.setCell ?_ (by first | (simp; done) | (simp; omega)) _) | (refine Below.alloc ?_ (by first | (simp; done) | (simp; omega)) _)))⟩

theorem infoLead : (Try.prog.info? 109).map (fun i => (i.zero, i.size, i.bytes)) = some (some (.agg #[.int .i64 0, .int .i64 0]), 2, 16) := by kernel_rfl
def zLead : DLead := ⟨0, 0⟩

set_option maxHeartbeats 1000000 in
set_option maxRecDepth 100000 in
theorem szL_Lead (xs : List DLead) : szL szNLead xs = xs.length := by
  have : ∀ ys : List DLead, sumN szNLead ys = 0 := fun ys => by induction ys with
    | nil => rfl
    | cons y ys ih => simp [sumN, ih, szNLead]
  rw [szL, this]
  rfl
set_option maxHeartbeats 1000000 in
theorem szLeadS_calls (xs : List DLead) (left : Int) (v : Value) (w : World) (h : kLead.S w xs v) (h0 : 0 ≤ left) (h1 : left ≤ 140737488355328) (hw : ∀ x ∈ xs, wfLead x) (hl : xs.length ≤ 140737488355328) :
    Calls Try.prog 87 #[v, .int .i64 left] w fun e w' => e = .returned (.int .i64 (szR (szL szNLead xs) left)) ∧ Below w.heap.size w w' := by
  obtain ⟨A, c, rfl, hc, h⟩ := h
  clear h hw
  have HF := Lib.hid (szL_Lead xs)
  go_enter Try.func87, Try.ntmps87
  go_wp2
  all_goals (go_ret; exact ⟨ret_int (by rw [HF.out]; first | (rw [szR_yes (by omega)]; done) | (rw [szR_no (by omega)]; done)), Below.refl _ _⟩)

set_option maxHeartbeats 1000000 in
set_option maxRecDepth 100000 in
theorem eqLeadS_calls (xs : List DLead) (v1 v2 : Value) (w : World) (h1 : kLead.S w xs v1) (h2 : kLead.S w xs v2) (hl : xs.length ≤ 140737488355328) :
    Calls Try.prog 37 #[v1, v2] w fun e w' => e = .returned (.bool true) ∧ Below w.heap.size w w' := by
  obtain ⟨A1, c1, rfl, hc1, h1⟩ := h1
  obtain ⟨A2, c2, rfl, hc2, h2⟩ := h2
  have H1 := Lib.hid h1; clear h1
  have H2 := Lib.hid h2; clear h2
  go_enter Try.func37, Try.ntmps37
  go_wp2
  go_loopw [5] (fun i wr => ∃ k : Nat, k ≤ xs.length ∧ i = .int .i64 k ∧ Hid (Below w.heap.size w wr)) (fun i _ => xs.length - (intOf i).toNat)
  case atStart => exact ⟨0, Nat.zero_le _, rfl, Below.refl _ _⟩
  case round =>
    obtain ⟨k, hk, rfl, HB⟩ := hrel
    by_cases hlt : k < xs.length
    · obtain ⟨b1, o1, cs1, rfl, k1, q1⟩ := Rp.C_get H1.out k hlt
      obtain ⟨b2, o2, cs2, rfl, k2, q2⟩ := Rp.C_get H2.out k hlt
      obtain rfl := kLead_K k1
      obtain rfl := kLead_K k2
      generalize he : xs[k] = x at *
      have HE := Lib.hid he; clear he
      have a10 := regr HB.out (World.block_lt_of_cell? w _ (q1 0 _ rfl)) (q1 0 _ rfl)
      simp only [kLead_sz, Nat.add_zero] at a10
      have a11 := regr HB.out (World.block_lt_of_cell? w _ (q1 1 _ rfl)) (q1 1 _ rfl)
      simp only [kLead_sz, Nat.add_zero] at a11
      have a20 := regr HB.out (World.block_lt_of_cell? w _ (q2 0 _ rfl)) (q2 0 _ rfl)
      simp only [kLead_sz, Nat.add_zero] at a20
      have a21 := regr HB.out (World.block_lt_of_cell? w _ (q2 1 _ rfl)) (q2 1 _ rfl)
      simp only [kLead_sz, Nat.add_zero] at a21
      clear q1 q2 k1 k2
      have i1 : (0 : Int) ≤ (k : Int) := by omega
      have i2 : (k : Int) < (xs.length : Int) := by omega
      go_wp2
      refine wp_region_quiet_below (by kernel_rfl) (by kernel_rfl) ?_
      repeat (go_big_quiet_step (exact Calls.regrown_of (eqLead_calls x _)))
      refine wpQuiet_nil ?_
      rintro w1 ⟨p, rfl⟩
      go_wp2
      exact ⟨⟨k + 1, by omega, by go_num, HB.out.trans ((below_regrown _ _ _).mono HB.out.size)⟩, by simp [intOf]; omega⟩
    · go_wp2
      go_ret
      exact ⟨rfl, HB.out⟩

set_option maxHeartbeats 1000000 in
set_option maxRecDepth 100000 in
theorem toLeadS_calls (xs : List DLead) (v : Value) (w : World) (h : kLead.S w xs v) (hl : xs.length ≤ 1048576) :
    Calls Try.prog 90 #[v] w fun e w' => ∃ v' F, e = .returned v' ∧ kLead.Row 109 w' F xs v' ∧ (∀ b ∈ F, w.heap.size ≤ b) ∧ F.Nodup ∧ Below w.heap.size w w' := by
  obtain ⟨A, c, rfl, hc, h⟩ := h
  have H := Lib.hid h; clear h
  obtain ⟨w0, hmk, hR, hB, hlt0⟩ := mk_full w 63 109 kLead zLead Try.underlying63 infoLead rfl (fun w => kLead_mk w _) xs.length hl (by decide)
  have HR := Lib.hid hR; clear hR
  have HB := Lib.hid hB; clear hB
  go_enter Try.func90, Try.ntmps90
  go_wp2
  clear hmk
  go_loopw [4] (fun i wr => ∃ k : Nat, k ≤ xs.length ∧ i = .int .i64 k ∧ (∃ F, Hid (kLead.Row 109 wr F (fillL xs zLead k) (.slice (some ⟨w.heap.size, 0, none⟩) xs.length xs.length)) ∧ Hid (F.Nodup ∧ ∀ b ∈ F, w.heap.size ≤ b)) ∧ Hid (Below w.heap.size w wr)) (fun i _ => xs.length - (intOf i).toNat)
  case atStart => exact ⟨0, Nat.zero_le _, rfl, ⟨_, by rw [fillL_zero]; exact HR.out, by simp [Hid]⟩, HB.out⟩
  case round =>
    clear HR HB hlt0
    obtain ⟨k, hk, rfl, ⟨F, HR, HF⟩, HB⟩ := hrel
    by_cases hlt : k < xs.length
    · obtain ⟨b, o, cs, rfl, k1, q1⟩ := Rp.C_get H.out k hlt
      obtain rfl := kLead_K k1
      have hs := fillL_set (z := zLead) hlt
      generalize he : xs[k] = x at *
      have HS := Lib.hid hs; clear hs
      have HE := Lib.hid he; clear he
      have a0 := (World.cell?_of_block (HB.out.block b (World.block_lt_of_cell? w _ (q1 0 _ rfl)))).trans (q1 0 _ rfl)
      simp only [kLead_sz, Nat.add_zero] at a0
      have a1 := (World.cell?_of_block (HB.out.block b (World.block_lt_of_cell? w _ (q1 1 _ rfl)))).trans (q1 1 _ rfl)
      simp only [kLead_sz, Nat.add_zero] at a1
      clear q1 k1
      have i1 : (0 : Int) ≤ (k : Int) := by omega
      have i2 : (k : Int) < (xs.length : Int) := by omega
      go_wp2_with fail
      (with_reducible refine (toLead_calls x _).mono ?_)
      rintro e w1 ⟨rfl, hb⟩
      have HR1 := Rp.Row_below HR.out hb
      have HB1 := HB.out.trans (hb.mono HB.out.size)
      clear hb HB HR
      have hk2 : k < (fillL xs zLead k).length := by rw [fillL_len hk]; exact hlt
      obtain ⟨g, cap, cz, F1, q0, hgF, hgl, q2, _, _, q3, q4⟩ := Rp.Row_open HR1 HF.out.1 k hk2
      rw [fillL_get hlt hk2] at q2
      obtain ⟨rfl, rfl⟩ := kLead_M q2
      obtain rfl : w.heap.size = g := by simp at q0; exact q0.1
      have z0 : w1.cell? ⟨w.heap.size, k * 2, none⟩ = some (.int .i64 0) := q3 0 _ rfl
      have z1 : w1.cell? ⟨w.heap.size, k * 2 + 1, none⟩ = some (.int .i64 0) := q3 1 _ rfl
      have y0 : w1.frozen? ⟨w.heap.size, k * 2, none⟩ = false := q4 _
      have y1 : w1.frozen? ⟨w.heap.size, k * 2 + 1, none⟩ = false := q4 _
      have HP := Rp.Row_put HR1 HF.out.1 k hk2 x _ [] (kLead_mk w1 x) (by simp) (by simp)
      rw [HS.out] at HP
      have HP := Lib.hid HP
      have HB1 := Lib.hid HB1
      clear q0 q2 q3 q4 hgF hgl hk2 HR1
      go_wp2
      obtain ⟨F', p1, p2, p3, p4⟩ := HP.out
      exact ⟨⟨k + 1, by omega, by go_num, ⟨F', p1, p2, fun b hb => HF.out.2 b (by simpa using p3 b hb)⟩, (Rp.setN_kept (F := F) p4 [.int .i64 x.fTerm, .int .i64 x.fNode] w1 (k * 2) (KeptF.refl _ _) |>.toBelow HB1.out.size HF.out.2 |> HB1.out.trans)⟩, by simp [intOf]; omega⟩
    · go_wp2
      go_ret
      obtain rfl : k = xs.length := by omega
      exact ⟨_, _, rfl, by simpa [fillL_all] using HR.out, HF.out.2, HF.out.1, HB.out⟩

def mkLead (x : DLead) (k : Int) : DLead × Int := ((⟨k, (k + 1)⟩ : DLead), k + 2)
theorem mkLead_le (x : DLead) (k : Int) : k ≤ (mkLead x k).2 := by simp only [mkLead]; omega

set_option maxHeartbeats 1000000 in
set_option maxRecDepth 100000 in
theorem markLeadS_calls (xs : List DLead) (k : Int) (F : List Nat) (v : Value) (w : World) (h : kLead.Row 109 w F xs v) (hnF : F.Nodup) (h0 : 0 ≤ k) (h1 : (mkL mkLead xs k).2 ≤ 4611686018427387904) (hl : xs.length ≤ 140737488355328) :
    Calls Try.prog 40 #[v, .int .i64 k] w fun e w' => e = .returned (.int .i64 (mkL mkLead xs k).2) ∧ kLead.Row 109 w' F (mkL mkLead xs k).1 v ∧ KeptF F w w' := by
  obtain ⟨A, c, rfl, hc, _⟩ := Rp.Row_K h
  have H := Lib.hid h; clear h
  have H1 := Lib.hid h1; clear h1
  go_enter Try.func40, Try.ntmps40
  go_wp2
  go_loopw [1, 5] (fun a n wr => ∃ i : Nat, i ≤ xs.length ∧ n = .int .i64 i ∧ a = .int .i64 (mkNo mkLead xs k i) ∧ Hid (kLead.Row 109 wr F (mkAt mkLead xs k i) (.slice A xs.length c)) ∧ Hid (KeptF F w wr)) (fun _ n _ => xs.length - (intOf n).toNat)
  case atStart => exact ⟨0, Nat.zero_le _, rfl, by rw [mkNo_zero], by rw [mkAt_zero]; exact H.out, KeptF.refl _ _⟩
  case round =>
    obtain ⟨i, hi, rfl, rfl, HR, HK⟩ := hrel
    by_cases hlt : i < xs.length
    · have b1 := mkNo_ge (mk := mkLead) (k := k) mkLead_le (Nat.le_of_lt hlt)
      have b2 := mkNo_top (mk := mkLead) (k := k) mkLead_le (i := i + 1) hlt
      have b3 := mkNo_succ (mk := mkLead) (k := k) hlt
      have b4 : mkNo mkLead xs k (i + 1) = mkNo mkLead xs k i + 2 := b3
      have b5 := H1.out
      have hset := mkAt_set (mk := mkLead) (k := k) hlt
      have hl2 : i < (mkAt mkLead xs k i).length := by rw [mkAt_len hi]; exact hlt
      have hy := mkAt_get' (mk := mkLead) (k := k) hlt hl2
      have hR := HR.out
      clear HR
      have c1 : 0 ≤ mkNo mkLead xs k i := by omega
      have c2 : mkNo mkLead xs k i + 2 ≤ 4611686018427387904 := by omega
      clear b1 b2 b3 b5
      have B4 := Lib.hid b4; clear b4
      generalize mkNo mkLead xs k i = kk at *
      generalize mkAt mkLead xs k i = ys at *
      generalize he : xs[i] = x at *
      have HE := Lib.hid he; clear he
      have hset' : ys.set i (⟨kk, (kk + 1)⟩ : DLead) = mkAt mkLead xs k (i + 1) := hset
      have HS := Lib.hid hset'; clear hset hset'
      obtain ⟨g2, cap2, c2, F2, q0, gF, _, q2, _, _, q3, q4⟩ := Rp.Row_open hR hnF i hl2
      rw [hy] at q2
      obtain ⟨_, rfl⟩ := kLead_M q2
      obtain ⟨g, rfl⟩ : ∃ g, A = some ⟨g, 0, none⟩ := ⟨g2, by simp at q0; exact q0.1⟩
      obtain rfl : g = g2 := by simp at q0; exact q0.1
      have z0_0 : wr.cell? ⟨g, i * 2, none⟩ = some (.int .i64 x.fTerm) := q3 0 _ rfl
      have y0_0 : wr.frozen? ⟨g, i * 2, none⟩ = false := q4 _
      have z0_1 : wr.cell? ⟨g, i * 2 + 1, none⟩ = some (.int .i64 x.fNode) := q3 1 _ rfl
      have y0_1 : wr.frozen? ⟨g, i * 2 + 1, none⟩ = false := q4 _
      clear q0 q2 q3 q4
      have HY := Lib.hid hy; clear hy
      have HRr := Lib.hid hR; clear hR
      have i1 : (0 : Int) ≤ (i : Int) := by omega
      have i2 : (i : Int) < (xs.length : Int) := by omega
      go_wp2
      have hy := HY.out
      have r0 := HRr.out
      have r1 := Rp.Row_store r0 hnF i hl2 0 (by decide) (.int .i64 kk) (⟨kk, x.fNode⟩ : DLead) (fun c F1 hM => by rw [hy] at hM; obtain ⟨rfl, rfl⟩ := kLead_M hM; exact kLead_mk _ _)
      have r2 := Rp.Row_store r1 hnF i (by rw [List.length_set]; exact hl2) 1 (by decide) (.int .i64 (kk + 1)) (⟨kk, (kk + 1)⟩ : DLead) (fun c F1 hM => by rw [List.getElem_set_self] at hM; obtain ⟨rfl, rfl⟩ := kLead_M hM; exact kLead_mk _ _)
      rw [List.set_set] at r2
      rw [HS.out] at r2
      exact ⟨⟨i + 1, by omega, by go_num, by rw [B4.out]; go_num, r2, (by repeat (first | exact HK.out | (refine KeptF.set ?_ (show g ∈ F from gF) _)))⟩, by simp [intOf]; omega⟩
    · go_wp2
      go_ret
      obtain rfl : i = xs.length := by omega
      exact ⟨ret_int mkNo_all, by rw [← mkAt_all]; exact HR.out, HK.out⟩

set_option maxHeartbeats 1000000 in
set_option maxRecDepth 100000 in
theorem heldLeadS_calls (xs : List DLead) (k : Int) (v : Value) (w : World) (h : kLead.S w (mkL mkLead xs k).1 v) (h0 : 0 ≤ k) (h1 : (mkL mkLead xs k).2 ≤ 4611686018427387904) (hl : xs.length ≤ 140737488355328) :
    Calls Try.prog 41 #[v, .int .i64 k] w fun e w' => e = .returned (.int .i64 (mkL mkLead xs k).2) ∧ Below w.heap.size w w' := by
  obtain ⟨A, c, rfl, hc, hC⟩ := h
  rw [mkL_len] at hc ⊢
  have H := Lib.hid hC; clear hC
  have H1 := Lib.hid h1; clear h1
  go_enter Try.func41, Try.ntmps41
  go_wp2
  go_loopw [1, 5] (fun a n wr => ∃ i : Nat, i ≤ xs.length ∧ n = .int .i64 i ∧ a = .int .i64 (mkNo mkLead xs k i) ∧ Hid (Below w.heap.size w wr)) (fun _ n _ => xs.length - (intOf n).toNat)
  case atStart => exact ⟨0, Nat.zero_le _, rfl, by rw [mkNo_zero], Below.refl _ _⟩
  case round =>
    obtain ⟨i, hi, rfl, rfl, HB⟩ := hrel
    by_cases hlt : i < xs.length
    · have b1 := mkNo_ge (mk := mkLead) (k := k) mkLead_le (Nat.le_of_lt hlt)
      have b2 := mkNo_top (mk := mkLead) (k := k) mkLead_le (i := i + 1) hlt
      have b4 : mkNo mkLead xs k (i + 1) = mkNo mkLead xs k i + 2 := mkNo_succ (mk := mkLead) (k := k) hlt
      have b5 := H1.out
      obtain ⟨b, o, cs, rfl, k1, q1⟩ := Rp.C_get H.out i (by rw [mkL_len]; exact hlt)
      rw [mkL_get' hlt] at k1
      obtain rfl := kLead_K k1
      have Q := Lib.hid q1
      clear q1 k1
      have c1 : 0 ≤ mkNo mkLead xs k i := by omega
      have c2 : mkNo mkLead xs k i + 2 ≤ 4611686018427387904 := by omega
      clear b1 b2 b5
      have B4 := Lib.hid b4; clear b4
      generalize mkNo mkLead xs k i = kk at *
      generalize xs[i] = x at *
      have a0_0 : wr.cell? ⟨b, o + i * 2, none⟩ = some (.int .i64 kk) := (World.cell?_of_block (HB.out.block b (World.block_lt_of_cell? w _ (Q.out 0 _ rfl)))).trans (Q.out 0 _ rfl)
      have a0_1 : wr.cell? ⟨b, o + i * 2 + 1, none⟩ = some (.int .i64 (kk + 1)) := (World.cell?_of_block (HB.out.block b (World.block_lt_of_cell? w _ (Q.out 1 _ rfl)))).trans (Q.out 1 _ rfl)
      have i1 : (0 : Int) ≤ (i : Int) := by omega
      have i2 : (i : Int) < (xs.length : Int) := by omega
      go_wp2
      exact ⟨⟨i + 1, by omega, by go_num, by rw [B4.out]; go_num, HB.out⟩, by simp [intOf]; omega⟩
    · go_wp2
      go_ret
      obtain rfl : i = xs.length := by omega
      exact ⟨ret_int mkNo_all, HB.out⟩

theorem kLead_flat : kLead.Flat := ⟨fun h => (kLead_M h).1, fun h => by obtain rfl := kLead_K h; exact kLead_mk _ _⟩

end Go.Proofs.Ythnjcolbdoaabaa
