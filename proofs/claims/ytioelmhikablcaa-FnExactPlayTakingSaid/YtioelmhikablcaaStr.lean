/- The laws' own functions of slices of texts. -/
import Derived.Test.YtioelmhikablcaaTxt
import Derived.Test.YtioelmhikablcaaKitB
namespace Go.Proofs.Ytioelmhikablcaa
open Go Go.RowKit Go.Sort
set_option linter.unusedVariables false
set_option linter.unusedSimpArgs false

abbrev kTxt : Rp ByteArray := Rp.str
theorem kTxt_flat : kTxt.Flat := ⟨fun h => h.1, fun h => ⟨rfl, h⟩⟩
theorem infoTxt : (Try.prog.info? 9).map (fun i => (i.zero, i.size, i.bytes)) = some (some (.string ⟨#[]⟩), 1, 16) := by kernel_rfl
def szNTxt (x : ByteArray) : Nat := x.size
def wfTxt (x : ByteArray) : Prop := x.size ≤ 140737488355328
def mkTxt (x : ByteArray) (k : Int) : ByteArray × Int := (mtxt k, k + 1)
theorem mkTxt_le (x : ByteArray) (k : Int) : k ≤ (mkTxt x k).2 := by simp only [mkTxt]; omega
set_option maxHeartbeats 2000000 in
set_option maxRecDepth 100000 in
theorem szStringS_calls (xs : List ByteArray) (left : Int) (v : Value) (w : World) (h : kTxt.S w xs v) (h0 : 0 ≤ left) (h1 : left ≤ 140737488355328) (hw : ∀ x ∈ xs, wfTxt x) (hl : xs.length ≤ 140737488355328) :
    Calls Try.prog 27 #[v, .int .i64 left] w fun e w' => e = .returned (.int .i64 (szR (szL szNTxt xs) left)) ∧ Below w.heap.size w w' := by
  obtain ⟨A, c, rfl, hc, h⟩ := h
  have H := Lib.hid h; clear h
  have HW := Lib.hid hw; clear hw
  have HF := Lib.hid (show ((szL szNTxt xs : Nat) : Int) = xs.length + sumN szNTxt xs by unfold szL; omega)
  by_cases hq : (xs.length : Int) ≤ left
  · go_enter Try.func27, Try.ntmps27
    go_wp2
    go_loopw [1, 5] (fun l i wr => ∃ k : Nat, k ≤ xs.length ∧ i = .int .i64 k ∧ l = .int .i64 (left - xs.length - sumN szNTxt (xs.take k)) ∧ 0 ≤ left - xs.length - sumN szNTxt (xs.take k) ∧ Hid (wr = w)) (fun _ i _ => xs.length - (intOf i).toNat)
    case atStart => exact ⟨0, Nat.zero_le _, rfl, by simp [sumN], by simp [sumN]; omega, rfl⟩
    case round =>
      obtain ⟨k, hk, rfl, rfl, hs, HW2⟩ := hrel
      obtain rfl := HW2.out
      by_cases hlt : k < xs.length
      · obtain ⟨b, o, cs, rfl, k1, q1⟩ := Rp.C_get H.out k hlt
        obtain rfl : cs = [.string xs[k]] := k1
        have hx := HW.out xs[k] (List.getElem_mem hlt)
        have hs2 := sumN_take (f := szNTxt) hlt
        have hs3 := sumN_le (f := szNTxt) (xs := xs) (k + 1)
        simp only [szNTxt, wfTxt] at hs2 hx
        generalize he : xs[k] = x at *
        generalize hs4 : sumN szNTxt (xs.take (k + 1)) = s1 at *
        generalize hs5 : sumN szNTxt (xs.take k) = s0 at *
        have HE := Lib.hid he; clear he
        have HS4 := Lib.hid hs4; clear hs4
        have HS5 := Lib.hid hs5; clear hs5
        have HS2 := Lib.hid hs2; clear hs2
        have a0 := q1 0 _ rfl
        simp only [Rp.str, Rp.scalar, Nat.mul_one, Nat.add_zero] at a0
        clear q1
        have i1 : (0 : Int) ≤ (k : Int) := by omega
        have i2 : (k : Int) < (xs.length : Int) := by omega
        by_cases hy : (x.size : Int) ≤ left - xs.length - s0
        · go_wp2
          exact ⟨⟨k + 1, by omega, by go_num, by rw [HS4.out, HS2.out]; go_num, by rw [HS4.out, HS2.out]; omega, trivial⟩, by simp [intOf]; omega⟩
        · go_wp2
          go_ret
          exact ⟨ret_int (by rw [szR_of HF.out, if_neg (by have := HS2.out; omega)]), Below.refl _ _⟩
      · go_wp2
        go_ret
        obtain rfl : k = xs.length := by omega
        have hh := hs
        rw [List.take_length] at hh
        exact ⟨ret_int (by rw [szR_of HF.out, if_pos (by omega), List.take_length]; omega), Below.refl _ _⟩
  · go_enter Try.func27, Try.ntmps27
    go_wp2
    go_ret
    exact ⟨ret_int (by rw [szR_of HF.out, if_neg (by omega)]), Below.refl _ _⟩
set_option maxHeartbeats 1000000 in
set_option maxRecDepth 100000 in
theorem eqStringS_calls (xs : List ByteArray) (v1 v2 : Value) (w : World) (h1 : kTxt.S w xs v1) (h2 : kTxt.S w xs v2) (hl : xs.length ≤ 140737488355328) :
    Calls Try.prog 17 #[v1, v2] w fun e w' => e = .returned (.bool true) ∧ Below w.heap.size w w' := by
  obtain ⟨A1, c1, rfl, hc1, h1⟩ := h1
  obtain ⟨A2, c2, rfl, hc2, h2⟩ := h2
  have H1 := Lib.hid h1; clear h1
  have H2 := Lib.hid h2; clear h2
  go_enter Try.func17, Try.ntmps17
  go_wp2
  go_loopw [5] (fun i wr => ∃ k : Nat, k ≤ xs.length ∧ i = .int .i64 k ∧ Hid (Below w.heap.size w wr)) (fun i _ => xs.length - (intOf i).toNat)
  case atStart => exact ⟨0, Nat.zero_le _, rfl, Below.refl _ _⟩
  case round =>
    obtain ⟨k, hk, rfl, HB⟩ := hrel
    by_cases hlt : k < xs.length
    · obtain ⟨b1, o1, cs1, rfl, k1, q1⟩ := Rp.C_get H1.out k hlt
      obtain ⟨b2, o2, cs2, rfl, k2, q2⟩ := Rp.C_get H2.out k hlt
      obtain rfl : cs1 = [.string xs[k]] := k1
      obtain rfl : cs2 = [.string xs[k]] := k2
      generalize he : xs[k] = x at *
      have HE := Lib.hid he; clear he
      have a1 := (World.cell?_of_block (HB.out.block b1 (World.block_lt_of_cell? w _ (q1 0 _ rfl)))).trans (q1 0 _ rfl)
      have a2 := (World.cell?_of_block (HB.out.block b2 (World.block_lt_of_cell? w _ (q2 0 _ rfl)))).trans (q2 0 _ rfl)
      simp only [Rp.str, Rp.scalar, Nat.mul_one, Nat.add_zero] at a1 a2
      clear q1 q2
      have i1 : (0 : Int) ≤ (k : Int) := by omega
      have i2 : (k : Int) < (xs.length : Int) := by omega
      have r1 := regr (Below.refl _ wr) (World.block_lt_of_cell? wr _ a1) a1
      have r2 := regr (Below.refl _ wr) (World.block_lt_of_cell? wr _ a2) a2
      go_upto_region 6 with fail
      refine wp_region_quiet_below (by kernel_rfl) (by kernel_rfl) ?_
      repeat (go_big_quiet_step (fail))
      refine wpQuiet_nil ?_
      rintro w1 ⟨p, rfl⟩
      go_wp2
      exact ⟨⟨k + 1, by omega, by go_num, HB.out.trans ((below_regrown _ _ _).mono HB.out.size)⟩, by simp [intOf]; omega⟩
    · go_wp2
      go_ret
      exact ⟨rfl, HB.out⟩
set_option maxHeartbeats 2000000 in
set_option maxRecDepth 100000 in
theorem toStringS_calls (xs : List ByteArray) (v : Value) (w : World) (h : kTxt.S w xs v) (hl : xs.length ≤ 1048576) :
    Calls Try.prog 29 #[v] w fun e w' => ∃ v' F, e = .returned v' ∧ kTxt.Row 9 w' F xs v' ∧ (∀ b ∈ F, w.heap.size ≤ b) ∧ F.Nodup ∧ Below w.heap.size w w' := by
  obtain ⟨A, c, rfl, hc, h⟩ := h
  have H := Lib.hid h; clear h
  obtain ⟨w0, hmk, hR, hB, hlt0⟩ := mk_full w 27 9 kTxt ⟨#[]⟩ Try.underlying27 infoTxt rfl (fun w => ⟨rfl, rfl⟩) xs.length hl (by decide)
  have HR := Lib.hid hR; clear hR
  have HB := Lib.hid hB; clear hB
  go_enter Try.func29, Try.ntmps29
  go_wp2
  clear hmk
  go_loopw [4] (fun i wr => ∃ k : Nat, k ≤ xs.length ∧ i = .int .i64 k ∧ (∃ F, Hid (kTxt.Row 9 wr F (fillL xs ⟨#[]⟩ k) (.slice (some ⟨w.heap.size, 0, none⟩) xs.length xs.length)) ∧ Hid (F.Nodup ∧ ∀ b ∈ F, w.heap.size ≤ b)) ∧ Hid (Below w.heap.size w wr)) (fun i _ => xs.length - (intOf i).toNat)
  case atStart => exact ⟨0, Nat.zero_le _, rfl, ⟨_, by rw [fillL_zero]; exact HR.out, by simp [Hid]⟩, HB.out⟩
  case round =>
    clear HR HB hlt0
    obtain ⟨k, hk, rfl, ⟨F, HR, HF⟩, HB⟩ := hrel
    by_cases hlt : k < xs.length
    · obtain ⟨b, o, cs, rfl, k1, q1⟩ := Rp.C_get H.out k hlt
      obtain rfl : cs = [.string xs[k]] := k1
      have hs := fillL_set (z := (⟨#[]⟩ : ByteArray)) hlt
      generalize he : xs[k] = x at *
      have HS := Lib.hid hs; clear hs
      have HE := Lib.hid he; clear he
      have a1 := (World.cell?_of_block (HB.out.block b (World.block_lt_of_cell? w _ (q1 0 _ rfl)))).trans (q1 0 _ rfl)
      simp only [Rp.str, Rp.scalar, Nat.mul_one, Nat.add_zero] at a1
      clear q1
      have i1 : (0 : Int) ≤ (k : Int) := by omega
      have i2 : (k : Int) < (xs.length : Int) := by omega
      have hk2 : k < (fillL xs ⟨#[]⟩ k).length := by rw [fillL_len hk]; exact hlt
      obtain ⟨g, cap, cz, F1, q0, hgF, hgl, q2, _, _, q3, q4⟩ := Rp.Row_open HR.out HF.out.1 k hk2
      rw [fillL_get hlt hk2] at q2
      obtain ⟨rfl, rfl⟩ := q2
      obtain rfl : w.heap.size = g := by simp at q0; exact q0.1
      have z0 : wr.cell? ⟨w.heap.size, k, none⟩ = some (.string ⟨#[]⟩) := by have := q3 0 _ rfl; simpa [Rp.str, Rp.scalar] using this
      have y0 : wr.frozen? ⟨w.heap.size, k, none⟩ = false := q4 _
      have HP := Rp.Row_put HR.out HF.out.1 k hk2 x [.string x] [] ⟨rfl, rfl⟩ (by simp) (by simp)
      rw [HS.out] at HP
      have HP := Lib.hid HP
      clear q0 q3 q4 hgF hgl hk2 HR
      go_wp2
      obtain ⟨F', p1, p2, p3, p4⟩ := HP.out
      have e1 : Rp.setN wr w.heap.size (k * (kTxt).sz) [.string x] = wr.setCell ⟨w.heap.size, k, none⟩ (.string x) := by simp [Rp.setN, Rp.str, Rp.scalar]
      rw [e1] at p1
      exact ⟨⟨k + 1, by omega, by go_num, ⟨F', p1, p2, fun b hb => HF.out.2 b (by simpa using p3 b hb)⟩, HB.out.setCell (by simp) _⟩, by simp [intOf]; omega⟩
    · go_wp2
      go_ret
      obtain rfl : k = xs.length := by omega
      exact ⟨_, _, rfl, by simpa [fillL_all] using HR.out, HF.out.2, HF.out.1, HB.out⟩
set_option maxHeartbeats 2000000 in
set_option maxRecDepth 100000 in
theorem markStringS_calls (xs : List ByteArray) (k : Int) (F : List Nat) (v : Value) (w : World) (h : kTxt.Row 9 w F xs v) (hnF : F.Nodup) (h0 : 0 ≤ k) (h1 : (mkL mkTxt xs k).2 ≤ 4611686018427387904) (hl : xs.length ≤ 140737488355328) :
    Calls Try.prog 20 #[v, .int .i64 k] w fun e w' => e = .returned (.int .i64 (mkL mkTxt xs k).2) ∧ kTxt.Row 9 w' F (mkL mkTxt xs k).1 v ∧ KeptF F w w' := by
  obtain ⟨A, c, rfl, hc, _⟩ := Rp.Row_K h
  have H := Lib.hid h; clear h
  have H1 := Lib.hid h1; clear h1
  go_enter Try.func20, Try.ntmps20
  go_wp2
  go_loopw [1, 5] (fun a n wr => ∃ i : Nat, i ≤ xs.length ∧ n = .int .i64 i ∧ a = .int .i64 (mkNo mkTxt xs k i) ∧ Hid (kTxt.Row 9 wr F (mkAt mkTxt xs k i) (.slice A xs.length c)) ∧ Hid (KeptF F w wr)) (fun _ n _ => xs.length - (intOf n).toNat)
  case atStart => exact ⟨0, Nat.zero_le _, rfl, by rw [mkNo_zero], by rw [mkAt_zero]; exact H.out, KeptF.refl _ _⟩
  case round =>
    obtain ⟨i, hi, rfl, rfl, HR, HK⟩ := hrel
    by_cases hlt : i < xs.length
    · have b1 := mkNo_ge (mk := mkTxt) (k := k) mkTxt_le (Nat.le_of_lt hlt)
      have b2 := mkNo_top (mk := mkTxt) (k := k) mkTxt_le (i := i + 1) hlt
      have b4 : mkNo mkTxt xs k (i + 1) = mkNo mkTxt xs k i + 1 := mkNo_succ (mk := mkTxt) (k := k) hlt
      have b5 := H1.out
      have hset := mkAt_set (mk := mkTxt) (k := k) hlt
      have hl2 : i < (mkAt mkTxt xs k i).length := by rw [mkAt_len hi]; exact hlt
      have hy := mkAt_get' (mk := mkTxt) (k := k) hlt hl2
      have hR := HR.out
      clear HR
      have c1 : 0 ≤ mkNo mkTxt xs k i := by omega
      have c2 : mkNo mkTxt xs k i + 1 ≤ 4611686018427387904 := by omega
      clear b1 b2 b5
      have B4 := Lib.hid b4; clear b4
      generalize mkNo mkTxt xs k i = kk at *
      generalize mkAt mkTxt xs k i = ys at *
      generalize he : xs[i] = x at *
      have HE := Lib.hid he; clear he
      have hset' : ys.set i (mtxt kk) = mkAt mkTxt xs k (i + 1) := hset
      have HS := Lib.hid hset'; clear hset hset'
      have HY := Lib.hid hy; clear hy
      have HRr := Lib.hid hR; clear hR
      have i1 : (0 : Int) ≤ (i : Int) := by omega
      have i2 : (i : Int) < (xs.length : Int) := by omega
      go_wp2_with fail
      (with_reducible refine (markText_calls _ _ (by omega)).mono ?_)
      rintro e w1 ⟨rfl, hb⟩
      have hy := HY.out
      have rb := Rp.Row_below HRr.out hb
      have HKb := Lib.hid (KeptF.below (F := F) (a := w) HK.out hb)
      clear hb
      obtain ⟨g2, cap2, c2', F2, q0, gF, _, q2, _, _, q3, q4⟩ := Rp.Row_open rb hnF i hl2
      rw [hy] at q2
      obtain ⟨_, rfl⟩ := q2
      obtain ⟨g, rfl⟩ : ∃ g, A = some ⟨g, 0, none⟩ := ⟨g2, by simp at q0; exact q0.1⟩
      obtain rfl : g = g2 := by simp at q0; exact q0.1
      have z0 : w1.cell? ⟨g, i, none⟩ = some (.string x) := by have := q3 0 _ rfl; simpa [Rp.str, Rp.scalar] using this
      have y0 : w1.frozen? ⟨g, i, none⟩ = false := q4 _
      clear q0 q3 q4
      have r1 := Rp.Row_store rb hnF i hl2 0 (by decide) (.string (mtxt kk)) (mtxt kk) (fun c F1 hM => by rw [hy] at hM; obtain ⟨rfl, rfl⟩ := hM; exact ⟨rfl, rfl⟩)
      rw [HS.out] at r1
      have e1 : (⟨g, i * (kTxt).sz + 0, none⟩ : Addr) = ⟨g, i, none⟩ := by simp [Rp.str, Rp.scalar]
      rw [e1] at r1
      have R1 := Lib.hid r1
      clear r1 e1 hy rb
      go_wp2
      exact ⟨⟨i + 1, by omega, by go_num, by rw [B4.out]; try go_num, R1.out, KeptF.set HKb.out (show g ∈ F from gF) _⟩, by simp [intOf]; omega⟩
    · go_wp2
      go_ret
      obtain rfl : i = xs.length := by omega
      exact ⟨ret_int mkNo_all, by rw [← mkAt_all]; exact HR.out, HK.out⟩
def kStringS : Rp (List ByteArray) := Rp.slice 9 kTxt
theorem kStringS_read {w : World} {xs : List ByteArray} {cs : List Value} (h : kStringS.K w xs cs) : ∃ v, cs = [v] ∧ kTxt.S w xs v := by
  obtain ⟨A, c, rfl, h1, h2⟩ := h
  exact ⟨_, rfl, A, c, rfl, h1, h2⟩
theorem kStringS_open {w : World} {F : List Nat} {xs : List ByteArray} {cs : List Value} (h : kStringS.M w F xs cs) : ∃ v, cs = [v] ∧ kTxt.Row 9 w F xs v := h
theorem kStringS_make {w : World} {F : List Nat} {xs : List ByteArray} {v : Value} (h : kTxt.Row 9 w F xs v) : kStringS.M w F xs [v] := ⟨v, rfl, h⟩
def szNStringS (x : List ByteArray) : Nat := szL szNTxt x
def wfStringS (x : List ByteArray) : Prop := (∀ y ∈ x, wfTxt y) ∧ x.length ≤ 140737488355328
def smStringS (n : Nat) (x : List ByteArray) : Prop := x.length ≤ n
def mkStringS (x : List ByteArray) (k : Int) : List ByteArray × Int := mkL mkTxt x k
theorem mkStringS_le (x : List ByteArray) (k : Int) : k ≤ (mkStringS x k).2 := mkL_le mkTxt_le x k
theorem smStringS_le {n m : Nat} {x : List ByteArray} (h : smStringS n x) (hn : n ≤ m) : smStringS m x := Nat.le_trans h hn
theorem szStringS_sm {n : Nat} {x : List ByteArray} (h : szNStringS x ≤ n) : smStringS n x := by unfold szNStringS szL at h; unfold smStringS; omega
theorem mkStringS_sm {n : Nat} {x : List ByteArray} {k : Int} (h : smStringS n x) : (mkStringS x k).2 ≤ k + 1 * n := by
  have h1 := mkL_top (mk := mkTxt) (c := 1) (fun _ _ => Int.le_refl _) x k
  unfold smStringS at h
  unfold mkStringS
  omega
theorem szStringS_k {x : List ByteArray} {v : Value} {left : Int} {w : World} (hk : kStringS.K w x [v]) (h0 : 0 ≤ left) (h1 : left ≤ 140737488355328) (hw : wfStringS x) : Calls Try.prog 27 #[v, .int .i64 left] w
    fun e w' => e = .returned (.int .i64 (szR (szNStringS x) left)) ∧ Below w.heap.size w w' := by
  obtain ⟨_, h, g⟩ := kStringS_read hk
  obtain rfl := (List.cons.inj h).1
  exact szStringS_calls x left v w g h0 h1 hw.1 hw.2
theorem eqStringS_k {x : List ByteArray} {v u : Value} {w : World} (hk : kStringS.K w x [v]) (hd : kStringS.K w x [u]) (hs : smStringS 140737488355328 x) : Calls Try.prog 17 #[v, u] w
    fun e w' => e = .returned (.bool true) ∧ Below w.heap.size w w' := by
  obtain ⟨_, h, g⟩ := kStringS_read hk
  obtain rfl := (List.cons.inj h).1
  obtain ⟨_, h, d⟩ := kStringS_read hd
  obtain rfl := (List.cons.inj h).1
  exact eqStringS_calls x v u w g d hs
theorem toStringS_k {x : List ByteArray} {v : Value} {w : World} (hk : kStringS.K w x [v]) (hs : smStringS 1048576 x) : Calls Try.prog 29 #[v] w
    fun e w' => ∃ u F, e = .returned u ∧ kStringS.M w' F x [u] ∧ (∀ b ∈ F, w.heap.size ≤ b) ∧ F.Nodup ∧ Below w.heap.size w w' := by
  obtain ⟨_, h, g⟩ := kStringS_read hk
  obtain rfl := (List.cons.inj h).1
  refine (toStringS_calls x v w g hs).mono ?_
  rintro e w' ⟨u, F, rfl, h1, h2, h3, h4⟩
  exact ⟨_, _, rfl, ⟨_, rfl, h1⟩, h2, h3, h4⟩
theorem markStringS_k {x : List ByteArray} {v : Value} {F : List Nat} {k : Int} {w : World} (hm : kStringS.M w F x [v]) (hn : F.Nodup) (h0 : 0 ≤ k) (h1 : (mkStringS x k).2 ≤ 4611686018427387904) (hs : smStringS 140737488355328 x) : Calls Try.prog 20 #[v, .int .i64 k] w
    fun e w' => e = .returned (.int .i64 (mkStringS x k).2) ∧ kStringS.M w' F (mkStringS x k).1 [v] ∧ KeptF F w w' := by
  obtain ⟨_, h, g⟩ := kStringS_open hm
  obtain rfl := (List.cons.inj h).1
  refine (markStringS_calls x k F v w g hn h0 h1 hs).mono ?_
  rintro e w' ⟨rfl, h1, h2⟩
  exact ⟨rfl, ⟨_, rfl, h1⟩, h2⟩
end Go.Proofs.Ytioelmhikablcaa
