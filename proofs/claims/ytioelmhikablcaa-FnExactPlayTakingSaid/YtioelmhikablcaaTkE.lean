/- A piece is taken into a taking: the specification's. -/
import Derived.Test.YtioelmhikablcaaTkD
import Derived.StillTailTactics
namespace Go.Proofs.Ytioelmhikablcaa
open Go Go.RowKit Go.Sort
set_option linter.unusedVariables false
set_option linter.unusedSimpArgs false

theorem less_ord {z y : DChunk} (h : chLess z y = true) : ordC z y < 0 := ordC_lt.2 (chLess_iff.1 h)
theorem notless_ord {z y : DChunk} (h : chLess z y = false) : 0 ≤ ordC z y := by
  by_cases hq : ordC z y < 0
  · rw [chLess_iff.2 (ordC_lt.1 hq)] at h; cases h
  · omega
/-- Where the search stops. -/
theorem stop_bs {xs : List DChunk} (ho : Ord xs) {y : DChunk} {k : Nat} (hk : k ≤ xs.length) (h1 : ∀ j (h : j < xs.length), j < k → ordC xs[j] y < 0) (h2 : ∀ h : k < xs.length, chLess xs[k] y = false) : bsI xs y = k ∧ memC xs y.fFile y.fAt = foundC xs y k := by
  have h3 : ∀ j (h : j < xs.length), k ≤ j → 0 ≤ ordC xs[j] y := fun j hj hkj => by
    have hkl : k < xs.length := by omega
    have h4 := notless_ord (h2 hkl)
    by_cases hq : ordC xs[j] y < 0
    · have := ord_mono ho y k j hj hkj hq; omega
    · omega
  exact ⟨(bsI_is hk h1 h3).symm, (bs_mem ho hk h1 h3).symm⟩
theorem found_eq {xs : List DChunk} {y : DChunk} {k : Nat} (hk : k < xs.length) (h1 : chLess xs[k] y = false) (b : Bool) (h2 : chLess y xs[k] = b) : foundC xs y k = !b := by
  rw [foundC, List.getElem?_eq_getElem hk]
  show (ordC xs[k] y == 0) = !b
  have e : (ordC xs[k] y == 0) = decide (eqP xs[k] y.fFile y.fAt) := by rw [Bool.eq_iff_iff, beq_iff_eq, decide_eq_true_eq, ordC_eq]
  rw [e]
  generalize xs[k] = z at *
  have h3 : ¬ ltP z y.fFile y.fAt := fun h => by rw [chLess_iff.2 h] at h1; cases h1
  cases b with
  | true =>
    have h4 := chLess_iff.1 h2
    simp only [Bool.not_true, decide_eq_false_iff_not]
    unfold ltP at h3 h4
    unfold eqP
    omega
  | false =>
    have h4 : ¬ ltP y z.fFile z.fAt := fun h => by rw [chLess_iff.2 h] at h2; cases h2
    simp only [Bool.not_false, decide_eq_true_eq]
    unfold ltP at h3 h4
    unfold eqP
    omega
theorem found_no {xs : List DChunk} {y : DChunk} : foundC xs y xs.length = false := by rw [foundC, List.getElem?_eq_none (Nat.le_refl _)]
theorem toL_inj {a b : ByteArray} (h : a.toList = b.toList) : a = b := by
  rw [ByteArray.toList_eq, ByteArray.toList_eq] at h
  cases a; cases b
  congr 1
  exact Array.ext' h
theorem found_pl {xs : List DChunk} {z y : DChunk} {k : Nat} (hk : xs[k]? = some z) (h : foundC xs y k = true) : z.fFile = y.fFile ∧ z.fAt = y.fAt := by
  rw [foundC, hk] at h
  exact ordC_eq.1 (by simpa using h)
/-- Two good pieces of one place are the same when their data are. -/
theorem same_good {ws : List DWanted} {z y : DChunk} (h1 : chGood ws z = true) (h2 : chGood ws y = true) (hf : z.fFile = y.fFile) (ha : z.fAt = y.fAt) (hd : z.fData = y.fData) : z.fSum = y.fSum := by
  simp only [chGood, Bool.and_eq_true, decide_eq_true_eq] at h1 h2
  rw [h1.2, h2.2, hf, ha, hd]
def STakeP (ws : List DWanted) (xs : List DChunk) (y : DChunk) (v0 v1 : Value) (w : World) (e : Ending) (w' : World) : Prop :=
  ∃ v1', e = .returned (.tuple #[.agg #[v0, v1'], .bool (tkB ws xs y)]) ∧ kChunk.S w' (tkX ws xs y) v1' ∧ Below w.heap.size w w' ∧ ((v1' = v1 ∧ tkX ws xs y = xs) ∨ ∃ F', kChunk.Row 46 w' F' (tkX ws xs y) v1' ∧ (∀ b ∈ F', w.heap.size ≤ b) ∧ F'.Nodup)
theorem STakeP.no {ws : List DWanted} {xs : List DChunk} {y : DChunk} {v0 v1 : Value} {w w' : World} {b : Bool} (hb : tkB ws xs y = b) (hN : tkN ws xs y = false) (g : kChunk.S w xs v1) (hB : Below w.heap.size w w') : STakeP ws xs y v0 v1 w (.returned (.tuple #[.agg #[v0, v1], .bool b])) w' :=
  ⟨v1, by rw [hb], by rw [tkX, hN]; exact Rp.S_below g hB, hB, .inl ⟨rfl, by rw [tkX, hN]; rfl⟩⟩
set_option maxHeartbeats 4000000 in
set_option maxRecDepth 100000 in
theorem sTake_calls (ws : List DWanted) (xs : List DChunk) (y : DChunk) (v0 v1 : Value) (w : World) (g0 : kWanted.S w ws v0) (g1 : kChunk.S w xs v1) (hw : ws.length ≤ 12 ∧ ∀ m ∈ ws, wantB m = false) (hx : xs.length ≤ 200) (ho : Ord xs) (hgd : ∀ z ∈ xs, chGood ws z = true) :
    Calls Try.prog 92 #[.agg #[v0, v1], .agg #[.int .i64 y.fFile, .int .i64 y.fAt, .string y.fData, .int .u32 y.fSum]] w fun e w' => STakeP ws xs y v0 v1 w e w' := by
  have G0 := Lib.hid g0
  have G1 := Lib.hid g1
  obtain ⟨A0, c0, rfl, _, _⟩ := g0
  obtain ⟨A2, c2, rfl, hcap, hH⟩ := g1
  have H2 := Lib.hid hH; clear hH
  go_enter Try.func92, Try.ntmps92
  go_upto_region 1 with fail
  have HC := Lib.hid (show Below w.heap.size w (((w.alloc (.cells #[.slice A0 ws.length c0, .slice A2 xs.length c2] 33)).alloc (.cells #[.int .i64 y.fFile, .int .i64 y.fAt, .string y.fData, .int .u32 y.fSum] 46)).alloc (.cells #[.slice none 0 0, .slice none 0 0] 33)) from Below.alloc (Below.alloc (Below.alloc (Below.refl w.heap.size w) (by first | exact Nat.le_refl _ | (simp; done) | (simp; omega)) (.cells #[.slice A0 ws.length c0, .slice A2 xs.length c2] 33)) (by first | exact Nat.le_refl _ | (simp; done) | (simp; omega)) (.cells #[.int .i64 y.fFile, .int .i64 y.fAt, .string y.fData, .int .u32 y.fSum] 46)) (by first | exact Nat.le_refl _ | (simp; done) | (simp; omega)) (.cells #[.slice none 0 0, .slice none 0 0] 33))
  have Xt := Lib.hid (show Box (((w.alloc (.cells #[.slice A0 ws.length c0, .slice A2 xs.length c2] 33)).alloc (.cells #[.int .i64 y.fFile, .int .i64 y.fAt, .string y.fData, .int .u32 y.fSum] 46)).alloc (.cells #[.slice none 0 0, .slice none 0 0] 33)) (w.heap.size) #[.slice A0 ws.length c0, .slice A2 xs.length c2] 33 from Box.alloc (Box.alloc (Box.new rfl)))
  have Xc := Lib.hid (show Box (((w.alloc (.cells #[.slice A0 ws.length c0, .slice A2 xs.length c2] 33)).alloc (.cells #[.int .i64 y.fFile, .int .i64 y.fAt, .string y.fData, .int .u32 y.fSum] 46)).alloc (.cells #[.slice none 0 0, .slice none 0 0] 33)) (w.heap.size + 1) #[.int .i64 y.fFile, .int .i64 y.fAt, .string y.fData, .int .u32 y.fSum] 46 from Box.alloc (Box.new (by simp)))
  have Xr := Lib.hid (show Box (((w.alloc (.cells #[.slice A0 ws.length c0, .slice A2 xs.length c2] 33)).alloc (.cells #[.int .i64 y.fFile, .int .i64 y.fAt, .string y.fData, .int .u32 y.fSum] 46)).alloc (.cells #[.slice none 0 0, .slice none 0 0] 33)) (w.heap.size + 1 + 1) #[.slice none 0 0, .slice none 0 0] 33 from Box.new (by simp))
  have hsz : w.heap.size + 3 ≤ (((w.alloc (.cells #[.slice A0 ws.length c0, .slice A2 xs.length c2] 33)).alloc (.cells #[.int .i64 y.fFile, .int .i64 y.fAt, .string y.fData, .int .u32 y.fSum] 46)).alloc (.cells #[.slice none 0 0, .slice none 0 0] 33)).heap.size := by simp
  generalize ((w.alloc (.cells #[.slice A0 ws.length c0, .slice A2 xs.length c2] 33)).alloc (.cells #[.int .i64 y.fFile, .int .i64 y.fAt, .string y.fData, .int .u32 y.fSum] 46)).alloc (.cells #[.slice none 0 0, .slice none 0 0] 33) = w1 at *
  have ct_0 := Xt.out.cell 0 (v := .slice A0 ws.length c0) rfl; have ct_1 := Xt.out.cell 1 (v := .slice A2 xs.length c2) rfl; have cc_0 := Xc.out.cell 0 (v := .int .i64 y.fFile) rfl; have cc_1 := Xc.out.cell 1 (v := .int .i64 y.fAt) rfl; have cc_2 := Xc.out.cell 2 (v := .string y.fData) rfl; have cc_3 := Xc.out.cell 3 (v := .int .u32 y.fSum) rfl; have cr_0 := Xr.out.cell 0 (v := .slice none 0 0) rfl; have cr_1 := Xr.out.cell 1 (v := .slice none 0 0) rfl
  go_wp2_with fail
  (with_reducible refine (sGood1_calls ws y _ _ _ (Rp.S_below G0.out HC.out) hw).mono ?_)
  rintro e w2 ⟨rfl, hb⟩
  have HC := Lib.hid (HC.out.trans (hb.mono (by first | exact HC.out.size | (have := HC.out.size; omega)))); have hsz := Nat.le_trans hsz hb.size; have Xt := Lib.hid (Xt.out.below hb); have Xc := Lib.hid (Xc.out.below hb); have Xr := Lib.hid (Xr.out.below hb); clear ct_0 ct_1 cc_0 cc_1 cc_2 cc_3 cr_0 cr_1; clear hb; have ct_0 := Xt.out.cell 0 (v := .slice A0 ws.length c0) rfl; have ct_1 := Xt.out.cell 1 (v := .slice A2 xs.length c2) rfl; have cc_0 := Xc.out.cell 0 (v := .int .i64 y.fFile) rfl; have cc_1 := Xc.out.cell 1 (v := .int .i64 y.fAt) rfl; have cc_2 := Xc.out.cell 2 (v := .string y.fData) rfl; have cc_3 := Xc.out.cell 3 (v := .int .u32 y.fSum) rfl; have cr_0 := Xr.out.cell 0 (v := .slice none 0 0) rfl; have cr_1 := Xr.out.cell 1 (v := .slice none 0 0) rfl
  cases hg : chGood ws y
  case false =>
    have HX := Lib.hid (show tkB ws xs y = false by rw [tkB, hg]; rfl); have HN := Lib.hid (show tkN ws xs y = false by rw [tkN, hg]; rfl)
    have fr_ := Xr.out.fro
    go_wp2
    obtain ⟨hk, bf⟩ := Xr.out.stored [.slice A0 ws.length c0, .slice A2 xs.length c2] 0
    rw [setA_all (by rfl)] at bf
    change bodyPost _ _ _ _ _ (Rp.setN w2 (w.heap.size + 1 + 1) 0 [.slice A0 ws.length c0, .slice A2 xs.length c2])
    clear fr_ ct_0 ct_1 cc_0 cc_1 cc_2 cc_3 cr_0 cr_1
    have HK := Lib.hid hk; clear hk
    generalize Rp.setN w2 (w.heap.size + 1 + 1) 0 [.slice A0 ws.length c0, .slice A2 xs.length c2] = wf at *
    have df0 := bf.cell 0 (v := .slice A0 ws.length c0) rfl; have df1 := bf.cell 1 (v := .slice A2 xs.length c2) rfl
    refine bodyPost_ret (v := .tuple #[.agg #[.slice A0 ws.length c0, .slice A2 xs.length c2], .bool false]) (by simp [results, Try.results92, go_sem, df0, df1]) rfl (STakeP.no HX.out HN.out G1.out (HC.out.trans (HK.out.toBelow HC.out.size (by simp; omega))))
  case true =>
    have HGY := Lib.hid hg; clear hg
    go_wp2
    clear ct_0 ct_1 cc_0 cc_1 cc_2 cc_3 cr_0 cr_1
    go_loopw [6] (fun i wr => ∃ k : Nat, k ≤ xs.length ∧ i = .int .i64 k ∧ Hid (∀ j (h : j < xs.length), j < k → ordC xs[j] y < 0) ∧ Hid (Below w.heap.size w wr) ∧ Hid (Box wr (w.heap.size) #[.slice A0 ws.length c0, .slice A2 xs.length c2] 33) ∧ Hid (Box wr (w.heap.size + 1) #[.int .i64 y.fFile, .int .i64 y.fAt, .string y.fData, .int .u32 y.fSum] 46) ∧ Hid (Box wr (w.heap.size + 1 + 1) #[.slice none 0 0, .slice none 0 0] 33) ∧ w.heap.size + 3 ≤ wr.heap.size) (fun i _ => xs.length - (intOf i).toNat)
    case atStart => exact ⟨0, Nat.zero_le _, rfl, fun j _ h => absurd h (by omega), HC.out, Xt.out, Xc.out, Xr.out, hsz⟩
    case round =>
      clear HC Xt Xc Xr hsz
      obtain ⟨k, hk, rfl, HL, HC, Xt, Xc, Xr, hsz⟩ := hrel
      by_cases hlt : k < xs.length
      case pos =>
        go_upto_region 4 with fail
        obtain ⟨b, o, cs, rfl, k1, q1⟩ := Rp.C_get H2.out k hlt
        obtain rfl := kChunk_K k1
        have hgz := hgd _ (List.getElem_mem hlt)
        have hst : ∀ b, chLess xs[k] y = b → ∀ b2, chLess y xs[k] = b2 → b = false → foundC xs y k = !b2 := fun b h1 b2 h2 h3 => found_eq hlt (h1.trans h3) b2 h2
        have hle : chLess xs[k] y = true → ordC xs[k] y < 0 := less_ord
        have hsb : (∀ h : k < xs.length, chLess xs[k] y = false) → bsI xs y = k ∧ memC xs y.fFile y.fAt = foundC xs y k := fun h => stop_bs ho hk HL.out h
        have hsd : sameD xs k y = (xs[k].fData.toList == y.fData.toList) := by rw [sameD, List.getElem?_eq_getElem hlt]
        have hxs := Lib.hid (List.getElem?_eq_getElem hlt)
        have a0 := (World.cell?_of_block (HC.out.block b (World.block_lt_of_cell? w _ (q1 0 _ rfl)))).trans (q1 0 _ rfl)
        have a1 := (World.cell?_of_block (HC.out.block b (World.block_lt_of_cell? w _ (q1 0 _ rfl)))).trans (q1 1 _ rfl)
        have a2 := (World.cell?_of_block (HC.out.block b (World.block_lt_of_cell? w _ (q1 0 _ rfl)))).trans (q1 2 _ rfl)
        have a3 := (World.cell?_of_block (HC.out.block b (World.block_lt_of_cell? w _ (q1 0 _ rfl)))).trans (q1 3 _ rfl)
        simp only [kChunk_sz, Nat.add_zero] at a0 a1 a2 a3
        have i1 : (0 : Int) ≤ (k : Int) := by omega
        have i2 : (k : Int) < (xs.length : Int) := by omega
        clear k1
        have r0 := regr (Below.refl _ _) Xc.out.lt (Xc.out.cell 0 (v := .int .i64 y.fFile) rfl)
        have r1 := regr (Below.refl _ _) Xc.out.lt (Xc.out.cell 1 (v := .int .i64 y.fAt) rfl)
        have r2 := regr (Below.refl _ _) Xc.out.lt (Xc.out.cell 2 (v := .string y.fData) rfl)
        have r3 := regr (Below.refl _ _) Xc.out.lt (Xc.out.cell 3 (v := .int .u32 y.fSum) rfl)
        have s1 := regr (Below.refl _ _) Xt.out.lt (Xt.out.cell 1 (v := .slice (some ⟨b, o, none⟩ : Option Addr) xs.length c2) rfl)
        have t0 := regr (Below.refl _ _) (World.block_lt_of_cell? wr _ a0) a0
        have t1 := regr (Below.refl _ _) (World.block_lt_of_cell? wr _ a1) a1
        have t2 := regr (Below.refl _ _) (World.block_lt_of_cell? wr _ a2) a2
        have t3 := regr (Below.refl _ _) (World.block_lt_of_cell? wr _ a3) a3
        have c_l := sLess_calls xs[k] y
        have c_g := sLess_calls y xs[k]
        have HLE := Lib.hid hle; have HST := Lib.hid hst; have HSB := Lib.hid hsb; have HSD := Lib.hid hsd; have HGZ := Lib.hid hgz; have QQ := Lib.hid q1; clear hle hst hsb hsd hgz q1
        generalize hz : xs[k] = z at *
        have HZ := Lib.hid hz; clear hz
        cases hq : chLess z y
        case true =>
          rw [hq] at c_l
          have HQ := Lib.hid (HLE.out hq); clear hq HST HSB HSD HLE HGZ c_g QQ
          refine wp_region_quiet_below (by kernel_rfl) (by kernel_rfl) ?_
          repeat (go_big_quiet_step (with_reducible exact Calls.regrown_of (c_l _)))
          refine wpQuiet_nil ?_
          rintro w4_ ⟨p, rfl⟩
          have hb := below_regrown wr p.d p.os
          clear r0 r1 r2 r3 s1 t0 t1 t2 t3 a0 a1 a2 a3
          have HC := Lib.hid (HC.out.trans (hb.mono HC.out.size)); have Xt := Lib.hid (Xt.out.below hb); have Xc := Lib.hid (Xc.out.below hb); have Xr := Lib.hid (Xr.out.below hb)
          replace hsz := Nat.le_trans hsz hb.size
          generalize grow (redrawn wr p.d) p.os = w4 at *
          clear hb
          go_wp2
          exact ⟨⟨k + 1, by omega, by go_num, fun j hj hjk => (by by_cases e : j = k; subst e; rw [HZ.out]; exact HQ.out; exact HL.out j hj (by omega)), HC.out, Xt.out, Xc.out, Xr.out, hsz⟩, by simp [intOf]; omega⟩
        case false =>
          have hq0 := hq; rw [hq] at c_l
          obtain ⟨e1, e2⟩ := HSB.out (fun h => by rw [HZ.out]; exact hq)
          have HBI := Lib.hid e1; have HM0 := Lib.hid e2; have HQ := Lib.hid hq; clear hq hq0 e1 e2 HLE HSB
          refine wp_region_quiet_below (by kernel_rfl) (by kernel_rfl) ?_
          repeat (go_big_quiet_step (with_reducible exact Calls.regrown_of (c_l _)))
          refine wpQuiet_nil ?_
          rintro w4_ ⟨p, rfl⟩
          have hb := below_regrown wr p.d p.os
          clear r0 r1 r2 r3 s1 t0 t1 t2 t3 a0 a1 a2 a3
          have HC := Lib.hid (HC.out.trans (hb.mono HC.out.size)); have Xt := Lib.hid (Xt.out.below hb); have Xc := Lib.hid (Xc.out.below hb); have Xr := Lib.hid (Xr.out.below hb)
          replace hsz := Nat.le_trans hsz hb.size
          generalize grow (redrawn wr p.d) p.os = w4 at *
          clear hb
          go_upto_region 6 with fail
          have a0 := (World.cell?_of_block (HC.out.block b (World.block_lt_of_cell? w _ (QQ.out 0 _ rfl)))).trans (QQ.out 0 _ rfl)
          have a1 := (World.cell?_of_block (HC.out.block b (World.block_lt_of_cell? w _ (QQ.out 0 _ rfl)))).trans (QQ.out 1 _ rfl)
          have a2 := (World.cell?_of_block (HC.out.block b (World.block_lt_of_cell? w _ (QQ.out 0 _ rfl)))).trans (QQ.out 2 _ rfl)
          have a3 := (World.cell?_of_block (HC.out.block b (World.block_lt_of_cell? w _ (QQ.out 0 _ rfl)))).trans (QQ.out 3 _ rfl)
          simp only [kChunk_sz, Nat.add_zero] at a0 a1 a2 a3
          have r0 := regr (Below.refl _ _) Xc.out.lt (Xc.out.cell 0 (v := .int .i64 y.fFile) rfl)
          have r1 := regr (Below.refl _ _) Xc.out.lt (Xc.out.cell 1 (v := .int .i64 y.fAt) rfl)
          have r2 := regr (Below.refl _ _) Xc.out.lt (Xc.out.cell 2 (v := .string y.fData) rfl)
          have r3 := regr (Below.refl _ _) Xc.out.lt (Xc.out.cell 3 (v := .int .u32 y.fSum) rfl)
          have s1 := regr (Below.refl _ _) Xt.out.lt (Xt.out.cell 1 (v := .slice (some ⟨b, o, none⟩ : Option Addr) xs.length c2) rfl)
          have t0 := regr (Below.refl _ _) (World.block_lt_of_cell? w4 _ a0) a0
          have t1 := regr (Below.refl _ _) (World.block_lt_of_cell? w4 _ a1) a1
          have t2 := regr (Below.refl _ _) (World.block_lt_of_cell? w4 _ a2) a2
          have t3 := regr (Below.refl _ _) (World.block_lt_of_cell? w4 _ a3) a3
          cases hq : chLess y z
          case true =>
            rw [hq] at c_g
            have HM := Lib.hid (show memC xs y.fFile y.fAt = false by rw [HM0.out]; exact HST.out _ HQ.out _ hq rfl)
            clear hq HST HSD HGZ HQ c_l HM0 QQ
            refine wp_region_quiet_below (by kernel_rfl) (by kernel_rfl) ?_
            repeat (go_big_quiet_step (with_reducible exact Calls.regrown_of (c_g _)))
            refine wpQuiet_nil ?_
            rintro w5_ ⟨p, rfl⟩
            have hb := below_regrown w4 p.d p.os
            clear r0 r1 r2 r3 s1 t0 t1 t2 t3 a0 a1 a2 a3 c_g
            have HC := Lib.hid (HC.out.trans (hb.mono HC.out.size)); have Xt := Lib.hid (Xt.out.below hb); have Xc := Lib.hid (Xc.out.below hb); have Xr := Lib.hid (Xr.out.below hb)
            replace hsz := Nat.le_trans hsz hb.size
            generalize grow (redrawn w4 p.d) p.os = w5 at *
            clear hb
            go_upto_region 8 with fail
            have HTB := Lib.hid (show tkB ws xs y = decide (xs.length ≠ 200) by rw [tkB, HGY.out, HM.out]; rfl)
            have HTN := Lib.hid (show tkN ws xs y = decide (xs.length ≠ 200) by rw [tkN, HGY.out, HM.out]; rfl)
            have ct_0 := Xt.out.cell 0 (v := .slice A0 ws.length c0) rfl; have ct_1 := Xt.out.cell 1 (v := .slice (some ⟨b, o, none⟩ : Option Addr) xs.length c2) rfl; have cc_0 := Xc.out.cell 0 (v := .int .i64 y.fFile) rfl; have cc_1 := Xc.out.cell 1 (v := .int .i64 y.fAt) rfl; have cc_2 := Xc.out.cell 2 (v := .string y.fData) rfl; have cc_3 := Xc.out.cell 3 (v := .int .u32 y.fSum) rfl; have cr_0 := Xr.out.cell 0 (v := .slice none 0 0) rfl; have cr_1 := Xr.out.cell 1 (v := .slice none 0 0) rfl
            by_cases h2 : xs.length = 200
            case pos =>
              have HX := Lib.hid (show tkB ws xs y = false by rw [HTB.out, h2]; rfl); have HN := Lib.hid (show tkN ws xs y = false by rw [HTN.out, h2]; rfl)
              have h2' : ((xs.length : Int) == 200) = true := by simpa using (by omega : (xs.length : Int) = 200)
              clear h2 HTB HTN
              have fr_ := Xr.out.fro
              go_wp2
              obtain ⟨hk, bf⟩ := Xr.out.stored [.slice A0 ws.length c0, .slice (some ⟨b, o, none⟩ : Option Addr) xs.length c2] 0
              rw [setA_all (by rfl)] at bf
              change bodyPost _ _ _ _ _ (Rp.setN w5 (w.heap.size + 1 + 1) 0 [.slice A0 ws.length c0, .slice (some ⟨b, o, none⟩ : Option Addr) xs.length c2])
              clear fr_ ct_0 ct_1 cc_0 cc_1 cc_2 cc_3 cr_0 cr_1
              have HK := Lib.hid hk; clear hk
              generalize Rp.setN w5 (w.heap.size + 1 + 1) 0 [.slice A0 ws.length c0, .slice (some ⟨b, o, none⟩ : Option Addr) xs.length c2] = wf at *
              have df0 := bf.cell 0 (v := .slice A0 ws.length c0) rfl; have df1 := bf.cell 1 (v := .slice (some ⟨b, o, none⟩ : Option Addr) xs.length c2) rfl
              refine bodyPost_ret (v := .tuple #[.agg #[.slice A0 ws.length c0, .slice (some ⟨b, o, none⟩ : Option Addr) xs.length c2], .bool false]) (by simp [results, Try.results92, go_sem, df0, df1]) rfl (STakeP.no HX.out HN.out G1.out (HC.out.trans (HK.out.toBelow HC.out.size (by simp; omega))))
            case neg =>
              have HX := Lib.hid (show tkB ws xs y = true by rw [HTB.out]; simpa using h2)
              have HXX := Lib.hid (show tkX ws xs y = xs.take k ++ y :: xs.drop k by rw [tkX, if_pos (by rw [HTN.out]; simpa using h2), HBI.out])
              have h2' : ((xs.length : Int) == 200) = false := by simp; omega
              clear h2 HTB HTN
              have hkc : k ≤ c2 := by have := hcap.1; omega
              have j1 : (0 : Int) ≤ (k : Int) := by omega
              have j2 : (k : Int) ≤ (xs.length : Int) := by omega
              have j3 : (k : Int) ≤ (c2 : Int) := by omega
              go_upto_region 12 with (at_builtin; go_loud (refine wp_append (d := kChunk) rfl _ _ 31 46 rfl Try.underlying31 infoChunk rfl (by decide) rfl (by decide) kChunk_flat (xs := []) (ys := xs.take k) rfl rfl (Rp.Row_nil _ _ _) (Rp.S_take (Rp.S_below G1.out HC.out) k (by omega)) (by simp; omega) ?_; intro va wa r1 r2 r3 r4; clear r4; obtain ⟨P1, C1, e1, _, _⟩ := Rp.Row_K r1; rw [show (([] : List DChunk) ++ xs.take k).length = k by simp; omega] at e1; subst e1; have hz1 := r2.size; have Xt := Lib.hid (Xt.out.kept r2 (by simp)); have Xc := Lib.hid (Xc.out.kept r2 (by simp)); have Xr := Lib.hid (Xr.out.kept r2 (by simp)); have HC := Lib.hid (HC.out.trans (r2.toBelow HC.out.size (by simp))); have R1 := Lib.hid (show kChunk.Row 46 wa (Rp.ofOwn (.slice P1 k C1)) (xs.take k) (.slice P1 k C1) from r1); have T1 := Lib.hid (fun b h => (by rcases r3 b h with h | h; cases h; omega) : ∀ b ∈ Rp.ofOwn (.slice P1 k C1), w.heap.size + 3 ≤ b); replace hsz := Nat.le_trans hsz hz1; clear r1 r2 r3 hz1 ct_0 ct_1 cc_0 cc_1 cc_2 cc_3 cr_0 cr_1; have ct_0 := Xt.out.cell 0 (v := .slice A0 ws.length c0) rfl; have ct_1 := Xt.out.cell 1 (v := .slice (some ⟨b, o, none⟩ : Option Addr) xs.length c2) rfl; have cc_0 := Xc.out.cell 0 (v := .int .i64 y.fFile) rfl; have cc_1 := Xc.out.cell 1 (v := .int .i64 y.fAt) rfl; have cc_2 := Xc.out.cell 2 (v := .string y.fData) rfl; have cc_3 := Xc.out.cell 3 (v := .int .u32 y.fSum) rfl; have cr_0 := Xr.out.cell 0 (v := .slice none 0 0) rfl; have cr_1 := Xr.out.cell 1 (v := .slice none 0 0) rfl))
              go_upto_region 13 with (at_builtin; go_loud (refine wp_append (d := kChunk) rfl _ _ 31 46 rfl Try.underlying31 infoChunk rfl (by decide) rfl (by decide) kChunk_flat (xs := xs.take k) (ys := [y]) rfl rfl (Rp.Row_below R1.out ((Below.refl _ _).alloc (Nat.le_refl _) _)) (Rp.S_one (Box.new (by simp)) (kChunk_mkK _ y)) (by simp; omega) ?_; intro va wa r1 r2 r3 r4; clear r4; obtain ⟨P2, C2, e1, _, _⟩ := Rp.Row_K r1; rw [show (xs.take k ++ [y] : List DChunk).length = k + 1 by simp; omega] at e1; subst e1; have hz1 := r2.size; simp at hz1; have Xt := Lib.hid ((Box.alloc Xt.out).kept r2 (fun h => by have := T1.out _ h; omega)); have Xc := Lib.hid ((Box.alloc Xc.out).kept r2 (fun h => by have := T1.out _ h; omega)); have Xr := Lib.hid ((Box.alloc Xr.out).kept r2 (fun h => by have := T1.out _ h; omega)); have HC := Lib.hid ((HC.out.alloc HC.out.size _).trans (r2.toBelow (by have := HC.out.size; simp; omega) (fun b h => by have := T1.out b h; omega))); have R2 := Lib.hid r1; have T2 := Lib.hid (fun b h => (by rcases r3 b h with h | h; exact T1.out b h; simp at h; omega) : ∀ b ∈ Rp.ofOwn (.slice P2 (k + 1) C2), w.heap.size + 3 ≤ b); replace hsz := Nat.le_trans hsz (Nat.le_of_lt (Nat.lt_of_succ_le hz1)); clear r1 r2 r3 hz1 R1 T1 ct_0 ct_1 cc_0 cc_1 cc_2 cc_3 cr_0 cr_1; have ct_0 := Xt.out.cell 0 (v := .slice A0 ws.length c0) rfl; have ct_1 := Xt.out.cell 1 (v := .slice (some ⟨b, o, none⟩ : Option Addr) xs.length c2) rfl; have cc_0 := Xc.out.cell 0 (v := .int .i64 y.fFile) rfl; have cc_1 := Xc.out.cell 1 (v := .int .i64 y.fAt) rfl; have cc_2 := Xc.out.cell 2 (v := .string y.fData) rfl; have cc_3 := Xc.out.cell 3 (v := .int .u32 y.fSum) rfl; have cr_0 := Xr.out.cell 0 (v := .slice none 0 0) rfl; have cr_1 := Xr.out.cell 1 (v := .slice none 0 0) rfl))
              by_cases hz : c2 = k
              case pos =>
                exact absurd hlt (by have := hcap.1; omega)
              case neg =>
                have SC := Lib.hid (show kChunk.S w (xs.drop k) (.slice (some ⟨b, o + k * 4, none⟩) (xs.length - k) (c2 - k)) by have h := Rp.S_cut G1.out 4 rfl k (xs.length - k) (by omega) rfl (.inl (by rw [Option.map_some, Addr.add_lit])) rfl; rw [List.take_of_length_le (by simp)] at h; exact h)
                go_upto_region 14 with (at_builtin; go_loud (refine wp_append (d := kChunk) rfl _ _ 31 46 rfl Try.underlying31 infoChunk rfl (by decide) rfl (by decide) kChunk_flat (xs := xs.take k ++ [y]) (ys := xs.drop k) rfl rfl R2.out (Rp.S_below SC.out HC.out) (by simp; omega) ?_; intro va wa r1 r2 r3 r4; clear r4; obtain ⟨P3, C3, e1, _, _⟩ := Rp.Row_K r1; rw [show (xs.take k ++ [y] ++ xs.drop k : List DChunk).length = xs.length + 1 by simp; omega] at e1; subst e1; have hz1 := r2.size; have Xt := Lib.hid (Xt.out.kept r2 (fun h => by have := T2.out _ h; omega)); have Xc := Lib.hid (Xc.out.kept r2 (fun h => by have := T2.out _ h; omega)); have Xr := Lib.hid (Xr.out.kept r2 (fun h => by have := T2.out _ h; omega)); have HC := Lib.hid (HC.out.trans (r2.toBelow HC.out.size (fun b h => by have := T2.out b h; omega))); have R3 := Lib.hid r1; have T3 := Lib.hid (fun b h => (by rcases r3 b h with h | h; exact T2.out b h; omega) : ∀ b ∈ Rp.ofOwn (.slice P3 (xs.length + 1) C3), w.heap.size + 3 ≤ b); replace hsz := Nat.le_trans hsz hz1; clear r1 r2 r3 hz1 R2 T2 ct_0 ct_1 cc_0 cc_1 cc_2 cc_3 cr_0 cr_1; have ct_0 := Xt.out.cell 0 (v := .slice A0 ws.length c0) rfl; have ct_1 := Xt.out.cell 1 (v := .slice (some ⟨b, o, none⟩ : Option Addr) xs.length c2) rfl; have cc_0 := Xc.out.cell 0 (v := .int .i64 y.fFile) rfl; have cc_1 := Xc.out.cell 1 (v := .int .i64 y.fAt) rfl; have cc_2 := Xc.out.cell 2 (v := .string y.fData) rfl; have cc_3 := Xc.out.cell 3 (v := .int .u32 y.fSum) rfl; have cr_0 := Xr.out.cell 0 (v := .slice none 0 0) rfl; have cr_1 := Xr.out.cell 1 (v := .slice none 0 0) rfl; have ft := Xt.out.fro))
                have hk := kept_set wa (w.heap.size) 1 (.slice P3 (xs.length + 1) C3)
                have R3 := Lib.hid (Row_ne R3.out hk (fun h => by have h_0 := T3.out _ h; omega))
                have Xc := Lib.hid (Xc.out.set_other (a := ⟨w.heap.size, 1, none⟩) (.slice P3 (xs.length + 1) C3) (by first | (simp; done) | (simp; omega)))
                have Xr := Lib.hid (Xr.out.set_other (a := ⟨w.heap.size, 1, none⟩) (.slice P3 (xs.length + 1) C3) (by first | (simp; done) | (simp; omega)))
                have Xt := Lib.hid (show Box (wa.setCell ⟨w.heap.size, 1, none⟩ (.slice P3 (xs.length + 1) C3)) (w.heap.size) #[.slice A0 ws.length c0, .slice P3 (xs.length + 1) C3] 33 from Xt.out.set 1 (.slice P3 (xs.length + 1) C3))
                have HC := Lib.hid (HC.out.setCell (p := ⟨w.heap.size, 1, none⟩) (by first | (simp; done) | (simp; omega)) (.slice P3 (xs.length + 1) C3))
                replace hsz := Nat.le_trans hsz hk.size
                clear hk ct_0 ct_1 cc_0 cc_1 cc_2 cc_3 cr_0 cr_1
                generalize wa.setCell ⟨w.heap.size, 1, none⟩ (.slice P3 (xs.length + 1) C3) = wb at *
                have ct_0 := Xt.out.cell 0 (v := .slice A0 ws.length c0) rfl; have ct_1 := Xt.out.cell 1 (v := .slice P3 (xs.length + 1) C3) rfl; have cc_0 := Xc.out.cell 0 (v := .int .i64 y.fFile) rfl; have cc_1 := Xc.out.cell 1 (v := .int .i64 y.fAt) rfl; have cc_2 := Xc.out.cell 2 (v := .string y.fData) rfl; have cc_3 := Xc.out.cell 3 (v := .int .u32 y.fSum) rfl; have cr_0 := Xr.out.cell 0 (v := .slice none 0 0) rfl; have cr_1 := Xr.out.cell 1 (v := .slice none 0 0) rfl
                have fr_ := Xr.out.fro
                go_wp2
                obtain ⟨hk, bf⟩ := Xr.out.stored [.slice A0 ws.length c0, .slice P3 (xs.length + 1) C3] 0
                rw [setA_all (by rfl)] at bf
                have q3 := Row_ne R3.out hk (fun h => by have h_0 := T3.out _ h; omega)
                change bodyPost _ _ _ _ _ (Rp.setN wb (w.heap.size + 1 + 1) 0 [.slice A0 ws.length c0, .slice P3 (xs.length + 1) C3])
                clear fr_ ct_0 ct_1 cc_0 cc_1 cc_2 cc_3 cr_0 cr_1
                have HK := Lib.hid hk; clear hk
                generalize Rp.setN wb (w.heap.size + 1 + 1) 0 [.slice A0 ws.length c0, .slice P3 (xs.length + 1) C3] = wf at *
                have df0 := bf.cell 0 (v := .slice A0 ws.length c0) rfl; have df1 := bf.cell 1 (v := .slice P3 (xs.length + 1) C3) rfl
                refine bodyPost_ret (v := .tuple #[.agg #[.slice A0 ws.length c0, .slice P3 (xs.length + 1) C3], .bool true]) (by simp [results, Try.results92, go_sem, df0, df1]) rfl ⟨_, by rw [HX.out], by rw [HXX.out]; have h := Rp.Row_S q3; rw [List.append_assoc, List.singleton_append] at h; exact h, (HC.out.trans (HK.out.toBelow HC.out.size (by simp; omega))), .inr ⟨_, by rw [HXX.out]; have h := q3; rw [List.append_assoc, List.singleton_append] at h; exact h, fun b h => (by have := T3.out b h; omega), ofOwn_nodup _⟩⟩
          case false =>
            rw [hq] at c_g
            have HM := Lib.hid (show memC xs y.fFile y.fAt = true by rw [HM0.out]; exact HST.out _ HQ.out _ hq rfl)
            have HM0_ := Lib.hid HM0.out; clear hq HST HQ c_l HM0
            refine wp_region_quiet_below (by kernel_rfl) (by kernel_rfl) ?_
            repeat (go_big_quiet_step (with_reducible exact Calls.regrown_of (c_g _)))
            refine wpQuiet_nil ?_
            rintro w5_ ⟨p, rfl⟩
            have hb := below_regrown w4 p.d p.os
            clear r0 r1 r2 r3 s1 t0 t1 t2 t3 a0 a1 a2 a3 c_g
            have HC := Lib.hid (HC.out.trans (hb.mono HC.out.size)); have Xt := Lib.hid (Xt.out.below hb); have Xc := Lib.hid (Xc.out.below hb); have Xr := Lib.hid (Xr.out.below hb)
            replace hsz := Nat.le_trans hsz hb.size
            generalize grow (redrawn w4 p.d) p.os = w5 at *
            clear hb
            go_upto_region 7 with fail
            have hpl := found_pl hxs.out (HM0_.out.symm.trans HM.out)
            have HSD2 := Lib.hid (show tkB ws xs y = (z.fData.toList == y.fData.toList) by rw [tkB, HGY.out, HM.out, HBI.out, ← HSD.out]; rfl)
            have HN2 := Lib.hid (show tkN ws xs y = false by rw [tkN, HGY.out, HM.out]; rfl)
            have hsum := fun hd => same_good HGZ.out HGY.out hpl.1 hpl.2 hd
            clear HSD HGZ HZ hxs HM0_
            obtain ⟨zf, za, zd, zs⟩ := z
            simp only at hpl hsum
            obtain ⟨h1, h2⟩ := hpl
            subst h1 h2
            cases hd : (zd.toList == y.fData.toList)
            case false =>
              have HT2 := Lib.hid (HSD2.out.trans hd)
              have hd' : ¬ zd.toList = y.fData.toList := by simpa using hd
              clear hsum HSD2
              refine wp_region_tab (G := Unit) (fun g => [(44, 0, .agg #[.slice A0 ws.length c0, .slice (some ⟨b, o, none⟩ : Option Addr) xs.length c2]), (0, 1, .pointer (some ⟨w.heap.size, 1, none⟩)), (0, 2, .slice (some ⟨b, o, none⟩ : Option Addr) xs.length c2), (0, 3, .int .i64 (k : Int)), (0, 4, .pointer (some ⟨b, o + k * 4, none⟩)), (0, 5, .agg #[.int .i64 y.fFile, .int .i64 y.fAt, .string zd, .int .u32 zs]), (0, 6, .agg #[.int .i64 y.fFile, .int .i64 y.fAt, .string y.fData, .int .u32 y.fSum]), (0, 7, .bool false)])
                  (fun L g W => (Below w.heap.size w W) ∧
                    (w.heap.size + 3 ≤ W.heap.size) ∧
                    (Box W w.heap.size #[.slice A0 ws.length c0, .slice (some ⟨b, o, none⟩ : Option Addr) xs.length c2] 33) ∧
                    (Box W (w.heap.size + 1) #[.int .i64 y.fFile, .int .i64 y.fAt, .string y.fData, .int .u32 y.fSum] 46) ∧
                    (L 8 = false → Box W (w.heap.size + 1 + 1) #[.slice none 0 0, .slice none 0 0] 33) ∧
                    (L 8 = true → Box W (w.heap.size + 1 + 1) #[.slice A0 ws.length c0, .slice (some ⟨b, o, none⟩ : Option Addr) xs.length c2] 33))
                  (()) (by kernel_rfl) (by kernel_rfl) (fun _ => rfl) ?_ ?_ ?_
              · exact ⟨HC.out.drew, hsz, Xt.out.drew, Xc.out.drew, fun _ => Xr.out.drew, nofun⟩
              · simp (config := { maxSteps := 4000000 }) only [StepsT, layT, Nat.reduceAdd, Nat.reduceBEq, cond_true, cond_false]
                refine ⟨?_, ?_, ?_, ?_, ?_, ?_, ?_, ?_, ?_, ?_, trivial⟩
                · rintro L g0 W hL hd ⟨q0, q1, q2, q3, q4, q5⟩
                  try dsimp only at q0 q1 q2 q3 q4 q5
                  try simp only [depsT, Region.binds, forall_const, and_true, beq_iff_eq, reduceCtorEq, false_implies, true_and] at hd
                  intro K hK; refine do_wanted rfl ?_
                  have HK := Lib.hid hK; clear hK
                  try simp only [hd, cond_true]
                  have cc0 := q2.cell 0 (v := .slice A0 ws.length c0) rfl; have cc1 := q2.cell 1 (v := .slice (some ⟨b, o, none⟩ : Option Addr) xs.length c2) rfl
                  have Q0 := Lib.hid q0; have Q1 := Lib.hid q1; have Q2 := Lib.hid q2; have Q3 := Lib.hid q3; have Q4 := Lib.hid q4; have Q5 := Lib.hid q5
                  clear q0 q1 q2 q3 q4 q5
                  go_wp2
                  exact HK.out _ _ ⟨(), by simp only [upd, Nat.reduceBEq, cond_true, cond_false, hd], ⟨Q0.out, Q1.out, Q2.out, Q3.out, Q4.out, Q5.out⟩⟩
                · rintro L g0 W hL hd ⟨q0, q1, q2, q3, q4, q5⟩
                  try dsimp only at q0 q1 q2 q3 q4 q5
                  try simp only [depsT, Region.binds, forall_const, and_true, beq_iff_eq, reduceCtorEq, false_implies, true_and] at hd
                  intro K hK; refine do_wanted rfl ?_
                  have HK := Lib.hid hK; clear hK
                  try simp only [hd, cond_true]
                  have Q0 := Lib.hid q0; have Q1 := Lib.hid q1; have Q2 := Lib.hid q2; have Q3 := Lib.hid q3; have Q4 := Lib.hid q4; have Q5 := Lib.hid q5
                  clear q0 q1 q2 q3 q4 q5
                  go_wp2
                  exact HK.out _ _ ⟨(), by simp only [upd, Nat.reduceBEq, cond_true, cond_false, hd], ⟨Q0.out, Q1.out, Q2.out, Q3.out, Q4.out, Q5.out⟩⟩
                · rintro L g0 W hL hd ⟨q0, q1, q2, q3, q4, q5⟩
                  try dsimp only at q0 q1 q2 q3 q4 q5
                  try simp only [depsT, Region.binds, forall_const, and_true, beq_iff_eq, reduceCtorEq, false_implies, true_and] at hd
                  intro K hK; refine do_wanted rfl ?_
                  have HK := Lib.hid hK; clear hK
                  try simp only [hd, cond_true]
                  have cc1 := q2.cell 1 (v := .slice (some ⟨b, o, none⟩ : Option Addr) xs.length c2) rfl
                  have Q0 := Lib.hid q0; have Q1 := Lib.hid q1; have Q2 := Lib.hid q2; have Q3 := Lib.hid q3; have Q4 := Lib.hid q4; have Q5 := Lib.hid q5
                  clear q0 q1 q2 q3 q4 q5
                  go_wp2
                  exact HK.out _ _ ⟨(), by simp only [upd, Nat.reduceBEq, cond_true, cond_false, hd], ⟨Q0.out, Q1.out, Q2.out, Q3.out, Q4.out, Q5.out⟩⟩
                · rintro L g0 W hL hd ⟨q0, q1, q2, q3, q4, q5⟩
                  try dsimp only at q0 q1 q2 q3 q4 q5
                  try simp only [depsT, Region.binds, forall_const, and_true, beq_iff_eq, reduceCtorEq, false_implies, true_and] at hd
                  intro K hK; refine do_wanted rfl ?_
                  have HK := Lib.hid hK; clear hK
                  try simp only [hd, cond_true]
                  have Q0 := Lib.hid q0; have Q1 := Lib.hid q1; have Q2 := Lib.hid q2; have Q3 := Lib.hid q3; have Q4 := Lib.hid q4; have Q5 := Lib.hid q5
                  clear q0 q1 q2 q3 q4 q5
                  go_wp2
                  exact HK.out _ _ ⟨(), by simp only [upd, Nat.reduceBEq, cond_true, cond_false, hd], ⟨Q0.out, Q1.out, Q2.out, Q3.out, Q4.out, Q5.out⟩⟩
                · rintro L g0 W hL hd ⟨q0, q1, q2, q3, q4, q5⟩
                  try dsimp only at q0 q1 q2 q3 q4 q5
                  try simp only [depsT, Region.binds, forall_const, and_true, beq_iff_eq, reduceCtorEq, false_implies, true_and] at hd
                  intro K hK; refine do_wanted rfl ?_
                  have HK := Lib.hid hK; clear hK
                  try simp only [hd, cond_true]
                  have Q0 := Lib.hid q0; have Q1 := Lib.hid q1; have Q2 := Lib.hid q2; have Q3 := Lib.hid q3; have Q4 := Lib.hid q4; have Q5 := Lib.hid q5
                  clear q0 q1 q2 q3 q4 q5
                  go_wp2
                  exact HK.out _ _ ⟨(), by simp only [upd, Nat.reduceBEq, cond_true, cond_false, hd], ⟨Q0.out, Q1.out, Q2.out, Q3.out, Q4.out, Q5.out⟩⟩
                · rintro L g0 W hL hd ⟨q0, q1, q2, q3, q4, q5⟩
                  try dsimp only at q0 q1 q2 q3 q4 q5
                  try simp only [depsT, Region.binds, forall_const, and_true, beq_iff_eq, reduceCtorEq, false_implies, true_and] at hd
                  intro K hK; refine do_wanted rfl ?_
                  have HK := Lib.hid hK; clear hK
                  try simp only [hd, cond_true]
                  have a0 := (World.cell?_of_block (q0.block b (World.block_lt_of_cell? w _ (QQ.out 0 _ rfl)))).trans (QQ.out 0 _ rfl)
                  have a1 := (World.cell?_of_block (q0.block b (World.block_lt_of_cell? w _ (QQ.out 0 _ rfl)))).trans (QQ.out 1 _ rfl)
                  have a2 := (World.cell?_of_block (q0.block b (World.block_lt_of_cell? w _ (QQ.out 0 _ rfl)))).trans (QQ.out 2 _ rfl)
                  have a3 := (World.cell?_of_block (q0.block b (World.block_lt_of_cell? w _ (QQ.out 0 _ rfl)))).trans (QQ.out 3 _ rfl)
                  simp only [kChunk_sz, Nat.add_zero] at a0 a1 a2 a3
                  have Q0 := Lib.hid q0; have Q1 := Lib.hid q1; have Q2 := Lib.hid q2; have Q3 := Lib.hid q3; have Q4 := Lib.hid q4; have Q5 := Lib.hid q5
                  clear q0 q1 q2 q3 q4 q5
                  go_wp2
                  exact HK.out _ _ ⟨(), by simp only [upd, Nat.reduceBEq, cond_true, cond_false, hd], ⟨Q0.out, Q1.out, Q2.out, Q3.out, Q4.out, Q5.out⟩⟩
                · rintro L g0 W hL hd ⟨q0, q1, q2, q3, q4, q5⟩
                  try dsimp only at q0 q1 q2 q3 q4 q5
                  try simp only [depsT, Region.binds, forall_const, and_true, beq_iff_eq, reduceCtorEq, false_implies, true_and] at hd
                  intro K hK; refine do_wanted rfl ?_
                  have HK := Lib.hid hK; clear hK
                  try simp only [hd, cond_true]
                  have cc0 := q3.cell 0 (v := .int .i64 y.fFile) rfl; have cc1 := q3.cell 1 (v := .int .i64 y.fAt) rfl; have cc2 := q3.cell 2 (v := .string y.fData) rfl; have cc3 := q3.cell 3 (v := .int .u32 y.fSum) rfl
                  have Q0 := Lib.hid q0; have Q1 := Lib.hid q1; have Q2 := Lib.hid q2; have Q3 := Lib.hid q3; have Q4 := Lib.hid q4; have Q5 := Lib.hid q5
                  clear q0 q1 q2 q3 q4 q5
                  go_wp2
                  exact HK.out _ _ ⟨(), by simp only [upd, Nat.reduceBEq, cond_true, cond_false, hd], ⟨Q0.out, Q1.out, Q2.out, Q3.out, Q4.out, Q5.out⟩⟩
                · rintro L g0 W hL hd ⟨q0, q1, q2, q3, q4, q5⟩
                  try dsimp only at q0 q1 q2 q3 q4 q5
                  try simp only [depsT, Region.binds, forall_const, and_true, beq_iff_eq, reduceCtorEq, false_implies, true_and] at hd
                  intro K hK; refine do_wanted rfl ?_
                  have HK := Lib.hid hK; clear hK
                  try simp only [hd, cond_true]
                  have Q0 := Lib.hid q0; have Q1 := Lib.hid q1; have Q2 := Lib.hid q2; have Q3 := Lib.hid q3; have Q4 := Lib.hid q4; have Q5 := Lib.hid q5
                  clear q0 q1 q2 q3 q4 q5
                  go_wp2
                  exact HK.out _ _ ⟨(), by simp only [upd, Nat.reduceBEq, cond_true, cond_false, hd], ⟨Q0.out, Q1.out, Q2.out, Q3.out, Q4.out, Q5.out⟩⟩
                · rintro L g0 W hL hd ⟨q0, q1, q2, q3, q4, q5⟩
                  try dsimp only at q0 q1 q2 q3 q4 q5
                  try simp only [depsT, Region.binds, forall_const, and_true, beq_iff_eq, reduceCtorEq, false_implies, true_and] at hd
                  intro K hK; refine do_wanted rfl ?_
                  have HK := Lib.hid hK; clear hK
                  try simp only [hd, cond_true]
                  have hz := q4 hL
                  have cz0 := hz.cell 0 (v := .slice none 0 0) rfl; have cz1 := hz.cell 1 (v := .slice none 0 0) rfl
                  have fz := hz.fro
                  have HZ_ := Lib.hid hz; clear hz
                  have Q0 := Lib.hid q0; have Q1 := Lib.hid q1; have Q2 := Lib.hid q2; have Q3 := Lib.hid q3; have Q4 := Lib.hid q4; have Q5 := Lib.hid q5
                  clear q0 q1 q2 q3 q4 q5
                  go_wp2
                  change K _ (Rp.setN W (w.heap.size + 1 + 1) 0 [.slice A0 ws.length c0, .slice (some ⟨b, o, none⟩ : Option Addr) xs.length c2])
                  obtain ⟨hk, hbx⟩ := HZ_.out.stored [.slice A0 ws.length c0, .slice (some ⟨b, o, none⟩ : Option Addr) xs.length c2] 0
                  rw [setA_all (by rfl)] at hbx
                  have hq1 := Q1.out
                  exact HK.out _ _ ⟨(), by simp only [upd, Nat.reduceBEq, cond_true, cond_false, hd], ⟨Q0.out.trans (hk.toBelow Q0.out.size (by simp; omega)), Nat.le_trans Q1.out hk.size, Box_ne Q2.out hk (by omega), Box_ne Q3.out hk (by omega), fun h => absurd h (by simp [upd]), fun _ => hbx⟩⟩
                · rintro L g0 W hL hd ⟨q0, q1, q2, q3, q4, q5⟩
                  try dsimp only at q0 q1 q2 q3 q4 q5
                  try simp only [depsT, Region.binds, forall_const, and_true, beq_iff_eq, reduceCtorEq, false_implies, true_and] at hd
                  intro K hK; refine do_wanted rfl ?_
                  have HK := Lib.hid hK; clear hK
                  try simp only [hd, cond_true]
                  have Q0 := Lib.hid q0; have Q1 := Lib.hid q1; have Q2 := Lib.hid q2; have Q3 := Lib.hid q3; have Q4 := Lib.hid q4; have Q5 := Lib.hid q5
                  clear q0 q1 q2 q3 q4 q5
                  go_wp2
                  exact HK.out _ _ ⟨(), by simp only [upd, Nat.reduceBEq, cond_true, cond_false, hd], ⟨Q0.out, Q1.out, Q2.out, Q3.out, Q4.out, Q5.out⟩⟩
              · simp (config := { maxSteps := 4000000 }) only [layT, Nat.reduceAdd, Nat.reduceBEq, cond_true, cond_false]
                rintro L g0 W hd ⟨q0, q1, q2, q3, q4, q5⟩
                simp only [doneT, true_and, List.length_cons, List.length_nil, Nat.reduceAdd] at hd
                obtain ⟨⟨⟨⟨⟨⟨⟨⟨⟨e0, e1⟩, e2⟩, e3⟩, e4⟩, e5⟩, e6⟩, e7⟩, e8⟩, e9⟩ := hd
                try dsimp only at q0 q1 q2 q3 q4 q5
                simp only [e0, e1, e2, e3, e4, e5, e6, e7, e8, e9, cond_true]
                have hb5 := q5 e8
                have dz0 := hb5.cell 0 (v := .slice A0 ws.length c0) rfl; have dz1 := hb5.cell 1 (v := .slice (some ⟨b, o, none⟩ : Option Addr) xs.length c2) rfl
                have HQ := Lib.hid q0
                clear q0 q1 q2 q3 q4 q5 hb5
                go_wp2
                refine bodyPost_ret (v := .tuple #[.agg #[.slice A0 ws.length c0, .slice (some ⟨b, o, none⟩ : Option Addr) xs.length c2], .bool false]) (by simp [results, Try.results92, go_sem, dz0, dz1]) rfl (STakeP.no HT2.out HN2.out G1.out HQ.out)
            case true =>
              have HT2 := Lib.hid (HSD2.out.trans hd)
              have hdd : zd = y.fData := toL_inj (by simpa using hd)
              have hss := hsum hdd
              clear hd hsum HSD2
              subst hdd hss
              refine wp_region_tab (G := Unit) (fun g => [(5, 9, .bool true), (38, 0, .agg #[.slice A0 ws.length c0, .slice (some ⟨b, o, none⟩ : Option Addr) xs.length c2]), (0, 1, .pointer (some ⟨w.heap.size, 1, none⟩)), (0, 2, .slice (some ⟨b, o, none⟩ : Option Addr) xs.length c2), (0, 3, .int .i64 (k : Int)), (0, 4, .pointer (some ⟨b, o + k * 4, none⟩)), (0, 5, .agg #[.int .i64 y.fFile, .int .i64 y.fAt, .string y.fData, .int .u32 y.fSum]), (0, 6, .agg #[.int .i64 y.fFile, .int .i64 y.fAt, .string y.fData, .int .u32 y.fSum]), (0, 7, .bool true)])
                  (fun L g W => (Below w.heap.size w W) ∧
                    (w.heap.size + 3 ≤ W.heap.size) ∧
                    (Box W w.heap.size #[.slice A0 ws.length c0, .slice (some ⟨b, o, none⟩ : Option Addr) xs.length c2] 33) ∧
                    (Box W (w.heap.size + 1) #[.int .i64 y.fFile, .int .i64 y.fAt, .string y.fData, .int .u32 y.fSum] 46) ∧
                    (L 8 = false → Box W (w.heap.size + 1 + 1) #[.slice none 0 0, .slice none 0 0] 33) ∧
                    (L 8 = true → Box W (w.heap.size + 1 + 1) #[.slice A0 ws.length c0, .slice (some ⟨b, o, none⟩ : Option Addr) xs.length c2] 33))
                  (()) (by kernel_rfl) (by kernel_rfl) (fun _ => rfl) ?_ ?_ ?_
              · exact ⟨HC.out.drew, hsz, Xt.out.drew, Xc.out.drew, fun _ => Xr.out.drew, nofun⟩
              · simp (config := { maxSteps := 4000000 }) only [StepsT, layT, Nat.reduceAdd, Nat.reduceBEq, cond_true, cond_false]
                refine ⟨?_, ?_, ?_, ?_, ?_, ?_, ?_, ?_, ?_, ?_, trivial⟩
                · rintro L g0 W hL hd ⟨q0, q1, q2, q3, q4, q5⟩
                  try dsimp only at q0 q1 q2 q3 q4 q5
                  try simp only [depsT, Region.binds, forall_const, and_true, beq_iff_eq, reduceCtorEq, false_implies, true_and] at hd
                  intro K hK; refine do_wanted rfl ?_
                  have HK := Lib.hid hK; clear hK
                  try simp only [hd, cond_true]
                  have cc0 := q2.cell 0 (v := .slice A0 ws.length c0) rfl; have cc1 := q2.cell 1 (v := .slice (some ⟨b, o, none⟩ : Option Addr) xs.length c2) rfl
                  have Q0 := Lib.hid q0; have Q1 := Lib.hid q1; have Q2 := Lib.hid q2; have Q3 := Lib.hid q3; have Q4 := Lib.hid q4; have Q5 := Lib.hid q5
                  clear q0 q1 q2 q3 q4 q5
                  go_wp2
                  exact HK.out _ _ ⟨(), by simp only [upd, Nat.reduceBEq, cond_true, cond_false, hd], ⟨Q0.out, Q1.out, Q2.out, Q3.out, Q4.out, Q5.out⟩⟩
                · rintro L g0 W hL hd ⟨q0, q1, q2, q3, q4, q5⟩
                  try dsimp only at q0 q1 q2 q3 q4 q5
                  try simp only [depsT, Region.binds, forall_const, and_true, beq_iff_eq, reduceCtorEq, false_implies, true_and] at hd
                  intro K hK; refine do_wanted rfl ?_
                  have HK := Lib.hid hK; clear hK
                  try simp only [hd, cond_true]
                  have Q0 := Lib.hid q0; have Q1 := Lib.hid q1; have Q2 := Lib.hid q2; have Q3 := Lib.hid q3; have Q4 := Lib.hid q4; have Q5 := Lib.hid q5
                  clear q0 q1 q2 q3 q4 q5
                  go_wp2
                  exact HK.out _ _ ⟨(), by simp only [upd, Nat.reduceBEq, cond_true, cond_false, hd], ⟨Q0.out, Q1.out, Q2.out, Q3.out, Q4.out, Q5.out⟩⟩
                · rintro L g0 W hL hd ⟨q0, q1, q2, q3, q4, q5⟩
                  try dsimp only at q0 q1 q2 q3 q4 q5
                  try simp only [depsT, Region.binds, forall_const, and_true, beq_iff_eq, reduceCtorEq, false_implies, true_and] at hd
                  intro K hK; refine do_wanted rfl ?_
                  have HK := Lib.hid hK; clear hK
                  try simp only [hd, cond_true]
                  have cc1 := q2.cell 1 (v := .slice (some ⟨b, o, none⟩ : Option Addr) xs.length c2) rfl
                  have Q0 := Lib.hid q0; have Q1 := Lib.hid q1; have Q2 := Lib.hid q2; have Q3 := Lib.hid q3; have Q4 := Lib.hid q4; have Q5 := Lib.hid q5
                  clear q0 q1 q2 q3 q4 q5
                  go_wp2
                  exact HK.out _ _ ⟨(), by simp only [upd, Nat.reduceBEq, cond_true, cond_false, hd], ⟨Q0.out, Q1.out, Q2.out, Q3.out, Q4.out, Q5.out⟩⟩
                · rintro L g0 W hL hd ⟨q0, q1, q2, q3, q4, q5⟩
                  try dsimp only at q0 q1 q2 q3 q4 q5
                  try simp only [depsT, Region.binds, forall_const, and_true, beq_iff_eq, reduceCtorEq, false_implies, true_and] at hd
                  intro K hK; refine do_wanted rfl ?_
                  have HK := Lib.hid hK; clear hK
                  try simp only [hd, cond_true]
                  have Q0 := Lib.hid q0; have Q1 := Lib.hid q1; have Q2 := Lib.hid q2; have Q3 := Lib.hid q3; have Q4 := Lib.hid q4; have Q5 := Lib.hid q5
                  clear q0 q1 q2 q3 q4 q5
                  go_wp2
                  exact HK.out _ _ ⟨(), by simp only [upd, Nat.reduceBEq, cond_true, cond_false, hd], ⟨Q0.out, Q1.out, Q2.out, Q3.out, Q4.out, Q5.out⟩⟩
                · rintro L g0 W hL hd ⟨q0, q1, q2, q3, q4, q5⟩
                  try dsimp only at q0 q1 q2 q3 q4 q5
                  try simp only [depsT, Region.binds, forall_const, and_true, beq_iff_eq, reduceCtorEq, false_implies, true_and] at hd
                  intro K hK; refine do_wanted rfl ?_
                  have HK := Lib.hid hK; clear hK
                  try simp only [hd, cond_true]
                  have Q0 := Lib.hid q0; have Q1 := Lib.hid q1; have Q2 := Lib.hid q2; have Q3 := Lib.hid q3; have Q4 := Lib.hid q4; have Q5 := Lib.hid q5
                  clear q0 q1 q2 q3 q4 q5
                  go_wp2
                  exact HK.out _ _ ⟨(), by simp only [upd, Nat.reduceBEq, cond_true, cond_false, hd], ⟨Q0.out, Q1.out, Q2.out, Q3.out, Q4.out, Q5.out⟩⟩
                · rintro L g0 W hL hd ⟨q0, q1, q2, q3, q4, q5⟩
                  try dsimp only at q0 q1 q2 q3 q4 q5
                  try simp only [depsT, Region.binds, forall_const, and_true, beq_iff_eq, reduceCtorEq, false_implies, true_and] at hd
                  intro K hK; refine do_wanted rfl ?_
                  have HK := Lib.hid hK; clear hK
                  try simp only [hd, cond_true]
                  have a0 := (World.cell?_of_block (q0.block b (World.block_lt_of_cell? w _ (QQ.out 0 _ rfl)))).trans (QQ.out 0 _ rfl)
                  have a1 := (World.cell?_of_block (q0.block b (World.block_lt_of_cell? w _ (QQ.out 0 _ rfl)))).trans (QQ.out 1 _ rfl)
                  have a2 := (World.cell?_of_block (q0.block b (World.block_lt_of_cell? w _ (QQ.out 0 _ rfl)))).trans (QQ.out 2 _ rfl)
                  have a3 := (World.cell?_of_block (q0.block b (World.block_lt_of_cell? w _ (QQ.out 0 _ rfl)))).trans (QQ.out 3 _ rfl)
                  simp only [kChunk_sz, Nat.add_zero] at a0 a1 a2 a3
                  have Q0 := Lib.hid q0; have Q1 := Lib.hid q1; have Q2 := Lib.hid q2; have Q3 := Lib.hid q3; have Q4 := Lib.hid q4; have Q5 := Lib.hid q5
                  clear q0 q1 q2 q3 q4 q5
                  go_wp2
                  exact HK.out _ _ ⟨(), by simp only [upd, Nat.reduceBEq, cond_true, cond_false, hd], ⟨Q0.out, Q1.out, Q2.out, Q3.out, Q4.out, Q5.out⟩⟩
                · rintro L g0 W hL hd ⟨q0, q1, q2, q3, q4, q5⟩
                  try dsimp only at q0 q1 q2 q3 q4 q5
                  try simp only [depsT, Region.binds, forall_const, and_true, beq_iff_eq, reduceCtorEq, false_implies, true_and] at hd
                  intro K hK; refine do_wanted rfl ?_
                  have HK := Lib.hid hK; clear hK
                  try simp only [hd, cond_true]
                  have cc0 := q3.cell 0 (v := .int .i64 y.fFile) rfl; have cc1 := q3.cell 1 (v := .int .i64 y.fAt) rfl; have cc2 := q3.cell 2 (v := .string y.fData) rfl; have cc3 := q3.cell 3 (v := .int .u32 y.fSum) rfl
                  have Q0 := Lib.hid q0; have Q1 := Lib.hid q1; have Q2 := Lib.hid q2; have Q3 := Lib.hid q3; have Q4 := Lib.hid q4; have Q5 := Lib.hid q5
                  clear q0 q1 q2 q3 q4 q5
                  go_wp2
                  exact HK.out _ _ ⟨(), by simp only [upd, Nat.reduceBEq, cond_true, cond_false, hd], ⟨Q0.out, Q1.out, Q2.out, Q3.out, Q4.out, Q5.out⟩⟩
                · rintro L g0 W hL hd ⟨q0, q1, q2, q3, q4, q5⟩
                  try dsimp only at q0 q1 q2 q3 q4 q5
                  try simp only [depsT, Region.binds, forall_const, and_true, beq_iff_eq, reduceCtorEq, false_implies, true_and] at hd
                  intro K hK; refine do_wanted rfl ?_
                  have HK := Lib.hid hK; clear hK
                  try simp only [hd, cond_true]
                  have Q0 := Lib.hid q0; have Q1 := Lib.hid q1; have Q2 := Lib.hid q2; have Q3 := Lib.hid q3; have Q4 := Lib.hid q4; have Q5 := Lib.hid q5
                  clear q0 q1 q2 q3 q4 q5
                  go_wp2
                  exact HK.out _ _ ⟨(), by simp only [upd, Nat.reduceBEq, cond_true, cond_false, hd], ⟨Q0.out, Q1.out, Q2.out, Q3.out, Q4.out, Q5.out⟩⟩
                · rintro L g0 W hL hd ⟨q0, q1, q2, q3, q4, q5⟩
                  try dsimp only at q0 q1 q2 q3 q4 q5
                  try simp only [depsT, Region.binds, forall_const, and_true, beq_iff_eq, reduceCtorEq, false_implies, true_and] at hd
                  intro K hK; refine do_wanted rfl ?_
                  have HK := Lib.hid hK; clear hK
                  try simp only [hd, cond_true]
                  have hz := q4 hL
                  have cz0 := hz.cell 0 (v := .slice none 0 0) rfl; have cz1 := hz.cell 1 (v := .slice none 0 0) rfl
                  have fz := hz.fro
                  have HZ_ := Lib.hid hz; clear hz
                  have Q0 := Lib.hid q0; have Q1 := Lib.hid q1; have Q2 := Lib.hid q2; have Q3 := Lib.hid q3; have Q4 := Lib.hid q4; have Q5 := Lib.hid q5
                  clear q0 q1 q2 q3 q4 q5
                  go_wp2
                  change K _ (Rp.setN W (w.heap.size + 1 + 1) 0 [.slice A0 ws.length c0, .slice (some ⟨b, o, none⟩ : Option Addr) xs.length c2])
                  obtain ⟨hk, hbx⟩ := HZ_.out.stored [.slice A0 ws.length c0, .slice (some ⟨b, o, none⟩ : Option Addr) xs.length c2] 0
                  rw [setA_all (by rfl)] at hbx
                  have hq1 := Q1.out
                  exact HK.out _ _ ⟨(), by simp only [upd, Nat.reduceBEq, cond_true, cond_false, hd], ⟨Q0.out.trans (hk.toBelow Q0.out.size (by simp; omega)), Nat.le_trans Q1.out hk.size, Box_ne Q2.out hk (by omega), Box_ne Q3.out hk (by omega), fun h => absurd h (by simp [upd]), fun _ => hbx⟩⟩
                · rintro L g0 W hL hd ⟨q0, q1, q2, q3, q4, q5⟩
                  try dsimp only at q0 q1 q2 q3 q4 q5
                  try simp only [depsT, Region.binds, forall_const, and_true, beq_iff_eq, reduceCtorEq, false_implies, true_and] at hd
                  intro K hK; refine do_wanted rfl ?_
                  have HK := Lib.hid hK; clear hK
                  try simp only [hd, cond_true]
                  have Q0 := Lib.hid q0; have Q1 := Lib.hid q1; have Q2 := Lib.hid q2; have Q3 := Lib.hid q3; have Q4 := Lib.hid q4; have Q5 := Lib.hid q5
                  clear q0 q1 q2 q3 q4 q5
                  go_wp2
                  exact HK.out _ _ ⟨(), by simp only [upd, Nat.reduceBEq, cond_true, cond_false, hd], ⟨Q0.out, Q1.out, Q2.out, Q3.out, Q4.out, Q5.out⟩⟩
              · simp (config := { maxSteps := 4000000 }) only [layT, Nat.reduceAdd, Nat.reduceBEq, cond_true, cond_false]
                rintro L g0 W hd ⟨q0, q1, q2, q3, q4, q5⟩
                simp only [doneT, true_and, List.length_cons, List.length_nil, Nat.reduceAdd] at hd
                obtain ⟨⟨⟨⟨⟨⟨⟨⟨⟨e0, e1⟩, e2⟩, e3⟩, e4⟩, e5⟩, e6⟩, e7⟩, e8⟩, e9⟩ := hd
                try dsimp only at q0 q1 q2 q3 q4 q5
                simp only [e0, e1, e2, e3, e4, e5, e6, e7, e8, e9, cond_true]
                have hb5 := q5 e8
                have dz0 := hb5.cell 0 (v := .slice A0 ws.length c0) rfl; have dz1 := hb5.cell 1 (v := .slice (some ⟨b, o, none⟩ : Option Addr) xs.length c2) rfl
                have HQ := Lib.hid q0
                clear q0 q1 q2 q3 q4 q5 hb5
                go_wp2
                refine bodyPost_ret (v := .tuple #[.agg #[.slice A0 ws.length c0, .slice (some ⟨b, o, none⟩ : Option Addr) xs.length c2], .bool true]) (by simp [results, Try.results92, go_sem, dz0, dz1]) rfl (STakeP.no HT2.out HN2.out G1.out HQ.out)
      case neg =>
        go_upto_region 4 with fail
        have HKL := Lib.hid (show k = xs.length by omega)
        obtain ⟨e1, e2⟩ := stop_bs ho hk HL.out (fun h => absurd h hlt)
        have HBI := Lib.hid e1; have HM := Lib.hid (show memC xs y.fFile y.fAt = false from e2.trans (by rw [HKL.out]; exact found_no)); clear e1 e2
        have r0 := regr (Below.refl _ _) Xc.out.lt (Xc.out.cell 0 (v := .int .i64 y.fFile) rfl)
        have r1 := regr (Below.refl _ _) Xc.out.lt (Xc.out.cell 1 (v := .int .i64 y.fAt) rfl)
        have r2 := regr (Below.refl _ _) Xc.out.lt (Xc.out.cell 2 (v := .string y.fData) rfl)
        have r3 := regr (Below.refl _ _) Xc.out.lt (Xc.out.cell 3 (v := .int .u32 y.fSum) rfl)
        have s1 := regr (Below.refl _ _) Xt.out.lt (Xt.out.cell 1 (v := .slice A2 xs.length c2) rfl)
        refine wp_region_quiet_below (by kernel_rfl) (by kernel_rfl) ?_
        repeat (go_big_quiet_step (fail))
        refine wpQuiet_nil ?_
        rintro w4_ ⟨p, rfl⟩
        have hb := below_regrown wr p.d p.os
        clear r0 r1 r2 r3 s1
        have HC := Lib.hid (HC.out.trans (hb.mono HC.out.size)); have Xt := Lib.hid (Xt.out.below hb); have Xc := Lib.hid (Xc.out.below hb); have Xr := Lib.hid (Xr.out.below hb)
        replace hsz := Nat.le_trans hsz hb.size
        generalize grow (redrawn wr p.d) p.os = w4 at *
        clear hb
        go_upto_region 6 with fail
        have r0 := regr (Below.refl _ _) Xc.out.lt (Xc.out.cell 0 (v := .int .i64 y.fFile) rfl)
        have r1 := regr (Below.refl _ _) Xc.out.lt (Xc.out.cell 1 (v := .int .i64 y.fAt) rfl)
        have r2 := regr (Below.refl _ _) Xc.out.lt (Xc.out.cell 2 (v := .string y.fData) rfl)
        have r3 := regr (Below.refl _ _) Xc.out.lt (Xc.out.cell 3 (v := .int .u32 y.fSum) rfl)
        have s1 := regr (Below.refl _ _) Xt.out.lt (Xt.out.cell 1 (v := .slice A2 xs.length c2) rfl)
        refine wp_region_quiet_below (by kernel_rfl) (by kernel_rfl) ?_
        repeat (go_big_quiet_step (fail))
        refine wpQuiet_nil ?_
        rintro w5_ ⟨p, rfl⟩
        have hb := below_regrown w4 p.d p.os
        clear r0 r1 r2 r3 s1
        have HC := Lib.hid (HC.out.trans (hb.mono HC.out.size)); have Xt := Lib.hid (Xt.out.below hb); have Xc := Lib.hid (Xc.out.below hb); have Xr := Lib.hid (Xr.out.below hb)
        replace hsz := Nat.le_trans hsz hb.size
        generalize grow (redrawn w4 p.d) p.os = w5 at *
        clear hb
        go_upto_region 8 with fail
        cases A2 with
        | none =>
          have HTB := Lib.hid (show tkB ws xs y = decide (xs.length ≠ 200) by rw [tkB, HGY.out, HM.out]; rfl)
          have HTN := Lib.hid (show tkN ws xs y = decide (xs.length ≠ 200) by rw [tkN, HGY.out, HM.out]; rfl)
          have ct_0 := Xt.out.cell 0 (v := .slice A0 ws.length c0) rfl; have ct_1 := Xt.out.cell 1 (v := .slice none xs.length c2) rfl; have cc_0 := Xc.out.cell 0 (v := .int .i64 y.fFile) rfl; have cc_1 := Xc.out.cell 1 (v := .int .i64 y.fAt) rfl; have cc_2 := Xc.out.cell 2 (v := .string y.fData) rfl; have cc_3 := Xc.out.cell 3 (v := .int .u32 y.fSum) rfl; have cr_0 := Xr.out.cell 0 (v := .slice none 0 0) rfl; have cr_1 := Xr.out.cell 1 (v := .slice none 0 0) rfl
          by_cases h2 : xs.length = 200
          case pos =>
            have HX := Lib.hid (show tkB ws xs y = false by rw [HTB.out, h2]; rfl); have HN := Lib.hid (show tkN ws xs y = false by rw [HTN.out, h2]; rfl)
            have h2' : ((xs.length : Int) == 200) = true := by simpa using (by omega : (xs.length : Int) = 200)
            clear h2 HTB HTN
            have fr_ := Xr.out.fro
            go_wp2
            obtain ⟨hk, bf⟩ := Xr.out.stored [.slice A0 ws.length c0, .slice none xs.length c2] 0
            rw [setA_all (by rfl)] at bf
            change bodyPost _ _ _ _ _ (Rp.setN w5 (w.heap.size + 1 + 1) 0 [.slice A0 ws.length c0, .slice none xs.length c2])
            clear fr_ ct_0 ct_1 cc_0 cc_1 cc_2 cc_3 cr_0 cr_1
            have HK := Lib.hid hk; clear hk
            generalize Rp.setN w5 (w.heap.size + 1 + 1) 0 [.slice A0 ws.length c0, .slice none xs.length c2] = wf at *
            have df0 := bf.cell 0 (v := .slice A0 ws.length c0) rfl; have df1 := bf.cell 1 (v := .slice none xs.length c2) rfl
            refine bodyPost_ret (v := .tuple #[.agg #[.slice A0 ws.length c0, .slice none xs.length c2], .bool false]) (by simp [results, Try.results92, go_sem, df0, df1]) rfl (STakeP.no HX.out HN.out G1.out (HC.out.trans (HK.out.toBelow HC.out.size (by simp; omega))))
          case neg =>
            have HX := Lib.hid (show tkB ws xs y = true by rw [HTB.out]; simpa using h2)
            have HXX := Lib.hid (show tkX ws xs y = xs.take k ++ y :: xs.drop k by rw [tkX, if_pos (by rw [HTN.out]; simpa using h2), HBI.out])
            have h2' : ((xs.length : Int) == 200) = false := by simp; omega
            clear h2 HTB HTN
            have hkc : k ≤ c2 := by have := hcap.1; omega
            have j1 : (0 : Int) ≤ (k : Int) := by omega
            have j2 : (k : Int) ≤ (xs.length : Int) := by omega
            have j3 : (k : Int) ≤ (c2 : Int) := by omega
            go_upto_region 12 with (at_builtin; go_loud (refine wp_append (d := kChunk) rfl _ _ 31 46 rfl Try.underlying31 infoChunk rfl (by decide) rfl (by decide) kChunk_flat (xs := []) (ys := xs.take k) rfl rfl (Rp.Row_nil _ _ _) (Rp.S_take (Rp.S_below G1.out HC.out) k (by omega)) (by simp; omega) ?_; intro va wa r1 r2 r3 r4; clear r4; obtain ⟨P1, C1, e1, _, _⟩ := Rp.Row_K r1; rw [show (([] : List DChunk) ++ xs.take k).length = k by simp; omega] at e1; subst e1; have hz1 := r2.size; have Xt := Lib.hid (Xt.out.kept r2 (by simp)); have Xc := Lib.hid (Xc.out.kept r2 (by simp)); have Xr := Lib.hid (Xr.out.kept r2 (by simp)); have HC := Lib.hid (HC.out.trans (r2.toBelow HC.out.size (by simp))); have R1 := Lib.hid (show kChunk.Row 46 wa (Rp.ofOwn (.slice P1 k C1)) (xs.take k) (.slice P1 k C1) from r1); have T1 := Lib.hid (fun b h => (by rcases r3 b h with h | h; cases h; omega) : ∀ b ∈ Rp.ofOwn (.slice P1 k C1), w.heap.size + 3 ≤ b); replace hsz := Nat.le_trans hsz hz1; clear r1 r2 r3 hz1 ct_0 ct_1 cc_0 cc_1 cc_2 cc_3 cr_0 cr_1; have ct_0 := Xt.out.cell 0 (v := .slice A0 ws.length c0) rfl; have ct_1 := Xt.out.cell 1 (v := .slice none xs.length c2) rfl; have cc_0 := Xc.out.cell 0 (v := .int .i64 y.fFile) rfl; have cc_1 := Xc.out.cell 1 (v := .int .i64 y.fAt) rfl; have cc_2 := Xc.out.cell 2 (v := .string y.fData) rfl; have cc_3 := Xc.out.cell 3 (v := .int .u32 y.fSum) rfl; have cr_0 := Xr.out.cell 0 (v := .slice none 0 0) rfl; have cr_1 := Xr.out.cell 1 (v := .slice none 0 0) rfl))
            go_upto_region 13 with (at_builtin; go_loud (refine wp_append (d := kChunk) rfl _ _ 31 46 rfl Try.underlying31 infoChunk rfl (by decide) rfl (by decide) kChunk_flat (xs := xs.take k) (ys := [y]) rfl rfl (Rp.Row_below R1.out ((Below.refl _ _).alloc (Nat.le_refl _) _)) (Rp.S_one (Box.new (by simp)) (kChunk_mkK _ y)) (by simp; omega) ?_; intro va wa r1 r2 r3 r4; clear r4; obtain ⟨P2, C2, e1, _, _⟩ := Rp.Row_K r1; rw [show (xs.take k ++ [y] : List DChunk).length = k + 1 by simp; omega] at e1; subst e1; have hz1 := r2.size; simp at hz1; have Xt := Lib.hid ((Box.alloc Xt.out).kept r2 (fun h => by have := T1.out _ h; omega)); have Xc := Lib.hid ((Box.alloc Xc.out).kept r2 (fun h => by have := T1.out _ h; omega)); have Xr := Lib.hid ((Box.alloc Xr.out).kept r2 (fun h => by have := T1.out _ h; omega)); have HC := Lib.hid ((HC.out.alloc HC.out.size _).trans (r2.toBelow (by have := HC.out.size; simp; omega) (fun b h => by have := T1.out b h; omega))); have R2 := Lib.hid r1; have T2 := Lib.hid (fun b h => (by rcases r3 b h with h | h; exact T1.out b h; simp at h; omega) : ∀ b ∈ Rp.ofOwn (.slice P2 (k + 1) C2), w.heap.size + 3 ≤ b); replace hsz := Nat.le_trans hsz (Nat.le_of_lt (Nat.lt_of_succ_le hz1)); clear r1 r2 r3 hz1 R1 T1 ct_0 ct_1 cc_0 cc_1 cc_2 cc_3 cr_0 cr_1; have ct_0 := Xt.out.cell 0 (v := .slice A0 ws.length c0) rfl; have ct_1 := Xt.out.cell 1 (v := .slice none xs.length c2) rfl; have cc_0 := Xc.out.cell 0 (v := .int .i64 y.fFile) rfl; have cc_1 := Xc.out.cell 1 (v := .int .i64 y.fAt) rfl; have cc_2 := Xc.out.cell 2 (v := .string y.fData) rfl; have cc_3 := Xc.out.cell 3 (v := .int .u32 y.fSum) rfl; have cr_0 := Xr.out.cell 0 (v := .slice none 0 0) rfl; have cr_1 := Xr.out.cell 1 (v := .slice none 0 0) rfl))
            by_cases hz : c2 = k
            case pos =>
              obtain rfl := hz.symm
              have hlk : xs.length = k := by have := hcap.1; omega
              have SC := Lib.hid (show kChunk.S w (xs.drop k) (.slice none (xs.length - k) (k - k)) by have h := Rp.S_cut G1.out 4 rfl k (xs.length - k) (by omega) rfl (.inr ⟨rfl, rfl⟩) rfl; rw [List.take_of_length_le (by simp)] at h; exact h)
              rw [show xs.length - k = 0 by omega, show k - k = 0 by omega] at SC
              have h00 : xs.length - k = 0 := by omega
              have HLK := Lib.hid hlk; clear hlk
              go_upto_region 14 with (at_builtin; go_loud (refine wp_append (d := kChunk) rfl _ _ 31 46 rfl Try.underlying31 infoChunk rfl (by decide) rfl (by decide) kChunk_flat (xs := xs.take k ++ [y]) (ys := xs.drop k) rfl rfl R2.out (Rp.S_below SC.out HC.out) (by simp; omega) ?_; intro va wa r1 r2 r3 r4; clear r4; obtain ⟨P3, C3, e1, _, _⟩ := Rp.Row_K r1; rw [show (xs.take k ++ [y] ++ xs.drop k : List DChunk).length = xs.length + 1 by simp; omega] at e1; subst e1; have hz1 := r2.size; have Xt := Lib.hid (Xt.out.kept r2 (fun h => by have := T2.out _ h; omega)); have Xc := Lib.hid (Xc.out.kept r2 (fun h => by have := T2.out _ h; omega)); have Xr := Lib.hid (Xr.out.kept r2 (fun h => by have := T2.out _ h; omega)); have HC := Lib.hid (HC.out.trans (r2.toBelow HC.out.size (fun b h => by have := T2.out b h; omega))); have R3 := Lib.hid r1; have T3 := Lib.hid (fun b h => (by rcases r3 b h with h | h; exact T2.out b h; omega) : ∀ b ∈ Rp.ofOwn (.slice P3 (xs.length + 1) C3), w.heap.size + 3 ≤ b); replace hsz := Nat.le_trans hsz hz1; clear r1 r2 r3 hz1 R2 T2 ct_0 ct_1 cc_0 cc_1 cc_2 cc_3 cr_0 cr_1; have ct_0 := Xt.out.cell 0 (v := .slice A0 ws.length c0) rfl; have ct_1 := Xt.out.cell 1 (v := .slice none xs.length k) rfl; have cc_0 := Xc.out.cell 0 (v := .int .i64 y.fFile) rfl; have cc_1 := Xc.out.cell 1 (v := .int .i64 y.fAt) rfl; have cc_2 := Xc.out.cell 2 (v := .string y.fData) rfl; have cc_3 := Xc.out.cell 3 (v := .int .u32 y.fSum) rfl; have cr_0 := Xr.out.cell 0 (v := .slice none 0 0) rfl; have cr_1 := Xr.out.cell 1 (v := .slice none 0 0) rfl; have ft := Xt.out.fro))
              have hk := kept_set wa (w.heap.size) 1 (.slice P3 (xs.length + 1) C3)
              have R3 := Lib.hid (Row_ne R3.out hk (fun h => by have h_0 := T3.out _ h; omega))
              have Xc := Lib.hid (Xc.out.set_other (a := ⟨w.heap.size, 1, none⟩) (.slice P3 (xs.length + 1) C3) (by first | (simp; done) | (simp; omega)))
              have Xr := Lib.hid (Xr.out.set_other (a := ⟨w.heap.size, 1, none⟩) (.slice P3 (xs.length + 1) C3) (by first | (simp; done) | (simp; omega)))
              have Xt := Lib.hid (show Box (wa.setCell ⟨w.heap.size, 1, none⟩ (.slice P3 (xs.length + 1) C3)) (w.heap.size) #[.slice A0 ws.length c0, .slice P3 (xs.length + 1) C3] 33 from Xt.out.set 1 (.slice P3 (xs.length + 1) C3))
              have HC := Lib.hid (HC.out.setCell (p := ⟨w.heap.size, 1, none⟩) (by first | (simp; done) | (simp; omega)) (.slice P3 (xs.length + 1) C3))
              replace hsz := Nat.le_trans hsz hk.size
              clear hk ct_0 ct_1 cc_0 cc_1 cc_2 cc_3 cr_0 cr_1
              generalize wa.setCell ⟨w.heap.size, 1, none⟩ (.slice P3 (xs.length + 1) C3) = wb at *
              have ct_0 := Xt.out.cell 0 (v := .slice A0 ws.length c0) rfl; have ct_1 := Xt.out.cell 1 (v := .slice P3 (xs.length + 1) C3) rfl; have cc_0 := Xc.out.cell 0 (v := .int .i64 y.fFile) rfl; have cc_1 := Xc.out.cell 1 (v := .int .i64 y.fAt) rfl; have cc_2 := Xc.out.cell 2 (v := .string y.fData) rfl; have cc_3 := Xc.out.cell 3 (v := .int .u32 y.fSum) rfl; have cr_0 := Xr.out.cell 0 (v := .slice none 0 0) rfl; have cr_1 := Xr.out.cell 1 (v := .slice none 0 0) rfl
              have fr_ := Xr.out.fro
              go_wp2
              obtain ⟨hk, bf⟩ := Xr.out.stored [.slice A0 ws.length c0, .slice P3 (xs.length + 1) C3] 0
              rw [setA_all (by rfl)] at bf
              have q3 := Row_ne R3.out hk (fun h => by have h_0 := T3.out _ h; omega)
              change bodyPost _ _ _ _ _ (Rp.setN wb (w.heap.size + 1 + 1) 0 [.slice A0 ws.length c0, .slice P3 (xs.length + 1) C3])
              clear fr_ ct_0 ct_1 cc_0 cc_1 cc_2 cc_3 cr_0 cr_1
              have HK := Lib.hid hk; clear hk
              generalize Rp.setN wb (w.heap.size + 1 + 1) 0 [.slice A0 ws.length c0, .slice P3 (xs.length + 1) C3] = wf at *
              have df0 := bf.cell 0 (v := .slice A0 ws.length c0) rfl; have df1 := bf.cell 1 (v := .slice P3 (xs.length + 1) C3) rfl
              refine bodyPost_ret (v := .tuple #[.agg #[.slice A0 ws.length c0, .slice P3 (xs.length + 1) C3], .bool true]) (by simp [results, Try.results92, go_sem, df0, df1]) rfl ⟨_, by rw [HX.out], by rw [HXX.out]; have h := Rp.Row_S q3; rw [List.append_assoc, List.singleton_append] at h; exact h, (HC.out.trans (HK.out.toBelow HC.out.size (by simp; omega))), .inr ⟨_, by rw [HXX.out]; have h := q3; rw [List.append_assoc, List.singleton_append] at h; exact h, fun b h => (by have := T3.out b h; omega), ofOwn_nodup _⟩⟩
            case neg =>
              exact absurd (show c2 = k by have := hcap.2 rfl; omega) hz
        | some a =>
          have HTB := Lib.hid (show tkB ws xs y = decide (xs.length ≠ 200) by rw [tkB, HGY.out, HM.out]; rfl)
          have HTN := Lib.hid (show tkN ws xs y = decide (xs.length ≠ 200) by rw [tkN, HGY.out, HM.out]; rfl)
          have ct_0 := Xt.out.cell 0 (v := .slice A0 ws.length c0) rfl; have ct_1 := Xt.out.cell 1 (v := .slice (some a) xs.length c2) rfl; have cc_0 := Xc.out.cell 0 (v := .int .i64 y.fFile) rfl; have cc_1 := Xc.out.cell 1 (v := .int .i64 y.fAt) rfl; have cc_2 := Xc.out.cell 2 (v := .string y.fData) rfl; have cc_3 := Xc.out.cell 3 (v := .int .u32 y.fSum) rfl; have cr_0 := Xr.out.cell 0 (v := .slice none 0 0) rfl; have cr_1 := Xr.out.cell 1 (v := .slice none 0 0) rfl
          by_cases h2 : xs.length = 200
          case pos =>
            have HX := Lib.hid (show tkB ws xs y = false by rw [HTB.out, h2]; rfl); have HN := Lib.hid (show tkN ws xs y = false by rw [HTN.out, h2]; rfl)
            have h2' : ((xs.length : Int) == 200) = true := by simpa using (by omega : (xs.length : Int) = 200)
            clear h2 HTB HTN
            have fr_ := Xr.out.fro
            go_wp2
            obtain ⟨hk, bf⟩ := Xr.out.stored [.slice A0 ws.length c0, .slice (some a) xs.length c2] 0
            rw [setA_all (by rfl)] at bf
            change bodyPost _ _ _ _ _ (Rp.setN w5 (w.heap.size + 1 + 1) 0 [.slice A0 ws.length c0, .slice (some a) xs.length c2])
            clear fr_ ct_0 ct_1 cc_0 cc_1 cc_2 cc_3 cr_0 cr_1
            have HK := Lib.hid hk; clear hk
            generalize Rp.setN w5 (w.heap.size + 1 + 1) 0 [.slice A0 ws.length c0, .slice (some a) xs.length c2] = wf at *
            have df0 := bf.cell 0 (v := .slice A0 ws.length c0) rfl; have df1 := bf.cell 1 (v := .slice (some a) xs.length c2) rfl
            refine bodyPost_ret (v := .tuple #[.agg #[.slice A0 ws.length c0, .slice (some a) xs.length c2], .bool false]) (by simp [results, Try.results92, go_sem, df0, df1]) rfl (STakeP.no HX.out HN.out G1.out (HC.out.trans (HK.out.toBelow HC.out.size (by simp; omega))))
          case neg =>
            have HX := Lib.hid (show tkB ws xs y = true by rw [HTB.out]; simpa using h2)
            have HXX := Lib.hid (show tkX ws xs y = xs.take k ++ y :: xs.drop k by rw [tkX, if_pos (by rw [HTN.out]; simpa using h2), HBI.out])
            have h2' : ((xs.length : Int) == 200) = false := by simp; omega
            clear h2 HTB HTN
            have hkc : k ≤ c2 := by have := hcap.1; omega
            have j1 : (0 : Int) ≤ (k : Int) := by omega
            have j2 : (k : Int) ≤ (xs.length : Int) := by omega
            have j3 : (k : Int) ≤ (c2 : Int) := by omega
            go_upto_region 12 with (at_builtin; go_loud (refine wp_append (d := kChunk) rfl _ _ 31 46 rfl Try.underlying31 infoChunk rfl (by decide) rfl (by decide) kChunk_flat (xs := []) (ys := xs.take k) rfl rfl (Rp.Row_nil _ _ _) (Rp.S_take (Rp.S_below G1.out HC.out) k (by omega)) (by simp; omega) ?_; intro va wa r1 r2 r3 r4; clear r4; obtain ⟨P1, C1, e1, _, _⟩ := Rp.Row_K r1; rw [show (([] : List DChunk) ++ xs.take k).length = k by simp; omega] at e1; subst e1; have hz1 := r2.size; have Xt := Lib.hid (Xt.out.kept r2 (by simp)); have Xc := Lib.hid (Xc.out.kept r2 (by simp)); have Xr := Lib.hid (Xr.out.kept r2 (by simp)); have HC := Lib.hid (HC.out.trans (r2.toBelow HC.out.size (by simp))); have R1 := Lib.hid (show kChunk.Row 46 wa (Rp.ofOwn (.slice P1 k C1)) (xs.take k) (.slice P1 k C1) from r1); have T1 := Lib.hid (fun b h => (by rcases r3 b h with h | h; cases h; omega) : ∀ b ∈ Rp.ofOwn (.slice P1 k C1), w.heap.size + 3 ≤ b); replace hsz := Nat.le_trans hsz hz1; clear r1 r2 r3 hz1 ct_0 ct_1 cc_0 cc_1 cc_2 cc_3 cr_0 cr_1; have ct_0 := Xt.out.cell 0 (v := .slice A0 ws.length c0) rfl; have ct_1 := Xt.out.cell 1 (v := .slice (some a) xs.length c2) rfl; have cc_0 := Xc.out.cell 0 (v := .int .i64 y.fFile) rfl; have cc_1 := Xc.out.cell 1 (v := .int .i64 y.fAt) rfl; have cc_2 := Xc.out.cell 2 (v := .string y.fData) rfl; have cc_3 := Xc.out.cell 3 (v := .int .u32 y.fSum) rfl; have cr_0 := Xr.out.cell 0 (v := .slice none 0 0) rfl; have cr_1 := Xr.out.cell 1 (v := .slice none 0 0) rfl))
            go_upto_region 13 with (at_builtin; go_loud (refine wp_append (d := kChunk) rfl _ _ 31 46 rfl Try.underlying31 infoChunk rfl (by decide) rfl (by decide) kChunk_flat (xs := xs.take k) (ys := [y]) rfl rfl (Rp.Row_below R1.out ((Below.refl _ _).alloc (Nat.le_refl _) _)) (Rp.S_one (Box.new (by simp)) (kChunk_mkK _ y)) (by simp; omega) ?_; intro va wa r1 r2 r3 r4; clear r4; obtain ⟨P2, C2, e1, _, _⟩ := Rp.Row_K r1; rw [show (xs.take k ++ [y] : List DChunk).length = k + 1 by simp; omega] at e1; subst e1; have hz1 := r2.size; simp at hz1; have Xt := Lib.hid ((Box.alloc Xt.out).kept r2 (fun h => by have := T1.out _ h; omega)); have Xc := Lib.hid ((Box.alloc Xc.out).kept r2 (fun h => by have := T1.out _ h; omega)); have Xr := Lib.hid ((Box.alloc Xr.out).kept r2 (fun h => by have := T1.out _ h; omega)); have HC := Lib.hid ((HC.out.alloc HC.out.size _).trans (r2.toBelow (by have := HC.out.size; simp; omega) (fun b h => by have := T1.out b h; omega))); have R2 := Lib.hid r1; have T2 := Lib.hid (fun b h => (by rcases r3 b h with h | h; exact T1.out b h; simp at h; omega) : ∀ b ∈ Rp.ofOwn (.slice P2 (k + 1) C2), w.heap.size + 3 ≤ b); replace hsz := Nat.le_trans hsz (Nat.le_of_lt (Nat.lt_of_succ_le hz1)); clear r1 r2 r3 hz1 R1 T1 ct_0 ct_1 cc_0 cc_1 cc_2 cc_3 cr_0 cr_1; have ct_0 := Xt.out.cell 0 (v := .slice A0 ws.length c0) rfl; have ct_1 := Xt.out.cell 1 (v := .slice (some a) xs.length c2) rfl; have cc_0 := Xc.out.cell 0 (v := .int .i64 y.fFile) rfl; have cc_1 := Xc.out.cell 1 (v := .int .i64 y.fAt) rfl; have cc_2 := Xc.out.cell 2 (v := .string y.fData) rfl; have cc_3 := Xc.out.cell 3 (v := .int .u32 y.fSum) rfl; have cr_0 := Xr.out.cell 0 (v := .slice none 0 0) rfl; have cr_1 := Xr.out.cell 1 (v := .slice none 0 0) rfl))
            by_cases hz : c2 = k
            case pos =>
              obtain rfl := hz.symm
              have hlk : xs.length = k := by have := hcap.1; omega
              have SC := Lib.hid (show kChunk.S w (xs.drop k) (.slice (some a) (xs.length - k) (k - k)) by have h := Rp.S_cut G1.out 4 rfl k (xs.length - k) (by omega) rfl (.inr ⟨rfl, rfl⟩) rfl; rw [List.take_of_length_le (by simp)] at h; exact h)
              rw [show xs.length - k = 0 by omega, show k - k = 0 by omega] at SC
              have h00 : xs.length - k = 0 := by omega
              have HLK := Lib.hid hlk; clear hlk
              go_upto_region 14 with (at_builtin; go_loud (refine wp_append (d := kChunk) rfl _ _ 31 46 rfl Try.underlying31 infoChunk rfl (by decide) rfl (by decide) kChunk_flat (xs := xs.take k ++ [y]) (ys := xs.drop k) rfl rfl R2.out (Rp.S_below SC.out HC.out) (by simp; omega) ?_; intro va wa r1 r2 r3 r4; clear r4; obtain ⟨P3, C3, e1, _, _⟩ := Rp.Row_K r1; rw [show (xs.take k ++ [y] ++ xs.drop k : List DChunk).length = xs.length + 1 by simp; omega] at e1; subst e1; have hz1 := r2.size; have Xt := Lib.hid (Xt.out.kept r2 (fun h => by have := T2.out _ h; omega)); have Xc := Lib.hid (Xc.out.kept r2 (fun h => by have := T2.out _ h; omega)); have Xr := Lib.hid (Xr.out.kept r2 (fun h => by have := T2.out _ h; omega)); have HC := Lib.hid (HC.out.trans (r2.toBelow HC.out.size (fun b h => by have := T2.out b h; omega))); have R3 := Lib.hid r1; have T3 := Lib.hid (fun b h => (by rcases r3 b h with h | h; exact T2.out b h; omega) : ∀ b ∈ Rp.ofOwn (.slice P3 (xs.length + 1) C3), w.heap.size + 3 ≤ b); replace hsz := Nat.le_trans hsz hz1; clear r1 r2 r3 hz1 R2 T2 ct_0 ct_1 cc_0 cc_1 cc_2 cc_3 cr_0 cr_1; have ct_0 := Xt.out.cell 0 (v := .slice A0 ws.length c0) rfl; have ct_1 := Xt.out.cell 1 (v := .slice (some a) xs.length k) rfl; have cc_0 := Xc.out.cell 0 (v := .int .i64 y.fFile) rfl; have cc_1 := Xc.out.cell 1 (v := .int .i64 y.fAt) rfl; have cc_2 := Xc.out.cell 2 (v := .string y.fData) rfl; have cc_3 := Xc.out.cell 3 (v := .int .u32 y.fSum) rfl; have cr_0 := Xr.out.cell 0 (v := .slice none 0 0) rfl; have cr_1 := Xr.out.cell 1 (v := .slice none 0 0) rfl; have ft := Xt.out.fro))
              have hk := kept_set wa (w.heap.size) 1 (.slice P3 (xs.length + 1) C3)
              have R3 := Lib.hid (Row_ne R3.out hk (fun h => by have h_0 := T3.out _ h; omega))
              have Xc := Lib.hid (Xc.out.set_other (a := ⟨w.heap.size, 1, none⟩) (.slice P3 (xs.length + 1) C3) (by first | (simp; done) | (simp; omega)))
              have Xr := Lib.hid (Xr.out.set_other (a := ⟨w.heap.size, 1, none⟩) (.slice P3 (xs.length + 1) C3) (by first | (simp; done) | (simp; omega)))
              have Xt := Lib.hid (show Box (wa.setCell ⟨w.heap.size, 1, none⟩ (.slice P3 (xs.length + 1) C3)) (w.heap.size) #[.slice A0 ws.length c0, .slice P3 (xs.length + 1) C3] 33 from Xt.out.set 1 (.slice P3 (xs.length + 1) C3))
              have HC := Lib.hid (HC.out.setCell (p := ⟨w.heap.size, 1, none⟩) (by first | (simp; done) | (simp; omega)) (.slice P3 (xs.length + 1) C3))
              replace hsz := Nat.le_trans hsz hk.size
              clear hk ct_0 ct_1 cc_0 cc_1 cc_2 cc_3 cr_0 cr_1
              generalize wa.setCell ⟨w.heap.size, 1, none⟩ (.slice P3 (xs.length + 1) C3) = wb at *
              have ct_0 := Xt.out.cell 0 (v := .slice A0 ws.length c0) rfl; have ct_1 := Xt.out.cell 1 (v := .slice P3 (xs.length + 1) C3) rfl; have cc_0 := Xc.out.cell 0 (v := .int .i64 y.fFile) rfl; have cc_1 := Xc.out.cell 1 (v := .int .i64 y.fAt) rfl; have cc_2 := Xc.out.cell 2 (v := .string y.fData) rfl; have cc_3 := Xc.out.cell 3 (v := .int .u32 y.fSum) rfl; have cr_0 := Xr.out.cell 0 (v := .slice none 0 0) rfl; have cr_1 := Xr.out.cell 1 (v := .slice none 0 0) rfl
              have fr_ := Xr.out.fro
              go_wp2
              obtain ⟨hk, bf⟩ := Xr.out.stored [.slice A0 ws.length c0, .slice P3 (xs.length + 1) C3] 0
              rw [setA_all (by rfl)] at bf
              have q3 := Row_ne R3.out hk (fun h => by have h_0 := T3.out _ h; omega)
              change bodyPost _ _ _ _ _ (Rp.setN wb (w.heap.size + 1 + 1) 0 [.slice A0 ws.length c0, .slice P3 (xs.length + 1) C3])
              clear fr_ ct_0 ct_1 cc_0 cc_1 cc_2 cc_3 cr_0 cr_1
              have HK := Lib.hid hk; clear hk
              generalize Rp.setN wb (w.heap.size + 1 + 1) 0 [.slice A0 ws.length c0, .slice P3 (xs.length + 1) C3] = wf at *
              have df0 := bf.cell 0 (v := .slice A0 ws.length c0) rfl; have df1 := bf.cell 1 (v := .slice P3 (xs.length + 1) C3) rfl
              refine bodyPost_ret (v := .tuple #[.agg #[.slice A0 ws.length c0, .slice P3 (xs.length + 1) C3], .bool true]) (by simp [results, Try.results92, go_sem, df0, df1]) rfl ⟨_, by rw [HX.out], by rw [HXX.out]; have h := Rp.Row_S q3; rw [List.append_assoc, List.singleton_append] at h; exact h, (HC.out.trans (HK.out.toBelow HC.out.size (by simp; omega))), .inr ⟨_, by rw [HXX.out]; have h := q3; rw [List.append_assoc, List.singleton_append] at h; exact h, fun b h => (by have := T3.out b h; omega), ofOwn_nodup _⟩⟩
            case neg =>
              have SC := Lib.hid (show kChunk.S w (xs.drop k) (.slice ((some a).map (fun x => x.add (k * 4))) (xs.length - k) (c2 - k)) by have h := Rp.S_cut G1.out 4 rfl k (xs.length - k) (by omega) rfl (.inl rfl) rfl; rw [List.take_of_length_le (by simp)] at h; exact h)
              go_upto_region 14 with (at_builtin; go_loud (refine wp_append (d := kChunk) rfl _ _ 31 46 rfl Try.underlying31 infoChunk rfl (by decide) rfl (by decide) kChunk_flat (xs := xs.take k ++ [y]) (ys := xs.drop k) rfl rfl R2.out (Rp.S_below SC.out HC.out) (by simp; omega) ?_; intro va wa r1 r2 r3 r4; clear r4; obtain ⟨P3, C3, e1, _, _⟩ := Rp.Row_K r1; rw [show (xs.take k ++ [y] ++ xs.drop k : List DChunk).length = xs.length + 1 by simp; omega] at e1; subst e1; have hz1 := r2.size; have Xt := Lib.hid (Xt.out.kept r2 (fun h => by have := T2.out _ h; omega)); have Xc := Lib.hid (Xc.out.kept r2 (fun h => by have := T2.out _ h; omega)); have Xr := Lib.hid (Xr.out.kept r2 (fun h => by have := T2.out _ h; omega)); have HC := Lib.hid (HC.out.trans (r2.toBelow HC.out.size (fun b h => by have := T2.out b h; omega))); have R3 := Lib.hid r1; have T3 := Lib.hid (fun b h => (by rcases r3 b h with h | h; exact T2.out b h; omega) : ∀ b ∈ Rp.ofOwn (.slice P3 (xs.length + 1) C3), w.heap.size + 3 ≤ b); replace hsz := Nat.le_trans hsz hz1; clear r1 r2 r3 hz1 R2 T2 ct_0 ct_1 cc_0 cc_1 cc_2 cc_3 cr_0 cr_1; have ct_0 := Xt.out.cell 0 (v := .slice A0 ws.length c0) rfl; have ct_1 := Xt.out.cell 1 (v := .slice (some a) xs.length c2) rfl; have cc_0 := Xc.out.cell 0 (v := .int .i64 y.fFile) rfl; have cc_1 := Xc.out.cell 1 (v := .int .i64 y.fAt) rfl; have cc_2 := Xc.out.cell 2 (v := .string y.fData) rfl; have cc_3 := Xc.out.cell 3 (v := .int .u32 y.fSum) rfl; have cr_0 := Xr.out.cell 0 (v := .slice none 0 0) rfl; have cr_1 := Xr.out.cell 1 (v := .slice none 0 0) rfl; have ft := Xt.out.fro))
              have hk := kept_set wa (w.heap.size) 1 (.slice P3 (xs.length + 1) C3)
              have R3 := Lib.hid (Row_ne R3.out hk (fun h => by have h_0 := T3.out _ h; omega))
              have Xc := Lib.hid (Xc.out.set_other (a := ⟨w.heap.size, 1, none⟩) (.slice P3 (xs.length + 1) C3) (by first | (simp; done) | (simp; omega)))
              have Xr := Lib.hid (Xr.out.set_other (a := ⟨w.heap.size, 1, none⟩) (.slice P3 (xs.length + 1) C3) (by first | (simp; done) | (simp; omega)))
              have Xt := Lib.hid (show Box (wa.setCell ⟨w.heap.size, 1, none⟩ (.slice P3 (xs.length + 1) C3)) (w.heap.size) #[.slice A0 ws.length c0, .slice P3 (xs.length + 1) C3] 33 from Xt.out.set 1 (.slice P3 (xs.length + 1) C3))
              have HC := Lib.hid (HC.out.setCell (p := ⟨w.heap.size, 1, none⟩) (by first | (simp; done) | (simp; omega)) (.slice P3 (xs.length + 1) C3))
              replace hsz := Nat.le_trans hsz hk.size
              clear hk ct_0 ct_1 cc_0 cc_1 cc_2 cc_3 cr_0 cr_1
              generalize wa.setCell ⟨w.heap.size, 1, none⟩ (.slice P3 (xs.length + 1) C3) = wb at *
              have ct_0 := Xt.out.cell 0 (v := .slice A0 ws.length c0) rfl; have ct_1 := Xt.out.cell 1 (v := .slice P3 (xs.length + 1) C3) rfl; have cc_0 := Xc.out.cell 0 (v := .int .i64 y.fFile) rfl; have cc_1 := Xc.out.cell 1 (v := .int .i64 y.fAt) rfl; have cc_2 := Xc.out.cell 2 (v := .string y.fData) rfl; have cc_3 := Xc.out.cell 3 (v := .int .u32 y.fSum) rfl; have cr_0 := Xr.out.cell 0 (v := .slice none 0 0) rfl; have cr_1 := Xr.out.cell 1 (v := .slice none 0 0) rfl
              have fr_ := Xr.out.fro
              go_wp2
              obtain ⟨hk, bf⟩ := Xr.out.stored [.slice A0 ws.length c0, .slice P3 (xs.length + 1) C3] 0
              rw [setA_all (by rfl)] at bf
              have q3 := Row_ne R3.out hk (fun h => by have h_0 := T3.out _ h; omega)
              change bodyPost _ _ _ _ _ (Rp.setN wb (w.heap.size + 1 + 1) 0 [.slice A0 ws.length c0, .slice P3 (xs.length + 1) C3])
              clear fr_ ct_0 ct_1 cc_0 cc_1 cc_2 cc_3 cr_0 cr_1
              have HK := Lib.hid hk; clear hk
              generalize Rp.setN wb (w.heap.size + 1 + 1) 0 [.slice A0 ws.length c0, .slice P3 (xs.length + 1) C3] = wf at *
              have df0 := bf.cell 0 (v := .slice A0 ws.length c0) rfl; have df1 := bf.cell 1 (v := .slice P3 (xs.length + 1) C3) rfl
              refine bodyPost_ret (v := .tuple #[.agg #[.slice A0 ws.length c0, .slice P3 (xs.length + 1) C3], .bool true]) (by simp [results, Try.results92, go_sem, df0, df1]) rfl ⟨_, by rw [HX.out], by rw [HXX.out]; have h := Rp.Row_S q3; rw [List.append_assoc, List.singleton_append] at h; exact h, (HC.out.trans (HK.out.toBelow HC.out.size (by simp; omega))), .inr ⟨_, by rw [HXX.out]; have h := q3; rw [List.append_assoc, List.singleton_append] at h; exact h, fun b h => (by have := T3.out b h; omega), ofOwn_nodup _⟩⟩
end Go.Proofs.Ytioelmhikablcaa
