/- Finished files: both functions. -/
import Derived.Test.YtioelmhikablcaaFiA
import Derived.StillTailTactics
namespace Go.Proofs.Ytioelmhikablcaa
open Go Go.RowKit Go.Sort
set_option linter.unusedVariables false
set_option linter.unusedSimpArgs false

theorem good_size {ws : List DWanted} {z : DChunk} (h : chGood ws z = true) : z.fData.size ≤ 64 := by
  rw [chGood, Bool.and_eq_true, Bool.and_eq_true, Bool.and_eq_true, Bool.and_eq_true, inR_iff, inR_iff, decide_eq_true_eq, decide_eq_true_eq] at h
  omega
theorem fin_no {ws : List DWanted} {fs : List ByteArray} {n k : Nat} (hk : k < n) (h : finSumOk ws fs (k + 1) = false) : finSumOk ws fs n = false := by
  induction n with
  | zero => omega
  | succ n ih =>
    by_cases e : k = n
    · subst e; exact h
    · rw [finSumOk, ih (by omega)]; rfl
def finP (ws : List DWanted) (xs : List DChunk) : Bool := decide ((misA ws xs ws.length).length = 0) && finSumOk ws (finG ws.length xs xs.length) ws.length
def finR (ws : List DWanted) (xs : List DChunk) : List ByteArray := if finP ws xs then finG ws.length xs xs.length else []
def finOk (ws : List DWanted) (xs : List DChunk) : Bool := tkOk ws xs && finP ws xs
def finV (ws : List DWanted) (xs : List DChunk) : List ByteArray := if finOk ws xs then finG ws.length xs xs.length else []
set_option maxHeartbeats 4000000 in
set_option maxRecDepth 100000 in
theorem sFin_calls (ws : List DWanted) (xs : List DChunk) (v0 v1 : Value) (w : World) (g0 : kWanted.S w ws v0) (g1 : kChunk.S w xs v1) (hw : ws.length ≤ 12 ∧ ∀ m ∈ ws, wantB m = false) (hx : xs.length ≤ 200) (ho : Ord xs) (hgd : ∀ z ∈ xs, chGood ws z = true) :
    Calls Try.prog 81 #[.agg #[v0, v1]] w fun e w' => ∃ v, e = .returned (.tuple #[v, .bool (finP ws xs)]) ∧ MadeR kTxt 9 (finR ws xs) w w' v := by
  have G0 := Lib.hid g0
  have G1 := Lib.hid g1
  obtain ⟨A0, c0, rfl, hc, h⟩ := g0
  have H := Lib.hid h; clear h
  obtain ⟨A2, c2, rfl, hcc, h⟩ := g1
  have H2 := Lib.hid h; clear h
  go_enter Try.func81, Try.ntmps81
  go_upto_region 1 with fail
  have HC := Lib.hid ((Below.refl w.heap.size w).alloc (Nat.le_refl _) (.cells #[.slice A0 ws.length c0, .slice A2 xs.length c2] 33))
  have X := Lib.hid (show Box (w.alloc (.cells #[.slice A0 ws.length c0, .slice A2 xs.length c2] 33)) w.heap.size #[.slice A0 ws.length c0, .slice A2 xs.length c2] 33 from Box.new rfl)
  generalize w.alloc (.cells #[.slice A0 ws.length c0, .slice A2 xs.length c2] 33) = w1 at *
  have x0 := X.out.cell 0 (v := .slice A0 ws.length c0) rfl; have x1 := X.out.cell 1 (v := .slice A2 xs.length c2) rfl
  go_wp2_with fail
  (with_reducible refine (sMiss_calls ws xs _ _ _ (Rp.S_below G0.out HC.out) (Rp.S_below G1.out HC.out) hw hx ho hgd).mono ?_)
  rintro e w2 ⟨vv, rfl, F, r1, r2, r3, hb⟩
  obtain ⟨P, C, rfl, hcp, _⟩ := Rp.Row_K r1
  have HC := Lib.hid (HC.out.trans (hb.mono HC.out.size)); have X := Lib.hid (X.out.below hb)
  clear x0 x1 hb r1 r2 r3
  have x0 := X.out.cell 0 (v := .slice A0 ws.length c0) rfl; have x1 := X.out.cell 1 (v := .slice A2 xs.length c2) rfl
  have hml := misA_len ws xs hw.2 ws.length
  have hw1 := hw.1
  cases hp0 : decide ((misA ws xs ws.length).length = 0)
  case false =>
    have hm : 0 < (misA ws xs ws.length).length := by have := of_decide_eq_false hp0; omega
    have HFP := Lib.hid (show finP ws xs = false by rw [finP, hp0]; rfl)
    clear hp0
    generalize (misA ws xs ws.length).length = ml at *
    go_wp2
    go_ret2
    exact ⟨_, by rw [HFP.out]; rfl, by rw [finR, HFP.out]; exact MadeR.nil _ _ HC.out⟩
  case true =>
    have hm : (misA ws xs ws.length).length = 0 := of_decide_eq_true hp0
    have hfp : finP ws xs = finSumOk ws (finG ws.length xs xs.length) ws.length := by rw [finP, hp0]; rfl
    rw [hm] at *
    have HFP := Lib.hid hfp; clear hfp hp0 hml hcp hm

    obtain ⟨w0, hmk, hR, hB, hlt0⟩ := mk_full w2 27 9 kTxt ⟨#[]⟩ Try.underlying27 infoTxt rfl (fun w => ⟨rfl, rfl⟩) ws.length (by omega) (by decide)
    have HR := Lib.hid hR; clear hR
    have HN := HC.out.size
    have HC0 := Lib.hid (HC.out.trans (hB.mono HC.out.size)); have X0 := Lib.hid (X.out.below hB)
    clear hB hlt0
    have y0 := X0.out.cell 0 (v := .slice A0 ws.length c0) rfl; have y1 := X0.out.cell 1 (v := .slice A2 xs.length c2) rfl
    go_wp2
    clear hmk x0 x1 y0 y1
    go_loopw [20] (fun i wr => ∃ k : Nat, k ≤ xs.length ∧ i = .int .i64 k ∧ (∃ F, Hid (kTxt.Row 9 wr F (finG ws.length xs k) (.slice (some ⟨w2.heap.size, 0, none⟩) ws.length ws.length)) ∧ Hid (F.Nodup ∧ ∀ b ∈ F, w2.heap.size ≤ b)) ∧ Hid (Below w.heap.size w wr) ∧ Hid (Box wr w.heap.size #[.slice A0 ws.length c0, .slice A2 xs.length c2] 33) ∧ Hid (w.heap.size < w2.heap.size)) (fun i _ => xs.length - (intOf i).toNat)
    case atStart => exact ⟨0, Nat.zero_le _, rfl, ⟨_, HR.out, by simp [Hid]⟩, HC0.out, X0.out, X.out.lt⟩
    case round =>
      clear HR HC0 X0
      obtain ⟨k, hk, rfl, ⟨F, HR, HF⟩, HB, HX, HL⟩ := hrel
      by_cases hlt : k < xs.length
      · obtain ⟨b, o, cs, rfl, k1, q1⟩ := Rp.C_get H2.out k hlt
        obtain rfl := kChunk_K k1
        have hz := good_at (hgd _ (List.getElem_mem hlt))
        have hd := good_size (hgd _ (List.getElem_mem hlt))
        have hs1 := finG_succ (n := ws.length) hlt
        have hsz := finG_size ws.length xs (fun z h => good_size (hgd z h)) k (xs[k].fFile.toNat)
        have hk2 : (xs[k].fFile).toNat < (finG ws.length xs k).length := by rw [finG_len]; omega
        have hgl := finG_len ws.length xs k
        generalize xs[k] = z at *
        have HS1 := Lib.hid hs1; clear hs1
        obtain ⟨j1, j2, _, _, _⟩ := hz
        have a0 := (World.cell?_of_block (HB.out.block b (World.block_lt_of_cell? w _ (q1 0 _ rfl)))).trans (q1 0 _ rfl)
        have a1 := (World.cell?_of_block (HB.out.block b (World.block_lt_of_cell? w _ (q1 1 _ rfl)))).trans (q1 1 _ rfl)
        have a2 := (World.cell?_of_block (HB.out.block b (World.block_lt_of_cell? w _ (q1 2 _ rfl)))).trans (q1 2 _ rfl)
        have a3 := (World.cell?_of_block (HB.out.block b (World.block_lt_of_cell? w _ (q1 3 _ rfl)))).trans (q1 3 _ rfl)
        simp only [kChunk_sz, Nat.add_zero] at a0 a1 a2 a3
        clear q1 k1
        have i1 : (0 : Int) ≤ (k : Int) := by omega
        have i2 : (k : Int) < (xs.length : Int) := by omega
        go_upto_region 7 with fail
        have hb6 := (Below.refl wr.heap.size wr).alloc (Nat.le_refl _) (.cells #[.int .i64 z.fFile, .int .i64 z.fAt, .string z.fData, .int .u32 z.fSum] 46)
        have B6 : Box (wr.alloc (.cells #[.int .i64 z.fFile, .int .i64 z.fAt, .string z.fData, .int .u32 z.fSum] 46)) wr.heap.size #[.int .i64 z.fFile, .int .i64 z.fAt, .string z.fData, .int .u32 z.fSum] 46 := Box.new rfl
        generalize wr.alloc (.cells #[.int .i64 z.fFile, .int .i64 z.fAt, .string z.fData, .int .u32 z.fSum] 46) = w6 at *
        have HR6 := Lib.hid (Rp.Row_below HR.out hb6)
        have HB6 := Lib.hid (HB.out.trans (hb6.mono HB.out.size)); have HX6 := Lib.hid (HX.out.below hb6)
        clear hb6 HR HB HX a0 a1 a2 a3
        generalize hm : z.fFile.toNat = m at *
        have hmi : z.fFile = (m : Int) := by omega
        have l1 : m < ws.length := by omega
        obtain ⟨g, cap, cz, F1, q0, hgF, hgl2, q2, _, _, q3, q4⟩ := Rp.Row_open HR6.out HF.out.1 m hk2
        obtain ⟨rfl, rfl⟩ := q2
        obtain rfl : w2.heap.size = g := by simp at q0; exact q0.1
        have z0 : w6.cell? ⟨w2.heap.size, m, none⟩ = some (.string (finG ws.length xs k)[m]) := by have := q3 0 _ rfl; simpa [Rp.str, Rp.scalar] using this
        have yy0 : w6.frozen? ⟨w2.heap.size, m, none⟩ = false := q4 _
        have hgd2 : (finG ws.length xs k).getD m ⟨#[]⟩ = (finG ws.length xs k)[m] := by rw [List.getD, List.getElem?_eq_getElem hk2]; rfl
        rw [hgd2] at hsz
        have hs2 := HS1.out
        rw [hgd2] at hs2
        have HP := Rp.Row_put HR6.out HF.out.1 m hk2 ((finG ws.length xs k)[m] ++ z.fData) [.string ((finG ws.length xs k)[m] ++ z.fData)] [] ⟨rfl, rfl⟩ (by simp) (by simp)
        rw [← hs2] at HP
        have HP := Lib.hid HP
        clear HS1 hs2 hgd2 q0 q3 q4 hgF hgl2 HR6
        generalize (finG ws.length xs k)[m] = s0 at *
        have b60 := B6.cell 0 (v := .int .i64 z.fFile) rfl; rw [hmi] at b60; have b62 := B6.cell 2 (v := .string z.fData) rfl
        have B6l := B6.lt
        clear B6 hm hmi
        have hja : ¬ 9223372036854775807 < s0.size + z.fData.size := by omega
        have u1 : (0 : Int) ≤ (m : Int) := by omega
        have u2 : (m : Int) < (ws.length : Int) := by omega
        go_still_tail 9, (by kernel_rfl)
        change wpList _ _ _ _ _ w6.drew
        go_wp2
        obtain ⟨F', p1, p2, p3, p4⟩ := HP.out
        have e1 : Rp.setN w6 w2.heap.size (m * (kTxt).sz) [.string (s0 ++ z.fData)] = w6.setCell ⟨w2.heap.size, m, none⟩ (.string (s0 ++ z.fData)) := by simp [Rp.setN, Rp.str, Rp.scalar]
        rw [e1] at p1
        exact ⟨⟨k + 1, by omega, by go_num, ⟨F', Rp.Row_below p1 (Below.refl _ _).drew, p2, fun b hb => HF.out.2 b (by simpa using p3 b hb)⟩, (HB6.out.setCell (by have := HL.out; simp; omega) _).drew, Box.drew (HX6.out.set_other _ (by have := HL.out; simp; omega)), HL.out⟩, by simp [intOf]; omega⟩
      · obtain rfl : k = xs.length := by omega
        have y0 := HX.out.cell 0 (v := .slice A0 ws.length c0) rfl
        have HR0 := Lib.hid HR.out; have HB0 := Lib.hid HB.out
        go_wp2
        clear y0 HR HB HX
        have hfl := finG_len ws.length xs xs.length
        have hfz := finG_size ws.length xs (fun z h => good_size (hgd z h)) xs.length
        generalize hfs : finG ws.length xs xs.length = fs at *
        have HFS := Lib.hid hfs; clear hfs
        have HFZ := Lib.hid hfz; clear hfz
        go_loopw [37] (fun i wq => ∃ k : Nat, k ≤ ws.length ∧ i = .int .i64 k ∧ Hid (finSumOk ws fs k = true) ∧ Hid (kTxt.Row 9 wq F fs (.slice (some ⟨w2.heap.size, 0, none⟩) ws.length ws.length)) ∧ Hid (Below w.heap.size w wq)) (fun i _ => ws.length - (intOf i).toNat)
        case atStart => exact ⟨0, Nat.zero_le _, rfl, rfl, HR0.out, HB0.out⟩
        case round =>
          clear HR0 HB0
          rename World => wq
          obtain ⟨k, hk, rfl, HS, HR, HB⟩ := hrel
          by_cases hlt : k < ws.length
          · obtain ⟨b, o, cs, rfl, k1, q1⟩ := Rp.C_get H.out k hlt
            obtain rfl := kWanted_K k1
            have hgw : ws.getD k ⟨0, 0⟩ = ws[k] := by rw [List.getD, List.getElem?_eq_getElem hlt]; rfl
            have hk2 : k < fs.length := by omega
            have hgf : fs.getD k ⟨#[]⟩ = fs[k] := by rw [List.getD, List.getElem?_eq_getElem hk2]; rfl
            have hz := HFZ.out k
            rw [hgf] at hz
            have hst : finSumOk ws fs (k + 1) = (finSumOk ws fs k && decide (sumT fs[k] = ws[k].fSum)) := by rw [finSumOk, hgf, hgw]
            have a0 := (World.cell?_of_block (HB.out.block b (World.block_lt_of_cell? w _ (q1 0 _ rfl)))).trans (q1 0 _ rfl)
            have a1 := (World.cell?_of_block (HB.out.block b (World.block_lt_of_cell? w _ (q1 1 _ rfl)))).trans (q1 1 _ rfl)
            simp only [kWanted_sz, Nat.add_zero] at a0 a1
            obtain ⟨g, cap, cz, F1, q0, hgF, hgl2, q2, _, _, q3, q4⟩ := Rp.Row_open HR.out HF.out.1 k hk2
            obtain ⟨rfl, rfl⟩ := q2
            obtain rfl : w2.heap.size = g := by simp at q0; exact q0.1
            have z0 : wq.cell? ⟨w2.heap.size, k, none⟩ = some (.string fs[k]) := by have := q3 0 _ rfl; simpa [Rp.str, Rp.scalar] using this
            generalize ws[k] = z at *
            generalize fs[k] = s0 at *
            rw [HS.out, Bool.true_and] at hst
            have HST := Lib.hid hst; clear hst hgw hgf q0 q3 q4 hgF k1 q1
            have i1 : (0 : Int) ≤ (k : Int) := by omega
            have i2 : (k : Int) < (ws.length : Int) := by omega
            go_upto_region 12 with fail
            have hb6 := (Below.refl wq.heap.size wq).alloc (Nat.le_refl _) (.cells #[.int .i64 z.fSize, .int .u32 z.fSum] 136)
            have B6 : Box (wq.alloc (.cells #[.int .i64 z.fSize, .int .u32 z.fSum] 136)) wq.heap.size #[.int .i64 z.fSize, .int .u32 z.fSum] 136 := Box.new rfl
            have z6 := (World.cell?_of_block (hb6.block _ hgl2)).trans z0
            generalize wq.alloc (.cells #[.int .i64 z.fSize, .int .u32 z.fSum] 136) = w6 at *
            have HR6 := Lib.hid (Rp.Row_below HR.out hb6)
            have HB6 := Lib.hid (HB.out.trans (hb6.mono HB.out.size))
            clear hb6 HR HB a0 a1 z0
            have r0 := regr (Below.refl _ _) (World.block_lt_of_cell? w6 _ z6) z6
            have r1 := regr (Below.refl _ _) B6.lt (B6.cell 1 (v := .int .u32 z.fSum) rfl)
            clear z6 B6
            have c_s : ∀ W : World, Calls Try.prog 167 #[.string s0] W (fun e w' => e = .returned (.int .u32 (sumT s0)) ∧ Below W.heap.size W w') := fun W => sSum_calls s0 W (by omega)
            generalize sumT s0 = q at *
            cases hq : (q != z.fSum)
            all_goals
              refine wp_region_quiet_below (by kernel_rfl) (by kernel_rfl) ?_
              repeat (go_big_quiet_step (with_reducible exact Calls.regrown_of (c_s _)))
              refine wpQuiet_nil ?_
              rintro w9 ⟨p, rfl⟩
              have hb := below_regrown w6 p.d p.os
              have HB9 := Lib.hid (HB6.out.trans (hb.mono HB6.out.size))
              have HR9 := Lib.hid (Rp.Row_below HR6.out hb)
              clear hb r0 r1
              generalize grow (redrawn w6 p.d) p.os = w9 at *
            · have hqe : q = z.fSum := by simpa using hq
              go_wp2
              exact ⟨⟨k + 1, by omega, by go_num, by rw [Hid, HST.out, hqe]; simp, HR9.out, HB9.out⟩, by simp [intOf]; omega⟩
            · have hqe : ¬ q = z.fSum := by simpa using hq
              have HN2 := Lib.hid (show finP ws xs = false by
                rw [HFP.out]; (try rw [HFS.out])
                refine fin_no hlt ?_
                rw [HST.out]
                exact decide_eq_false hqe)
              clear hqe HFP
              go_wp2
              go_ret2
              exact ⟨_, by rw [HN2.out]; rfl, by rw [finR, HN2.out]; exact MadeR.nil _ _ HB9.out⟩
          · obtain rfl : k = ws.length := by omega
            have HN2 := Lib.hid (show finP ws xs = true by rw [HFP.out]; (try rw [HFS.out]); exact HS.out)
            clear HFP
            go_wp2
            go_ret2
            exact ⟨_, by rw [HN2.out]; rfl, by rw [finR, HN2.out, if_pos rfl, HFS.out]; exact ⟨F, HR.out, fun b hb => by have := HF.out.2 b hb; have := HL.out; omega, HF.out.1, HB.out⟩⟩
set_option maxHeartbeats 4000000 in
set_option maxRecDepth 100000 in
theorem sFinT_calls (ws : List DWanted) (xs : List DChunk) (v0 v1 : Value) (w : World) (g0 : kWanted.S w ws v0) (g1 : kChunk.S w xs v1) (hl : ws.length ≤ 1048576 ∧ xs.length ≤ 1048576) : Calls Try.prog 14 #[.agg #[v0, v1]] w
    fun e w' => ∃ v, e = .returned (.tuple #[v, .bool (finOk ws xs)]) ∧ MadeR kTxt 9 (finV ws xs) w w' v := by
  have G0 := Lib.hid g0
  have G1 := Lib.hid g1
  obtain ⟨A0, c0, rfl, _, _⟩ := g0
  obtain ⟨A2, c2, rfl, _, _⟩ := g1
  go_enter Try.func14, Try.ntmps14
  go_upto_region 1 with fail
  have HC := Lib.hid ((Below.refl w.heap.size w).alloc (Nat.le_refl _) (.cells #[.slice A0 ws.length c0, .slice A2 xs.length c2] 33))
  have X := Lib.hid (show Box (w.alloc (.cells #[.slice A0 ws.length c0, .slice A2 xs.length c2] 33)) w.heap.size #[.slice A0 ws.length c0, .slice A2 xs.length c2] 33 from Box.new rfl)
  generalize w.alloc (.cells #[.slice A0 ws.length c0, .slice A2 xs.length c2] 33) = w1 at *
  have x0 := X.out.cell 0 (v := .slice A0 ws.length c0) rfl; have x1 := X.out.cell 1 (v := .slice A2 xs.length c2) rfl
  go_wp2_with fail
  (with_reducible refine (sGoodT_calls ws xs _ _ _ (Rp.S_below G0.out HC.out) (Rp.S_below G1.out HC.out) hl).mono ?_)
  rintro e w2 ⟨rfl, hb⟩
  have HC := Lib.hid (HC.out.trans (hb.mono HC.out.size)); have X := Lib.hid (X.out.below hb)
  clear x0 x1 hb
  cases hg : tkOk ws xs
  case false =>
    go_wp2
    go_ret2
    exact ⟨_, by rw [finOk, hg]; rfl, by rw [finV, finOk, hg]; exact MadeR.nil _ _ HC.out⟩
  case true =>
    obtain ⟨q1, q2, q3, q4⟩ := tk_open hg
    have x0 := X.out.cell 0 (v := .slice A0 ws.length c0) rfl; have x1 := X.out.cell 1 (v := .slice A2 xs.length c2) rfl
    go_wp2_with fail
    (with_reducible refine (sFin_calls ws xs _ _ _ (Rp.S_below G0.out HC.out) (Rp.S_below G1.out HC.out) q1 q2 q3 q4).mono ?_)
    rintro e w3 ⟨vv, rfl, F, r1, r2, r3, hb⟩
    have R1 := Lib.hid r1; have R2 := Lib.hid r2; have R3 := Lib.hid r3; have HB2 := Lib.hid hb
    clear r1 r2 r3 hb x0 x1
    go_wp2
    go_ret2
    exact ⟨_, by rw [finOk, hg, Bool.true_and]; rfl, by rw [finV, finOk, hg]; exact ⟨F, R1.out, fun b h => Nat.le_trans HC.out.size (R2.out b h), R3.out, HC.out.trans (HB2.out.mono HC.out.size)⟩⟩
set_option maxHeartbeats 4000000 in
set_option maxRecDepth 100000 in
theorem iFinT_calls (ws : List DWanted) (xs : List DChunk) (v0 v1 : Value) (w : World) (g0 : kWanted.S w ws v0) (g1 : kChunk.S w xs v1) (hl : ws.length ≤ 1048576 ∧ xs.length ≤ 1048576) : Calls Try.prog 16 #[.agg #[v0, v1]] w
    fun e w' => ∃ v, e = .returned (.tuple #[v, .bool (finOk ws xs)]) ∧ MadeR kTxt 9 (finV ws xs) w w' v := by
  have G0 := Lib.hid g0
  have G1 := Lib.hid g1
  obtain ⟨A0, c0, rfl, hc, h⟩ := g0
  have H := Lib.hid h; clear h
  obtain ⟨A2, c2, rfl, hcc, h⟩ := g1
  have H2 := Lib.hid h; clear h
  go_enter Try.func16, Try.ntmps16
  go_upto_region 1 with fail
  have HC := Lib.hid ((Below.refl w.heap.size w).alloc (Nat.le_refl _) (.cells #[.slice A0 ws.length c0, .slice A2 xs.length c2] 33))
  have X := Lib.hid (show Box (w.alloc (.cells #[.slice A0 ws.length c0, .slice A2 xs.length c2] 33)) w.heap.size #[.slice A0 ws.length c0, .slice A2 xs.length c2] 33 from Box.new rfl)
  generalize w.alloc (.cells #[.slice A0 ws.length c0, .slice A2 xs.length c2] 33) = w1 at *
  have x0 := X.out.cell 0 (v := .slice A0 ws.length c0) rfl; have x1 := X.out.cell 1 (v := .slice A2 xs.length c2) rfl
  go_wp2_with fail
  (with_reducible refine (iGoodT_calls ws xs _ _ _ (Rp.S_below G0.out HC.out) (Rp.S_below G1.out HC.out) hl).mono ?_)
  rintro e wg ⟨rfl, hb⟩
  have HC := Lib.hid (HC.out.trans (hb.mono HC.out.size)); have X := Lib.hid (X.out.below hb)
  clear x0 x1 hb
  cases hg : tkOk ws xs
  case false =>
    go_wp2
    go_ret2
    exact ⟨_, by rw [finOk, hg]; rfl, by rw [finV, finOk, hg]; exact MadeR.nil _ _ HC.out⟩
  case true =>
  obtain ⟨hw, hx, ho, hgd⟩ := tk_open hg
  have HG := Lib.hid hg; clear hg
  have x0 := X.out.cell 0 (v := .slice A0 ws.length c0) rfl; have x1 := X.out.cell 1 (v := .slice A2 xs.length c2) rfl
  go_wp2_with fail
  (with_reducible refine (iMiss_calls ws xs w.heap.size _ _ _ X.out (Rp.S_below G0.out HC.out) (Rp.S_below G1.out HC.out) hw hx ho).mono ?_)
  rintro e w2 ⟨vv, rfl, F, r1, r2, r3, hb⟩
  obtain ⟨P, C, rfl, hcp, _⟩ := Rp.Row_K r1
  have HC := Lib.hid (HC.out.trans (hb.mono HC.out.size)); have X := Lib.hid (X.out.below hb)
  clear x0 x1 hb r1 r2 r3
  have x0 := X.out.cell 0 (v := .slice A0 ws.length c0) rfl; have x1 := X.out.cell 1 (v := .slice A2 xs.length c2) rfl
  have hml := misA_len ws xs hw.2 ws.length
  have hw1 := hw.1
  cases hp0 : decide ((misA ws xs ws.length).length = 0)
  case false =>
    have hm : 0 < (misA ws xs ws.length).length := by have := of_decide_eq_false hp0; omega
    have HFP := Lib.hid (show finP ws xs = false by rw [finP, hp0]; rfl)
    clear hp0
    generalize (misA ws xs ws.length).length = ml at *
    go_wp2
    go_ret2
    exact ⟨_, by rw [finOk, HFP.out, Bool.and_false]; rfl, by rw [finV, finOk, HFP.out, Bool.and_false]; exact MadeR.nil _ _ HC.out⟩
  case true =>
    have hm : (misA ws xs ws.length).length = 0 := of_decide_eq_true hp0
    have hfp : finP ws xs = finSumOk ws (finG ws.length xs xs.length) ws.length := by rw [finP, hp0]; rfl
    rw [hm] at *
    have HFP := Lib.hid hfp; clear hfp hp0 hml hcp hm

    obtain ⟨w0, hmk, hR, hB, hlt0⟩ := mk_full w2 27 9 kTxt ⟨#[]⟩ Try.underlying27 infoTxt rfl (fun w => ⟨rfl, rfl⟩) ws.length (by omega) (by decide)
    have HR := Lib.hid hR; clear hR
    have HN := HC.out.size
    have HC0 := Lib.hid (HC.out.trans (hB.mono HC.out.size)); have X0 := Lib.hid (X.out.below hB)
    clear hB hlt0
    have y0 := X0.out.cell 0 (v := .slice A0 ws.length c0) rfl; have y1 := X0.out.cell 1 (v := .slice A2 xs.length c2) rfl
    go_wp2
    clear hmk x0 x1 y0 y1
    go_loopw [24] (fun i wr => ∃ k : Nat, k ≤ xs.length ∧ i = .int .i64 k ∧ (∃ F, Hid (kTxt.Row 9 wr F (finG ws.length xs k) (.slice (some ⟨w2.heap.size, 0, none⟩) ws.length ws.length)) ∧ Hid (F.Nodup ∧ ∀ b ∈ F, w2.heap.size ≤ b)) ∧ Hid (Below w.heap.size w wr) ∧ Hid (Box wr w.heap.size #[.slice A0 ws.length c0, .slice A2 xs.length c2] 33) ∧ Hid (w.heap.size < w2.heap.size)) (fun i _ => xs.length - (intOf i).toNat)
    case atStart => exact ⟨0, Nat.zero_le _, rfl, ⟨_, HR.out, by simp [Hid]⟩, HC0.out, X0.out, X.out.lt⟩
    case round =>
      clear HR HC0 X0
      obtain ⟨k, hk, rfl, ⟨F, HR, HF⟩, HB, HX, HL⟩ := hrel
      by_cases hlt : k < xs.length
      · obtain ⟨b, o, cs, rfl, k1, q1⟩ := Rp.C_get H2.out k hlt
        obtain rfl := kChunk_K k1
        have hz := good_at (hgd _ (List.getElem_mem hlt))
        have hd := good_size (hgd _ (List.getElem_mem hlt))
        have hs1 := finG_succ (n := ws.length) hlt
        have hsz := finG_size ws.length xs (fun z h => good_size (hgd z h)) k (xs[k].fFile.toNat)
        have hk2 : (xs[k].fFile).toNat < (finG ws.length xs k).length := by rw [finG_len]; omega
        have hgl := finG_len ws.length xs k
        generalize xs[k] = z at *
        have HS1 := Lib.hid hs1; clear hs1
        obtain ⟨j1, j2, _, _, _⟩ := hz
        have a0 := (World.cell?_of_block (HB.out.block b (World.block_lt_of_cell? w _ (q1 0 _ rfl)))).trans (q1 0 _ rfl)
        have a1 := (World.cell?_of_block (HB.out.block b (World.block_lt_of_cell? w _ (q1 1 _ rfl)))).trans (q1 1 _ rfl)
        have a2 := (World.cell?_of_block (HB.out.block b (World.block_lt_of_cell? w _ (q1 2 _ rfl)))).trans (q1 2 _ rfl)
        have a3 := (World.cell?_of_block (HB.out.block b (World.block_lt_of_cell? w _ (q1 3 _ rfl)))).trans (q1 3 _ rfl)
        simp only [kChunk_sz, Nat.add_zero] at a0 a1 a2 a3
        clear q1 k1
        have i1 : (0 : Int) ≤ (k : Int) := by omega
        have i2 : (k : Int) < (xs.length : Int) := by omega
        go_upto_region 7 with fail
        have hb6 := (Below.refl wr.heap.size wr).alloc (Nat.le_refl _) (.cells #[.int .i64 z.fFile, .int .i64 z.fAt, .string z.fData, .int .u32 z.fSum] 46)
        have B6 : Box (wr.alloc (.cells #[.int .i64 z.fFile, .int .i64 z.fAt, .string z.fData, .int .u32 z.fSum] 46)) wr.heap.size #[.int .i64 z.fFile, .int .i64 z.fAt, .string z.fData, .int .u32 z.fSum] 46 := Box.new rfl
        generalize wr.alloc (.cells #[.int .i64 z.fFile, .int .i64 z.fAt, .string z.fData, .int .u32 z.fSum] 46) = w6 at *
        have HR6 := Lib.hid (Rp.Row_below HR.out hb6)
        have HB6 := Lib.hid (HB.out.trans (hb6.mono HB.out.size)); have HX6 := Lib.hid (HX.out.below hb6)
        clear hb6 HR HB HX a0 a1 a2 a3
        generalize hm : z.fFile.toNat = m at *
        have hmi : z.fFile = (m : Int) := by omega
        have l1 : m < ws.length := by omega
        obtain ⟨g, cap, cz, F1, q0, hgF, hgl2, q2, _, _, q3, q4⟩ := Rp.Row_open HR6.out HF.out.1 m hk2
        obtain ⟨rfl, rfl⟩ := q2
        obtain rfl : w2.heap.size = g := by simp at q0; exact q0.1
        have z0 : w6.cell? ⟨w2.heap.size, m, none⟩ = some (.string (finG ws.length xs k)[m]) := by have := q3 0 _ rfl; simpa [Rp.str, Rp.scalar] using this
        have yy0 : w6.frozen? ⟨w2.heap.size, m, none⟩ = false := q4 _
        have hgd2 : (finG ws.length xs k).getD m ⟨#[]⟩ = (finG ws.length xs k)[m] := by rw [List.getD, List.getElem?_eq_getElem hk2]; rfl
        rw [hgd2] at hsz
        have hs2 := HS1.out
        rw [hgd2] at hs2
        have HP := Rp.Row_put HR6.out HF.out.1 m hk2 ((finG ws.length xs k)[m] ++ z.fData) [.string ((finG ws.length xs k)[m] ++ z.fData)] [] ⟨rfl, rfl⟩ (by simp) (by simp)
        rw [← hs2] at HP
        have HP := Lib.hid HP
        clear HS1 hs2 hgd2 q0 q3 q4 hgF hgl2 HR6
        generalize (finG ws.length xs k)[m] = s0 at *
        have b60 := B6.cell 0 (v := .int .i64 z.fFile) rfl; rw [hmi] at b60; have b62 := B6.cell 2 (v := .string z.fData) rfl
        have B6l := B6.lt
        clear B6 hm hmi
        have hja : ¬ 9223372036854775807 < s0.size + z.fData.size := by omega
        have u1 : (0 : Int) ≤ (m : Int) := by omega
        have u2 : (m : Int) < (ws.length : Int) := by omega
        go_still_tail 9, (by kernel_rfl)
        change wpList _ _ _ _ _ w6.drew
        go_wp2
        obtain ⟨F', p1, p2, p3, p4⟩ := HP.out
        have e1 : Rp.setN w6 w2.heap.size (m * (kTxt).sz) [.string (s0 ++ z.fData)] = w6.setCell ⟨w2.heap.size, m, none⟩ (.string (s0 ++ z.fData)) := by simp [Rp.setN, Rp.str, Rp.scalar]
        rw [e1] at p1
        exact ⟨⟨k + 1, by omega, by go_num, ⟨F', Rp.Row_below p1 (Below.refl _ _).drew, p2, fun b hb => HF.out.2 b (by simpa using p3 b hb)⟩, (HB6.out.setCell (by have := HL.out; simp; omega) _).drew, Box.drew (HX6.out.set_other _ (by have := HL.out; simp; omega)), HL.out⟩, by simp [intOf]; omega⟩
      · obtain rfl : k = xs.length := by omega
        have y0 := HX.out.cell 0 (v := .slice A0 ws.length c0) rfl
        have HR0 := Lib.hid HR.out; have HB0 := Lib.hid HB.out
        go_wp2
        clear y0 HR HB HX
        have hfl := finG_len ws.length xs xs.length
        have hfz := finG_size ws.length xs (fun z h => good_size (hgd z h)) xs.length
        generalize hfs : finG ws.length xs xs.length = fs at *
        have HFS := Lib.hid hfs; clear hfs
        have HFZ := Lib.hid hfz; clear hfz
        go_loopw [41] (fun i wq => ∃ k : Nat, k ≤ ws.length ∧ i = .int .i64 k ∧ Hid (finSumOk ws fs k = true) ∧ Hid (kTxt.Row 9 wq F fs (.slice (some ⟨w2.heap.size, 0, none⟩) ws.length ws.length)) ∧ Hid (Below w.heap.size w wq)) (fun i _ => ws.length - (intOf i).toNat)
        case atStart => exact ⟨0, Nat.zero_le _, rfl, rfl, HR0.out, HB0.out⟩
        case round =>
          clear HR0 HB0
          rename World => wq
          obtain ⟨k, hk, rfl, HS, HR, HB⟩ := hrel
          by_cases hlt : k < ws.length
          · obtain ⟨b, o, cs, rfl, k1, q1⟩ := Rp.C_get H.out k hlt
            obtain rfl := kWanted_K k1
            have hgw : ws.getD k ⟨0, 0⟩ = ws[k] := by rw [List.getD, List.getElem?_eq_getElem hlt]; rfl
            have hk2 : k < fs.length := by omega
            have hgf : fs.getD k ⟨#[]⟩ = fs[k] := by rw [List.getD, List.getElem?_eq_getElem hk2]; rfl
            have hz := HFZ.out k
            rw [hgf] at hz
            have hst : finSumOk ws fs (k + 1) = (finSumOk ws fs k && decide (sumT fs[k] = ws[k].fSum)) := by rw [finSumOk, hgf, hgw]
            have a0 := (World.cell?_of_block (HB.out.block b (World.block_lt_of_cell? w _ (q1 0 _ rfl)))).trans (q1 0 _ rfl)
            have a1 := (World.cell?_of_block (HB.out.block b (World.block_lt_of_cell? w _ (q1 1 _ rfl)))).trans (q1 1 _ rfl)
            simp only [kWanted_sz, Nat.add_zero] at a0 a1
            obtain ⟨g, cap, cz, F1, q0, hgF, hgl2, q2, _, _, q3, q4⟩ := Rp.Row_open HR.out HF.out.1 k hk2
            obtain ⟨rfl, rfl⟩ := q2
            obtain rfl : w2.heap.size = g := by simp at q0; exact q0.1
            have z0 : wq.cell? ⟨w2.heap.size, k, none⟩ = some (.string fs[k]) := by have := q3 0 _ rfl; simpa [Rp.str, Rp.scalar] using this
            generalize ws[k] = z at *
            generalize fs[k] = s0 at *
            rw [HS.out, Bool.true_and] at hst
            have HST := Lib.hid hst; clear hst hgw hgf q0 q3 q4 hgF k1 q1
            have i1 : (0 : Int) ≤ (k : Int) := by omega
            have i2 : (k : Int) < (ws.length : Int) := by omega
            go_upto_region 12 with fail
            have hb6 := (Below.refl wq.heap.size wq).alloc (Nat.le_refl _) (.cells #[.int .i64 z.fSize, .int .u32 z.fSum] 136)
            have B6 : Box (wq.alloc (.cells #[.int .i64 z.fSize, .int .u32 z.fSum] 136)) wq.heap.size #[.int .i64 z.fSize, .int .u32 z.fSum] 136 := Box.new rfl
            have z6 := (World.cell?_of_block (hb6.block _ hgl2)).trans z0
            generalize wq.alloc (.cells #[.int .i64 z.fSize, .int .u32 z.fSum] 136) = w6 at *
            have HR6 := Lib.hid (Rp.Row_below HR.out hb6)
            have HB6 := Lib.hid (HB.out.trans (hb6.mono HB.out.size))
            clear hb6 HR HB a0 a1 z0
            have r0 := regr (Below.refl _ _) (World.block_lt_of_cell? w6 _ z6) z6
            have r1 := regr (Below.refl _ _) B6.lt (B6.cell 1 (v := .int .u32 z.fSum) rfl)
            clear z6 B6
            have c_s : ∀ W : World, Calls Try.prog 86 #[.string s0] W (fun e w' => e = .returned (.int .u32 (sumT s0)) ∧ Below W.heap.size W w') := fun W => iSum_calls s0 W (by omega)
            generalize sumT s0 = q at *
            cases hq : (q != z.fSum)
            all_goals
              refine wp_region_quiet_below (by kernel_rfl) (by kernel_rfl) ?_
              repeat (go_big_quiet_step (with_reducible exact Calls.regrown_of (c_s _)))
              refine wpQuiet_nil ?_
              rintro w9 ⟨p, rfl⟩
              have hb := below_regrown w6 p.d p.os
              have HB9 := Lib.hid (HB6.out.trans (hb.mono HB6.out.size))
              have HR9 := Lib.hid (Rp.Row_below HR6.out hb)
              clear hb r0 r1
              generalize grow (redrawn w6 p.d) p.os = w9 at *
            · have hqe : q = z.fSum := by simpa using hq
              go_wp2
              exact ⟨⟨k + 1, by omega, by go_num, by rw [Hid, HST.out, hqe]; simp, HR9.out, HB9.out⟩, by simp [intOf]; omega⟩
            · have hqe : ¬ q = z.fSum := by simpa using hq
              have HN2 := Lib.hid (show finP ws xs = false by
                rw [HFP.out]; (try rw [HFS.out])
                refine fin_no hlt ?_
                rw [HST.out]
                exact decide_eq_false hqe)
              clear hqe HFP
              go_wp2
              go_ret2
              exact ⟨_, by rw [finOk, HG.out, Bool.true_and, HN2.out]; rfl, by rw [finV, finOk, HN2.out, Bool.and_false]; exact MadeR.nil _ _ HB9.out⟩
          · obtain rfl : k = ws.length := by omega
            have HN2 := Lib.hid (show finP ws xs = true by rw [HFP.out]; (try rw [HFS.out]); exact HS.out)
            clear HFP
            go_wp2
            go_ret2
            exact ⟨_, by rw [finOk, HG.out, Bool.true_and, HN2.out]; rfl, by rw [finV, finOk, HG.out, Bool.true_and, HN2.out, if_pos rfl, HFS.out]; exact ⟨F, HR.out, fun b hb => by have := HF.out.2 b hb; have := HL.out; omega, HF.out.1, HB.out⟩⟩
theorem finV_sm {x : DTaking} {n : Nat} (h : smTaking n x) : smStringS n (finV x.fWant x.fGot) := by
  unfold finV smStringS
  split
  · rw [finG_len]; exact h.1
  · exact Nat.zero_le _
theorem iFinishTaking_k {x : DTaking} {c0 : List Value} {w : World} (k0 : kTaking.K w x c0) (h0 : wfTaking x) (s0 : smTaking 1048576 x) : Calls Try.prog 16 #[.agg c0.toArray] w
    fun e w' => ∃ v F, e = .returned (.tuple #[v, .bool (finOk x.fWant x.fGot)]) ∧ kStringS.M w' F (finV x.fWant x.fGot) [v] ∧ (∀ b ∈ F, w.heap.size ≤ b) ∧ F.Nodup ∧ Below w.heap.size w w' := by
  obtain ⟨v0, v1, rfl, g0, g1⟩ := kTaking_read k0
  refine (iFinT_calls x.fWant x.fGot v0 v1 w g0 g1 s0).mono ?_
  rintro e w' ⟨v, rfl, F, h1, h2, h3, h4⟩
  exact ⟨v, F, rfl, kStringS_make h1, h2, h3, h4⟩
theorem sFinishTaking_k {x : DTaking} {c0 : List Value} {w : World} (k0 : kTaking.K w x c0) (h0 : wfTaking x) (s0 : smTaking 1048576 x) : Calls Try.prog 14 #[.agg c0.toArray] w
    fun e w' => ∃ v F, e = .returned (.tuple #[v, .bool (finOk x.fWant x.fGot)]) ∧ kStringS.M w' F (finV x.fWant x.fGot) [v] ∧ (∀ b ∈ F, w.heap.size ≤ b) ∧ F.Nodup ∧ Below w.heap.size w w' := by
  obtain ⟨v0, v1, rfl, g0, g1⟩ := kTaking_read k0
  refine (sFinT_calls x.fWant x.fGot v0 v1 w g0 g1 s0).mono ?_
  rintro e w' ⟨v, rfl, F, h1, h2, h3, h4⟩
  exact ⟨v, F, rfl, kStringS_make h1, h2, h3, h4⟩
end Go.Proofs.Ytioelmhikablcaa
