/- Playing pieces: the specification. -/
import Derived.Test.YtioelmhikablcaaPlC
namespace Go.Proofs.Ytioelmhikablcaa
open Go Go.RowKit Go.Sort
set_option linter.unusedVariables false
set_option linter.unusedSimpArgs false

theorem fbT_eq (c f : Int) (h : 0 ≤ f) : fbT c f = bits .xor .u8 c (2 ^ (f % 8).toNat % 256) := by
  rw [fbT, Int.tmod_eq_emod_of_nonneg h]
  rfl
theorem tkX_no {ws : List DWanted} {xs : List DChunk} {y : DChunk} (h : tkB ws xs y = false) : tkX ws xs y = xs := by
  have hN : tkN ws xs y = false := by
    rw [tkB] at h
    rw [tkN]
    cases h1 : chGood ws y
    · rfl
    · cases h2 : memC xs y.fFile y.fAt
      · rw [h1, h2] at h; simpa using h
      · rfl
  rw [tkX, hN]; rfl
set_option maxHeartbeats 4000000 in
set_option maxRecDepth 100000 in
theorem sPlay_calls (fs : List ByteArray) (od fl : List Int) (v0 v1 v2 : Value) (w : World) (g0 : kTxt.S w fs v0) (g1 : kInt.S w od v1) (g2 : kInt.S w fl v2) (hl : fs.length ≤ 1048576) (hl1 : od.length ≤ 1048576) (hl2 : fl.length ≤ 1048576) :
    Calls Try.prog 28 #[v0, v1, v2] w fun e w' => PlayP fs od fl w e w' := by
  have G0 := Lib.hid g0; have G1 := Lib.hid g1; have G2 := Lib.hid g2
  obtain ⟨A0, c0, rfl, _, _⟩ := g0
  obtain ⟨A1, c1, rfl, _, h⟩ := g1
  have H1 := Lib.hid h; clear h
  obtain ⟨A2, c2, rfl, _, h⟩ := g2
  have H2 := Lib.hid h; clear h
  go_enter Try.func28, Try.ntmps28
  go_wp2_with fail
  (with_reducible refine (sChunksOf_calls fs _ _ G0.out hl).mono ?_)
  rintro e w1 ⟨vc, rfl, Fc, r1, r2, r3, hb⟩
  obtain ⟨Pc, Cc, rfl, _, _⟩ := Rp.Row_K r1
  have RC := Lib.hid r1; have TC := Lib.hid r2; have HC := Lib.hid hb; clear r1 r2 r3 hb
  cases hck : chOk fs
  case false =>
    have HX := Lib.hid (show plOk fs od fl = false by rw [plOk, hck]; rfl)
    go_wp2
    go_ret3
    exact ⟨_, by rw [plM, HX.out]; rfl, by rw [plV, HX.out]; exact MadeR.nil _ _ HC.out⟩
  case true =>
  have HCK := Lib.hid hck; clear hck
  by_cases h4 : od.length ≤ 400
  case neg =>
    have HX := Lib.hid (show plOk fs od fl = false by rw [plOk, decide_eq_false h4]; simp)
    have h4b : (400 : Int) < (od.length : Int) := by omega
    go_wp2
    go_ret3
    exact ⟨_, by rw [plM, HX.out]; rfl, by rw [plV, HX.out]; exact MadeR.nil _ _ HC.out⟩
  case pos =>
  have h4b : ¬ (400 : Int) < (od.length : Int) := by omega
  by_cases h5 : fl.length = od.length
  case neg =>
    have HX := Lib.hid (show plOk fs od fl = false by rw [plOk, decide_eq_false h5]; simp)
    have h5b : ((fl.length : Int) != (od.length : Int)) = true := by simp; omega
    clear h5
    go_wp2
    go_ret3
    exact ⟨_, by rw [plM, HX.out]; rfl, by rw [plV, HX.out]; exact MadeR.nil _ _ HC.out⟩
  case pos =>
  have h5b : ((fl.length : Int) != (od.length : Int)) = false := by simp; omega
  have HX := Lib.hid (show plOk fs od fl = true by rw [plOk, HCK.out, decide_eq_true h4, decide_eq_true h5]; rfl)
  have hfl : od.length ≤ fl.length := by omega
  have H5 := Lib.hid h5; clear h5
  have hfo : filesOk fs = true := by have h := HCK.out; rw [chOk, Bool.and_eq_true] at h; exact h.1
  obtain ⟨hf1, hf2⟩ := filesOk_le hfo
  have hwk := wt_ok hfo
  have hww := wantOk_le hwk
  have HWV := Lib.hid (show wantV fs = fs.map wtOf by rw [wantV, hfo]; rfl)
  have HNT := Lib.hid (show newT (fs.map wtOf) = ⟨fs.map wtOf, []⟩ by rw [newT, hwk]; rfl)
  have HFO := Lib.hid hfo; have HWK := Lib.hid hwk; clear hfo hwk
  go_wp2_with fail
  (with_reducible refine (sWantOf_calls fs _ _ (Rp.S_below G0.out HC.out) hl).mono ?_)
  rintro e w2 ⟨vw, rfl, Fw0, r1, r2, r3, hb⟩
  rw [HWV.out] at r1
  rw [HFO.out]
  obtain ⟨Pw0, Cw0, hvw, _, _⟩ := Rp.Row_K r1
  rw [List.length_map] at hvw
  subst hvw
  have RC := Lib.hid (Rp.Row_below RC.out hb); have HC := Lib.hid (HC.out.trans (hb.mono HC.out.size)); have RW0 := Lib.hid r1; clear r1 r2 r3 hb
  go_wp2_with fail
  (with_reducible refine (sNewT_calls (fs.map wtOf) _ _ (by simpa using Rp.Row_S RW0.out) (by rw [List.length_map]; exact hl)).mono ?_)
  rintro e w2 ⟨vt, rfl, cs, Ft, rfl, m1, m2, m3, hb⟩
  rw [HNT.out] at m1
  obtain ⟨vw, vg0, Fw, Fg0, rfl, rfl, r0, rg0⟩ := kTaking_open m1
  have r0 : kWanted.Row 136 w2 Fw (fs.map wtOf) vw := r0
  have rg0 : kChunk.Row 46 w2 Fg0 [] vg0 := rg0
  obtain ⟨Pw, Cw, hvw, _, _⟩ := Rp.Row_K r0
  rw [List.length_map] at hvw
  subst hvw
  obtain ⟨Pg0, Cg0, hvg, _, _⟩ := Rp.Row_K rg0
  subst hvg
  have RC := Lib.hid (Rp.Row_below RC.out hb); have HC := Lib.hid (HC.out.trans (hb.mono HC.out.size)); have RW := Lib.hid r0; have RG := Lib.hid rg0; have NG := Lib.hid (List.nodup_append.1 m3).2.1; clear r0 rg0 m1 m2 m3 hb RW0
  go_upto_region 7 with fail
  have LC := Lib.hid (Rp.Row_lt RC.out); have LW := Lib.hid (Rp.Row_lt RW.out); have LG := Lib.hid (Rp.Row_lt RG.out)
  have RC := Lib.hid (Rp.Row_below RC.out ((Below.refl w2.heap.size w2).alloc (Nat.le_refl _) (.cells #[.slice Pw fs.length Cw, .slice Pg0 0 Cg0] 33))); have RW := Lib.hid (Rp.Row_below RW.out ((Below.refl w2.heap.size w2).alloc (Nat.le_refl _) (.cells #[.slice Pw fs.length Cw, .slice Pg0 0 Cg0] 33))); have RG := Lib.hid (Rp.Row_below RG.out ((Below.refl w2.heap.size w2).alloc (Nat.le_refl _) (.cells #[.slice Pw fs.length Cw, .slice Pg0 0 Cg0] 33))); have hws := HC.out.size; have HC := Lib.hid (HC.out.trans (((Below.refl w2.heap.size w2).alloc (Nat.le_refl _) (.cells #[.slice Pw fs.length Cw, .slice Pg0 0 Cg0] 33)).mono HC.out.size))
  have XT := Lib.hid (show Box (w2.alloc (.cells #[.slice Pw fs.length Cw, .slice Pg0 0 Cg0] 33)) w2.heap.size #[.slice Pw fs.length Cw, .slice Pg0 0 Cg0] 33 from Box.new rfl)
  generalize w2.alloc (.cells #[.slice Pw fs.length Cw, .slice Pg0 0 Cg0] 33) = w3 at *
  generalize w2.heap.size = NB at *
  have hc2 := chV_len (fs := fs); have hcz := chV_size (fs := fs)
  have hpl := plS_inv (fs.map wtOf) (chV fs) od fl
  have HPX := Lib.hid (show ∀ i, i = od.length → plX fs od fl = (plS (fs.map wtOf) (chV fs) od fl i).1 from fun i h => by rw [h]; rfl)
  have HPM := Lib.hid (show ∀ i, i = od.length → plM fs od fl = (plS (fs.map wtOf) (chV fs) od fl i).2 from fun i h => by rw [h, plM, HX.out]; rfl)
  have HPV := Lib.hid (show plV fs od fl = finR (fs.map wtOf) (plX fs od fl) by rw [plV, HX.out]; rfl)
  have HPL := Lib.hid hpl; have HCZ := Lib.hid hcz; clear hpl hcz
  go_wp2
  go_loopw [15, 56] (fun m n wr => ∃ i : Nat, i ≤ od.length ∧ n = .int .i64 i ∧ m = .int .i64 (plS (fs.map wtOf) (chV fs) od fl i).2 ∧ ∃ (Pg : Option Addr) (ng Cg : Nat) (Fg : List Nat), Hid (Box wr NB #[.slice Pw fs.length Cw, .slice Pg ng Cg] 33) ∧ Hid (kChunk.Row 46 wr Fg (plS (fs.map wtOf) (chV fs) od fl i).1 (.slice Pg ng Cg)) ∧ Hid (Fg.Nodup ∧ NB ∉ Fg) ∧ Hid (kWanted.Row 136 wr Fw (fs.map wtOf) (.slice Pw fs.length Cw)) ∧ Hid (kChunk.Row 46 wr Fc (chV fs) (.slice Pc (chV fs).length Cc)) ∧ Hid (Below w.heap.size w wr)) (fun _ n _ => od.length - (intOf n).toNat)
  case atStart => exact ⟨0, Nat.zero_le _, rfl, rfl, _, _, _, Fg0, XT.out, RG.out, ⟨NG.out, fun h => by have := LG.out _ h; omega⟩, RW.out, RC.out, HC.out⟩
  case round =>
    clear XT RG RW RC HC NG
    obtain ⟨i, hi, rfl, rfl, Pg, ng, Cg, Fg, XT, RG, FG, RW, RC, HC⟩ := hrel
    have hpli := HPL.out i
    by_cases hlt : i < od.length
    case pos =>
      obtain ⟨bo, oo, rfl, ao⟩ := int_at H1.out HC.out i hlt
      have hls : ∀ b, inR od[i] 0 (((chV fs).length : Int) - 1) = b → b = false → plS (fs.map wtOf) (chV fs) od fl (i + 1) = plS (fs.map wtOf) (chV fs) od fl i := fun b h1 h2 => by rw [plS, show od.getD i 0 = od[i] by rw [List.getD, List.getElem?_eq_getElem hlt]; rfl, h1, h2]; rfl
      have hly : ∀ (n : Nat) (hn : n < (chV fs).length) (hnn : od[i] = (n : Int)) (f : Int) (hf : fl.getD i 0 = f), inR od[i] 0 (((chV fs).length : Int) - 1) = true → plS (fs.map wtOf) (chV fs) od fl (i + 1) = (tkX (fs.map wtOf) (plS (fs.map wtOf) (chV fs) od fl i).1 ⟨(chV fs)[n].fFile, (chV fs)[n].fAt, flT (chV fs)[n].fData f, (chV fs)[n].fSum⟩, (plS (fs.map wtOf) (chV fs) od fl i).2 + if tkB (fs.map wtOf) (plS (fs.map wtOf) (chV fs) od fl i).1 ⟨(chV fs)[n].fFile, (chV fs)[n].fAt, flT (chV fs)[n].fData f, (chV fs)[n].fSum⟩ then 1 else 0) := fun n hn hnn f hf h1 => by rw [plS, show od.getD i 0 = od[i] by rw [List.getD, List.getElem?_eq_getElem hlt]; rfl, h1, hf, hnn, Int.toNat_natCast, show (chV fs).getD n zC = (chV fs)[n] by rw [List.getD, List.getElem?_eq_getElem hn]; rfl]; rfl
      have HLS := Lib.hid hls; have HLY := Lib.hid hly; clear hls hly
      have hfli : i < fl.length := by omega
      have hfge : fl.getD i 0 = fl[i] := by rw [List.getD, List.getElem?_eq_getElem hfli]; rfl
      obtain ⟨bf, of_, rfl, af⟩ := int_at H2.out HC.out i hfli
      generalize plS (fs.map wtOf) (chV fs) od fl i = st at *
      obtain ⟨xs, many⟩ := st
      obtain ⟨hinv, hm0, hm1⟩ := hpli
      simp only at hm0 hm1 hinv
      have HINV := Lib.hid hinv
      obtain ⟨hv1, hv2, hv3⟩ := hinv
      generalize hod : od[i] = n at *
      generalize hfl_ : fl[i] = f at *
      have HFG := Lib.hid hfge; have HOD := Lib.hid hod; have HFL := Lib.hid hfl_; clear hod hfl_ hfge
      have i1 : (0 : Int) ≤ (i : Int) := by omega
      have i2 : (i : Int) < (od.length : Int) := by omega
      have i3 : (i : Int) < (fl.length : Int) := by omega
      cases hin : inR n 0 (((chV fs).length : Int) - 1)
      case false =>
        have hs1 := HLS.out _ hin rfl
        have HS1 := Lib.hid hs1; have HIN := Lib.hid hin; clear hs1 hin HLS HLY
        go_wp2_with ((with_reducible refine (sInR_calls _ _ _ _).mono ?_); rintro e wq ⟨rfl, hw⟩; rw [HIN.out, hw]; clear hw)
        exact ⟨⟨i + 1, by omega, by go_num, by rw [HS1.out], Pg, ng, Cg, Fg, XT.out, by rw [HS1.out]; exact RG.out, FG.out, RW.out, RC.out, HC.out⟩, by simp [intOf]; omega⟩
      case true =>
        obtain ⟨n0, n1⟩ := inR_iff.1 hin
        obtain ⟨k, rfl⟩ : ∃ k : Nat, n = (k : Int) := ⟨n.toNat, by omega⟩
        have hk : k < (chV fs).length := by omega
        have hs1 := HLY.out k hk rfl f HFG.out hin
        have hcz := HCZ.out _ (List.getElem_mem hk)
        have HIN := Lib.hid hin; clear hin HLS HLY
        obtain ⟨Pq, Cq, eq, _, hCC⟩ := Rp.Row_K RC.out
        simp only [Value.slice.injEq, true_and] at eq
        obtain ⟨rfl, rfl⟩ := eq
        obtain ⟨bc, oc, cs, rfl, k1, q1⟩ := Rp.C_get hCC k hk
        obtain rfl := kChunk_K k1
        generalize (chV fs)[k] = c at *
        have HS1 := Lib.hid hs1; clear hs1 hCC k1
        have a0 := q1 0 _ rfl
        have a1 := q1 1 _ rfl
        have a2 := q1 2 _ rfl
        have a3 := q1 3 _ rfl
        simp only [kChunk_sz, Nat.add_zero] at a0 a1 a2 a3
        clear q1
        have k3 : (0 : Int) ≤ (k : Int) := by omega
        have k4 : (k : Int) < ((chV fs).length : Int) := by omega
        go_upto_region 12 with ((with_reducible refine (sInR_calls _ _ _ _).mono ?_); rintro e wq ⟨rfl, hw⟩; rw [HIN.out, hw]; clear hw)
        have hb6 := (Below.refl wr.heap.size wr).alloc (Nat.le_refl _) (.cells #[.int .i64 c.fFile, .int .i64 c.fAt, .string c.fData, .int .u32 c.fSum] 46)
        have B6 := Lib.hid (show Box (wr.alloc (.cells #[.int .i64 c.fFile, .int .i64 c.fAt, .string c.fData, .int .u32 c.fSum] 46)) wr.heap.size #[.int .i64 c.fFile, .int .i64 c.fAt, .string c.fData, .int .u32 c.fSum] 46 from Box.new rfl)
        generalize wr.alloc (.cells #[.int .i64 c.fFile, .int .i64 c.fAt, .string c.fData, .int .u32 c.fSum] 46) = w6 at *
        have af2 := (World.cell?_of_block (hb6.block bf (World.block_lt_of_cell? wr _ af))).trans af
        have HB6 := Lib.hid hb6; clear a0 a1 a2 a3 hb6 af ao
        have b6l := B6.out.lt
        have z0 := B6.out.cell 0 (v := .int .i64 c.fFile) rfl; have z1 := B6.out.cell 1 (v := .int .i64 c.fAt) rfl; have z2 := B6.out.cell 2 (v := .string c.fData) rfl; have z3 := B6.out.cell 3 (v := .int .u32 c.fSum) rfl
        by_cases hfi : 0 ≤ f ∧ f ≤ 8 * (c.fData.size : Int) - 1
        case pos =>
          have hi2 : inR f 0 (8 * (c.fData.size : Int) - 1) = true := inR_iff.2 hfi
          obtain ⟨h0, h1⟩ := hfi
          obtain ⟨w7, cap, hrun, hc, hf_, hb, hsz⟩ := str_bytes w6 9 65 5 c.fData Try.underlying9 Try.underlying65 Try.underlying5
          obtain ⟨q, hq_⟩ : ∃ q : Nat, f / 8 = (q : Int) := ⟨(f / 8).toNat, by omega⟩
          have hql : q < c.fData.size := by omega
          have hcq := hc q hql
          have hfq := hf_ q hql
          have HI2 := Lib.hid hi2; have HCc := Lib.hid hc; have HBB := Lib.hid hb; have HKq := Lib.hid hq_; clear hi2 hc hf_ hb hq_
          have hq : IntKind.i64.wrap (f.tdiv 8) = (q : Int) := by rw [Int.tdiv_eq_ediv_of_nonneg h0, HKq.out]; exact IntWalk.i64_in _ (by omega)
          have hr : IntKind.i64.wrap (f.tmod 8) = f % 8 := by rw [Int.tmod_eq_emod_of_nonneg h0]; exact IntWalk.i64_in _ (by omega)
          have r1 : 0 ≤ f.tmod 8 := by rw [Int.tmod_eq_emod_of_nonneg h0]; omega
          have r2 : f.tmod 8 ≤ 8 := by rw [Int.tmod_eq_emod_of_nonneg h0]; omega
          have q3 : (0 : Int) ≤ (q : Int) := by omega
          have q4 : (q : Int) < (c.fData.size : Int) := by omega
          have B7 := Lib.hid (B6.out.below HBB.out)
          have y2 := B7.out.cell 2 (v := .string c.fData) rfl; have fy := B7.out.fro
          have HFL2 := Lib.hid (show flT c.fData f = strOfNums ((nums c.fData).set q (fbT (c.fData[q].toNat : Int) f)) by rw [flT, if_pos HI2.out, show (f / 8).toNat = q by rw [HKq.out]; rfl, nums_at c.fData q hql])
          go_upto_region 15 with ((with_reducible refine (sInR_calls _ _ _ _).mono ?_); rintro e wq ⟨rfl, hw⟩; rw [HI2.out, hw]; clear hw)
          go_upto_region 16 with fail
          rw [← fbT_eq _ f h0]
          have hb2 := bytes_back (P := Try.prog) w w7 (src := 65) (dst := 9) Try.underlying65 Try.underlying5 Try.underlying9 c.fData q cap w6.heap.size (fbT (c.fData[q].toNat : Int) f) (fun j h => HCc.out j h) hql
          rw [← HFL2.out] at hb2
          have B8 := Lib.hid (B7.out.set_other (a := ⟨w6.heap.size, q, none⟩) (.int .u8 (fbT (c.fData[q].toNat : Int) f)) (by show wr.heap.size ≠ w6.heap.size; omega))
          have HB8 := Lib.hid ((HB6.out.trans (HBB.out.mono HB6.out.size)).setCell (p := ⟨w6.heap.size, q, none⟩) HB6.out.size (.int .u8 (fbT (c.fData[q].toNat : Int) f)))
          clear hrun hcq hfq y2 fy HFL2 HCc HBB B7 B6 z0 z1 z2 z3 af2 hq hr r1 r2
          generalize w7.setCell ⟨w6.heap.size, q, none⟩ (.int .u8 (fbT (c.fData[q].toNat : Int) f)) = w8_ at *
          have y2 := B8.out.cell 2 (v := .string c.fData) rfl; have fy := B8.out.fro
          have YB := Lib.hid (show Box (w8_.setCell ⟨wr.heap.size, 2, none⟩ (.string (flT c.fData f))) wr.heap.size #[.int .i64 c.fFile, .int .i64 c.fAt, .string (flT c.fData f), .int .u32 c.fSum] 46 from B8.out.set 2 _)
          have HW := Lib.hid (HB8.out.setCell (p := ⟨wr.heap.size, 2, none⟩) (Nat.le_refl _) (.string (flT c.fData f)))
          go_upto_region 17 with fail
          clear hb2 y2 fy B8 HB8
          generalize w8_.setCell ⟨wr.heap.size, 2, none⟩ (.string (flT c.fData f)) = w7_ at *
          have XT := Lib.hid (XT.out.below HW.out); have RG := Lib.hid (Rp.Row_below RG.out HW.out); have RW := Lib.hid (Rp.Row_below RW.out HW.out); have RC := Lib.hid (Rp.Row_below RC.out HW.out); have HC := Lib.hid (HC.out.trans (HW.out.mono HC.out.size))
          have y0 := YB.out.cell 0 (v := .int .i64 c.fFile) rfl; have y1 := YB.out.cell 1 (v := .int .i64 c.fAt) rfl; have y2 := YB.out.cell 2 (v := .string (flT c.fData f)) rfl; have y3 := YB.out.cell 3 (v := .int .u32 c.fSum) rfl
          have x0 := XT.out.cell 0 (v := .slice Pw fs.length Cw) rfl; have x1 := XT.out.cell 1 (v := .slice Pg ng Cg) rfl
          clear HW YB
          go_wp2_with fail
          (with_reducible refine (sTake_calls (fs.map wtOf) xs ⟨c.fFile, c.fAt, flT c.fData f, c.fSum⟩ _ _ _ (Rp.Row_S RW.out) (Rp.Row_S RG.out) hww hv1 hv2 hv3).mono ?_)
          rintro e w8 ⟨vn, rfl, s1, hb, alt⟩
          obtain ⟨Pn, Cn, en, _, _⟩ := s1
          obtain ⟨nn, HNN⟩ : ∃ nn, Hid ((tkX (fs.map wtOf) xs ⟨c.fFile, c.fAt, flT c.fData f, c.fSum⟩).length = nn) := ⟨_, rfl⟩
          rw [HNN.out] at en
          subst en
          have hwl : NB < w7_.heap.size := XT.out.lt
          have hrow : ∃ Fn, kChunk.Row 46 w8 Fn (tkX (fs.map wtOf) xs ⟨c.fFile, c.fAt, flT c.fData f, c.fSum⟩) (.slice Pn nn Cn) ∧ Fn.Nodup ∧ NB ∉ Fn := by
            rcases alt with ⟨e1, e2⟩ | ⟨F', q1, q2, q3⟩
            · exact ⟨Fg, by rw [e2, e1]; exact Rp.Row_below RG.out hb, FG.out⟩
            · exact ⟨F', q1, q3, fun h => by have := q2 _ h; omega⟩
          obtain ⟨Fn, t1, t2, t3⟩ := hrow
          clear alt
          have XT := Lib.hid (XT.out.below hb); have RG := Lib.hid (Rp.Row_below RG.out hb); have RN := Lib.hid t1; have FN := Lib.hid (And.intro t2 t3); have RW := Lib.hid (Rp.Row_below RW.out hb); have RC := Lib.hid (Rp.Row_below RC.out hb); have HC := Lib.hid (HC.out.trans (hb.mono HC.out.size))
          clear t1 t2 t3 y0 y1 y2 y3 x0 x1 hb
          go_upto_region 18 with fail
          have h8 := XT.out.lt
          have XT := Lib.hid (XT.out.below ((Below.refl w8.heap.size w8).alloc (Nat.le_refl _) (.cells #[.slice Pw fs.length Cw, .slice Pn nn Cn] 33))); have RG := Lib.hid (Rp.Row_below RG.out ((Below.refl w8.heap.size w8).alloc (Nat.le_refl _) (.cells #[.slice Pw fs.length Cw, .slice Pn nn Cn] 33))); have RN := Lib.hid (Rp.Row_below RN.out ((Below.refl w8.heap.size w8).alloc (Nat.le_refl _) (.cells #[.slice Pw fs.length Cw, .slice Pn nn Cn] 33))); have RW := Lib.hid (Rp.Row_below RW.out ((Below.refl w8.heap.size w8).alloc (Nat.le_refl _) (.cells #[.slice Pw fs.length Cw, .slice Pn nn Cn] 33))); have RC := Lib.hid (Rp.Row_below RC.out ((Below.refl w8.heap.size w8).alloc (Nat.le_refl _) (.cells #[.slice Pw fs.length Cw, .slice Pn nn Cn] 33))); have HC := Lib.hid (HC.out.trans (((Below.refl w8.heap.size w8).alloc (Nat.le_refl _) (.cells #[.slice Pw fs.length Cw, .slice Pn nn Cn] 33)).mono HC.out.size))
          have XN := Lib.hid (show Box (w8.alloc (.cells #[.slice Pw fs.length Cw, .slice Pn nn Cn] 33)) w8.heap.size #[.slice Pw fs.length Cw, .slice Pn nn Cn] 33 from Box.new rfl)
          generalize w8.alloc (.cells #[.slice Pw fs.length Cw, .slice Pn nn Cn] 33) = w9 at *
          cases hB : tkB (fs.map wtOf) xs ⟨c.fFile, c.fAt, flT c.fData f, c.fSum⟩
          case false =>
            have HS2 := Lib.hid (show plS (fs.map wtOf) (chV fs) od fl (i + 1) = (xs, many) by rw [HS1.out, hB, tkX_no hB]; simp)
            clear hB
            go_wp2
            exact ⟨⟨i + 1, by omega, by go_num, by rw [HS2.out], Pg, ng, Cg, Fg, XT.out, by rw [HS2.out]; exact RG.out, FG.out, RW.out, RC.out, HC.out⟩, by simp [intOf]; omega⟩
          case true =>
            have HS2 := Lib.hid (show plS (fs.map wtOf) (chV fs) od fl (i + 1) = (tkX (fs.map wtOf) xs ⟨c.fFile, c.fAt, flT c.fData f, c.fSum⟩, many + 1) by rw [HS1.out, hB]; rfl)
            clear hB
            have n0_ := XN.out.cell 0 (v := .slice Pw fs.length Cw) rfl; have n1_ := XN.out.cell 1 (v := .slice Pn nn Cn) rfl
            have x0 := XT.out.cell 0 (v := .slice Pw fs.length Cw) rfl; have x1 := XT.out.cell 1 (v := .slice Pg ng Cg) rfl; have fx := XT.out.fro
            obtain ⟨hk_, hbx⟩ := XT.out.stored [.slice Pw fs.length Cw, .slice Pn nn Cn] 0
            rw [setA_all (by rfl)] at hbx
            have QX := Lib.hid hbx; have RN := Lib.hid (Rp.Row_kept RN.out hk_ (fun b hb h => FN.out.2 (by have h2 : b = NB := (by simpa using h); exact h2 ▸ hb))); have RW := Lib.hid (Rp.Row_kept RW.out hk_ (fun b hb h => by have h1 := LW.out b hb; have h2 : b = NB := (by simpa using h); omega)); have RC := Lib.hid (Rp.Row_kept RC.out hk_ (fun b hb h => by have h1 := LC.out b hb; have h2 : b = NB := (by simpa using h); omega)); have HC := Lib.hid (HC.out.trans (hk_.toBelow HC.out.size (fun b h => by have h2 : b = NB := (by simpa using h); omega)))
            clear hk_ hbx
            go_wp2
            exact ⟨⟨i + 1, by omega, by go_num, by rw [HS2.out], Pn, nn, Cn, Fn, QX.out, by rw [HS2.out]; exact RN.out, FN.out, RW.out, RC.out, HC.out⟩, by simp [intOf]; omega⟩
        case neg =>
          have hi2 : inR f 0 (8 * (c.fData.size : Int) - 1) = false := inR_no.2 hfi
          have HI2 := Lib.hid hi2; clear hi2 hfi
          go_upto_region 17 with ((with_reducible refine (sInR_calls _ _ _ _).mono ?_); rintro e wq ⟨rfl, hw⟩; rw [HI2.out, hw]; clear hw)
          have YB := Lib.hid (show Box w6 wr.heap.size #[.int .i64 c.fFile, .int .i64 c.fAt, .string (flT c.fData f), .int .u32 c.fSum] 46 by rw [show flT c.fData f = c.fData by rw [flT, HI2.out]; rfl]; exact B6.out)
          have HW := HB6; clear B6 HB6 z0 z1 z2 z3 af2
          have XT := Lib.hid (XT.out.below HW.out); have RG := Lib.hid (Rp.Row_below RG.out HW.out); have RW := Lib.hid (Rp.Row_below RW.out HW.out); have RC := Lib.hid (Rp.Row_below RC.out HW.out); have HC := Lib.hid (HC.out.trans (HW.out.mono HC.out.size))
          have y0 := YB.out.cell 0 (v := .int .i64 c.fFile) rfl; have y1 := YB.out.cell 1 (v := .int .i64 c.fAt) rfl; have y2 := YB.out.cell 2 (v := .string (flT c.fData f)) rfl; have y3 := YB.out.cell 3 (v := .int .u32 c.fSum) rfl
          have x0 := XT.out.cell 0 (v := .slice Pw fs.length Cw) rfl; have x1 := XT.out.cell 1 (v := .slice Pg ng Cg) rfl
          clear HW YB
          go_wp2_with fail
          (with_reducible refine (sTake_calls (fs.map wtOf) xs ⟨c.fFile, c.fAt, flT c.fData f, c.fSum⟩ _ _ _ (Rp.Row_S RW.out) (Rp.Row_S RG.out) hww hv1 hv2 hv3).mono ?_)
          rintro e w8 ⟨vn, rfl, s1, hb, alt⟩
          obtain ⟨Pn, Cn, en, _, _⟩ := s1
          obtain ⟨nn, HNN⟩ : ∃ nn, Hid ((tkX (fs.map wtOf) xs ⟨c.fFile, c.fAt, flT c.fData f, c.fSum⟩).length = nn) := ⟨_, rfl⟩
          rw [HNN.out] at en
          subst en
          have hwl : NB < w6.heap.size := XT.out.lt
          have hrow : ∃ Fn, kChunk.Row 46 w8 Fn (tkX (fs.map wtOf) xs ⟨c.fFile, c.fAt, flT c.fData f, c.fSum⟩) (.slice Pn nn Cn) ∧ Fn.Nodup ∧ NB ∉ Fn := by
            rcases alt with ⟨e1, e2⟩ | ⟨F', q1, q2, q3⟩
            · exact ⟨Fg, by rw [e2, e1]; exact Rp.Row_below RG.out hb, FG.out⟩
            · exact ⟨F', q1, q3, fun h => by have := q2 _ h; omega⟩
          obtain ⟨Fn, t1, t2, t3⟩ := hrow
          clear alt
          have XT := Lib.hid (XT.out.below hb); have RG := Lib.hid (Rp.Row_below RG.out hb); have RN := Lib.hid t1; have FN := Lib.hid (And.intro t2 t3); have RW := Lib.hid (Rp.Row_below RW.out hb); have RC := Lib.hid (Rp.Row_below RC.out hb); have HC := Lib.hid (HC.out.trans (hb.mono HC.out.size))
          clear t1 t2 t3 y0 y1 y2 y3 x0 x1 hb
          go_upto_region 18 with fail
          have h8 := XT.out.lt
          have XT := Lib.hid (XT.out.below ((Below.refl w8.heap.size w8).alloc (Nat.le_refl _) (.cells #[.slice Pw fs.length Cw, .slice Pn nn Cn] 33))); have RG := Lib.hid (Rp.Row_below RG.out ((Below.refl w8.heap.size w8).alloc (Nat.le_refl _) (.cells #[.slice Pw fs.length Cw, .slice Pn nn Cn] 33))); have RN := Lib.hid (Rp.Row_below RN.out ((Below.refl w8.heap.size w8).alloc (Nat.le_refl _) (.cells #[.slice Pw fs.length Cw, .slice Pn nn Cn] 33))); have RW := Lib.hid (Rp.Row_below RW.out ((Below.refl w8.heap.size w8).alloc (Nat.le_refl _) (.cells #[.slice Pw fs.length Cw, .slice Pn nn Cn] 33))); have RC := Lib.hid (Rp.Row_below RC.out ((Below.refl w8.heap.size w8).alloc (Nat.le_refl _) (.cells #[.slice Pw fs.length Cw, .slice Pn nn Cn] 33))); have HC := Lib.hid (HC.out.trans (((Below.refl w8.heap.size w8).alloc (Nat.le_refl _) (.cells #[.slice Pw fs.length Cw, .slice Pn nn Cn] 33)).mono HC.out.size))
          have XN := Lib.hid (show Box (w8.alloc (.cells #[.slice Pw fs.length Cw, .slice Pn nn Cn] 33)) w8.heap.size #[.slice Pw fs.length Cw, .slice Pn nn Cn] 33 from Box.new rfl)
          generalize w8.alloc (.cells #[.slice Pw fs.length Cw, .slice Pn nn Cn] 33) = w9 at *
          cases hB : tkB (fs.map wtOf) xs ⟨c.fFile, c.fAt, flT c.fData f, c.fSum⟩
          case false =>
            have HS2 := Lib.hid (show plS (fs.map wtOf) (chV fs) od fl (i + 1) = (xs, many) by rw [HS1.out, hB, tkX_no hB]; simp)
            clear hB
            go_wp2
            exact ⟨⟨i + 1, by omega, by go_num, by rw [HS2.out], Pg, ng, Cg, Fg, XT.out, by rw [HS2.out]; exact RG.out, FG.out, RW.out, RC.out, HC.out⟩, by simp [intOf]; omega⟩
          case true =>
            have HS2 := Lib.hid (show plS (fs.map wtOf) (chV fs) od fl (i + 1) = (tkX (fs.map wtOf) xs ⟨c.fFile, c.fAt, flT c.fData f, c.fSum⟩, many + 1) by rw [HS1.out, hB]; rfl)
            clear hB
            have n0_ := XN.out.cell 0 (v := .slice Pw fs.length Cw) rfl; have n1_ := XN.out.cell 1 (v := .slice Pn nn Cn) rfl
            have x0 := XT.out.cell 0 (v := .slice Pw fs.length Cw) rfl; have x1 := XT.out.cell 1 (v := .slice Pg ng Cg) rfl; have fx := XT.out.fro
            obtain ⟨hk_, hbx⟩ := XT.out.stored [.slice Pw fs.length Cw, .slice Pn nn Cn] 0
            rw [setA_all (by rfl)] at hbx
            have QX := Lib.hid hbx; have RN := Lib.hid (Rp.Row_kept RN.out hk_ (fun b hb h => FN.out.2 (by have h2 : b = NB := (by simpa using h); exact h2 ▸ hb))); have RW := Lib.hid (Rp.Row_kept RW.out hk_ (fun b hb h => by have h1 := LW.out b hb; have h2 : b = NB := (by simpa using h); omega)); have RC := Lib.hid (Rp.Row_kept RC.out hk_ (fun b hb h => by have h1 := LC.out b hb; have h2 : b = NB := (by simpa using h); omega)); have HC := Lib.hid (HC.out.trans (hk_.toBelow HC.out.size (fun b h => by have h2 : b = NB := (by simpa using h); omega)))
            clear hk_ hbx
            go_wp2
            exact ⟨⟨i + 1, by omega, by go_num, by rw [HS2.out], Pn, nn, Cn, Fn, QX.out, by rw [HS2.out]; exact RN.out, FN.out, RW.out, RC.out, HC.out⟩, by simp [intOf]; omega⟩
    case neg =>
      obtain rfl : i = od.length := by omega
      have hx := HPX.out _ rfl; have hm := HPM.out _ rfl
      have HXX := Lib.hid hx; have HMM := Lib.hid hm; clear hx hm
      generalize plS (fs.map wtOf) (chV fs) od fl od.length = st at *
      obtain ⟨xs, many⟩ := st
      obtain ⟨hinv, hm0, hm1⟩ := hpli
      simp only at hm0 hm1 hinv
      obtain ⟨hv1, hv2, hv3⟩ := hinv
      have x0 := XT.out.cell 0 (v := .slice Pw fs.length Cw) rfl; have x1 := XT.out.cell 1 (v := .slice Pg ng Cg) rfl
      go_wp2_with fail
      (with_reducible refine (sFin_calls (fs.map wtOf) xs _ _ _ (Rp.Row_S RW.out) (Rp.Row_S RG.out) hww hv1 hv2 hv3).mono ?_)
      rintro e w8 ⟨v, rfl, F, r1, r2, r3, hb⟩
      have R1 := Lib.hid r1; have R2 := Lib.hid r2; have R3 := Lib.hid r3; have HB := Lib.hid hb; clear r1 r2 r3 hb x0 x1
      cases hfp : finP (fs.map wtOf) xs
      case true =>
        clear hfp
        go_wp2
        go_ret3
        exact ⟨_, by rw [HMM.out, HX.out]; rfl, by rw [HPV.out, HXX.out]; exact ⟨F, R1.out, fun b h => Nat.le_trans HC.out.size (R2.out b h), R3.out, HC.out.trans (HB.out.mono HC.out.size)⟩⟩
      case false =>
        have HF := Lib.hid (show finR (fs.map wtOf) xs = [] by rw [finR, hfp]; rfl)
        clear hfp
        go_wp2
        go_ret3
        exact ⟨_, by rw [HMM.out, HX.out]; rfl, by rw [HPV.out, HXX.out, HF.out]; exact MadeR.nil _ _ (HC.out.trans (HB.out.mono HC.out.size))⟩
end Go.Proofs.Ytioelmhikablcaa
