/- Playing pieces: the program. -/
import Derived.Test.YtioelmhikablcaaPlB
namespace Go.Proofs.Ytioelmhikablcaa
open Go Go.RowKit Go.Sort
set_option linter.unusedVariables false
set_option linter.unusedSimpArgs false

theorem int_at {w wr : World} {A : Option Addr} {xs : List Int} (h : kInt.C w A xs) (hb : Below w.heap.size w wr) (k : Nat) (hk : k < xs.length) : ∃ b o, A = some ⟨b, o, none⟩ ∧ wr.cell? ⟨b, o + k, none⟩ = some (.int .i64 xs[k]) := by
  obtain ⟨b, o, cs, rfl, k1, q1⟩ := Rp.C_get h k hk
  obtain rfl : cs = [.int .i64 xs[k]] := k1
  have a1 := (World.cell?_of_block (hb.block b (World.block_lt_of_cell? w _ (q1 0 _ rfl)))).trans (q1 0 _ rfl)
  simp only [Rp.int, Rp.scalar, Nat.mul_one, Nat.add_zero] at a1
  exact ⟨b, o, rfl, a1⟩
def PlayP (fs : List ByteArray) (od fl : List Int) (w : World) (e : Ending) (w' : World) : Prop :=
  ∃ v, e = .returned (.tuple #[v, .int .i64 (plM fs od fl), .bool (plOk fs od fl)]) ∧ MadeR kTxt 9 (plV fs od fl) w w' v
set_option maxHeartbeats 4000000 in
set_option maxRecDepth 100000 in
theorem iPlay_calls (fs : List ByteArray) (od fl : List Int) (v0 v1 v2 : Value) (w : World) (g0 : kTxt.S w fs v0) (g1 : kInt.S w od v1) (g2 : kInt.S w fl v2) (hl : fs.length ≤ 1048576) (hl1 : od.length ≤ 1048576) (hl2 : fl.length ≤ 1048576) :
    Calls Try.prog 31 #[v0, v1, v2] w fun e w' => PlayP fs od fl w e w' := by
  have G0 := Lib.hid g0; have G1 := Lib.hid g1; have G2 := Lib.hid g2
  obtain ⟨A0, c0, rfl, _, _⟩ := g0
  obtain ⟨A1, c1, rfl, _, h⟩ := g1
  have H1 := Lib.hid h; clear h
  obtain ⟨A2, c2, rfl, _, h⟩ := g2
  have H2 := Lib.hid h; clear h
  go_enter Try.func31, Try.ntmps31
  go_wp2_with fail
  (with_reducible refine (iChunksOf_calls fs _ _ G0.out hl).mono ?_)
  rintro e w1 ⟨vc, rfl, Fc, r1, r2, r3, hb⟩
  obtain ⟨Pc, Cc, rfl, _, _⟩ := Rp.Row_K r1
  have RC := Lib.hid r1; have TC := Lib.hid r2; have HC := Lib.hid hb; clear r1 r2 r3 hb
  cases hck : chOk fs
  case false =>
    have HX := Lib.hid (show plOk fs od fl = false by rw [plOk, hck]; rfl)
    go_wp2
    go_ret3
    exact ⟨_, by rw [plM, HX.out]; rfl, by rw [plV, HX.out]; exact MadeR.nil _ _ HC.out⟩
  case true =>
  have HCK := Lib.hid hck; clear hck
  by_cases h4 : od.length ≤ 400
  case neg =>
    have HX := Lib.hid (show plOk fs od fl = false by rw [plOk, decide_eq_false h4]; simp)
    have h4b : (400 : Int) < (od.length : Int) := by omega
    go_wp2
    go_ret3
    exact ⟨_, by rw [plM, HX.out]; rfl, by rw [plV, HX.out]; exact MadeR.nil _ _ HC.out⟩
  case pos =>
  have h4b : ¬ (400 : Int) < (od.length : Int) := by omega
  by_cases h5 : fl.length = od.length
  case neg =>
    have HX := Lib.hid (show plOk fs od fl = false by rw [plOk, decide_eq_false h5]; simp)
    have h5b : ((fl.length : Int) != (od.length : Int)) = true := by simp; omega
    clear h5
    go_wp2
    go_ret3
    exact ⟨_, by rw [plM, HX.out]; rfl, by rw [plV, HX.out]; exact MadeR.nil _ _ HC.out⟩
  case pos =>
  have h5b : ((fl.length : Int) != (od.length : Int)) = false := by simp; omega
  have HX := Lib.hid (show plOk fs od fl = true by rw [plOk, HCK.out, decide_eq_true h4, decide_eq_true h5]; rfl)
  have hfl : od.length ≤ fl.length := by omega
  have H5 := Lib.hid h5; clear h5
  have hfo : filesOk fs = true := by have h := HCK.out; rw [chOk, Bool.and_eq_true] at h; exact h.1
  obtain ⟨hf1, hf2⟩ := filesOk_le hfo
  have hwk := wt_ok hfo
  have hww := wantOk_le hwk
  have HWK := Lib.hid hwk; clear hfo hwk
  go_wp2_with fail
  (with_reducible refine (iWant_calls fs _ _ (Rp.S_below G0.out HC.out) hf1 hf2).mono ?_)
  rintro e w2 ⟨vw, rfl, Fw, r1, r2, r3, hb⟩
  obtain ⟨Pw, Cw, hvw, _, _⟩ := Rp.Row_K r1
  rw [List.length_map] at hvw
  subst hvw
  have RC := Lib.hid (Rp.Row_below RC.out hb); have HC := Lib.hid (HC.out.trans (hb.mono HC.out.size)); have RW := Lib.hid r1; clear r1 r2 r3 hb
  go_upto_region 5 with fail
  have LC := Lib.hid (Rp.Row_lt RC.out); have LW := Lib.hid (Rp.Row_lt RW.out)
  have RC := Lib.hid (Rp.Row_below RC.out ((Below.refl w2.heap.size w2).alloc (Nat.le_refl _) (.cells #[.slice Pw fs.length Cw, .slice none 0 0] 33))); have RW := Lib.hid (Rp.Row_below RW.out ((Below.refl w2.heap.size w2).alloc (Nat.le_refl _) (.cells #[.slice Pw fs.length Cw, .slice none 0 0] 33))); have hws := HC.out.size; have HC := Lib.hid (HC.out.trans (((Below.refl w2.heap.size w2).alloc (Nat.le_refl _) (.cells #[.slice Pw fs.length Cw, .slice none 0 0] 33)).mono HC.out.size))
  have XT := Lib.hid (show Box (w2.alloc (.cells #[.slice Pw fs.length Cw, .slice none 0 0] 33)) w2.heap.size #[.slice Pw fs.length Cw, .slice none 0 0] 33 from Box.new rfl)
  generalize w2.alloc (.cells #[.slice Pw fs.length Cw, .slice none 0 0] 33) = w3 at *
  generalize w2.heap.size = NB at *
  have RG := Lib.hid (Rp.Row_nil kChunk 46 w3)
  have hc2 := chV_len (fs := fs); have hcz := chV_size (fs := fs)
  have hpl := plS_inv (fs.map wtOf) (chV fs) od fl
  have HPX := Lib.hid (show ∀ i, i = od.length → plX fs od fl = (plS (fs.map wtOf) (chV fs) od fl i).1 from fun i h => by rw [h]; rfl)
  have HPM := Lib.hid (show ∀ i, i = od.length → plM fs od fl = (plS (fs.map wtOf) (chV fs) od fl i).2 from fun i h => by rw [h, plM, HX.out]; rfl)
  have HPV := Lib.hid (show plV fs od fl = finR (fs.map wtOf) (plX fs od fl) by rw [plV, HX.out]; rfl)
  have hst : ∀ i, i < od.length → plS (fs.map wtOf) (chV fs) od fl (i + 1) = _ := fun i _ => rfl
  clear hst
  have HPL := Lib.hid hpl; have HCZ := Lib.hid hcz; clear hpl hcz
  go_wp2
  go_loopw [12, 42] (fun m n wr => ∃ i : Nat, i ≤ od.length ∧ n = .int .i64 i ∧ m = .int .i64 (plS (fs.map wtOf) (chV fs) od fl i).2 ∧ ∃ (vg : Value) (Fg : List Nat), Hid (Box wr NB #[.slice Pw fs.length Cw, vg] 33) ∧ Hid (kChunk.Row 46 wr Fg (plS (fs.map wtOf) (chV fs) od fl i).1 vg) ∧ Hid (Fg.Nodup ∧ ∀ b ∈ Fg, NB < b) ∧ Hid (kWanted.Row 136 wr Fw (fs.map wtOf) (.slice Pw fs.length Cw)) ∧ Hid (kChunk.Row 46 wr Fc (chV fs) (.slice Pc (chV fs).length Cc)) ∧ Hid (Below w.heap.size w wr)) (fun _ n _ => od.length - (intOf n).toNat)
  case atStart => exact ⟨0, Nat.zero_le _, rfl, rfl, _, _, XT.out, RG.out, by simp [Hid], RW.out, RC.out, HC.out⟩
  case round =>
    clear XT RG RW RC HC
    obtain ⟨i, hi, rfl, rfl, vg, Fg, XT, RG, FG, RW, RC, HC⟩ := hrel
    have hpli := HPL.out i
    by_cases hlt : i < od.length
    case pos =>
      obtain ⟨bo, oo, rfl, ao⟩ := int_at H1.out HC.out i hlt
      have hls : ∀ b, inR od[i] 0 (((chV fs).length : Int) - 1) = b → b = false → plS (fs.map wtOf) (chV fs) od fl (i + 1) = plS (fs.map wtOf) (chV fs) od fl i := fun b h1 h2 => by rw [plS, show od.getD i 0 = od[i] by rw [List.getD, List.getElem?_eq_getElem hlt]; rfl, h1, h2]; rfl
      have hly : ∀ (n : Nat) (hn : n < (chV fs).length) (hnn : od[i] = (n : Int)) (f : Int) (hf : fl.getD i 0 = f), inR od[i] 0 (((chV fs).length : Int) - 1) = true → plS (fs.map wtOf) (chV fs) od fl (i + 1) = (tkX (fs.map wtOf) (plS (fs.map wtOf) (chV fs) od fl i).1 ⟨(chV fs)[n].fFile, (chV fs)[n].fAt, flT (chV fs)[n].fData f, (chV fs)[n].fSum⟩, (plS (fs.map wtOf) (chV fs) od fl i).2 + if tkB (fs.map wtOf) (plS (fs.map wtOf) (chV fs) od fl i).1 ⟨(chV fs)[n].fFile, (chV fs)[n].fAt, flT (chV fs)[n].fData f, (chV fs)[n].fSum⟩ then 1 else 0) := fun n hn hnn f hf h1 => by rw [plS, show od.getD i 0 = od[i] by rw [List.getD, List.getElem?_eq_getElem hlt]; rfl, h1, hf, hnn, Int.toNat_natCast, show (chV fs).getD n zC = (chV fs)[n] by rw [List.getD, List.getElem?_eq_getElem hn]; rfl]; rfl
      have HLS := Lib.hid hls; have HLY := Lib.hid hly; clear hls hly
      have hfli : i < fl.length := by omega
      have hfge : fl.getD i 0 = fl[i] := by rw [List.getD, List.getElem?_eq_getElem hfli]; rfl
      obtain ⟨bf, of_, rfl, af⟩ := int_at H2.out HC.out i hfli
      generalize plS (fs.map wtOf) (chV fs) od fl i = st at *
      obtain ⟨xs, many⟩ := st
      obtain ⟨hinv, hm0, hm1⟩ := hpli
      simp only at hm0 hm1 hinv
      have HINV := Lib.hid hinv
      obtain ⟨hv1, hv2, hv3⟩ := hinv
      generalize hod : od[i] = n at *
      generalize hfl_ : fl[i] = f at *
      have HFG := Lib.hid hfge; have HOD := Lib.hid hod; have HFL := Lib.hid hfl_; clear hod hfl_ hfge
      have i1 : (0 : Int) ≤ (i : Int) := by omega
      have i2 : (i : Int) < (od.length : Int) := by omega
      have i3 : (i : Int) < (fl.length : Int) := by omega
      cases hin : inR n 0 (((chV fs).length : Int) - 1)
      case false =>
        have hs1 := HLS.out _ hin rfl
        have HS1 := Lib.hid hs1; have HIN := Lib.hid hin; clear hs1 hin HLS HLY
        go_wp2_with ((with_reducible refine (iInR_calls _ _ _ _).mono ?_); rintro e wq ⟨rfl, hw⟩; rw [HIN.out, hw]; clear hw)
        exact ⟨⟨i + 1, by omega, by go_num, by rw [HS1.out], vg, Fg, XT.out, by rw [HS1.out]; exact RG.out, FG.out, RW.out, RC.out, HC.out⟩, by simp [intOf]; omega⟩
      case true =>
        obtain ⟨n0, n1⟩ := inR_iff.1 hin
        obtain ⟨k, rfl⟩ : ∃ k : Nat, n = (k : Int) := ⟨n.toNat, by omega⟩
        have hk : k < (chV fs).length := by omega
        have hs1 := HLY.out k hk rfl f HFG.out hin
        have hcz := HCZ.out _ (List.getElem_mem hk)
        have HIN := Lib.hid hin; clear hin HLS HLY
        obtain ⟨Pq, Cq, eq, _, hCC⟩ := Rp.Row_K RC.out
        simp only [Value.slice.injEq, true_and] at eq
        obtain ⟨rfl, rfl⟩ := eq
        obtain ⟨bc, oc, cs, rfl, k1, q1⟩ := Rp.C_get hCC k hk
        obtain rfl := kChunk_K k1
        generalize (chV fs)[k] = c at *
        have HS1 := Lib.hid hs1; clear hs1 hCC k1
        have a0 := q1 0 _ rfl
        have a1 := q1 1 _ rfl
        have a2 := q1 2 _ rfl
        have a3 := q1 3 _ rfl
        simp only [kChunk_sz, Nat.add_zero] at a0 a1 a2 a3
        clear q1
        have k3 : (0 : Int) ≤ (k : Int) := by omega
        have k4 : (k : Int) < ((chV fs).length : Int) := by omega
        go_upto_region 10 with ((with_reducible refine (iInR_calls _ _ _ _).mono ?_); rintro e wq ⟨rfl, hw⟩; rw [HIN.out, hw]; clear hw)
        have hb6 := (Below.refl wr.heap.size wr).alloc (Nat.le_refl _) (.cells #[.int .i64 c.fFile, .int .i64 c.fAt, .string c.fData, .int .u32 c.fSum] 46)
        have B6 := Lib.hid (show Box (wr.alloc (.cells #[.int .i64 c.fFile, .int .i64 c.fAt, .string c.fData, .int .u32 c.fSum] 46)) wr.heap.size #[.int .i64 c.fFile, .int .i64 c.fAt, .string c.fData, .int .u32 c.fSum] 46 from Box.new rfl)
        generalize wr.alloc (.cells #[.int .i64 c.fFile, .int .i64 c.fAt, .string c.fData, .int .u32 c.fSum] 46) = w6 at *
        have HB6 := Lib.hid hb6; clear a0 a1 a2 a3 hb6
        have b6l := B6.out.lt
        have AF := Lib.hid af; have AO := Lib.hid ao; clear ao
        refine wp_region_tab (G := Unit) (fun g => [(57, 0, .pointer (some ⟨wr.heap.size, 2, none⟩)), (0, 1, .string c.fData), (0, 2, .slice (some ⟨bf, of_, none⟩) fl.length c2), (0, 3, .int .i64 (i : Int)), (0, 4, .pointer (some ⟨bf, of_ + i, none⟩)), (0, 5, .int .i64 f), (0, 6, .string (flT c.fData f)), (0, 7, .pointer (some ⟨wr.heap.size, 2, none⟩))])
            (fun L g W => (Below wr.heap.size wr W) ∧
              (wr.heap.size < W.heap.size) ∧
              (L 8 = false → Box W wr.heap.size #[.int .i64 c.fFile, .int .i64 c.fAt, .string c.fData, .int .u32 c.fSum] 46) ∧
              (L 8 = true → Box W wr.heap.size #[.int .i64 c.fFile, .int .i64 c.fAt, .string (flT c.fData f), .int .u32 c.fSum] 46) ∧
              ((L 8 = true → L 6 = true)) ∧
              ((L 6 = true → L 1 = true)))
            (()) (by kernel_rfl) (by kernel_rfl) (fun _ => rfl) ?_ ?_ ?_
        · exact ⟨HB6.out.drew, b6l, fun _ => B6.out.drew, nofun, nofun, nofun⟩
        · simp (config := { maxSteps := 4000000 }) only [StepsT, layT, Nat.reduceAdd, Nat.reduceBEq, cond_true, cond_false]
          refine ⟨?_, ?_, ?_, ?_, ?_, ?_, ?_, ?_, ?_, trivial⟩
          · rintro L g0 W hL hd ⟨q0, q1, q2, q3, q4, q5⟩
            try dsimp only at q0 q1 q2 q3 q4 q5
            try simp only [depsT, Region.binds, forall_const, and_true, beq_iff_eq, reduceCtorEq, false_implies, true_and] at hd
            intro K hK; refine do_wanted rfl ?_
            have HK := Lib.hid hK; clear hK
            try simp only [hd, cond_true]
            have Q0 := Lib.hid q0; have Q1 := Lib.hid q1; have Q2 := Lib.hid q2; have Q3 := Lib.hid q3; have Q4 := Lib.hid q4; have Q5 := Lib.hid q5
            clear q0 q1 q2 q3 q4 q5
            go_wp2
            exact HK.out _ _ ⟨(), by simp only [upd, Nat.reduceBEq, cond_true, cond_false, hd], ⟨Q0.out, Q1.out, Q2.out, Q3.out, Q4.out, Q5.out⟩⟩
          · rintro L g0 W hL hd ⟨q0, q1, q2, q3, q4, q5⟩
            try dsimp only at q0 q1 q2 q3 q4 q5
            try simp only [depsT, Region.binds, forall_const, and_true, beq_iff_eq, reduceCtorEq, false_implies, true_and] at hd
            intro K hK; refine do_wanted rfl ?_
            have HK := Lib.hid hK; clear hK
            try simp only [hd, cond_true]
            have E6 : L 6 = false := (by cases h : L 6 with | false => rfl | true => exact absurd (q5 h) (by rw [hL]; simp))
            have E8 : L 8 = false := (by cases h : L 8 with | false => rfl | true => exact absurd (q4 h) (by rw [E6]; simp))
            have cz := (q2 E8).cell 2 (v := .string c.fData) rfl
            have Q0 := Lib.hid q0; have Q1 := Lib.hid q1; have Q2 := Lib.hid q2; have Q3 := Lib.hid q3; have Q4 := Lib.hid q4; have Q5 := Lib.hid q5
            clear q0 q1 q2 q3 q4 q5
            go_wp2
            exact HK.out _ _ ⟨(), by simp only [upd, Nat.reduceBEq, cond_true, cond_false, hd], ⟨Q0.out, Q1.out, Q2.out, Q3.out, Q4.out, fun h => rfl⟩⟩
          · rintro L g0 W hL hd ⟨q0, q1, q2, q3, q4, q5⟩
            try dsimp only at q0 q1 q2 q3 q4 q5
            try simp only [depsT, Region.binds, forall_const, and_true, beq_iff_eq, reduceCtorEq, false_implies, true_and] at hd
            intro K hK; refine do_wanted rfl ?_
            have HK := Lib.hid hK; clear hK
            try simp only [hd, cond_true]
            have Q0 := Lib.hid q0; have Q1 := Lib.hid q1; have Q2 := Lib.hid q2; have Q3 := Lib.hid q3; have Q4 := Lib.hid q4; have Q5 := Lib.hid q5
            clear q0 q1 q2 q3 q4 q5
            go_wp2
            exact HK.out _ _ ⟨(), by simp only [upd, Nat.reduceBEq, cond_true, cond_false, hd], ⟨Q0.out, Q1.out, Q2.out, Q3.out, Q4.out, Q5.out⟩⟩
          · rintro L g0 W hL hd ⟨q0, q1, q2, q3, q4, q5⟩
            try dsimp only at q0 q1 q2 q3 q4 q5
            try simp only [depsT, Region.binds, forall_const, and_true, beq_iff_eq, reduceCtorEq, false_implies, true_and] at hd
            intro K hK; refine do_wanted rfl ?_
            have HK := Lib.hid hK; clear hK
            try simp only [hd, cond_true]
            have Q0 := Lib.hid q0; have Q1 := Lib.hid q1; have Q2 := Lib.hid q2; have Q3 := Lib.hid q3; have Q4 := Lib.hid q4; have Q5 := Lib.hid q5
            clear q0 q1 q2 q3 q4 q5
            go_wp2
            exact HK.out _ _ ⟨(), by simp only [upd, Nat.reduceBEq, cond_true, cond_false, hd], ⟨Q0.out, Q1.out, Q2.out, Q3.out, Q4.out, Q5.out⟩⟩
          · rintro L g0 W hL hd ⟨q0, q1, q2, q3, q4, q5⟩
            try dsimp only at q0 q1 q2 q3 q4 q5
            try simp only [depsT, Region.binds, forall_const, and_true, beq_iff_eq, reduceCtorEq, false_implies, true_and] at hd
            intro K hK; refine do_wanted rfl ?_
            have HK := Lib.hid hK; clear hK
            try simp only [hd, cond_true]
            have Q0 := Lib.hid q0; have Q1 := Lib.hid q1; have Q2 := Lib.hid q2; have Q3 := Lib.hid q3; have Q4 := Lib.hid q4; have Q5 := Lib.hid q5
            clear q0 q1 q2 q3 q4 q5
            go_wp2
            exact HK.out _ _ ⟨(), by simp only [upd, Nat.reduceBEq, cond_true, cond_false, hd], ⟨Q0.out, Q1.out, Q2.out, Q3.out, Q4.out, Q5.out⟩⟩
          · rintro L g0 W hL hd ⟨q0, q1, q2, q3, q4, q5⟩
            try dsimp only at q0 q1 q2 q3 q4 q5
            try simp only [depsT, Region.binds, forall_const, and_true, beq_iff_eq, reduceCtorEq, false_implies, true_and] at hd
            intro K hK; refine do_wanted rfl ?_
            have HK := Lib.hid hK; clear hK
            try simp only [hd, cond_true]
            have af2 := (World.cell?_of_block (q0.block bf (World.block_lt_of_cell? wr _ AF.out))).trans AF.out
            have Q0 := Lib.hid q0; have Q1 := Lib.hid q1; have Q2 := Lib.hid q2; have Q3 := Lib.hid q3; have Q4 := Lib.hid q4; have Q5 := Lib.hid q5
            clear q0 q1 q2 q3 q4 q5
            go_wp2
            exact HK.out _ _ ⟨(), by simp only [upd, Nat.reduceBEq, cond_true, cond_false, hd], ⟨Q0.out, Q1.out, Q2.out, Q3.out, Q4.out, Q5.out⟩⟩
          · rintro L g0 W hL hd ⟨q0, q1, q2, q3, q4, q5⟩
            try dsimp only at q0 q1 q2 q3 q4 q5
            try simp only [depsT, Region.binds, forall_const, and_true, beq_iff_eq, reduceCtorEq, false_implies, true_and] at hd
            intro K hK; refine do_wanted rfl ?_
            have HK := Lib.hid hK; clear hK
            try simp only [hd, cond_true]
            have E8 : L 8 = false := (by cases h : L 8 with | false => rfl | true => exact absurd (q4 h) (by rw [hL]; simp))
            have Q0 := Lib.hid q0; have Q1 := Lib.hid q1; have Q2 := Lib.hid q2; have Q3 := Lib.hid q3; have Q4 := Lib.hid q4; have Q5 := Lib.hid q5
            clear q0 q1 q2 q3 q4 q5
            go_wp2_with ((with_reducible refine (flip_calls c.fData f _ hcz).mono ?_); rintro ee we ⟨rfl, hb⟩; have HB := Lib.hid hb; clear hb)
            exact HK.out _ _ ⟨(), by simp only [upd, Nat.reduceBEq, cond_true, cond_false, hd], ⟨Q0.out.trans (HB.out.mono (Nat.le_of_lt Q1.out)), Nat.lt_of_lt_of_le Q1.out HB.out.size, fun h => (Q2.out h).below HB.out, fun h => (Q3.out h).below HB.out, fun h => rfl, fun _ => (show L 1 = true by simp only [hd])⟩⟩
          · rintro L g0 W hL hd ⟨q0, q1, q2, q3, q4, q5⟩
            try dsimp only at q0 q1 q2 q3 q4 q5
            try simp only [depsT, Region.binds, forall_const, and_true, beq_iff_eq, reduceCtorEq, false_implies, true_and] at hd
            intro K hK; refine do_wanted rfl ?_
            have HK := Lib.hid hK; clear hK
            try simp only [hd, cond_true]
            have Q0 := Lib.hid q0; have Q1 := Lib.hid q1; have Q2 := Lib.hid q2; have Q3 := Lib.hid q3; have Q4 := Lib.hid q4; have Q5 := Lib.hid q5
            clear q0 q1 q2 q3 q4 q5
            go_wp2
            exact HK.out _ _ ⟨(), by simp only [upd, Nat.reduceBEq, cond_true, cond_false, hd], ⟨Q0.out, Q1.out, Q2.out, Q3.out, Q4.out, Q5.out⟩⟩
          · rintro L g0 W hL hd ⟨q0, q1, q2, q3, q4, q5⟩
            try dsimp only at q0 q1 q2 q3 q4 q5
            try simp only [depsT, Region.binds, forall_const, and_true, beq_iff_eq, reduceCtorEq, false_implies, true_and] at hd
            intro K hK; refine do_wanted rfl ?_
            have HK := Lib.hid hK; clear hK
            try simp only [hd, cond_true]
            have hz := q2 hL
            have cz0 := hz.cell 2 (v := .string c.fData) rfl
            have fz := hz.fro
            have HZ_ := Lib.hid hz; clear hz
            have Q0 := Lib.hid q0; have Q1 := Lib.hid q1; have Q2 := Lib.hid q2; have Q3 := Lib.hid q3; have Q4 := Lib.hid q4; have Q5 := Lib.hid q5
            clear q0 q1 q2 q3 q4 q5
            go_wp2
            exact HK.out _ _ ⟨(), by simp only [upd, Nat.reduceBEq, cond_true, cond_false, hd], ⟨Q0.out.setCell (Nat.le_refl _) _, (by have := Q1.out; simpa using this), fun h => absurd h (by simp [upd]), fun _ => HZ_.out.set 2 _, fun _ => (show L 6 = true by simp only [hd]), Q5.out⟩⟩
        · simp (config := { maxSteps := 4000000 }) only [layT, Nat.reduceAdd, Nat.reduceBEq, cond_true, cond_false]
          rintro L g0 W hd ⟨q0, q1, q2, q3, q4, q5⟩
          simp only [doneT, true_and, List.length_cons, List.length_nil, Nat.reduceAdd] at hd
          obtain ⟨⟨⟨⟨⟨⟨⟨⟨e0, e1⟩, e2⟩, e3⟩, e4⟩, e5⟩, e6⟩, e7⟩, e8⟩ := hd
          try dsimp only at q0 q1 q2 q3 q4 q5
          simp only [e0, e1, e2, e3, e4, e5, e6, e7, e8, cond_true]
          have hq1 := q1
          have YB := Lib.hid (q3 e8); have HW := Lib.hid q0
          clear q0 q1 q2 q3 q4 q5
          have XT := Lib.hid (XT.out.below HW.out); have RG := Lib.hid (Rp.Row_below RG.out HW.out); have RW := Lib.hid (Rp.Row_below RW.out HW.out); have RC := Lib.hid (Rp.Row_below RC.out HW.out); have HC := Lib.hid (HC.out.trans (HW.out.mono HC.out.size))
          have y0 := YB.out.cell 0 (v := .int .i64 c.fFile) rfl; have y1 := YB.out.cell 1 (v := .int .i64 c.fAt) rfl; have y2 := YB.out.cell 2 (v := .string (flT c.fData f)) rfl; have y3 := YB.out.cell 3 (v := .int .u32 c.fSum) rfl
          clear HW YB AF
          have hgF : NB ∉ Fg := fun h => by have := FG.out.2 _ h; omega
          go_wp2_with fail
          (with_reducible refine (iTake_calls (fs.map wtOf) xs ⟨c.fFile, c.fAt, flT c.fData f, c.fSum⟩ NB Cw Pw vg Fg _ (by simpa using XT.out) (by simpa using Rp.Row_S RW.out) RG.out FG.out.1 hgF hww hv1 hv2).mono ?_)
          rintro e w8 ⟨vn, Fn, rfl, t1, t2, t3, t4, t5⟩
          rw [List.length_map] at t1
          have hwl : NB < W.heap.size := XT.out.lt
          have T1 := Lib.hid t1; have T2 := Lib.hid t2
          have TF := Lib.hid (And.intro t5 (fun b h => (by rcases t4 b h with h2 | h2; exact FG.out.2 _ h2; omega) : ∀ b ∈ Fn, NB < b))
          have RW := Lib.hid (Rp.Row_kept RW.out t3 (fun b hb h => by have h1 := LW.out b hb; rcases List.mem_cons.1 h with h | h; omega; have := FG.out.2 _ h; omega))
          have RC := Lib.hid (Rp.Row_kept RC.out t3 (fun b hb h => by have h1 := LC.out b hb; rcases List.mem_cons.1 h with h | h; omega; have := FG.out.2 _ h; omega))
          have HC := Lib.hid (HC.out.trans (t3.toBelow HC.out.size (fun b h => by rcases List.mem_cons.1 h with h | h; omega; have := FG.out.2 _ h; omega)))
          clear t1 t2 t3 t4 t5 y0 y1 y2 y3
          cases hB : tkB (fs.map wtOf) xs ⟨c.fFile, c.fAt, flT c.fData f, c.fSum⟩
          case false =>
            have HS2 := Lib.hid (show plS (fs.map wtOf) (chV fs) od fl (i + 1) = (tkX (fs.map wtOf) xs ⟨c.fFile, c.fAt, flT c.fData f, c.fSum⟩, many) by rw [HS1.out, hB]; simp)
            clear hB
            go_wp2
            exact ⟨⟨i + 1, by omega, by go_num, by rw [HS2.out], vn, Fn, T1.out, by rw [HS2.out]; exact T2.out, TF.out, RW.out, RC.out, HC.out⟩, by simp [intOf]; omega⟩
          case true =>
            have HS2 := Lib.hid (show plS (fs.map wtOf) (chV fs) od fl (i + 1) = (tkX (fs.map wtOf) xs ⟨c.fFile, c.fAt, flT c.fData f, c.fSum⟩, many + 1) by rw [HS1.out, hB]; simp)
            clear hB
            go_wp2
            exact ⟨⟨i + 1, by omega, by go_num, by rw [HS2.out], vn, Fn, T1.out, by rw [HS2.out]; exact T2.out, TF.out, RW.out, RC.out, HC.out⟩, by simp [intOf]; omega⟩
    case neg =>
      obtain rfl : i = od.length := by omega
      have hx := HPX.out _ rfl; have hm := HPM.out _ rfl
      have HXX := Lib.hid hx; have HMM := Lib.hid hm; clear hx hm
      generalize plS (fs.map wtOf) (chV fs) od fl od.length = st at *
      obtain ⟨xs, many⟩ := st
      obtain ⟨hinv, hm0, hm1⟩ := hpli
      simp only at hm0 hm1 hinv
      have HINV := Lib.hid hinv
      obtain ⟨hv1, hv2, hv3⟩ := hinv
      have HTK := Lib.hid (tk_mk HWK.out HINV.out)
      have x0 := XT.out.cell 0 (v := .slice Pw fs.length Cw) rfl; have x1 := XT.out.cell 1 (v := vg) rfl
      go_wp2_with fail
      (with_reducible refine (iFinT_calls (fs.map wtOf) xs _ _ _ (Rp.Row_S RW.out) (Rp.Row_S RG.out) (by rw [List.length_map]; omega)).mono ?_)
      rintro e w8 ⟨v, rfl, F, r1, r2, r3, hb⟩
      have R1 := Lib.hid r1; have R2 := Lib.hid r2; have R3 := Lib.hid r3; have HB := Lib.hid hb; clear r1 r2 r3 hb x0 x1
      go_wp2
      go_ret3
      exact ⟨_, by rw [HMM.out, HX.out]; rfl, by rw [HPV.out, HXX.out, ← finV_inv HTK.out]; exact ⟨F, R1.out, fun b h => Nat.le_trans HC.out.size (R2.out b h), R3.out, HC.out.trans (HB.out.mono HC.out.size)⟩⟩
end Go.Proofs.Ytioelmhikablcaa
