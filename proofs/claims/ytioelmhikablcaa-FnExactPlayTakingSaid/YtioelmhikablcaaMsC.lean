/- What is missing: the specification. -/
import Derived.Test.YtioelmhikablcaaMsB
namespace Go.Proofs.Ytioelmhikablcaa
open Go Go.RowKit Go.Sort
set_option linter.unusedVariables false
set_option linter.unusedSimpArgs false

theorem good_at {ws : List DWanted} {z : DChunk} (h : chGood ws z = true) : 0 ≤ z.fFile ∧ z.fFile < ws.length ∧ 0 ≤ z.fAt ∧ z.fAt % 64 = 0 ∧ z.fAt < gdSz ws z := by
  rw [chGood, Bool.and_eq_true, Bool.and_eq_true, Bool.and_eq_true, Bool.and_eq_true, inR_iff, inR_iff, decide_eq_true_eq] at h
  omega
set_option maxHeartbeats 4000000 in
set_option maxRecDepth 100000 in
theorem sMiss_calls (ws : List DWanted) (xs : List DChunk) (v0 v1 : Value) (w : World) (g0 : kWanted.S w ws v0) (g1 : kChunk.S w xs v1) (hw : ws.length ≤ 12 ∧ ∀ m ∈ ws, wantB m = false) (hx : xs.length ≤ 200) (ho : Ord xs) (hgd : ∀ z ∈ xs, chGood ws z = true) :
    Calls Try.prog 166 #[.agg #[v0, v1]] w fun e w' => ∃ v, e = .returned v ∧ MadeR kChunk 46 (misA ws xs ws.length) w w' v := by
  obtain ⟨A0, c0, rfl, hc, h⟩ := g0
  have H := Lib.hid h; clear h
  obtain ⟨A2, c2, rfl, hcc, h⟩ := g1
  have H2 := Lib.hid h; clear h
  have hw2 := Lib.hid hw.2
  have hw1 := hw.1
  clear hw
  have HN := Lib.hid hw1
  have HG := Lib.hid (fun z hz => good_at (hgd z hz)); clear hgd
  have B0 : Bnd xs 0 ((0 : Nat) : Int) 0 := ⟨Nat.zero_le _, fun i h q => absurd q (Nat.not_lt_zero _), fun i h q q2 => by have := HG.out _ (List.getElem_mem h); unfold ltP at q2; omega⟩
  have BZ := Lib.hid B0; clear B0
  go_enter Try.func166, Try.ntmps166
  go_upto_region 3 with fail
  have HC := Lib.hid ((Below.refl w.heap.size w).alloc (Nat.le_refl _) (.cells #[.slice A0 ws.length c0, .slice A2 xs.length c2] 33))
  have X := Lib.hid (show Box (w.alloc (.cells #[.slice A0 ws.length c0, .slice A2 xs.length c2] 33)) w.heap.size #[.slice A0 ws.length c0, .slice A2 xs.length c2] 33 from Box.new rfl)
  have hsz : w.heap.size < (w.alloc (.cells #[.slice A0 ws.length c0, .slice A2 xs.length c2] 33)).heap.size := by simp
  generalize w.alloc (.cells #[.slice A0 ws.length c0, .slice A2 xs.length c2] 33) = w1 at *
  have x0 := X.out.cell 0 (v := .slice A0 ws.length c0) rfl
  go_wp2
  clear x0
  go_loopw [3, 4, 12] (fun v q i wr => ∃ k n : Nat, k ≤ ws.length ∧ i = .int .i64 k ∧ q = .int .i64 n ∧ Hid (Bnd xs n (k : Int) 0) ∧ Hid (kChunk.Row 46 wr (Rp.ofOwn v) (misA ws xs k) v) ∧ Hid (∀ b ∈ Rp.ofOwn v, w.heap.size + 1 ≤ b) ∧ Hid (Below w.heap.size w wr) ∧ Hid (Box wr w.heap.size #[.slice A0 ws.length c0, .slice A2 xs.length c2] 33)) (fun _ _ i _ => ws.length - (intOf i).toNat)
  case atStart => exact ⟨0, 0, Nat.zero_le _, rfl, rfl, BZ.out, Rp.Row_nil _ _ _, by simp [Hid, Rp.ofOwn, Value.ownBlock], HC.out, X.out⟩
  case round =>
    clear X
    obtain ⟨k, n, hk, rfl, rfl, HBN, HR, HF, HB, X⟩ := hrel
    by_cases hlt : k < ws.length
    · obtain ⟨bw, ow, rfl, a0, a1⟩ := want_at H.out HB.out k hlt
      have hwn := hw2.out _ (List.getElem_mem hlt)
      simp only [wantB, Bool.not_eq_false'] at hwn
      obtain ⟨z0, z1⟩ := inR_iff.1 hwn
      clear hwn
      have hst : misA ws xs (k + 1) = misA ws xs k ++ misF xs k (nW ws[k]) := by rw [misA, List.getD, List.getElem?_eq_getElem hlt]; rfl
      have hL := misA_len ws xs hw2.out k
      have hsz2 : ∀ z ∈ xs, z.fFile = (k : Int) → z.fAt < ws[k].fSize := fun z hz e => by
        have := (HG.out z hz).2.2.2.2
        rw [gdSz, e, Int.toNat_natCast, List.getD, List.getElem?_eq_getElem hlt] at this
        exact this
      generalize misA ws xs k = L at *
      generalize ws[k] = m at *
      have HST := Lib.hid hst; clear hst
      have HL := Lib.hid hL; clear hL
      have HSZ := Lib.hid hsz2; clear hsz2
      have i1 : (0 : Int) ≤ (k : Int) := by omega
      have i2 : (k : Int) < (ws.length : Int) := by omega
      have hl12 : k ≤ 12 := by have := HN.out; omega
      go_wp2
      have HB2 := Lib.hid (HB.out.alloc HB.out.size (.cells #[.int .i64 m.fSize, .int .u32 m.fSum] 136))
      have W0 := Lib.hid (show Box (wr.alloc (.cells #[.int .i64 m.fSize, .int .u32 m.fSum] 136)) wr.heap.size #[.int .i64 m.fSize, .int .u32 m.fSum] 136 from Box.new rfl)
      have X2 := Lib.hid (X.out.alloc (o := .cells #[.int .i64 m.fSize, .int .u32 m.fSum] 136))
      have HR2 := Lib.hid (Rp.Row_below HR.out ((Below.refl wr.heap.size wr).alloc (Nat.le_refl _) (.cells #[.int .i64 m.fSize, .int .u32 m.fSum] 136)))
      have hws : w.heap.size ≤ wr.heap.size := HB.out.size
      have nbl : wr.heap.size ∉ Rp.ofOwn u3 ∧ w.heap.size ≤ wr.heap.size := ⟨fun hm => by have := Rp.Row_lt HR.out _ hm; omega, hws⟩
      generalize hnb : wr.heap.size = nb at *
      go_loopw [3, 4, 7] (fun v q i w5 => ∃ j a n : Nat, a = 64 * j ∧ j ≤ nW m ∧ i = .int .i64 a ∧ q = .int .i64 n ∧ Hid (Bnd xs n (k : Int) (a : Int)) ∧ Hid (kChunk.Row 46 w5 (Rp.ofOwn v) (L ++ misF xs k j) v) ∧ Hid (∀ b ∈ Rp.ofOwn v, w.heap.size + 1 ≤ b ∧ b ≠ nb) ∧ Hid (Below w.heap.size w w5) ∧ Hid (Box w5 nb #[.int .i64 m.fSize, .int .u32 m.fSum] 136) ∧ Hid (Box w5 w.heap.size #[.slice (some ⟨bw, ow, none⟩) ws.length c0, .slice A2 xs.length c2] 33)) (fun _ _ i _ => (m.fSize + 64 - intOf i).toNat)
      case atStart => exact ⟨0, 0, n, rfl, Nat.zero_le _, rfl, rfl, HBN.out, by rw [misF, List.append_nil]; exact HR2.out, fun b hb => ⟨HF.out b hb, fun e => nbl.1 (e ▸ hb)⟩, HB2.out, W0.out, X2.out⟩
      case round =>
        clear HR HF HB HB2 HR2 W0 a0 a1 X X2 HBN
        obtain ⟨j, a, n, ha, hj, rfl, rfl, HBN, HR, HF, HB, W0, X⟩ := hrel
        have w0c := W0.out.cell 0 (v := .int .i64 m.fSize) rfl
        by_cases hat : (a : Int) < m.fSize
        · have hst2 : misF xs k (j + 1) = misF xs k j ++ (if isC xs n k a then [] else [(⟨k, a, ⟨#[]⟩, 0⟩ : DChunk)]) := by rw [bnd_mem ho HBN.out, misF, ha]
          have hbn := bnd_next ho (fun z hz => (HG.out z hz).2.2.2.1) (by omega) HBN.out
          have hLj := misF_len xs k j
          unfold nW at hj
          generalize misF xs k j = M at *
          have j3 : j ≤ 63 := by omega
          have hn0 := HBN.out.1
          have HM := Lib.hid hLj; have HA := Lib.hid ha; have HST2 := Lib.hid hst2
          clear HBN
          have HBN := Lib.hid hbn
          clear hLj hst2 ha hbn
          go_upto_region 10 with fail
          have B7 := Lib.hid (show Box (wr.alloc (.cells #[.int .i64 k, .int .i64 a, .string ⟨#[]⟩, .int .u32 0] 46)) wr.heap.size #[.int .i64 k, .int .i64 a, .string ⟨#[]⟩, .int .u32 0] 46 from Box.new rfl)
          have HR := Lib.hid (Rp.Row_below HR.out ((Below.refl wr.heap.size wr).alloc (Nat.le_refl _) (.cells #[.int .i64 k, .int .i64 a, .string ⟨#[]⟩, .int .u32 0] 46)))
          have W0 := Lib.hid (W0.out.alloc (o := .cells #[.int .i64 k, .int .i64 a, .string ⟨#[]⟩, .int .u32 0] 46))
          have X := Lib.hid (X.out.alloc (o := .cells #[.int .i64 k, .int .i64 a, .string ⟨#[]⟩, .int .u32 0] 46))
          have HB := Lib.hid (HB.out.alloc HB.out.size (.cells #[.int .i64 k, .int .i64 a, .string ⟨#[]⟩, .int .u32 0] 46))
          clear w0c
          generalize wr.alloc (.cells #[.int .i64 k, .int .i64 a, .string ⟨#[]⟩, .int .u32 0] 46) = w6 at *
          generalize wr.heap.size = nc at *
          have x1 := X.out.cell 1 (v := .slice A2 xs.length c2) rfl
          have n0 : (0 : Int) ≤ (n : Int) := by omega
          by_cases hn : n < xs.length
          · obtain ⟨bx, ox, rfl, d0, d1, d2, d3⟩ := ch_at H2.out HB.out n hn
            have his : isC xs n k a = (decide (xs[n].fFile = (k : Int)) && decide (xs[n].fAt = (a : Int))) := by rw [isC, List.getElem?_eq_getElem hn, ← Bool.decide_and]; exact decide_eq_decide.2 Iff.rfl
            generalize xs[n] = z at *
            have n1 : (n : Int) < (xs.length : Int) := by omega
            clear d2 d3
            cases e1 : (z.fFile == (k : Int))
            · have HIS := Lib.hid (show isC xs n k a = false by rw [his]; simp at e1; simp [e1])
              clear his
              have b0 := B7.out.cell 0 (v := .int .i64 k) rfl; have b1 := B7.out.cell 1 (v := .int .i64 a) rfl; have b2 := B7.out.cell 2 (v := .string ⟨#[]⟩) rfl; have b3 := B7.out.cell 3 (v := .int .u32 0) rfl
              go_wp2_with (at_builtin; go_loud (refine wp_append (d := kChunk) rfl _ _ 31 46 rfl Try.underlying31 infoChunk rfl (by decide) rfl (by decide) kChunk_flat (xs := L ++ M) (ys := [(⟨k, a, ⟨#[]⟩, 0⟩ : DChunk)]) rfl rfl (Rp.Row_below HR.out ((Below.refl _ _).alloc (Nat.le_refl _) _)) (Rp.S_one (Box.new (by simp)) (kChunk.M_K (kChunk_mk _ (⟨k, a, ⟨#[]⟩, 0⟩ : DChunk)))) (by have := HL.out; have := HM.out; simp; omega) ?_; intro v1 w2 q1 q2 q3 _; have R1 := Lib.hid q1; have R2 := Lib.hid q2; have R3 := Lib.hid q3; clear q1 q2 q3))
              have hnb2 := W0.out.lt
              have hnb3 := X.out.lt
              exact ⟨⟨j + 1, a + 64, n, by have := HA.out; omega, by unfold nW; have := HA.out; omega, by go_num, rfl, by have := HBN.out; rw [HIS.out] at this; exact this, by rw [HST2.out, HIS.out, if_neg (by simp), ← List.append_assoc]; exact R1.out, fun b hb => by rcases R3.out b hb with h | h; exact HF.out b h; simp at h; have := HB.out.size; exact ⟨by omega, by omega⟩, (Below.alloc HB.out HB.out.size _).trans (R2.out.toBelow (by have := HB.out.size; simp; omega) (fun b h => by have := (HF.out b h).1; omega)), Box.kept (Box.alloc W0.out) R2.out (fun h => (HF.out _ h).2 rfl), Box.kept (Box.alloc X.out) R2.out (fun h => by have := (HF.out _ h).1; omega)⟩, by simp [intOf]; omega⟩
            · cases e2 : (z.fAt == (a : Int))
              · have HIS := Lib.hid (show isC xs n k a = false by rw [his]; simp at e2; simp [e2])
                clear his
                have b0 := B7.out.cell 0 (v := .int .i64 k) rfl; have b1 := B7.out.cell 1 (v := .int .i64 a) rfl; have b2 := B7.out.cell 2 (v := .string ⟨#[]⟩) rfl; have b3 := B7.out.cell 3 (v := .int .u32 0) rfl
                go_wp2_with (at_builtin; go_loud (refine wp_append (d := kChunk) rfl _ _ 31 46 rfl Try.underlying31 infoChunk rfl (by decide) rfl (by decide) kChunk_flat (xs := L ++ M) (ys := [(⟨k, a, ⟨#[]⟩, 0⟩ : DChunk)]) rfl rfl (Rp.Row_below HR.out ((Below.refl _ _).alloc (Nat.le_refl _) _)) (Rp.S_one (Box.new (by simp)) (kChunk.M_K (kChunk_mk _ (⟨k, a, ⟨#[]⟩, 0⟩ : DChunk)))) (by have := HL.out; have := HM.out; simp; omega) ?_; intro v1 w2 q1 q2 q3 _; have R1 := Lib.hid q1; have R2 := Lib.hid q2; have R3 := Lib.hid q3; clear q1 q2 q3))
                have hnb2 := W0.out.lt
                have hnb3 := X.out.lt
                exact ⟨⟨j + 1, a + 64, n, by have := HA.out; omega, by unfold nW; have := HA.out; omega, by go_num, rfl, by have := HBN.out; rw [HIS.out] at this; exact this, by rw [HST2.out, HIS.out, if_neg (by simp), ← List.append_assoc]; exact R1.out, fun b hb => by rcases R3.out b hb with h | h; exact HF.out b h; simp at h; have := HB.out.size; exact ⟨by omega, by omega⟩, (Below.alloc HB.out HB.out.size _).trans (R2.out.toBelow (by have := HB.out.size; simp; omega) (fun b h => by have := (HF.out b h).1; omega)), Box.kept (Box.alloc W0.out) R2.out (fun h => (HF.out _ h).2 rfl), Box.kept (Box.alloc X.out) R2.out (fun h => by have := (HF.out _ h).1; omega)⟩, by simp [intOf]; omega⟩
              · have HIS := Lib.hid (show isC xs n k a = true by rw [his]; simp at e1 e2; simp [e1, e2])
                clear his
                go_wp2
                exact ⟨⟨j + 1, a + 64, n + 1, by have := HA.out; omega, by unfold nW; have := HA.out; omega, by go_num, by go_num, by have := HBN.out; rw [HIS.out] at this; exact this, by rw [HST2.out, HIS.out, if_pos rfl, List.append_nil]; exact HR.out, HF.out, HB.out, W0.out, X.out⟩, by simp [intOf]; omega⟩
          · have HIS := Lib.hid (show isC xs n k a = false by rw [isC, List.getElem?_eq_none (by omega)])
            have n1 : ¬ (n : Int) < (xs.length : Int) := by omega
            have b0 := B7.out.cell 0 (v := .int .i64 k) rfl; have b1 := B7.out.cell 1 (v := .int .i64 a) rfl; have b2 := B7.out.cell 2 (v := .string ⟨#[]⟩) rfl; have b3 := B7.out.cell 3 (v := .int .u32 0) rfl
            go_wp2_with (at_builtin; go_loud (refine wp_append (d := kChunk) rfl _ _ 31 46 rfl Try.underlying31 infoChunk rfl (by decide) rfl (by decide) kChunk_flat (xs := L ++ M) (ys := [(⟨k, a, ⟨#[]⟩, 0⟩ : DChunk)]) rfl rfl (Rp.Row_below HR.out ((Below.refl _ _).alloc (Nat.le_refl _) _)) (Rp.S_one (Box.new (by simp)) (kChunk.M_K (kChunk_mk _ (⟨k, a, ⟨#[]⟩, 0⟩ : DChunk)))) (by have := HL.out; have := HM.out; simp; omega) ?_; intro v1 w2 q1 q2 q3 _; have R1 := Lib.hid q1; have R2 := Lib.hid q2; have R3 := Lib.hid q3; clear q1 q2 q3))
            have hnb2 := W0.out.lt
            have hnb3 := X.out.lt
            exact ⟨⟨j + 1, a + 64, n, by have := HA.out; omega, by unfold nW; have := HA.out; omega, by go_num, rfl, by have := HBN.out; rw [HIS.out] at this; exact this, by rw [HST2.out, HIS.out, if_neg (by simp), ← List.append_assoc]; exact R1.out, fun b hb => by rcases R3.out b hb with h | h; exact HF.out b h; simp at h; have := HB.out.size; exact ⟨by omega, by omega⟩, (Below.alloc HB.out HB.out.size _).trans (R2.out.toBelow (by have := HB.out.size; simp; omega) (fun b h => by have := (HF.out b h).1; omega)), Box.kept (Box.alloc W0.out) R2.out (fun h => (HF.out _ h).2 rfl), Box.kept (Box.alloc X.out) R2.out (fun h => by have := (HF.out _ h).1; omega)⟩, by simp [intOf]; omega⟩
        · obtain rfl : j = nW m := by unfold nW at hj ⊢; omega
          have HB3 := Lib.hid (bnd_file (fun z hz e => by have := HSZ.out z hz e; omega) (fun z hz => (HG.out z hz).2.2.1) HBN.out)
          clear HBN
          go_wp2
          exact ⟨⟨k + 1, n, by omega, by go_num, rfl, by have := HB3.out; exact this, by rw [HST.out]; exact HR.out, fun b h => (HF.out b h).1, HB.out, X.out⟩, by simp [intOf]; omega⟩
    · obtain rfl : k = ws.length := by omega
      go_wp2
      go_ret
      exact ⟨_, rfl, _, HR.out, fun b h => Nat.le_of_succ_le (HF.out b h), ofOwn_nodup _, HB.out⟩
end Go.Proofs.Ytioelmhikablcaa
