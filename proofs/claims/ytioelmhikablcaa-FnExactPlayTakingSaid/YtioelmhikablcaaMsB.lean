/- What is missing: impl. -/
import Derived.Test.YtioelmhikablcaaMsA
namespace Go.Proofs.Ytioelmhikablcaa
open Go Go.RowKit Go.Sort
set_option linter.unusedVariables false
set_option linter.unusedSimpArgs false

def bsI (xs : List DChunk) (t : DChunk) : Nat := xs.countP fun z => decide (ordC z t < 0)
theorem bsI_is {xs : List DChunk} {i : Nat} {t : DChunk} (h0 : i ≤ xs.length) (h1 : ∀ k (h : k < xs.length), k < i → ordC xs[k] t < 0) (h2 : ∀ k (h : k < xs.length), i ≤ k → 0 ≤ ordC xs[k] t) : i = bsI xs t := by
  have e : xs = xs.take i ++ xs.drop i := (List.take_append_drop i xs).symm
  have a : (xs.take i).countP (fun z => decide (ordC z t < 0)) = (xs.take i).length := by
    rw [List.countP_eq_length]
    intro z hz
    obtain ⟨k, hk, rfl⟩ := List.getElem_of_mem hz
    rw [List.length_take] at hk
    rw [List.getElem_take]
    exact decide_eq_true (h1 k (by omega) (by omega))
  have b : (xs.drop i).countP (fun z => decide (ordC z t < 0)) = 0 := by
    rw [List.countP_eq_zero]
    intro z hz
    obtain ⟨k, hk, rfl⟩ := List.getElem_of_mem hz
    rw [List.length_drop] at hk
    rw [List.getElem_drop]
    have := h2 (i + k) (by omega) (by omega)
    simp; omega
  rw [bsI, e, List.countP_append, a, b, List.length_take]
  omega
theorem bs2_calls (xs : List DChunk) (t : DChunk) (v : Value) (w : World) (g : kChunk.S w xs v) (hl : xs.length ≤ 1048576) (ho : Ord xs) :
    Calls Try.prog 172 #[v, .agg #[.int .i64 t.fFile, .int .i64 t.fAt, .string t.fData, .int .u32 t.fSum], .func (.func 171) #[] #[]] w
    fun e w' => e = .returned (.tuple #[.int .i64 (bsI xs t), .bool (memC xs t.fFile t.fAt)]) ∧ Below w.heap.size w w' :=
  (bs_calls xs t v w g hl (ord_mono ho t)).mono fun e w' ⟨i, he, h0, h1, h2, hb⟩ => ⟨by rw [he, ← bsI_is h0 h1 h2, ← bs_mem ho h0 h1 h2], hb⟩
set_option maxHeartbeats 4000000 in
set_option maxRecDepth 100000 in
theorem iMiss_calls (ws : List DWanted) (xs : List DChunk) (g : Nat) (v0 v1 : Value) (w : World) (X : Box w g #[v0, v1] 33) (g0 : kWanted.S w ws v0) (g1 : kChunk.S w xs v1) (hw : ws.length ≤ 12 ∧ ∀ m ∈ ws, wantB m = false) (hx : xs.length ≤ 200) (ho : Ord xs) :
    Calls Try.prog 85 #[.pointer (some ⟨g, 0, none⟩)] w fun e w' => ∃ v, e = .returned v ∧ MadeR kChunk 46 (misA ws xs ws.length) w w' v := by
  have G1 := Lib.hid g1
  obtain ⟨A0, c0, rfl, hc, h⟩ := g0
  have H := Lib.hid h; clear h
  obtain ⟨A2, c2, rfl, _, _⟩ := g1
  have x0 := X.cell 0 (v := .slice A0 ws.length c0) rfl
  have XX := Lib.hid X; clear X
  have hw2 := Lib.hid hw.2
  have hw1 := hw.1
  clear hw
  have HN := Lib.hid hw1
  go_enter Try.func85, Try.ntmps85
  go_upto_region 2 with fail
  have HC := Lib.hid ((Below.refl w.heap.size w).alloc (Nat.le_refl _) (.cells #[] 46))
  have x0 := (XX.out.below HC.out).cell 0 (v := .slice A0 ws.length c0) rfl
  go_wp2
  clear x0
  go_loopw [3, 16] (fun v i wr => ∃ k : Nat, k ≤ ws.length ∧ i = .int .i64 k ∧ Hid (kChunk.Row 46 wr (Rp.ofOwn v) (misA ws xs k) v) ∧ Hid (∀ b ∈ Rp.ofOwn v, w.heap.size ≤ b) ∧ Hid (Below w.heap.size w wr)) (fun _ i _ => ws.length - (intOf i).toNat)
  case atStart => exact ⟨0, Nat.zero_le _, rfl, Rp.Row_made0 _ _ _ (by simp), by simp [Hid, Rp.ofOwn, Value.ownBlock], HC.out⟩
  case round =>
    obtain ⟨k, hk, rfl, HR, HF, HB⟩ := hrel
    by_cases hlt : k < ws.length
    · obtain ⟨bw, ow, rfl, a0, a1⟩ := want_at H.out HB.out k hlt
      have hwn := hw2.out _ (List.getElem_mem hlt)
      simp only [wantB, Bool.not_eq_false'] at hwn
      obtain ⟨z0, z1⟩ := inR_iff.1 hwn
      clear hwn
      have hst : misA ws xs (k + 1) = misA ws xs k ++ misF xs k (nW ws[k]) := by rw [misA, List.getD, List.getElem?_eq_getElem hlt]; rfl
      have hL := misA_len ws xs hw2.out k
      generalize misA ws xs k = L at *
      generalize ws[k] = m at *
      have HST := Lib.hid hst; clear hst
      have HL := Lib.hid hL; clear hL
      have i1 : (0 : Int) ≤ (k : Int) := by omega
      have i2 : (k : Int) < (ws.length : Int) := by omega
      have hl12 : k ≤ 12 := by have := HN.out; omega
      go_wp2
      have HB2 := Lib.hid (HB.out.alloc HB.out.size (.cells #[.int .i64 m.fSize, .int .u32 m.fSum] 136))
      have W0 := Lib.hid (show Box (wr.alloc (.cells #[.int .i64 m.fSize, .int .u32 m.fSum] 136)) wr.heap.size #[.int .i64 m.fSize, .int .u32 m.fSum] 136 from Box.new rfl)
      have HR2 := Lib.hid (Rp.Row_below HR.out ((Below.refl wr.heap.size wr).alloc (Nat.le_refl _) (.cells #[.int .i64 m.fSize, .int .u32 m.fSum] 136)))
      have hws : w.heap.size ≤ wr.heap.size := HB.out.size
      have nbl : wr.heap.size ∉ Rp.ofOwn u3 ∧ w.heap.size ≤ wr.heap.size := ⟨fun hm => by have := Rp.Row_lt HR.out _ hm; omega, hws⟩
      generalize hnb : wr.heap.size = nb at *
      go_loopw [3, 6] (fun v i w5 => ∃ j a : Nat, a = 64 * j ∧ j ≤ nW m ∧ i = .int .i64 a ∧ Hid (kChunk.Row 46 w5 (Rp.ofOwn v) (L ++ misF xs k j) v) ∧ Hid (∀ b ∈ Rp.ofOwn v, w.heap.size ≤ b ∧ b ≠ nb) ∧ Hid (Below w.heap.size w w5) ∧ Hid (Box w5 nb #[.int .i64 m.fSize, .int .u32 m.fSum] 136)) (fun _ i _ => (m.fSize + 64 - intOf i).toNat)
      case atStart => exact ⟨0, 0, rfl, Nat.zero_le _, rfl, by rw [misF, List.append_nil]; exact HR2.out, fun b hb => ⟨HF.out b hb, fun e => nbl.1 (e ▸ hb)⟩, HB2.out, W0.out⟩
      case round =>
        clear HR HF HB HB2 HR2 W0 a0 a1
        obtain ⟨j, a, ha, hj, rfl, HR, HF, HB, W0⟩ := hrel
        have w0c := W0.out.cell 0 (v := .int .i64 m.fSize) rfl
        by_cases hat : (a : Int) < m.fSize
        · have hst2 : misF xs k (j + 1) = misF xs k j ++ (if memC xs k (a : Int) then [] else [(⟨k, a, ⟨#[]⟩, 0⟩ : DChunk)]) := by rw [misF, ha]
          have hLj := misF_len xs k j
          unfold nW at hj
          generalize misF xs k j = M at *
          have j3 : j ≤ 63 := by omega
          have HM := Lib.hid hLj; have HA := Lib.hid ha; have HST2 := Lib.hid hst2
          clear hLj hst2 ha
          go_upto_region 9 with fail
          have B7 := Lib.hid (show Box (wr.alloc (.cells #[.int .i64 k, .int .i64 a, .string ⟨#[]⟩, .int .u32 0] 46)) wr.heap.size #[.int .i64 k, .int .i64 a, .string ⟨#[]⟩, .int .u32 0] 46 from Box.new rfl)
          have HR6 := Lib.hid (Rp.Row_below HR.out ((Below.refl wr.heap.size wr).alloc (Nat.le_refl _) (.cells #[.int .i64 k, .int .i64 a, .string ⟨#[]⟩, .int .u32 0] 46)))
          have W6 := Lib.hid (W0.out.alloc (o := .cells #[.int .i64 k, .int .i64 a, .string ⟨#[]⟩, .int .u32 0] 46))
          have HB6 := Lib.hid (HB.out.alloc HB.out.size (.cells #[.int .i64 k, .int .i64 a, .string ⟨#[]⟩, .int .u32 0] 46))
          clear HR W0 HB w0c
          generalize wr.alloc (.cells #[.int .i64 k, .int .i64 a, .string ⟨#[]⟩, .int .u32 0] 46) = w6 at *
          generalize wr.heap.size = nc at *
          have X6 := Lib.hid (XX.out.below HB6.out)
          have G6 := Lib.hid (Rp.S_below G1.out HB6.out)
          have r0 := regr (Below.refl _ _) B7.out.lt (B7.out.cell 0 (v := .int .i64 k) rfl); have r1 := regr (Below.refl _ _) B7.out.lt (B7.out.cell 1 (v := .int .i64 a) rfl); have r2 := regr (Below.refl _ _) B7.out.lt (B7.out.cell 2 (v := .string ⟨#[]⟩) rfl); have r3 := regr (Below.refl _ _) B7.out.lt (B7.out.cell 3 (v := .int .u32 0) rfl)
          have s1 := regr (Below.refl _ _) X6.out.lt (X6.out.cell 1 (v := .slice A2 xs.length c2) rfl)
          have c_b : ∀ W : World, Below w6.heap.size w6 W → Calls Try.prog 172 #[.slice A2 xs.length c2, .agg #[.int .i64 k, .int .i64 a, .string ⟨#[]⟩, .int .u32 0], .func (.func 171) #[] #[]] W (fun e w' => e = .returned (.tuple #[.int .i64 (bsI xs (⟨k, a, ⟨#[]⟩, 0⟩ : DChunk)), .bool (memC xs k a)]) ∧ Below W.heap.size W w') := fun W hW => bs2_calls xs (⟨k, a, ⟨#[]⟩, 0⟩ : DChunk) _ W (Rp.S_below G6.out hW) (by omega) ho
          generalize bsI xs (⟨k, a, ⟨#[]⟩, 0⟩ : DChunk) = bi at *
          cases hm : memC xs k a
          all_goals
            rw [hm] at c_b HST2
            refine wp_region_quiet_below (by kernel_rfl) (by kernel_rfl) ?_
            repeat (go_big_quiet_step (first | (with_reducible exact Calls.regrown_of (c_b _ (below_regrown _ _ _)))))
            refine wpQuiet_nil ?_
            rintro w4 ⟨p, rfl⟩
            have hb := below_regrown w6 p.d p.os
            have HB := Lib.hid (HB6.out.trans (hb.mono HB6.out.size)); have W0 := Lib.hid (W6.out.below hb); have HR := Lib.hid (Rp.Row_below HR6.out hb); have B7 := Lib.hid (B7.out.below hb)
            clear r0 r1 r2 r3 s1 hb c_b X6 G6 HB6 W6 HR6
            generalize grow (redrawn w6 p.d) p.os = w4 at *
          · have b0 := B7.out.cell 0 (v := .int .i64 k) rfl; have b1 := B7.out.cell 1 (v := .int .i64 a) rfl; have b2 := B7.out.cell 2 (v := .string ⟨#[]⟩) rfl; have b3 := B7.out.cell 3 (v := .int .u32 0) rfl
            go_wp2_with (at_builtin; go_loud (refine wp_append (d := kChunk) rfl _ _ 31 46 rfl Try.underlying31 infoChunk rfl (by decide) rfl (by decide) kChunk_flat (xs := L ++ M) (ys := [(⟨k, a, ⟨#[]⟩, 0⟩ : DChunk)]) rfl rfl (Rp.Row_below HR.out ((Below.refl _ _).alloc (Nat.le_refl _) _)) (Rp.S_one (Box.new (by simp)) (kChunk.M_K (kChunk_mk _ (⟨k, a, ⟨#[]⟩, 0⟩ : DChunk)))) (by have := HL.out; have := HM.out; simp; omega) ?_; intro v1 w2 q1 q2 q3 _; have R1 := Lib.hid q1; have R2 := Lib.hid q2; have R3 := Lib.hid q3; clear q1 q2 q3))
            have hnb2 := W0.out.lt
            exact ⟨⟨j + 1, a + 64, by have := HA.out; omega, by unfold nW; have := HA.out; omega, by go_num, by rw [HST2.out, ← List.append_assoc]; exact R1.out, fun b hb => by rcases R3.out b hb with h | h; exact HF.out b h; simp at h; have := HB.out.size; exact ⟨by omega, by omega⟩, (Below.alloc HB.out HB.out.size _).trans (R2.out.toBelow (by have := HB.out.size; simp; omega) (fun b h => (HF.out b h).1)), Box.kept (Box.alloc W0.out) R2.out (fun h => (HF.out _ h).2 rfl)⟩, by simp [intOf]; omega⟩
          · go_wp2
            exact ⟨⟨j + 1, a + 64, by have := HA.out; omega, by unfold nW; have := HA.out; omega, by go_num, by rw [HST2.out, if_pos rfl, List.append_nil]; exact HR.out, HF.out, HB.out, W0.out⟩, by simp [intOf]; omega⟩
        · obtain rfl : j = nW m := by unfold nW at hj ⊢; omega
          go_wp2
          exact ⟨⟨k + 1, by omega, by go_num, by rw [HST.out]; exact HR.out, fun b h => (HF.out b h).1, HB.out⟩, by simp [intOf]; omega⟩
    · obtain rfl : k = ws.length := by omega
      go_wp2
      go_ret
      exact ⟨_, rfl, _, HR.out, HF.out, ofOwn_nodup _, HB.out⟩
end Go.Proofs.Ytioelmhikablcaa
