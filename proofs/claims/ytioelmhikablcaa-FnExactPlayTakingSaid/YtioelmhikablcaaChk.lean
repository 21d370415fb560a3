/- The chunks of files. -/
import Derived.Test.YtioelmhikablcaaWnt
namespace Go.Proofs.Ytioelmhikablcaa
open Go Go.RowKit Go.Sort
set_option linter.unusedVariables false
set_option linter.unusedSimpArgs false

def cutT (s : ByteArray) (a : Nat) : ByteArray := s.extract a (min (a + 64) s.size)
theorem cutT_size (s : ByteArray) (a : Nat) : (cutT s a).size ≤ 64 := by
  unfold cutT
  rw [ByteArray.size_extract]
  omega
def chOf (f : Nat) (s : ByteArray) (a : Nat) : DChunk := ⟨f, a, cutT s a, chS f a (cutT s a)⟩
def chL (f : Nat) (s : ByteArray) : Nat → List DChunk
  | 0 => []
  | j + 1 => chL f s j ++ [chOf f s (64 * j)]
theorem chL_len (f : Nat) (s : ByteArray) : ∀ j, (chL f s j).length = j
  | 0 => rfl
  | j + 1 => by rw [chL, List.length_append, chL_len f s j]; rfl
def nC (s : ByteArray) : Nat := (s.size + 63) / 64
def chA (xs : List ByteArray) : Nat → List DChunk
  | 0 => []
  | k + 1 => chA xs k ++ chL k (xs.getD k ⟨#[]⟩) (nC (xs.getD k ⟨#[]⟩))
theorem chA_len (xs : List ByteArray) (h : ∀ x ∈ xs, x.size ≤ 4000) : ∀ k, (chA xs k).length ≤ 63 * k
  | 0 => Nat.le_refl _
  | k + 1 => by
    have h2 : (xs.getD k ⟨#[]⟩).size ≤ 4000 := by
      by_cases hk : k < xs.length
      · rw [List.getD, List.getElem?_eq_getElem hk]
        exact h _ (List.getElem_mem hk)
      · rw [List.getD, List.getElem?_eq_none (by omega)]
        decide
    have := chA_len xs h k
    rw [chA, List.length_append, chL_len, nC]
    omega
def chV (xs : List ByteArray) : List DChunk := if filesOk xs && decide ((chA xs xs.length).length ≤ 200) then chA xs xs.length else []
def chOk (xs : List ByteArray) : Bool := filesOk xs && decide ((chA xs xs.length).length ≤ 200)
set_option maxHeartbeats 400000 in
theorem sSize_calls (n a : Int) (w : World) (h0 : 0 ≤ n) (h1 : n ≤ 1000000) (h2 : 0 ≤ a) (h3 : a ≤ 1000000) : Calls Try.prog 214 #[.int .i64 n, .int .i64 a] w fun e w' => e = .returned (.int .i64 (min 64 (n - a))) ∧ w' = w := by
  go_enter Try.func214, Try.ntmps214
  by_cases h : n - a < 64
  · go_wp2
    go_ret
    exact ⟨by rw [show min 64 (n - a) = n - a by omega]; rfl, rfl⟩
  · go_wp2
    go_ret
    exact ⟨by rw [show min 64 (n - a) = 64 by omega]; rfl, rfl⟩
set_option maxHeartbeats 4000000 in
set_option maxRecDepth 100000 in
theorem iChunks_calls (xs : List ByteArray) (v : Value) (w : World) (g : kTxt.S w xs v) (hl : xs.length ≤ 12) (hs : ∀ x ∈ xs, x.size ≤ 4000) : Calls Try.prog 182 #[v] w fun e w' => ∃ v, e = .returned v ∧ MadeR kChunk 46 (chA xs xs.length) w w' v := by
  obtain ⟨A, c, rfl, hc, h⟩ := g
  have H := Lib.hid h; clear h
  have HS := Lib.hid hs; clear hs
  have HN := Lib.hid hl
  go_enter Try.func182, Try.ntmps182
  go_wp2
  go_loopw [3, 11] (fun v i wr => ∃ k : Nat, k ≤ xs.length ∧ i = .int .i64 k ∧ Hid (kChunk.Row 46 wr (Rp.ofOwn v) (chA xs k) v) ∧ Hid (∀ b ∈ Rp.ofOwn v, w.heap.size ≤ b) ∧ Hid (Below w.heap.size w wr)) (fun _ i _ => xs.length - (intOf i).toNat)
  case atStart => exact ⟨0, Nat.zero_le _, rfl, Rp.Row_made0 _ _ _ (by simp), by simp [Hid, Rp.ofOwn, Value.ownBlock], (Below.refl _ _).alloc (Nat.le_refl _) _⟩
  case round =>
    obtain ⟨k, hk, rfl, HR, HF, HB⟩ := hrel
    by_cases hlt : k < xs.length
    · obtain ⟨bx, ox, rfl, a0⟩ := txt_at H.out HB.out k hlt
      have hz := HS.out xs[k] (List.getElem_mem hlt)
      have hst : chA xs (k + 1) = chA xs k ++ chL k xs[k] (nC xs[k]) := by rw [chA, List.getD, List.getElem?_eq_getElem hlt]; rfl
      have hL := chA_len xs HS.out k
      generalize chA xs k = L at *
      generalize xs[k] = x at *
      have HST := Lib.hid hst; clear hst
      have HL := Lib.hid hL; clear hL
      have i1 : (0 : Int) ≤ (k : Int) := by omega
      have i2 : (k : Int) < (xs.length : Int) := by omega
      have hl12 : k ≤ 12 := by have := HN.out; omega
      go_wp2
      go_loopw [3, 6] (fun v i wr => ∃ j a : Nat, a = 64 * j ∧ j ≤ nC x ∧ i = .int .i64 a ∧ Hid (kChunk.Row 46 wr (Rp.ofOwn v) (L ++ chL k x j) v) ∧ Hid (∀ b ∈ Rp.ofOwn v, w.heap.size ≤ b) ∧ Hid (Below w.heap.size w wr)) (fun _ i _ => x.size + 64 - (intOf i).toNat)
      case atStart => exact ⟨0, 0, rfl, Nat.zero_le _, rfl, by rw [chL, List.append_nil]; exact HR.out, HF.out, HB.out⟩
      case round =>
        clear HR HF HB
        obtain ⟨j, a, ha, hj, rfl, HR, HF, HB⟩ := hrel
        by_cases hat : a < x.size
        · have j1 : (0 : Int) ≤ (a : Int) := by omega
          have j2 : (a : Int) < (x.size : Int) := by omega
          have hst2 : chL k x (j + 1) = chL k x j ++ [(⟨k, a, cutT x a, chS k a (cutT x a)⟩ : DChunk)] := by rw [chL, ha]; rfl
          have hLj := chL_len k x j
          have hcz := cutT_size x a
          unfold nC at hj
          generalize chL k x j = M at *
          have HST2 := Lib.hid hst2; clear hst2
          have HM := Lib.hid hLj; clear hLj
          have HA := Lib.hid ha; clear ha
          have j3 : j ≤ 63 := by omega
          by_cases hm : a + 64 ≤ x.size
          · have hc2 : cutT x a = x.extract a (a + 64) := by rw [cutT, show min (a + 64) x.size = a + 64 by omega]
            go_upto_region 9 with fail
            rw [← hc2]
            generalize cutT x a = y at *; clear hc2
            go_wp2_with fail
            (with_reducible refine (iChunk_calls (k : Int) (a : Int) y _ (by omega) (by omega) (by omega)).mono ?_)
            rintro e1 w1 ⟨rfl, hb⟩
            have HR := Lib.hid (Rp.Row_below HR.out hb)
            have HB := Lib.hid (HB.out.trans (hb.mono HB.out.size))
            clear hb
            go_wp2_with (at_builtin; go_loud (refine wp_append (d := kChunk) rfl _ _ 31 46 rfl Try.underlying31 infoChunk rfl (by decide) rfl (by decide) kChunk_flat (xs := L ++ M) (ys := [(⟨k, a, y, chS k a y⟩ : DChunk)]) rfl rfl (Rp.Row_below HR.out ((Below.refl _ _).alloc (Nat.le_refl _) _)) (Rp.S_one (Box.new (by simp)) (kChunk.M_K (kChunk_mk _ (⟨k, a, y, chS k a y⟩ : DChunk)))) (by have := HL.out; have := HM.out; simp; omega) ?_; intro v1 w2 r1 r2 r3 _; have R1 := Lib.hid r1; have R2 := Lib.hid r2; have R3 := Lib.hid r3; clear r1 r2 r3))
            exact ⟨⟨j + 1, a + 64, by have := HA.out; omega, by unfold nC; have := HA.out; omega, by go_num, by rw [HST2.out, ← List.append_assoc]; exact R1.out, fun b hb => by rcases R3.out b hb with h | h; exact HF.out b h; simp at h; have := HB.out.size; omega, (Below.alloc HB.out HB.out.size _).trans (R2.out.toBelow (by have := HB.out.size; simp; omega) HF.out)⟩, by simp [intOf]; omega⟩
          · have hc2 : cutT x a = x.extract a x.size := by rw [cutT, show min (a + 64) x.size = x.size by omega]
            go_upto_region 9 with fail
            rw [← hc2]
            generalize cutT x a = y at *; clear hc2
            go_wp2_with fail
            (with_reducible refine (iChunk_calls (k : Int) (a : Int) y _ (by omega) (by omega) (by omega)).mono ?_)
            rintro e1 w1 ⟨rfl, hb⟩
            have HR := Lib.hid (Rp.Row_below HR.out hb)
            have HB := Lib.hid (HB.out.trans (hb.mono HB.out.size))
            clear hb
            go_wp2_with (at_builtin; go_loud (refine wp_append (d := kChunk) rfl _ _ 31 46 rfl Try.underlying31 infoChunk rfl (by decide) rfl (by decide) kChunk_flat (xs := L ++ M) (ys := [(⟨k, a, y, chS k a y⟩ : DChunk)]) rfl rfl (Rp.Row_below HR.out ((Below.refl _ _).alloc (Nat.le_refl _) _)) (Rp.S_one (Box.new (by simp)) (kChunk.M_K (kChunk_mk _ (⟨k, a, y, chS k a y⟩ : DChunk)))) (by have := HL.out; have := HM.out; simp; omega) ?_; intro v1 w2 r1 r2 r3 _; have R1 := Lib.hid r1; have R2 := Lib.hid r2; have R3 := Lib.hid r3; clear r1 r2 r3))
            exact ⟨⟨j + 1, a + 64, by have := HA.out; omega, by unfold nC; have := HA.out; omega, by go_num, by rw [HST2.out, ← List.append_assoc]; exact R1.out, fun b hb => by rcases R3.out b hb with h | h; exact HF.out b h; simp at h; have := HB.out.size; omega, (Below.alloc HB.out HB.out.size _).trans (R2.out.toBelow (by have := HB.out.size; simp; omega) HF.out)⟩, by simp [intOf]; omega⟩
        · obtain rfl : j = nC x := by unfold nC at hj ⊢; omega
          go_wp2
          exact ⟨⟨k + 1, by omega, by go_num, by rw [HST.out]; exact HR.out, HF.out, HB.out⟩, by simp [intOf]; omega⟩
    · obtain rfl : k = xs.length := by omega
      go_wp2
      go_ret
      exact ⟨_, rfl, _, HR.out, HF.out, ofOwn_nodup _, HB.out⟩
set_option maxHeartbeats 4000000 in
set_option maxRecDepth 100000 in
theorem sChunks_calls (xs : List ByteArray) (v : Value) (w : World) (g : kTxt.S w xs v) (hl : xs.length ≤ 12) (hs : ∀ x ∈ xs, x.size ≤ 4000) : Calls Try.prog 180 #[v] w fun e w' => ∃ v, e = .returned v ∧ MadeR kChunk 46 (chA xs xs.length) w w' v := by
  obtain ⟨A, c, rfl, hc, h⟩ := g
  have H := Lib.hid h; clear h
  have HS := Lib.hid hs; clear hs
  have HN := Lib.hid hl
  go_enter Try.func180, Try.ntmps180
  go_wp2
  go_loopw [3, 10] (fun v i wr => ∃ k : Nat, k ≤ xs.length ∧ i = .int .i64 k ∧ Hid (kChunk.Row 46 wr (Rp.ofOwn v) (chA xs k) v) ∧ Hid (∀ b ∈ Rp.ofOwn v, w.heap.size ≤ b) ∧ Hid (Below w.heap.size w wr)) (fun _ i _ => xs.length - (intOf i).toNat)
  case atStart => exact ⟨0, Nat.zero_le _, rfl, Rp.Row_nil _ _ _, by simp [Hid, Rp.ofOwn, Value.ownBlock], Below.refl _ _⟩
  case round =>
    obtain ⟨k, hk, rfl, HR, HF, HB⟩ := hrel
    by_cases hlt : k < xs.length
    · obtain ⟨bx, ox, rfl, a0⟩ := txt_at H.out HB.out k hlt
      have hz := HS.out xs[k] (List.getElem_mem hlt)
      have hst : chA xs (k + 1) = chA xs k ++ chL k xs[k] (nC xs[k]) := by rw [chA, List.getD, List.getElem?_eq_getElem hlt]; rfl
      have hL := chA_len xs HS.out k
      generalize chA xs k = L at *
      generalize xs[k] = x at *
      have HST := Lib.hid hst; clear hst
      have HL := Lib.hid hL; clear hL
      have i1 : (0 : Int) ≤ (k : Int) := by omega
      have i2 : (k : Int) < (xs.length : Int) := by omega
      have hl12 : k ≤ 12 := by have := HN.out; omega
      go_wp2
      go_loopw [3, 6] (fun v i wr => ∃ j a : Nat, a = 64 * j ∧ j ≤ nC x ∧ i = .int .i64 a ∧ Hid (kChunk.Row 46 wr (Rp.ofOwn v) (L ++ chL k x j) v) ∧ Hid (∀ b ∈ Rp.ofOwn v, w.heap.size ≤ b) ∧ Hid (Below w.heap.size w wr)) (fun _ i _ => x.size + 64 - (intOf i).toNat)
      case atStart => exact ⟨0, 0, rfl, Nat.zero_le _, rfl, by rw [chL, List.append_nil]; exact HR.out, HF.out, HB.out⟩
      case round =>
        clear HR HF HB
        obtain ⟨j, a, ha, hj, rfl, HR, HF, HB⟩ := hrel
        by_cases hat : a < x.size
        · have j1 : (0 : Int) ≤ (a : Int) := by omega
          have j2 : (a : Int) < (x.size : Int) := by omega
          have hst2 : chL k x (j + 1) = chL k x j ++ [(⟨k, a, cutT x a, chS k a (cutT x a)⟩ : DChunk)] := by rw [chL, ha]; rfl
          have hLj := chL_len k x j
          have hcz := cutT_size x a
          unfold nC at hj
          generalize chL k x j = M at *
          have HST2 := Lib.hid hst2; clear hst2
          have HM := Lib.hid hLj; clear hLj
          have HA := Lib.hid ha; clear ha
          have j3 : j ≤ 63 := by omega
          obtain ⟨r, hr, hr1, hr2⟩ : ∃ r : Nat, min 64 ((x.size : Int) - (a : Int)) = (r : Int) ∧ a + r ≤ x.size ∧ min (a + 64) x.size = a + r := ⟨min 64 (x.size - a), by omega, by omega, by omega⟩
          have hc2 : cutT x a = x.extract a (a + r) := by rw [cutT, hr2]
          clear hr2
          go_upto_region 9 with ((with_reducible refine (sSize_calls (x.size : Int) (a : Int) _ (by omega) (by omega) (by omega) (by omega)).mono ?_); rintro e1 w1 ⟨rfl, rfl⟩; rw [hr])
          rw [← hc2]
          generalize cutT x a = y at *; clear hc2
          go_wp2_with fail
          (with_reducible refine (sl13_calls (k : Int) (a : Int) y _ (by omega) (by omega) (by omega)).mono ?_)
          rintro e1 w1 ⟨rfl, hb⟩
          have HR := Lib.hid (Rp.Row_below HR.out hb)
          have HB := Lib.hid (HB.out.trans (hb.mono HB.out.size))
          clear hb
          go_wp2_with (at_builtin; go_loud (refine wp_append (d := kChunk) rfl _ _ 31 46 rfl Try.underlying31 infoChunk rfl (by decide) rfl (by decide) kChunk_flat (xs := L ++ M) (ys := [(⟨k, a, y, chS k a y⟩ : DChunk)]) rfl rfl (Rp.Row_below HR.out ((Below.refl _ _).alloc (Nat.le_refl _) _)) (Rp.S_one (Box.new (by simp)) (kChunk.M_K (kChunk_mk _ (⟨k, a, y, chS k a y⟩ : DChunk)))) (by have := HL.out; have := HM.out; simp; omega) ?_; intro v1 w2 r1 r2 r3 _; have R1 := Lib.hid r1; have R2 := Lib.hid r2; have R3 := Lib.hid r3; clear r1 r2 r3))
          exact ⟨⟨j + 1, a + 64, by have := HA.out; omega, by unfold nC; have := HA.out; omega, by go_num, by rw [HST2.out, ← List.append_assoc]; exact R1.out, fun b hb => by rcases R3.out b hb with h | h; exact HF.out b h; simp at h; have := HB.out.size; omega, (Below.alloc HB.out HB.out.size _).trans (R2.out.toBelow (by have := HB.out.size; simp; omega) HF.out)⟩, by simp [intOf]; omega⟩
        · obtain rfl : j = nC x := by unfold nC at hj ⊢; omega
          go_wp2
          exact ⟨⟨k + 1, by omega, by go_num, by rw [HST.out]; exact HR.out, HF.out, HB.out⟩, by simp [intOf]; omega⟩
    · obtain rfl : k = xs.length := by omega
      go_wp2
      go_ret
      exact ⟨_, rfl, _, HR.out, HF.out, ofOwn_nodup _, HB.out⟩
set_option maxHeartbeats 4000000 in
set_option maxRecDepth 100000 in
theorem iChunksOf_calls (xs : List ByteArray) (v : Value) (w : World) (g : kTxt.S w xs v) (hl : xs.length ≤ 1048576) : Calls Try.prog 101 #[v] w fun e w' => ∃ v, e = .returned (.tuple #[v, .bool (chOk xs)]) ∧ MadeR kChunk 46 (chV xs) w w' v := by
  have G := Lib.hid g; clear g
  go_enter Try.func101, Try.ntmps101
  go_wp2_with fail
  (with_reducible refine (iFilesOk_calls xs _ _ G.out (by omega)).mono ?_)
  rintro e w1 ⟨rfl, hb⟩
  have HB := Lib.hid hb; clear hb
  cases hg : filesOk xs
  case false =>
    go_wp2
    go_ret2
    exact ⟨_, by rw [chOk, hg]; rfl, by rw [chV, hg]; exact MadeR.nil _ _ HB.out⟩
  case true =>
    obtain ⟨q1, q2⟩ := filesOk_le hg
    go_wp2_with fail
    (with_reducible refine (iChunks_calls xs _ _ (Rp.S_below G.out HB.out) q1 q2).mono ?_)
    rintro e w2 ⟨vv, rfl, F, r1, r2, r3, hb⟩
    obtain ⟨P, C, rfl, hc, _⟩ := Rp.Row_K r1
    have hV : chV xs = if decide ((chA xs xs.length).length ≤ 200) = true then chA xs xs.length else [] := by rw [chV, hg, Bool.true_and]
    have hO : chOk xs = decide ((chA xs xs.length).length ≤ 200) := by rw [chOk, hg, Bool.true_and]
    have hlen := chA_len xs q2 xs.length
    generalize chA xs xs.length = L at *
    have R1 := Lib.hid r1; have R2 := Lib.hid r2; have HB2 := Lib.hid (HB.out.trans (hb.mono HB.out.size)); have R3 := Lib.hid r3; clear r1 r2 r3 hb
    by_cases h200 : L.length ≤ 200
    · rw [decide_eq_true h200] at hV hO
      have HV := Lib.hid hV; have HO := Lib.hid hO; clear hV hO
      go_wp2
      go_ret2
      exact ⟨_, by rw [HO.out]; rfl, by rw [HV.out]; exact ⟨F, R1.out, fun b h => Nat.le_trans HB.out.size (R2.out b h), R3.out, HB2.out⟩⟩
    · rw [decide_eq_false h200] at hV hO
      have HV := Lib.hid hV; have HO := Lib.hid hO; clear hV hO
      go_wp2
      go_ret2
      exact ⟨_, by rw [HO.out]; rfl, by rw [HV.out]; exact MadeR.nil _ _ HB2.out⟩
theorem iChunksOf_k {x : List ByteArray} {v : Value} {w : World} (k0 : kStringS.K w x [v]) (h0 : wfStringS x) (s0 : smStringS 1048576 x) : Calls Try.prog 101 #[v] w
    fun e w' => ∃ v F, e = .returned (.tuple #[v, .bool (chOk x)]) ∧ kChunkS.M w' F (chV x) [v] ∧ (∀ b ∈ F, w.heap.size ≤ b) ∧ F.Nodup ∧ Below w.heap.size w w' := by
  obtain ⟨_, h, g⟩ := kStringS_read k0
  obtain rfl := (List.cons.inj h).1
  refine (iChunksOf_calls x v w g s0).mono ?_
  rintro e w' ⟨v, rfl, F, h1, h2, h3, h4⟩
  exact ⟨v, F, rfl, kChunkS_make h1, h2, h3, h4⟩
set_option maxHeartbeats 4000000 in
set_option maxRecDepth 100000 in
theorem sChunksOf_calls (xs : List ByteArray) (v : Value) (w : World) (g : kTxt.S w xs v) (hl : xs.length ≤ 1048576) : Calls Try.prog 97 #[v] w fun e w' => ∃ v, e = .returned (.tuple #[v, .bool (chOk xs)]) ∧ MadeR kChunk 46 (chV xs) w w' v := by
  have G := Lib.hid g; clear g
  go_enter Try.func97, Try.ntmps97
  go_wp2_with fail
  (with_reducible refine (sFilesOk_calls xs _ _ G.out (by omega)).mono ?_)
  rintro e w1 ⟨rfl, hb⟩
  have HB := Lib.hid hb; clear hb
  cases hg : filesOk xs
  case false =>
    go_wp2
    go_ret2
    exact ⟨_, by rw [chOk, hg]; rfl, by rw [chV, hg]; exact MadeR.nil _ _ HB.out⟩
  case true =>
    obtain ⟨q1, q2⟩ := filesOk_le hg
    go_wp2_with fail
    (with_reducible refine (sChunks_calls xs _ _ (Rp.S_below G.out HB.out) q1 q2).mono ?_)
    rintro e w2 ⟨vv, rfl, F, r1, r2, r3, hb⟩
    obtain ⟨P, C, rfl, hc, _⟩ := Rp.Row_K r1
    have hV : chV xs = if decide ((chA xs xs.length).length ≤ 200) = true then chA xs xs.length else [] := by rw [chV, hg, Bool.true_and]
    have hO : chOk xs = decide ((chA xs xs.length).length ≤ 200) := by rw [chOk, hg, Bool.true_and]
    have hlen := chA_len xs q2 xs.length
    generalize chA xs xs.length = L at *
    have R1 := Lib.hid r1; have R2 := Lib.hid r2; have HB2 := Lib.hid (HB.out.trans (hb.mono HB.out.size)); have R3 := Lib.hid r3; clear r1 r2 r3 hb
    by_cases h200 : L.length ≤ 200
    · rw [decide_eq_true h200] at hV hO
      have HV := Lib.hid hV; have HO := Lib.hid hO; clear hV hO
      go_wp2
      go_ret2
      exact ⟨_, by rw [HO.out]; rfl, by rw [HV.out]; exact ⟨F, R1.out, fun b h => Nat.le_trans HB.out.size (R2.out b h), R3.out, HB2.out⟩⟩
    · rw [decide_eq_false h200] at hV hO
      have HV := Lib.hid hV; have HO := Lib.hid hO; clear hV hO
      go_wp2
      go_ret2
      exact ⟨_, by rw [HO.out]; rfl, by rw [HV.out]; exact MadeR.nil _ _ HB2.out⟩
theorem sChunksOf_k {x : List ByteArray} {v : Value} {w : World} (k0 : kStringS.K w x [v]) (h0 : wfStringS x) (s0 : smStringS 1048576 x) : Calls Try.prog 97 #[v] w
    fun e w' => ∃ v F, e = .returned (.tuple #[v, .bool (chOk x)]) ∧ kChunkS.M w' F (chV x) [v] ∧ (∀ b ∈ F, w.heap.size ≤ b) ∧ F.Nodup ∧ Below w.heap.size w w' := by
  obtain ⟨_, h, g⟩ := kStringS_read k0
  obtain rfl := (List.cons.inj h).1
  refine (sChunksOf_calls x v w g s0).mono ?_
  rintro e w' ⟨v, rfl, F, h1, h2, h3, h4⟩
  exact ⟨v, F, rfl, kChunkS_make h1, h2, h3, h4⟩
theorem chV_sm {x : List ByteArray} {k : Nat} (hn : 200 ≤ k) : smChunkS k (chV x) := by
  unfold smChunkS chV
  split
  · rename_i h
    rw [Bool.and_eq_true, decide_eq_true_eq] at h
    omega
  · exact Nat.zero_le _
end Go.Proofs.Ytioelmhikablcaa
