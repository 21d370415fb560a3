/- What is wanted of files. -/
import Derived.Test.YtioelmhikablcaaTkA
import Derived.Test.YtioelmhikablcaaCrc
import Derived.Test.YtioelmhikablcaaStr
namespace Go.Proofs.Ytioelmhikablcaa
open Go Go.RowKit Go.Sort
set_option linter.unusedVariables false
set_option linter.unusedSimpArgs false

def fileB (s : ByteArray) : Bool := decide (4000 < (s.size : Int))
def filesOk (xs : List ByteArray) : Bool := decide ((xs.length : Int) ≤ 12) && !xs.any fileB
def wtOf (s : ByteArray) : DWanted := ⟨s.size, sumT s⟩
def wantV (xs : List ByteArray) : List DWanted := if filesOk xs then xs.map wtOf else []
theorem filesOk_le {xs : List ByteArray} (h : filesOk xs = true) : xs.length ≤ 12 ∧ ∀ x ∈ xs, x.size ≤ 4000 := by
  rw [filesOk, Bool.and_eq_true, decide_eq_true_eq] at h
  refine ⟨by omega, fun x hx => ?_⟩
  have h2 := h.2
  rw [Bool.not_eq_true', List.any_eq_false] at h2
  have := h2 x hx
  simp only [fileB, decide_eq_true_eq] at this
  omega
theorem txt_at {w wr : World} {A : Option Addr} {xs : List ByteArray} (h : kTxt.C w A xs) (hb : Below w.heap.size w wr) (k : Nat) (hk : k < xs.length) :
    ∃ b o, A = some ⟨b, o, none⟩ ∧ wr.cell? ⟨b, o + k, none⟩ = some (.string xs[k]) := by
  obtain ⟨b, o, cs, rfl, k1, q1⟩ := Rp.C_get h k hk
  obtain rfl : cs = [.string xs[k]] := k1
  have a0 := (World.cell?_of_block (hb.block b (World.block_lt_of_cell? w _ (q1 0 _ rfl)))).trans (q1 0 _ rfl)
  simp only [Rp.str, Rp.scalar, Nat.mul_one, Nat.add_zero] at a0
  exact ⟨b, o, rfl, a0⟩
set_option maxHeartbeats 400000 in
theorem cloFile_calls (s : ByteArray) (w : World) : Calls Try.prog 226 #[.string s] w fun e w' => e = .returned (.bool (fileB s)) ∧ Below w.heap.size w w' := by
  go_enter Try.func226, Try.ntmps226
  go_wp2
  all_goals go_ret
  all_goals exact ⟨rfl, Below.refl _ _⟩
set_option maxHeartbeats 2000000 in
set_option maxRecDepth 100000 in
theorem idxFile_calls (xs : List ByteArray) (v : Value) (w : World) (g : kTxt.S w xs v) (hl : xs.length ≤ 140737488355328) :
    Calls Try.prog 245 #[v, .func (.func 226) #[] #[]] w fun e w' => ∃ r : Int, e = .returned (.int .i64 r) ∧ decide (0 ≤ r) = xs.any fileB ∧ Below w.heap.size w w' := by
  obtain ⟨A, c, rfl, hc, h⟩ := g
  have H := Lib.hid h; clear h
  go_enter Try.func245, Try.ntmps245
  go_wp2
  go_loopw [8] (fun i wr => ∃ k : Nat, k ≤ xs.length ∧ i = .int .i64 k ∧ Hid ((xs.take k).any fileB = false) ∧ Hid (Below w.heap.size w wr)) (fun i _ => xs.length - (intOf i).toNat)
  case atStart => exact ⟨0, Nat.zero_le _, rfl, rfl, Below.refl _ _⟩
  case round =>
    obtain ⟨k, hk, rfl, HE, HB⟩ := hrel
    by_cases hlt : k < xs.length
    · obtain ⟨bx, o, rfl, a0⟩ := txt_at H.out HB.out k hlt
      have hany := any_take (p := fileB) hlt
      have hsome := any_at (p := fileB) hlt
      rw [HE.out, Bool.false_or] at hany
      generalize he : xs[k] = y at *
      have HG := Lib.hid he; clear he
      have HA := Lib.hid hany; clear hany
      have HS := Lib.hid hsome; clear hsome HE
      have i1 : (0 : Int) ≤ (k : Int) := by omega
      have i2 : (k : Int) < (xs.length : Int) := by omega
      cases hm : fileB y
      · have HA2 := Lib.hid (HA.out.trans hm)
        clear HA HS
        go_wp2_with (first | (with_reducible refine (cloFile_calls y _).mono ?_; rintro e wq ⟨rfl, hb⟩; rw [hm]; have HB := Lib.hid (HB.out.trans (hb.mono HB.out.size)); clear hb))
        all_goals exact ⟨⟨k + 1, by omega, by go_num, HA2.out, HB.out⟩, by simp [intOf]; omega⟩
      · have HS2 := Lib.hid (HS.out hm)
        clear HA HS
        go_wp2_with (first | (with_reducible refine (cloFile_calls y _).mono ?_; rintro e wq ⟨rfl, hb⟩; rw [hm]; have HB := Lib.hid (HB.out.trans (hb.mono HB.out.size)); clear hb))
        all_goals go_ret
        all_goals exact ⟨k, rfl, by rw [HS2.out]; simp, HB.out⟩
    · go_wp2
      go_ret
      obtain rfl : k = xs.length := by omega
      have h1 := HE.out
      rw [List.take_length] at h1
      exact ⟨-1, rfl, by rw [h1]; rfl, HB.out⟩
set_option maxHeartbeats 1000000 in
theorem conFile_calls (xs : List ByteArray) (v : Value) (w : World) (g : kTxt.S w xs v) (hl : xs.length ≤ 140737488355328) :
    Calls Try.prog 225 #[v, .func (.func 226) #[] #[]] w fun e w' => e = .returned (.bool (xs.any fileB)) ∧ Below w.heap.size w w' := by
  have G := Lib.hid g
  clear g
  go_enter Try.func225, Try.ntmps225
  go_wp2_with fail
  (with_reducible refine (idxFile_calls xs v _ G.out hl).mono ?_)
  rintro e w1 ⟨r, rfl, hr, hb⟩
  have HR := Lib.hid hr; have HB := Lib.hid hb
  clear hr hb
  go_wp2
  go_ret
  exact ⟨by rw [← HR.out]; rfl, HB.out⟩
set_option maxHeartbeats 1000000 in
theorem iFilesOk_calls (xs : List ByteArray) (v : Value) (w : World) (g : kTxt.S w xs v) (hl : xs.length ≤ 140737488355328) : Calls Try.prog 181 #[v] w fun e w' => e = .returned (.bool (filesOk xs)) ∧ Below w.heap.size w w' := by
  have G := Lib.hid g
  obtain ⟨A, c, rfl, hc, h⟩ := g
  clear h
  by_cases h12 : (xs.length : Int) ≤ 12
  · have HW := Lib.hid (show filesOk xs = !xs.any fileB by rw [filesOk, decide_eq_true h12, Bool.true_and])
    go_enter Try.func181, Try.ntmps181
    go_wp2_with ((with_reducible refine (conFile_calls xs _ _ G.out hl).mono ?_); rintro e wq ⟨rfl, hb⟩; have HB := Lib.hid hb; clear hb)
    go_ret
    exact ⟨by rw [HW.out]; rfl, HB.out⟩
  · have HW := Lib.hid (show filesOk xs = false by rw [filesOk, decide_eq_false h12]; rfl)
    go_enter Try.func181, Try.ntmps181
    go_wp2
    go_ret
    exact ⟨by rw [HW.out]; rfl, Below.refl _ _⟩
set_option maxHeartbeats 2000000 in
set_option maxRecDepth 100000 in
theorem sFilesOk_calls (xs : List ByteArray) (v : Value) (w : World) (g : kTxt.S w xs v) (hl : xs.length ≤ 140737488355328) : Calls Try.prog 179 #[v] w fun e w' => e = .returned (.bool (filesOk xs)) ∧ Below w.heap.size w w' := by
  obtain ⟨A, c, rfl, hc, h⟩ := g
  have H := Lib.hid h; clear h
  go_enter Try.func179, Try.ntmps179
  go_wp2
  go_loopw [7] (fun i wr => ∃ k : Nat, k ≤ xs.length ∧ i = .int .i64 k ∧ Hid ((xs.take k).any fileB = false) ∧ Hid (Below w.heap.size w wr)) (fun i _ => xs.length - (intOf i).toNat)
  case atStart => exact ⟨0, Nat.zero_le _, rfl, rfl, Below.refl _ _⟩
  case round =>
    obtain ⟨k, hk, rfl, HE, HB⟩ := hrel
    by_cases hlt : k < xs.length
    · obtain ⟨bx, o, rfl, a0⟩ := txt_at H.out HB.out k hlt
      have hany := any_take (p := fileB) hlt
      have hsome := any_at (p := fileB) hlt
      rw [HE.out, Bool.false_or] at hany
      generalize he : xs[k] = y at *
      have HG := Lib.hid he; clear he
      have HA := Lib.hid hany; clear hany
      have HS := Lib.hid hsome; clear hsome HE
      have i1 : (0 : Int) ≤ (k : Int) := by omega
      have i2 : (k : Int) < (xs.length : Int) := by omega
      cases hm : fileB y
      · have HA2 := Lib.hid (HA.out.trans hm)
        clear HA HS
        have hm2 : ¬ 4000 < (y.size : Int) := by simpa [fileB] using hm
        go_wp2
        all_goals exact ⟨⟨k + 1, by omega, by go_num, HA2.out, HB.out⟩, by simp [intOf]; omega⟩
      · have HS2 := Lib.hid (HS.out hm)
        clear HA HS
        have hm2 : 4000 < (y.size : Int) := by simpa [fileB] using hm
        go_wp2
        all_goals go_ret
        all_goals exact ⟨by rw [filesOk, HS2.out]; simp, HB.out⟩
    · go_wp2
      go_ret
      obtain rfl : k = xs.length := by omega
      have h1 := HE.out
      rw [List.take_length] at h1
      exact ⟨by rw [filesOk, h1]; simp, HB.out⟩
set_option maxHeartbeats 4000000 in
set_option maxRecDepth 100000 in
theorem iWant_calls (xs : List ByteArray) (v : Value) (w : World) (g : kTxt.S w xs v) (hl : xs.length ≤ 12) (hs : ∀ x ∈ xs, x.size ≤ 4000) : Calls Try.prog 102 #[v] w fun e w' => ∃ v, e = .returned v ∧ MadeR kWanted 136 (xs.map wtOf) w w' v := by
  obtain ⟨A, c, rfl, hc, h⟩ := g
  have H := Lib.hid h; clear h
  have HS := Lib.hid hs; clear hs
  have HN := Lib.hid hl
  go_enter Try.func102, Try.ntmps102
  go_wp2
  go_loopw [3, 9] (fun v i wr => ∃ k : Nat, k ≤ xs.length ∧ i = .int .i64 k ∧ Hid (kWanted.Row 136 wr (Rp.ofOwn v) ((xs.take k).map wtOf) v) ∧ Hid (∀ b ∈ Rp.ofOwn v, w.heap.size ≤ b) ∧ Hid (Below w.heap.size w wr)) (fun _ i _ => xs.length - (intOf i).toNat)
  case atStart => exact ⟨0, Nat.zero_le _, rfl, Rp.Row_made0 _ _ _ (by simp), by simp [Hid, Rp.ofOwn, Value.ownBlock], (Below.refl _ _).alloc (Nat.le_refl _) _⟩
  case round =>
    obtain ⟨k, hk, rfl, HR, HF, HB⟩ := hrel
    by_cases hlt : k < xs.length
    · obtain ⟨bx, ox, rfl, a0⟩ := txt_at H.out HB.out k hlt
      have hz := HS.out xs[k] (List.getElem_mem hlt)
      have hst : (xs.take (k + 1)).map wtOf = (xs.take k).map wtOf ++ [wtOf xs[k]] := by rw [List.take_add_one, List.getElem?_eq_getElem hlt, List.map_append]; rfl
      have hL : ((xs.take k).map wtOf).length = k := by rw [List.length_map, List.length_take]; omega
      generalize (xs.take k).map wtOf = L at *
      generalize xs[k] = x at *
      have HST := Lib.hid hst; clear hst
      have HL := Lib.hid hL; clear hL
      have i1 : (0 : Int) ≤ (k : Int) := by omega
      have i2 : (k : Int) < (xs.length : Int) := by omega
      have hl12 : k ≤ 12 := by have := HN.out; omega
      go_wp2_with (first | ((with_reducible refine (iSum_calls x _ (by omega)).mono ?_); rintro e1 w1 ⟨rfl, hb⟩; have HR := Lib.hid (Rp.Row_below HR.out hb); have HB := Lib.hid (HB.out.trans (hb.mono HB.out.size)); clear hb) | at_builtin; go_loud (refine wp_append (d := kWanted) rfl _ _ 30 136 rfl Try.underlying30 infoWanted rfl (by decide) rfl (by decide) kWanted_flat (xs := L) (ys := [wtOf x]) rfl rfl (Rp.Row_below HR.out ((Below.refl _ _).alloc (Nat.le_refl _) _)) (Rp.S_one (Box.new (by simp)) (kWanted.M_K (kWanted_mk _ (wtOf x)))) (by have := HL.out; simp; omega) ?_; intro v1 w2 r1 r2 r3 _; have R1 := Lib.hid r1; have R2 := Lib.hid r2; have R3 := Lib.hid r3; clear r1 r2 r3))
      exact ⟨⟨k + 1, by omega, by go_num, by rw [HST.out]; exact R1.out, fun b hb => by rcases R3.out b hb with h | h; exact HF.out b h; simp at h; have := HB.out.size; omega, (Below.alloc HB.out HB.out.size _).trans (R2.out.toBelow (by have := HB.out.size; simp; omega) HF.out)⟩, by simp [intOf]; omega⟩
    · obtain rfl : k = xs.length := by omega
      go_wp2
      go_ret
      exact ⟨_, rfl, _, by have := HR.out; rwa [List.take_length] at this, HF.out, ofOwn_nodup _, HB.out⟩
set_option maxHeartbeats 4000000 in
set_option maxRecDepth 100000 in
theorem sWantOf_calls (xs : List ByteArray) (v : Value) (w : World) (g : kTxt.S w xs v) (hl : xs.length ≤ 1048576) : Calls Try.prog 98 #[v] w fun e w' => ∃ v, e = .returned (.tuple #[v, .bool (filesOk xs)]) ∧ MadeR kWanted 136 (wantV xs) w w' v := by
  have G := Lib.hid g
  obtain ⟨A, c, rfl, hc, h⟩ := g
  have H := Lib.hid h; clear h
  go_enter Try.func98, Try.ntmps98
  go_wp2_with fail
  (with_reducible refine (sFilesOk_calls xs _ _ G.out (by omega)).mono ?_)
  rintro e w1 ⟨rfl, hb⟩
  have HB := Lib.hid hb; clear hb
  cases hg : filesOk xs
  case false =>
    go_wp2
    go_ret2
    exact ⟨_, by rw [hg]; rfl, by rw [wantV, hg]; exact MadeR.nil _ _ HB.out⟩
  case true =>
  obtain ⟨q1, q2⟩ := filesOk_le hg
  have HS := Lib.hid q2; clear q2
  have HN := Lib.hid q1
  go_wp2
  go_loopw [4, 12] (fun v i wr => ∃ k : Nat, k ≤ xs.length ∧ i = .int .i64 k ∧ Hid (kWanted.Row 136 wr (Rp.ofOwn v) ((xs.take k).map wtOf) v) ∧ Hid (∀ b ∈ Rp.ofOwn v, w.heap.size ≤ b) ∧ Hid (Below w.heap.size w wr)) (fun _ i _ => xs.length - (intOf i).toNat)
  case atStart => exact ⟨0, Nat.zero_le _, rfl, Rp.Row_nil _ _ _, by simp [Hid, Rp.ofOwn, Value.ownBlock], HB.out⟩
  case round =>
    obtain ⟨k, hk, rfl, HR, HF, HB⟩ := hrel
    by_cases hlt : k < xs.length
    · obtain ⟨bx, ox, rfl, a0⟩ := txt_at H.out HB.out k hlt
      have hz := HS.out xs[k] (List.getElem_mem hlt)
      have hst : (xs.take (k + 1)).map wtOf = (xs.take k).map wtOf ++ [wtOf xs[k]] := by rw [List.take_add_one, List.getElem?_eq_getElem hlt, List.map_append]; rfl
      have hL : ((xs.take k).map wtOf).length = k := by rw [List.length_map, List.length_take]; omega
      generalize (xs.take k).map wtOf = L at *
      generalize xs[k] = x at *
      have HST := Lib.hid hst; clear hst
      have HL := Lib.hid hL; clear hL
      have i1 : (0 : Int) ≤ (k : Int) := by omega
      have i2 : (k : Int) < (xs.length : Int) := by omega
      have hl12 : k ≤ 12 := by have := HN.out; omega
      go_wp2_with (first | ((with_reducible refine (sSum_calls x _ (by omega)).mono ?_); rintro e1 w1 ⟨rfl, hb⟩; have HR := Lib.hid (Rp.Row_below HR.out hb); have HB := Lib.hid (HB.out.trans (hb.mono HB.out.size)); clear hb) | at_builtin; go_loud (refine wp_append (d := kWanted) rfl _ _ 30 136 rfl Try.underlying30 infoWanted rfl (by decide) rfl (by decide) kWanted_flat (xs := L) (ys := [wtOf x]) rfl rfl (Rp.Row_below HR.out ((Below.refl _ _).alloc (Nat.le_refl _) _)) (Rp.S_one (Box.new (by simp)) (kWanted.M_K (kWanted_mk _ (wtOf x)))) (by have := HL.out; simp; omega) ?_; intro v1 w2 r1 r2 r3 _; have R1 := Lib.hid r1; have R2 := Lib.hid r2; have R3 := Lib.hid r3; clear r1 r2 r3))
      exact ⟨⟨k + 1, by omega, by go_num, by rw [HST.out]; exact R1.out, fun b hb => by rcases R3.out b hb with h | h; exact HF.out b h; simp at h; have := HB.out.size; omega, (Below.alloc HB.out HB.out.size _).trans (R2.out.toBelow (by have := HB.out.size; simp; omega) HF.out)⟩, by simp [intOf]; omega⟩
    · obtain rfl : k = xs.length := by omega
      go_wp2
      go_ret2
      exact ⟨_, by rw [hg]; rfl, by rw [wantV, hg]; exact ⟨_, by have := HR.out; rwa [List.take_length] at this, HF.out, ofOwn_nodup _, HB.out⟩⟩
theorem sWantOf_k {x : List ByteArray} {v : Value} {w : World} (k0 : kStringS.K w x [v]) (h0 : wfStringS x) (s0 : smStringS 1048576 x) : Calls Try.prog 98 #[v] w
    fun e w' => ∃ v F, e = .returned (.tuple #[v, .bool (filesOk x)]) ∧ kWantedS.M w' F (wantV x) [v] ∧ (∀ b ∈ F, w.heap.size ≤ b) ∧ F.Nodup ∧ Below w.heap.size w w' := by
  obtain ⟨_, h, g⟩ := kStringS_read k0
  obtain rfl := (List.cons.inj h).1
  refine (sWantOf_calls x v w g s0).mono ?_
  rintro e w' ⟨v, rfl, F, h1, h2, h3, h4⟩
  exact ⟨v, F, rfl, kWantedS_make h1, h2, h3, h4⟩
theorem wantV_sm {x : List ByteArray} {n k : Nat} (h : smStringS n x) (hn : n ≤ k) : smWantedS k (wantV x) := by
  unfold smStringS at h
  unfold smWantedS wantV
  split
  · rw [List.length_map]; omega
  · exact Nat.zero_le _
end Go.Proofs.Ytioelmhikablcaa
