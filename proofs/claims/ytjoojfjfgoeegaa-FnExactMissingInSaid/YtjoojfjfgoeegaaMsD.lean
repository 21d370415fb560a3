/- What is missing. -/
import Derived.Test.YtjoojfjfgoeegaaMsC
namespace Go.Proofs.Ytjoojfjfgoeegaa
open Go Go.RowKit Go.Sort
set_option linter.unusedVariables false
set_option linter.unusedSimpArgs false

def miV (ws : List DWanted) (xs : List DChunk) : List DChunk := if tkOk ws xs then misA ws xs ws.length else []
theorem tk_open {ws : List DWanted} {xs : List DChunk} (h : tkOk ws xs = true) : (ws.length ≤ 12 ∧ ∀ m ∈ ws, wantB m = false) ∧ xs.length ≤ 200 ∧ Ord xs ∧ ∀ z ∈ xs, chGood ws z = true := by
  rw [tkOk, Bool.and_eq_true, Bool.and_eq_true, decide_eq_true_eq] at h
  have g := got_ord xs none h.2
  exact ⟨wantOk_le h.1.1, h.1.2, g.1, g.2.2⟩
theorem miV_sm {ws : List DWanted} {xs : List DChunk} {k : Nat} (hk : 1000 ≤ k) : smChunkS k (miV ws xs) := by
  unfold smChunkS miV
  split
  · rename_i h
    have h1 := (tk_open h).1
    have := misA_len ws xs h1.2 ws.length
    omega
  · exact Nat.zero_le _
set_option maxHeartbeats 4000000 in
set_option maxRecDepth 100000 in
theorem iMissIn_calls (ws : List DWanted) (xs : List DChunk) (v0 v1 : Value) (w : World) (g0 : kWanted.S w ws v0) (g1 : kChunk.S w xs v1) (hl : ws.length ≤ 1048576 ∧ xs.length ≤ 1048576) : Calls Try.prog 40 #[.agg #[v0, v1]] w
    fun e w' => ∃ v, e = .returned (.tuple #[v, .bool (tkOk ws xs)]) ∧ MadeR kChunk 64 (miV ws xs) w w' v := by
  have G0 := Lib.hid g0
  have G1 := Lib.hid g1
  obtain ⟨A0, c0, rfl, _, _⟩ := g0
  obtain ⟨A2, c2, rfl, _, _⟩ := g1
  go_enter Try.func40, Try.ntmps40
  go_upto_region 1 with fail
  have HC := Lib.hid ((Below.refl w.heap.size w).alloc (Nat.le_refl _) (.cells #[.slice A0 ws.length c0, .slice A2 xs.length c2] 39))
  have X := Lib.hid (show Box (w.alloc (.cells #[.slice A0 ws.length c0, .slice A2 xs.length c2] 39)) w.heap.size #[.slice A0 ws.length c0, .slice A2 xs.length c2] 39 from Box.new rfl)
  generalize w.alloc (.cells #[.slice A0 ws.length c0, .slice A2 xs.length c2] 39) = w1 at *
  have x0 := X.out.cell 0 (v := .slice A0 ws.length c0) rfl; have x1 := X.out.cell 1 (v := .slice A2 xs.length c2) rfl
  go_wp2_with fail
  (with_reducible refine (iGoodT_calls ws xs _ _ _ (Rp.S_below G0.out HC.out) (Rp.S_below G1.out HC.out) hl).mono ?_)
  rintro e w2 ⟨rfl, hb⟩
  have HC := Lib.hid (HC.out.trans (hb.mono HC.out.size)); have X := Lib.hid (X.out.below hb)
  clear x0 x1 hb
  cases hg : tkOk ws xs
  case false =>
    go_wp2
    go_ret2
    exact ⟨_, by rw [hg]; rfl, by rw [miV, hg]; exact MadeR.nil _ _ HC.out⟩
  case true =>
    obtain ⟨q1, q2, q3, q4⟩ := tk_open hg
    have x0 := X.out.cell 0 (v := .slice A0 ws.length c0) rfl; have x1 := X.out.cell 1 (v := .slice A2 xs.length c2) rfl
    go_wp2_with fail
    (with_reducible refine (iMiss_calls ws xs w.heap.size _ _ _ X.out (Rp.S_below G0.out HC.out) (Rp.S_below G1.out HC.out) q1 q2 q3).mono ?_)
    rintro e w3 ⟨vv, rfl, F, r1, r2, r3, hb⟩
    have R1 := Lib.hid r1; have R2 := Lib.hid r2; have R3 := Lib.hid r3; have HB2 := Lib.hid hb
    clear r1 r2 r3 hb x0 x1
    go_wp2
    go_ret2
    exact ⟨_, by rw [hg]; rfl, by rw [miV, hg]; exact ⟨F, R1.out, fun b h => Nat.le_trans HC.out.size (R2.out b h), R3.out, HC.out.trans (HB2.out.mono HC.out.size)⟩⟩
theorem iMissingIn_k {x : DTaking} {c0 : List Value} {w : World} (k0 : kTaking.K w x c0) (h0 : wfTaking x) (s0 : smTaking 1048576 x) : Calls Try.prog 40 #[.agg c0.toArray] w
    fun e w' => ∃ v F, e = .returned (.tuple #[v, .bool (tkOk x.fWant x.fGot)]) ∧ kChunkS.M w' F (miV x.fWant x.fGot) [v] ∧ (∀ b ∈ F, w.heap.size ≤ b) ∧ F.Nodup ∧ Below w.heap.size w w' := by
  obtain ⟨v0, v1, rfl, g0, g1⟩ := kTaking_read k0
  refine (iMissIn_calls x.fWant x.fGot v0 v1 w g0 g1 s0).mono ?_
  rintro e w' ⟨v, rfl, F, h1, h2, h3, h4⟩
  exact ⟨v, F, rfl, kChunkS_make h1, h2, h3, h4⟩
set_option maxHeartbeats 4000000 in
set_option maxRecDepth 100000 in
theorem sMissIn_calls (ws : List DWanted) (xs : List DChunk) (v0 v1 : Value) (w : World) (g0 : kWanted.S w ws v0) (g1 : kChunk.S w xs v1) (hl : ws.length ≤ 1048576 ∧ xs.length ≤ 1048576) : Calls Try.prog 39 #[.agg #[v0, v1]] w
    fun e w' => ∃ v, e = .returned (.tuple #[v, .bool (tkOk ws xs)]) ∧ MadeR kChunk 64 (miV ws xs) w w' v := by
  have G0 := Lib.hid g0
  have G1 := Lib.hid g1
  obtain ⟨A0, c0, rfl, _, _⟩ := g0
  obtain ⟨A2, c2, rfl, _, _⟩ := g1
  go_enter Try.func39, Try.ntmps39
  go_upto_region 1 with fail
  have HC := Lib.hid ((Below.refl w.heap.size w).alloc (Nat.le_refl _) (.cells #[.slice A0 ws.length c0, .slice A2 xs.length c2] 39))
  have X := Lib.hid (show Box (w.alloc (.cells #[.slice A0 ws.length c0, .slice A2 xs.length c2] 39)) w.heap.size #[.slice A0 ws.length c0, .slice A2 xs.length c2] 39 from Box.new rfl)
  generalize w.alloc (.cells #[.slice A0 ws.length c0, .slice A2 xs.length c2] 39) = w1 at *
  have x0 := X.out.cell 0 (v := .slice A0 ws.length c0) rfl; have x1 := X.out.cell 1 (v := .slice A2 xs.length c2) rfl
  go_wp2_with fail
  (with_reducible refine (sGoodT_calls ws xs _ _ _ (Rp.S_below G0.out HC.out) (Rp.S_below G1.out HC.out) hl).mono ?_)
  rintro e w2 ⟨rfl, hb⟩
  have HC := Lib.hid (HC.out.trans (hb.mono HC.out.size)); have X := Lib.hid (X.out.below hb)
  clear x0 x1 hb
  cases hg : tkOk ws xs
  case false =>
    go_wp2
    go_ret2
    exact ⟨_, by rw [hg]; rfl, by rw [miV, hg]; exact MadeR.nil _ _ HC.out⟩
  case true =>
    obtain ⟨q1, q2, q3, q4⟩ := tk_open hg
    have x0 := X.out.cell 0 (v := .slice A0 ws.length c0) rfl; have x1 := X.out.cell 1 (v := .slice A2 xs.length c2) rfl
    go_wp2_with fail
    (with_reducible refine (sMiss_calls ws xs _ _ _ (Rp.S_below G0.out HC.out) (Rp.S_below G1.out HC.out) q1 q2 q3 q4).mono ?_)
    rintro e w3 ⟨vv, rfl, F, r1, r2, r3, hb⟩
    have R1 := Lib.hid r1; have R2 := Lib.hid r2; have R3 := Lib.hid r3; have HB2 := Lib.hid hb
    clear r1 r2 r3 hb x0 x1
    go_wp2
    go_ret2
    exact ⟨_, by rw [hg]; rfl, by rw [miV, hg]; exact ⟨F, R1.out, fun b h => Nat.le_trans HC.out.size (R2.out b h), R3.out, HC.out.trans (HB2.out.mono HC.out.size)⟩⟩
theorem sMissingIn_k {x : DTaking} {c0 : List Value} {w : World} (k0 : kTaking.K w x c0) (h0 : wfTaking x) (s0 : smTaking 1048576 x) : Calls Try.prog 39 #[.agg c0.toArray] w
    fun e w' => ∃ v F, e = .returned (.tuple #[v, .bool (tkOk x.fWant x.fGot)]) ∧ kChunkS.M w' F (miV x.fWant x.fGot) [v] ∧ (∀ b ∈ F, w.heap.size ≤ b) ∧ F.Nodup ∧ Below w.heap.size w w' := by
  obtain ⟨v0, v1, rfl, g0, g1⟩ := kTaking_read k0
  refine (sMissIn_calls x.fWant x.fGot v0 v1 w g0 g1 s0).mono ?_
  rintro e w' ⟨v, rfl, F, h1, h2, h3, h4⟩
  exact ⟨v, F, rfl, kChunkS_make h1, h2, h3, h4⟩
end Go.Proofs.Ytjoojfjfgoeegaa
