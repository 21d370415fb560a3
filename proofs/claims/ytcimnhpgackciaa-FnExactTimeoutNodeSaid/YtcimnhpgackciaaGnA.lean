/- Nodes: plain facts and small functions, walked. -/
import Derived.Test.YtcimnhpgackciaaRaM
namespace Go.Proofs.Ytcimnhpgackciaa
open Go Go.RowKit Go.Sort
set_option linter.unusedVariables false
set_option linter.unusedSimpArgs false

def overI2 : Option Int → Int → Bool
  | none, _ => true
  | some k, n => decide (k < n)
def votesFrom (pe : Int) : Option Int → List Int → Bool
  | _, [] => true
  | o, v :: vs => inR v 0 (pe - 1) && overI2 o v && votesFrom pe (some v) vs
def prevV (xs : List Int) (k : Nat) : Option Int := if k = 0 then none else xs[k - 1]?
theorem prevV_succ {xs : List Int} {k : Nat} (h : k < xs.length) : prevV xs (k + 1) = some xs[k] := by
  rw [prevV, if_neg (by omega), Nat.add_sub_cancel, List.getElem?_eq_getElem h]
theorem prevV_pos {xs : List Int} {k : Nat} (h : k - 1 < xs.length) (hk : k ≠ 0) : prevV xs k = some xs[k - 1] := by
  rw [prevV, if_neg hk, List.getElem?_eq_getElem h]
def hasI (n : Int) (xs : List Int) : Bool := xs.any (fun y => n == y)
def outI (top : Int) (xs : List Int) : Bool := xs.any (fun y => !inR y 0 top)
def headN (n : DRaftNode) : Bool := inR n.fPeers 1 7 && inR n.fId 0 (n.fPeers - 1) && inR n.fTerm 0 1000 && inR n.fVote (-1) (n.fPeers - 1)
def logN (n : DRaftNode) : Bool := decide ((n.fLog.length : Int) ≤ 60) && entFrom n.fTerm none n.fLog && inR n.fCommit 0 n.fLog.length && inR n.fRole 0 2
def roleN (n : DRaftNode) : Bool := (n.fRole == 0) || ((n.fVote == n.fId) && decide (1 ≤ n.fTerm))
def votesN (n : DRaftNode) : Bool := if n.fRole == 1 then votesFrom n.fPeers none n.fVotes && hasI n.fId n.fVotes && decide (2 * (n.fVotes.length : Int) ≤ n.fPeers) else decide ((n.fVotes.length : Int) = 0)
def atI (xs : List Int) (i : Int) : Int := xs.getD i.toNat 0
def matchN (n : DRaftNode) : Bool := if n.fRole == 2 then decide ((n.fMatch.length : Int) = n.fPeers) && (atI n.fMatch n.fId == (n.fLog.length : Int)) && !outI n.fLog.length n.fMatch else decide ((n.fMatch.length : Int) = 0)
def nodeOk (n : DRaftNode) : Bool := headN n && logN n && roleN n && votesN n && matchN n
theorem ret_bool {a b : Bool} (h : a = b) : Ending.returned (.bool a) = .returned (.bool b) := by rw [h]
theorem any_take {α : Type} {p : α → Bool} {xs : List α} {k : Nat} (h : k < xs.length) : (xs.take (k + 1)).any p = ((xs.take k).any p || p xs[k]) := by
  rw [List.take_add_one, List.getElem?_eq_getElem h, List.any_append]
  simp
theorem any_at {α : Type} {p : α → Bool} {xs : List α} {k : Nat} (h : k < xs.length) (hp : p xs[k] = true) : xs.any p = true := by
  rw [List.any_eq_true]
  exact ⟨xs[k], List.getElem_mem h, hp⟩
/-- An element of a slice of numbers. -/
theorem int_at {w wr : World} {A : Option Addr} {xs : List Int} (h : kInt.C w A xs) (hb : Below w.heap.size w wr) (k : Nat) (hk : k < xs.length) : ∃ b o, A = some ⟨b, o, none⟩ ∧ wr.cell? ⟨b, o + k, none⟩ = some (.int .i64 xs[k]) := by
  obtain ⟨b, o, cs, rfl, k1, q1⟩ := Rp.C_get h k hk
  obtain rfl : cs = [.int .i64 xs[k]] := k1
  refine ⟨b, o, rfl, ?_⟩
  have a0 := (World.cell?_of_block (hb.block b (World.block_lt_of_cell? w _ (q1 0 _ rfl)))).trans (q1 0 _ rfl)
  simpa only [Rp.int, Rp.scalar, Nat.mul_one, Nat.add_zero] using a0

set_option maxHeartbeats 2000000 in
set_option maxRecDepth 100000 in
theorem idxI_calls (xs : List Int) (v : Value) (n : Int) (w : World) (g : kInt.S w xs v) (hl : xs.length ≤ 140737488355328) :
    Calls Try.prog 55 #[v, .int .i64 n] w fun e w' => ∃ r : Int, e = .returned (.int .i64 r) ∧ decide (0 ≤ r) = hasI n xs ∧ Below w.heap.size w w' := by
  obtain ⟨A, c, rfl, hc, h⟩ := g
  have H := Lib.hid h; clear h
  skip
  go_enter Try.func55, Try.ntmps55
  go_wp2
  go_loopw [8] (fun i wr => ∃ k : Nat, k ≤ xs.length ∧ i = .int .i64 k ∧ Hid ((xs.take k).any (fun y => n == y) = false) ∧ Hid (Below w.heap.size w wr)) (fun i _ => xs.length - (intOf i).toNat)
  case atStart => exact ⟨0, Nat.zero_le _, rfl, rfl, Below.refl _ _⟩
  case round =>
    obtain ⟨k, hk, rfl, HE, HB⟩ := hrel
    by_cases hlt : k < xs.length
    · obtain ⟨bx, o, rfl, a0⟩ := int_at H.out HB.out k hlt
      have hany := any_take (p := fun y => n == y) hlt
      have hsome := any_at (p := fun y => n == y) hlt
      rw [HE.out, Bool.false_or] at hany
      generalize he : xs[k] = y at *
      have HG := Lib.hid he; clear he
      have HA := Lib.hid hany; clear hany
      have HS := Lib.hid hsome; clear hsome HE
      have i1 : (0 : Int) ≤ (k : Int) := by omega
      have i2 : (k : Int) < (xs.length : Int) := by omega
      cases hm : (fun y => n == y) y
      · have HA2 := Lib.hid (HA.out.trans hm)
        clear HA HS
        have hm' := hm
        simp only [] at hm'
        go_wp2_with (first | fail)
        all_goals exact ⟨⟨k + 1, by omega, by go_num, HA2.out, HB.out⟩, by simp [intOf]; omega⟩
      · have HS2 := Lib.hid (HS.out hm)
        clear HA HS
        have hm' := hm
        simp only [] at hm'
        go_wp2_with (first | fail)
        all_goals go_ret
        all_goals exact ⟨k, rfl, by rw [hasI, HS2.out]; simp, HB.out⟩
    · go_wp2
      go_ret
      obtain rfl : k = xs.length := by omega
      have h1 := HE.out
      rw [List.take_length] at h1
      exact ⟨-1, rfl, by rw [hasI, h1]; rfl, HB.out⟩
set_option maxHeartbeats 1000000 in
theorem conI_calls (xs : List Int) (v : Value) (n : Int) (w : World) (g : kInt.S w xs v) (hl : xs.length ≤ 140737488355328) :
    Calls Try.prog 52 #[v, .int .i64 n] w fun e w' => e = .returned (.bool (hasI n xs)) ∧ Below w.heap.size w w' := by
  have G := Lib.hid g
  clear g
  go_enter Try.func52, Try.ntmps52
  go_wp2_with fail
  (with_reducible refine (idxI_calls xs v n _ G.out hl).mono ?_)
  rintro e w1 ⟨r, rfl, hr, hb⟩
  have HR := Lib.hid hr; have HB := Lib.hid hb
  clear hr hb
  go_wp2
  go_ret
  exact ⟨by rw [← HR.out]; rfl, HB.out⟩
set_option maxHeartbeats 2000000 in
set_option maxRecDepth 100000 in
theorem sHasI_calls (xs : List Int) (v : Value) (n : Int) (w : World) (g : kInt.S w xs v) (hl : xs.length ≤ 140737488355328) :
    Calls Try.prog 37 #[v, .int .i64 n] w fun e w' => e = .returned (.bool (hasI n xs)) ∧ Below w.heap.size w w' := by
  obtain ⟨A, c, rfl, hc, h⟩ := g
  have H := Lib.hid h; clear h
  skip
  go_enter Try.func37, Try.ntmps37
  go_wp2
  go_loopw [9] (fun i wr => ∃ k : Nat, k ≤ xs.length ∧ i = .int .i64 k ∧ Hid ((xs.take k).any (fun y => n == y) = false) ∧ Hid (Below w.heap.size w wr)) (fun i _ => xs.length - (intOf i).toNat)
  case atStart => exact ⟨0, Nat.zero_le _, rfl, rfl, Below.refl _ _⟩
  case round =>
    obtain ⟨k, hk, rfl, HE, HB⟩ := hrel
    by_cases hlt : k < xs.length
    · obtain ⟨bx, o, rfl, a0⟩ := int_at H.out HB.out k hlt
      have hany := any_take (p := fun y => n == y) hlt
      have hsome := any_at (p := fun y => n == y) hlt
      rw [HE.out, Bool.false_or] at hany
      generalize he : xs[k] = y at *
      have HG := Lib.hid he; clear he
      have HA := Lib.hid hany; clear hany
      have HS := Lib.hid hsome; clear hsome HE
      have i1 : (0 : Int) ≤ (k : Int) := by omega
      have i2 : (k : Int) < (xs.length : Int) := by omega
      cases hm : (fun y => n == y) y
      · have HA2 := Lib.hid (HA.out.trans hm)
        clear HA HS
        have hm' : (n == y) = false := hm
        have hm2 : (y == n) = false := by rw [BEq.comm]; exact hm'
        go_wp2_with (first | fail)
        all_goals exact ⟨⟨k + 1, by omega, by go_num, HA2.out, HB.out⟩, by simp [intOf]; omega⟩
      · have HS2 := Lib.hid (HS.out hm)
        clear HA HS
        have hm' : (n == y) = true := hm
        have hm2 : (y == n) = true := by rw [BEq.comm]; exact hm'
        go_wp2_with (first | fail)
        all_goals go_ret
        all_goals exact ⟨ret_bool (by rw [hasI, HS2.out]), HB.out⟩
    · go_wp2
      go_ret
      obtain rfl : k = xs.length := by omega
      have h1 := HE.out
      rw [List.take_length] at h1
      exact ⟨ret_bool (by rw [hasI, h1]), HB.out⟩
set_option maxHeartbeats 1000000 in
theorem iHalf_calls (m pe : Int) (b : Nat) (w : World) (c1 : w.cell? ⟨b, 1, none⟩ = some (.int .i64 pe)) (h0 : 0 ≤ m) (h1 : m ≤ 4194304) : Calls Try.prog 47 #[.pointer (some ⟨b, 0, none⟩), .int .i64 m] w
    fun e w' => e = .returned (.bool (decide (pe < 2 * m))) ∧ w' = w := by
  have hw : IntKind.i64.wrap (2 * m) = 2 * m := by rw [IntKind.wrap_i64]; omega
  go_enter Try.func47, Try.ntmps47
  go_wp2
  go_ret
  exact ⟨rfl, rfl⟩
set_option maxHeartbeats 1000000 in
theorem cloMatch_calls (y : Int) (g b n c : Nat) (A : Option Addr) (w : World) (c0 : w.cell? ⟨g, 0, none⟩ = some (.pointer (some ⟨b, 0, none⟩))) (c4 : w.cell? ⟨b, 4, none⟩ = some (.slice A n c)) : Calls Try.prog 54 #[.int .i64 y, .pointer (some ⟨g, 0, none⟩)] w
    fun e w' => e = .returned (.bool (!inR y 0 n)) ∧ w' = w := by
  go_enter Try.func54, Try.ntmps54
  go_wp2_with ((with_reducible refine (iInR_calls _ _ _ _).mono ?_); rintro e wq ⟨rfl, rfl⟩)
  all_goals go_ret
  all_goals exact ⟨rfl, rfl⟩
set_option maxHeartbeats 2000000 in
set_option maxRecDepth 100000 in
theorem idxM_calls (xs : List Int) (v : Value) (gb b n c0 : Nat) (A0 : Option Addr) (w : World) (g : kInt.S w xs v) (hl : xs.length ≤ 140737488355328) (c0_ : w.cell? ⟨gb, 0, none⟩ = some (.pointer (some ⟨b, 0, none⟩))) (c4_ : w.cell? ⟨b, 4, none⟩ = some (.slice A0 n c0)) :
    Calls Try.prog 56 #[v, .func (.func 54) #[] #[.pointer (some ⟨gb, 0, none⟩)]] w fun e w' => ∃ r : Int, e = .returned (.int .i64 r) ∧ decide (0 ≤ r) = outI n xs ∧ Below w.heap.size w w' := by
  obtain ⟨A, c, rfl, hc, h⟩ := g
  have H := Lib.hid h; clear h
  have C0 := Lib.hid c0_; have C4 := Lib.hid c4_; clear c0_ c4_
  go_enter Try.func56, Try.ntmps56
  go_wp2
  go_loopw [8] (fun i wr => ∃ k : Nat, k ≤ xs.length ∧ i = .int .i64 k ∧ Hid ((xs.take k).any (fun y => !inR y 0 n) = false) ∧ Hid (Below w.heap.size w wr)) (fun i _ => xs.length - (intOf i).toNat)
  case atStart => exact ⟨0, Nat.zero_le _, rfl, rfl, Below.refl _ _⟩
  case round =>
    obtain ⟨k, hk, rfl, HE, HB⟩ := hrel
    by_cases hlt : k < xs.length
    · obtain ⟨bx, o, rfl, a0⟩ := int_at H.out HB.out k hlt
      have hany := any_take (p := fun y => !inR y 0 n) hlt
      have hsome := any_at (p := fun y => !inR y 0 n) hlt
      rw [HE.out, Bool.false_or] at hany
      generalize he : xs[k] = y at *
      have HG := Lib.hid he; clear he
      have HA := Lib.hid hany; clear hany
      have HS := Lib.hid hsome; clear hsome HE
      have i1 : (0 : Int) ≤ (k : Int) := by omega
      have i2 : (k : Int) < (xs.length : Int) := by omega
      cases hm : (fun y => !inR y 0 n) y
      · have HA2 := Lib.hid (HA.out.trans hm)
        clear HA HS
        have hm' := hm
        simp only [] at hm'
        go_wp2_with (first | ((with_reducible refine (cloMatch_calls y gb b n c0 A0 _ ((HB.out.cell (World.block_lt_of_cell? w _ C0.out)).trans C0.out) ((HB.out.cell (World.block_lt_of_cell? w _ C4.out)).trans C4.out)).mono ?_); rintro e wq ⟨rfl, rfl⟩; rw [hm']))
        all_goals exact ⟨⟨k + 1, by omega, by go_num, HA2.out, HB.out⟩, by simp [intOf]; omega⟩
      · have HS2 := Lib.hid (HS.out hm)
        clear HA HS
        have hm' := hm
        simp only [] at hm'
        go_wp2_with (first | ((with_reducible refine (cloMatch_calls y gb b n c0 A0 _ ((HB.out.cell (World.block_lt_of_cell? w _ C0.out)).trans C0.out) ((HB.out.cell (World.block_lt_of_cell? w _ C4.out)).trans C4.out)).mono ?_); rintro e wq ⟨rfl, rfl⟩; rw [hm']))
        all_goals go_ret
        all_goals exact ⟨k, rfl, by rw [outI, HS2.out]; simp, HB.out⟩
    · go_wp2
      go_ret
      obtain rfl : k = xs.length := by omega
      have h1 := HE.out
      rw [List.take_length] at h1
      exact ⟨-1, rfl, by rw [outI, h1]; rfl, HB.out⟩
set_option maxHeartbeats 1000000 in
theorem conM_calls (xs : List Int) (v : Value) (gb b n c0 : Nat) (A0 : Option Addr) (w : World) (gs : kInt.S w xs v) (hl : xs.length ≤ 140737488355328) (c0_ : w.cell? ⟨gb, 0, none⟩ = some (.pointer (some ⟨b, 0, none⟩))) (c4_ : w.cell? ⟨b, 4, none⟩ = some (.slice A0 n c0)) :
    Calls Try.prog 53 #[v, .func (.func 54) #[] #[.pointer (some ⟨gb, 0, none⟩)]] w fun e w' => e = .returned (.bool (outI n xs)) ∧ Below w.heap.size w w' := by
  have G := Lib.hid gs
  have C0 := Lib.hid c0_; have C4 := Lib.hid c4_; clear c0_ c4_
  clear gs
  go_enter Try.func53, Try.ntmps53
  go_wp2_with fail
  (with_reducible refine (idxM_calls xs v gb b n c0 A0 _ G.out hl C0.out C4.out).mono ?_)
  rintro e w1 ⟨r, rfl, hr, hb⟩
  have HR := Lib.hid hr; have HB := Lib.hid hb
  clear hr hb
  go_wp2
  go_ret
  exact ⟨by rw [← HR.out]; rfl, HB.out⟩
end Go.Proofs.Ytcimnhpgackciaa
