/- Nodes: terms, what is not behind a log, what is committed. -/
import Derived.Test.YtcimnhpgackciaaGnD
namespace Go.Proofs.Ytcimnhpgackciaa
open Go Go.RowKit Go.Sort
set_option linter.unusedVariables false
set_option linter.unusedSimpArgs false

def termV (xs : List DEntry) (k : Nat) : Int := if k = 0 then 0 else ((xs[k - 1]?).map (·.fTerm)).getD 0
def upB (x : DRaftNode) (i t : Int) : Bool := decide (termV x.fLog x.fLog.length < t) || ((t == termV x.fLog x.fLog.length) && decide ((x.fLog.length : Int) ≤ i))
def upOk (x : DRaftNode) (i t : Int) : Bool := nodeOk x && decide (0 ≤ i) && decide (0 ≤ t)
def upV (x : DRaftNode) (i t : Int) : Bool := upOk x i t && upB x i t
def comV (x : DRaftNode) : List DEntry := if nodeOk x then x.fLog.take x.fCommit.toNat else []
/-- An element of a slice of entries. -/
theorem entry_at {w wr : World} {A : Option Addr} {xs : List DEntry} (h : kEntry.C w A xs) (hb : Below w.heap.size w wr) (k : Nat) (hk : k < xs.length) :
    ∃ b o, A = some ⟨b, o, none⟩ ∧ wr.cell? ⟨b, o + k * 2, none⟩ = some (.int .i64 xs[k].fTerm) ∧ wr.cell? ⟨b, o + k * 2 + 1, none⟩ = some (.string xs[k].fData) := by
  obtain ⟨b, o, cs, rfl, k1, q1⟩ := Rp.C_get h k hk
  obtain rfl := kEntry_K k1
  have a0 := (World.cell?_of_block (hb.block b (World.block_lt_of_cell? w _ (q1 0 _ rfl)))).trans (q1 0 _ rfl)
  have a1 := (World.cell?_of_block (hb.block b (World.block_lt_of_cell? w _ (q1 1 _ rfl)))).trans (q1 1 _ rfl)
  simp only [kEntry_sz, Nat.add_zero] at a0 a1
  exact ⟨b, o, rfl, a0, a1⟩
/-- A slice that is read, laid open. -/
theorem S_open {α : Type} {d : Rp α} {w : World} {xs : List α} {A : Option Addr} {n c : Nat} (h : d.S w xs (.slice A n c)) : n = xs.length ∧ CapOk xs.length A c ∧ d.C w A xs := by
  obtain ⟨A', c', e, h1, h2⟩ := h
  simp only [Value.slice.injEq] at e
  obtain ⟨rfl, rfl, rfl⟩ := e
  exact ⟨rfl, h1, h2⟩
theorem nodeOk_facts {x : DRaftNode} (h : nodeOk x = true) : 1 ≤ x.fPeers ∧ x.fPeers ≤ 7 ∧ 0 ≤ x.fId ∧ x.fId ≤ x.fPeers - 1 ∧ 0 ≤ x.fTerm ∧ x.fTerm ≤ 1000 ∧ 0 ≤ x.fCommit ∧ x.fCommit ≤ x.fLog.length ∧ x.fLog.length ≤ 60 ∧ 0 ≤ x.fRole ∧ x.fRole ≤ 2 := by
  simp only [nodeOk, headN, logN, inR, Bool.and_eq_true, decide_eq_true_eq] at h
  omega
set_option maxHeartbeats 1000000 in
theorem iTerm_calls (xs : List DEntry) (k b : Nat) (v : Value) (w : World) (g : kEntry.S w xs v) (c4 : w.cell? ⟨b, 4, none⟩ = some v) (hk : k ≤ xs.length) (hl : xs.length ≤ 1048576) : Calls Try.prog 25 #[.pointer (some ⟨b, 0, none⟩), .int .i64 k] w
    fun e w' => e = .returned (.int .i64 (termV xs k)) ∧ w' = w := by
  obtain ⟨A, c, rfl, hc, h⟩ := g
  rcases k with _ | k
  · go_enter Try.func25, Try.ntmps25
    go_wp2
    go_ret
    exact ⟨rfl, rfl⟩
  · obtain ⟨bx, o, rfl, a0, _⟩ := entry_at h (Below.refl _ _) k (by omega)
    have hv : termV xs (k + 1) = xs[k].fTerm := by rw [termV, if_neg (by omega), Nat.add_sub_cancel, List.getElem?_eq_getElem (by omega)]; rfl
    rw [hv]
    generalize xs[k].fTerm = y at *
    have hw : IntKind.i64.wrap (((k + 1 : Nat) : Int) - 1) = (k : Int) := by rw [IntKind.wrap_i64]; omega
    have hw2 : IntKind.i64.wrap ((k : Int) + 1 - 1) = (k : Int) := by rw [IntKind.wrap_i64]; omega
    have i1 : (0 : Int) ≤ (k : Int) := by omega
    have i2 : (k : Int) < (xs.length : Int) := by omega
    have i3 : (((k + 1 : Nat) : Int) == 0) = false := by simp; omega
    have i4 : ((k : Int) + 1 == 0) = false := by simp; omega
    go_enter Try.func25, Try.ntmps25
    go_wp2
    all_goals first
      | (go_ret; exact ⟨rfl, rfl⟩)
      | (exfalso; omega)
set_option maxHeartbeats 1000000 in
theorem sTerm_calls (x : DRaftNode) (k : Nat) (v4 v7 v8 : Value) (w : World) (g4 : kEntry.S w x.fLog v4) (g7 : kInt.S w x.fVotes v7) (g8 : kInt.S w x.fMatch v8) (hk : k ≤ x.fLog.length) (hl : x.fLog.length ≤ 1048576) : Calls Try.prog 19 #[.agg #[.int .i64 x.fId, .int .i64 x.fPeers, .int .i64 x.fTerm, .int .i64 x.fVote, v4, .int .i64 x.fCommit, .int .i64 x.fRole, v7, v8], .int .i64 k] w
    fun e w' => e = .returned (.int .i64 (termV x.fLog k)) ∧ Below w.heap.size w w' := by
  have G4 := Lib.hid g4
  obtain ⟨A4, d4, rfl, hc, h⟩ := g4
  obtain ⟨A7, d7, rfl, _, _⟩ := g7
  obtain ⟨A8, d8, rfl, _, _⟩ := g8
  have H := Lib.hid h; clear h
  rcases k with _ | k
  · go_enter Try.func19, Try.ntmps19
    go_wp2
    go_ret
    exact ⟨rfl, (Below.refl _ _).alloc (Nat.le_refl _) _⟩
  have hv : termV x.fLog (k + 1) = x.fLog[k].fTerm := by rw [termV, if_neg (by omega), Nat.add_sub_cancel, List.getElem?_eq_getElem (by omega)]; rfl
  generalize hy : termV x.fLog (k + 1) = y
  have hw : IntKind.i64.wrap (((k + 1 : Nat) : Int) - 1) = (k : Int) := by rw [IntKind.wrap_i64]; omega
  have hw2 : IntKind.i64.wrap ((k : Int) + 1 - 1) = (k : Int) := by rw [IntKind.wrap_i64]; omega
  have i1 : (0 : Int) ≤ (k : Int) := by omega
  have i2 : (k : Int) < (x.fLog.length : Int) := by omega
  have i3 : (((k + 1 : Nat) : Int) == 0) = false := by simp; omega
  have i4 : ((k : Int) + 1 == 0) = false := by simp; omega
  go_enter Try.func19, Try.ntmps19
  go_upto_region 1 with fail
  have HC := Lib.hid (show Below w.heap.size w (w.alloc (.cells #[.int .i64 x.fId, .int .i64 x.fPeers, .int .i64 x.fTerm, .int .i64 x.fVote, .slice A4 x.fLog.length d4, .int .i64 x.fCommit, .int .i64 x.fRole, .slice A7 x.fVotes.length d7, .slice A8 x.fMatch.length d8] 29)) from Below.alloc (Below.refl w.heap.size w) (by first | exact Nat.le_refl _ | (simp; done) | (simp; omega)) (.cells #[.int .i64 x.fId, .int .i64 x.fPeers, .int .i64 x.fTerm, .int .i64 x.fVote, .slice A4 x.fLog.length d4, .int .i64 x.fCommit, .int .i64 x.fRole, .slice A7 x.fVotes.length d7, .slice A8 x.fMatch.length d8] 29))
  have Xn := Lib.hid (show Box (w.alloc (.cells #[.int .i64 x.fId, .int .i64 x.fPeers, .int .i64 x.fTerm, .int .i64 x.fVote, .slice A4 x.fLog.length d4, .int .i64 x.fCommit, .int .i64 x.fRole, .slice A7 x.fVotes.length d7, .slice A8 x.fMatch.length d8] 29)) (w.heap.size) #[.int .i64 x.fId, .int .i64 x.fPeers, .int .i64 x.fTerm, .int .i64 x.fVote, .slice A4 x.fLog.length d4, .int .i64 x.fCommit, .int .i64 x.fRole, .slice A7 x.fVotes.length d7, .slice A8 x.fMatch.length d8] 29 from Box.new rfl)
  have hsz : w.heap.size + 1 ≤ (w.alloc (.cells #[.int .i64 x.fId, .int .i64 x.fPeers, .int .i64 x.fTerm, .int .i64 x.fVote, .slice A4 x.fLog.length d4, .int .i64 x.fCommit, .int .i64 x.fRole, .slice A7 x.fVotes.length d7, .slice A8 x.fMatch.length d8] 29)).heap.size := by simp
  generalize w.alloc (.cells #[.int .i64 x.fId, .int .i64 x.fPeers, .int .i64 x.fTerm, .int .i64 x.fVote, .slice A4 x.fLog.length d4, .int .i64 x.fCommit, .int .i64 x.fRole, .slice A7 x.fVotes.length d7, .slice A8 x.fMatch.length d8] 29) = w1 at *
  have cn_0 := Xn.out.cell 0 (v := .int .i64 x.fId) rfl; have cn_1 := Xn.out.cell 1 (v := .int .i64 x.fPeers) rfl; have cn_2 := Xn.out.cell 2 (v := .int .i64 x.fTerm) rfl; have cn_3 := Xn.out.cell 3 (v := .int .i64 x.fVote) rfl; have cn_4 := Xn.out.cell 4 (v := .slice A4 x.fLog.length d4) rfl; have cn_5 := Xn.out.cell 5 (v := .int .i64 x.fCommit) rfl; have cn_6 := Xn.out.cell 6 (v := .int .i64 x.fRole) rfl; have cn_7 := Xn.out.cell 7 (v := .slice A7 x.fVotes.length d7) rfl; have cn_8 := Xn.out.cell 8 (v := .slice A8 x.fMatch.length d8) rfl
  obtain ⟨bx, o, e4, a0, _⟩ := entry_at H.out HC.out k (by omega)
  subst e4
  rw [← hv, hy] at a0
  go_wp2
  go_ret
  exact ⟨rfl, HC.out⟩
end Go.Proofs.Ytcimnhpgackciaa
