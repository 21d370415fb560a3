/- Clusters: the plain law, and slices.ContainsFunc at their leads and messages. -/
import Derived.Test.YthnjcolbdoaabaaC3
import Derived.Test.YthnjcolbdoaabaaRaG
import Derived.Test.YthnjcolbdoaabaaGnD
namespace Go.Proofs.Ythnjcolbdoaabaa
open Go Go.RowKit Go.Sort
set_option linter.unusedVariables false
set_option linter.unusedSimpArgs false

def nodeAt (pe : Int) (xs : List DRaftNode) (k : Nat) : Bool := match xs[k]? with
  | some x => ((x.fId == (k : Int)) && (x.fPeers == pe)) && nodeOk x
  | none => true
def leadB (pe : Int) (y : DLead) : Bool := !(inR y.fTerm 1 1000) || !(inR y.fNode 0 (pe - 1))
def badM (pe : Int) (m : DRaftMsg) : Bool := !(msgOk m pe)
def cntC (c : DCluster) : Bool := (inR c.fNodes.length 1 7 && decide ((c.fNet.length : Int) ≤ 60)) && decide ((c.fLeads.length : Int) ≤ 1000)
def cluOk (c : DCluster) : Bool :=
  ((cntC c && (List.range c.fNodes.length).all (nodeAt c.fNodes.length c.fNodes)) && !(c.fLeads.any (leadB c.fNodes.length))) && !(c.fNet.any (badM c.fNodes.length))
theorem nodeAt_at {pe : Int} {xs : List DRaftNode} {k : Nat} (h : k < xs.length) : nodeAt pe xs k = (((xs[k].fId == (k : Int)) && (xs[k].fPeers == pe)) && nodeOk xs[k]) := by
  simp only [nodeAt, List.getElem?_eq_getElem h]
theorem range_succ_all {f : Nat → Bool} {k : Nat} : (List.range (k + 1)).all f = ((List.range k).all f && f k) := by
  rw [List.range_succ, List.all_append]
  simp
theorem range_all_no {f : Nat → Bool} {k n : Nat} (h : k < n) (hf : f k = false) : (List.range n).all f = false := by
  rw [List.all_eq_false]
  exact ⟨k, List.mem_range.2 h, by simp [hf]⟩
set_option maxHeartbeats 4000000 in
set_option maxRecDepth 100000 in
theorem cloLead_calls (pe : Int) (y : DLead) (g : Nat) (w : World) (c0 : w.cell? ⟨g, 0, none⟩ = some (.int .i64 pe)) (hp : IntKind.i64.wrap (pe - 1) = pe - 1) : Calls Try.prog 104 #[.agg #[.int .i64 y.fTerm, .int .i64 y.fNode], .pointer (some ⟨g, 0, none⟩)] w
    fun e w' => e = .returned (.bool (leadB pe y)) ∧ Below w.heap.size w w' := by
  have hg := World.block_lt_of_cell? w _ c0
  simp only at hg
  cases h1 : inR y.fTerm 1 1000
  · go_enter Try.func104, Try.ntmps104
    go_wp2_with (first | (with_reducible refine (iInR_calls y.fTerm _ _ _).mono ?_; rintro e wq ⟨rfl, rfl⟩; rw [h1]) | (with_reducible refine (iInR_calls y.fNode _ _ _).mono ?_; rintro e wq ⟨rfl, rfl⟩))
    all_goals go_ret
    all_goals exact ⟨by simp [leadB, h1], (Below.refl _ _).alloc (Nat.le_refl _) _⟩
  · cases h2 : inR y.fNode 0 (pe - 1)
    all_goals
      go_enter Try.func104, Try.ntmps104
      go_wp2_with (first | (with_reducible refine (iInR_calls y.fTerm _ _ _).mono ?_; rintro e wq ⟨rfl, rfl⟩; rw [h1]) | (with_reducible refine (iInR_calls y.fNode _ _ _).mono ?_; rintro e wq ⟨rfl, rfl⟩; rw [h2]))
      all_goals go_ret
      all_goals exact ⟨by simp [leadB, h1, h2], (Below.refl _ _).alloc (Nat.le_refl _) _⟩
set_option maxHeartbeats 4000000 in
set_option maxRecDepth 100000 in
theorem cloMsg_calls (pe : Int) (y : DRaftMsg) (v6 : Value) (g : Nat) (w : World) (g6 : kEntry.S w y.fEntries v6) (hl : y.fEntries.length ≤ 1048576) (c0 : w.cell? ⟨g, 0, none⟩ = some (.int .i64 pe)) (hp : (Lit.int .i64 pe).wf = true) : Calls Try.prog 106 #[.agg #[.int .i64 y.fKind, .int .i64 y.fFrom, .int .i64 y.fTo, .int .i64 y.fTerm, .int .i64 y.fIndex, .int .i64 y.fBefore, v6, .int .i64 y.fCommit, .bool y.fYes], .pointer (some ⟨g, 0, none⟩)] w
    fun e w' => e = .returned (.bool (badM pe y)) ∧ Below w.heap.size w w' := by
  have hg := World.block_lt_of_cell? w _ c0
  simp only at hg
  have G6 := Lib.hid g6; clear g6
  have HP := Lib.hid hp; clear hp
  go_enter Try.func106, Try.ntmps106
  cases h1 : msgOk y pe
  all_goals
    go_wp2_with (with_reducible refine (iGoodRaftMsg_calls y pe v6 _ (Rp.S_below G6.out ((Below.refl _ _).alloc (Nat.le_refl _) _)) hl).mono ?_; rintro e wq ⟨rfl, hb⟩; rw [h1]; have HB := Lib.hid (Below.trans ((Below.refl w.heap.size w).alloc (Nat.le_refl _) _) (hb.mono (by simp))); clear hb)
    all_goals go_ret
    all_goals exact ⟨by simp [badM, h1], HB.out⟩
set_option maxHeartbeats 4000000 in
set_option maxRecDepth 100000 in
theorem idxLead_calls (pe : Int) (xs : List DLead) (v : Value) (g : Nat) (w : World) (gs : kLead.S w xs v) (hl : xs.length ≤ 140737488355328) (c1 : w.cell? ⟨g, 0, none⟩ = some (.int .i64 pe)) (hp : IntKind.i64.wrap (pe - 1) = pe - 1) :
    Calls Try.prog 131 #[v, .func (.func 104) #[] #[.pointer (some ⟨g, 0, none⟩)]] w
    fun e w' => ∃ r : Int, e = .returned (.int .i64 r) ∧ decide (0 ≤ r) = xs.any (leadB pe) ∧ Below w.heap.size w w' := by
  have GS := Lib.hid gs
  obtain ⟨A, c, rfl, hc, h⟩ := gs
  have H := Lib.hid h; clear h
  have C1 := Lib.hid c1
  clear c1
  have HW := Lib.hid hp; clear hp
  go_enter Try.func131, Try.ntmps131
  go_wp2
  go_loopw [8] (fun i wr => ∃ k : Nat, k ≤ xs.length ∧ i = .int .i64 k ∧ Hid ((xs.take k).any (leadB pe) = false) ∧ Hid (Below w.heap.size w wr)) (fun i _ => xs.length - (intOf i).toNat)
  case atStart => exact ⟨0, Nat.zero_le _, rfl, rfl, Below.refl _ _⟩
  case round =>
    obtain ⟨k, hk, rfl, HE, HB⟩ := hrel
    by_cases hlt : k < xs.length
    · obtain ⟨b, o, cs, rfl, k1, q1⟩ := Rp.C_get H.out k hlt
      obtain rfl := kLead_K k1
      clear k1
      have hany := any_take (p := leadB pe) hlt
      rw [HE.out, Bool.false_or] at hany
      have hmem := List.getElem_mem hlt
      skip
      have HM := Lib.hid hmem; clear hmem
      generalize he : xs[k] = y at *
      have HG := Lib.hid he; clear he
      have HA := Lib.hid hany; clear hany HE
      have a0 := (World.cell?_of_block (HB.out.block b (World.block_lt_of_cell? w _ (q1 0 _ rfl)))).trans (q1 0 _ rfl)
      simp only [kLead_sz, Nat.add_zero] at a0
      have a1 := (World.cell?_of_block (HB.out.block b (World.block_lt_of_cell? w _ (q1 1 _ rfl)))).trans (q1 1 _ rfl)
      simp only [kLead_sz, Nat.add_zero] at a1
      clear q1
      have i1 : (0 : Int) ≤ (k : Int) := by omega
      have i2 : (k : Int) < (xs.length : Int) := by omega
      cases hm : leadB pe y
      · go_wp2_with ((with_reducible refine (cloLead_calls pe y g _ ((HB.out.cell (World.block_lt_of_cell? w _ C1.out)).trans C1.out) HW.out).mono ?_); rintro e w1 ⟨rfl, hb⟩; rw [hm]; have HB1 := Lib.hid (HB.out.trans (hb.mono HB.out.size)); clear hb)
        exact ⟨⟨k + 1, by omega, by go_num, by rw [Hid, HA.out, hm], HB1.out⟩, by simp [intOf]; omega⟩
      · go_wp2_with ((with_reducible refine (cloLead_calls pe y g _ ((HB.out.cell (World.block_lt_of_cell? w _ C1.out)).trans C1.out) HW.out).mono ?_); rintro e w1 ⟨rfl, hb⟩; rw [hm]; have HB1 := Lib.hid (HB.out.trans (hb.mono HB.out.size)); clear hb)
        go_ret
        refine ⟨k, rfl, ?_, HB1.out⟩
        have h1 : xs.any (leadB pe) = true := by
          rw [List.any_eq_true]
          exact ⟨y, HM.out, hm⟩
        rw [h1]
        simp
    · go_wp2
      go_ret
      obtain rfl : k = xs.length := by omega
      refine ⟨-1, rfl, ?_, HB.out⟩
      have h1 := HE.out
      rw [List.take_length] at h1
      rw [h1]
      rfl
set_option maxHeartbeats 1000000 in
theorem conLead_calls (pe : Int) (xs : List DLead) (v : Value) (g : Nat) (w : World) (gs : kLead.S w xs v) (hl : xs.length ≤ 140737488355328) (c1 : w.cell? ⟨g, 0, none⟩ = some (.int .i64 pe)) (hp : IntKind.i64.wrap (pe - 1) = pe - 1) :
    Calls Try.prog 103 #[v, .func (.func 104) #[] #[.pointer (some ⟨g, 0, none⟩)]] w
    fun e w' => e = .returned (.bool (xs.any (leadB pe))) ∧ Below w.heap.size w w' := by
  have HW := Lib.hid hp; clear hp
  have C1 := Lib.hid c1
  have G := Lib.hid gs
  clear c1 gs
  go_enter Try.func103, Try.ntmps103
  go_wp2_with fail
  (with_reducible refine (idxLead_calls pe xs v g _ G.out hl C1.out HW.out).mono ?_)
  rintro e w1 ⟨r, rfl, hr, hb⟩
  have HR := Lib.hid hr; have HB := Lib.hid hb
  clear hr hb
  go_wp2
  go_ret
  exact ⟨by rw [← HR.out]; rfl, HB.out⟩
set_option maxHeartbeats 4000000 in
set_option maxRecDepth 100000 in
theorem idxMsg_calls (pe : Int) (xs : List DRaftMsg) (v : Value) (g : Nat) (w : World) (gs : kRaftMsg.S w xs v) (hl : xs.length ≤ 140737488355328) (c1 : w.cell? ⟨g, 0, none⟩ = some (.int .i64 pe)) (hp : (Lit.int .i64 pe).wf = true) (hs : ∀ y ∈ xs, smRaftMsg 1048576 y) :
    Calls Try.prog 132 #[v, .func (.func 106) #[] #[.pointer (some ⟨g, 0, none⟩)]] w
    fun e w' => ∃ r : Int, e = .returned (.int .i64 r) ∧ decide (0 ≤ r) = xs.any (badM pe) ∧ Below w.heap.size w w' := by
  have GS := Lib.hid gs
  obtain ⟨A, c, rfl, hc, h⟩ := gs
  have H := Lib.hid h; clear h
  have C1 := Lib.hid c1
  clear c1
  have HW := Lib.hid hp; clear hp
  have HS := Lib.hid hs; clear hs
  go_enter Try.func132, Try.ntmps132
  go_wp2
  go_loopw [8] (fun i wr => ∃ k : Nat, k ≤ xs.length ∧ i = .int .i64 k ∧ Hid ((xs.take k).any (badM pe) = false) ∧ Hid (Below w.heap.size w wr)) (fun i _ => xs.length - (intOf i).toNat)
  case atStart => exact ⟨0, Nat.zero_le _, rfl, rfl, Below.refl _ _⟩
  case round =>
    obtain ⟨k, hk, rfl, HE, HB⟩ := hrel
    by_cases hlt : k < xs.length
    · obtain ⟨b, o, cs, rfl, k1, q1⟩ := Rp.C_get H.out k hlt
      obtain ⟨v6, rfl, g6⟩ := kRaftMsg_read k1
      have G6 := Lib.hid g6
      clear k1 g6
      have hany := any_take (p := badM pe) hlt
      rw [HE.out, Bool.false_or] at hany
      have hmem := List.getElem_mem hlt
      have HS1 := Lib.hid (show xs[k].fEntries.length ≤ 1048576 from HS.out _ hmem)
      have HM := Lib.hid hmem; clear hmem
      generalize he : xs[k] = y at *
      have HG := Lib.hid he; clear he
      have HA := Lib.hid hany; clear hany HE
      have a0 := (World.cell?_of_block (HB.out.block b (World.block_lt_of_cell? w _ (q1 0 _ rfl)))).trans (q1 0 _ rfl)
      simp only [kRaftMsg_sz, Nat.add_zero] at a0
      have a1 := (World.cell?_of_block (HB.out.block b (World.block_lt_of_cell? w _ (q1 1 _ rfl)))).trans (q1 1 _ rfl)
      simp only [kRaftMsg_sz, Nat.add_zero] at a1
      have a2 := (World.cell?_of_block (HB.out.block b (World.block_lt_of_cell? w _ (q1 2 _ rfl)))).trans (q1 2 _ rfl)
      simp only [kRaftMsg_sz, Nat.add_zero] at a2
      have a3 := (World.cell?_of_block (HB.out.block b (World.block_lt_of_cell? w _ (q1 3 _ rfl)))).trans (q1 3 _ rfl)
      simp only [kRaftMsg_sz, Nat.add_zero] at a3
      have a4 := (World.cell?_of_block (HB.out.block b (World.block_lt_of_cell? w _ (q1 4 _ rfl)))).trans (q1 4 _ rfl)
      simp only [kRaftMsg_sz, Nat.add_zero] at a4
      have a5 := (World.cell?_of_block (HB.out.block b (World.block_lt_of_cell? w _ (q1 5 _ rfl)))).trans (q1 5 _ rfl)
      simp only [kRaftMsg_sz, Nat.add_zero] at a5
      have a6 := (World.cell?_of_block (HB.out.block b (World.block_lt_of_cell? w _ (q1 6 _ rfl)))).trans (q1 6 _ rfl)
      simp only [kRaftMsg_sz, Nat.add_zero] at a6
      have a7 := (World.cell?_of_block (HB.out.block b (World.block_lt_of_cell? w _ (q1 7 _ rfl)))).trans (q1 7 _ rfl)
      simp only [kRaftMsg_sz, Nat.add_zero] at a7
      have a8 := (World.cell?_of_block (HB.out.block b (World.block_lt_of_cell? w _ (q1 8 _ rfl)))).trans (q1 8 _ rfl)
      simp only [kRaftMsg_sz, Nat.add_zero] at a8
      clear q1
      have i1 : (0 : Int) ≤ (k : Int) := by omega
      have i2 : (k : Int) < (xs.length : Int) := by omega
      cases hm : badM pe y
      · go_wp2_with ((with_reducible refine (cloMsg_calls pe y v6 g _ (Rp.S_below G6.out HB.out) HS1.out ((HB.out.cell (World.block_lt_of_cell? w _ C1.out)).trans C1.out) HW.out).mono ?_); rintro e w1 ⟨rfl, hb⟩; rw [hm]; have HB1 := Lib.hid (HB.out.trans (hb.mono HB.out.size)); clear hb)
        exact ⟨⟨k + 1, by omega, by go_num, by rw [Hid, HA.out, hm], HB1.out⟩, by simp [intOf]; omega⟩
      · go_wp2_with ((with_reducible refine (cloMsg_calls pe y v6 g _ (Rp.S_below G6.out HB.out) HS1.out ((HB.out.cell (World.block_lt_of_cell? w _ C1.out)).trans C1.out) HW.out).mono ?_); rintro e w1 ⟨rfl, hb⟩; rw [hm]; have HB1 := Lib.hid (HB.out.trans (hb.mono HB.out.size)); clear hb)
        go_ret
        refine ⟨k, rfl, ?_, HB1.out⟩
        have h1 : xs.any (badM pe) = true := by
          rw [List.any_eq_true]
          exact ⟨y, HM.out, hm⟩
        rw [h1]
        simp
    · go_wp2
      go_ret
      obtain rfl : k = xs.length := by omega
      refine ⟨-1, rfl, ?_, HB.out⟩
      have h1 := HE.out
      rw [List.take_length] at h1
      rw [h1]
      rfl
set_option maxHeartbeats 1000000 in
theorem conMsg_calls (pe : Int) (xs : List DRaftMsg) (v : Value) (g : Nat) (w : World) (gs : kRaftMsg.S w xs v) (hl : xs.length ≤ 140737488355328) (c1 : w.cell? ⟨g, 0, none⟩ = some (.int .i64 pe)) (hp : (Lit.int .i64 pe).wf = true) (hs : ∀ y ∈ xs, smRaftMsg 1048576 y) :
    Calls Try.prog 105 #[v, .func (.func 106) #[] #[.pointer (some ⟨g, 0, none⟩)]] w
    fun e w' => e = .returned (.bool (xs.any (badM pe))) ∧ Below w.heap.size w w' := by
  have HW := Lib.hid hp; clear hp
  have HS := Lib.hid hs; clear hs
  have C1 := Lib.hid c1
  have G := Lib.hid gs
  clear c1 gs
  go_enter Try.func105, Try.ntmps105
  go_wp2_with fail
  (with_reducible refine (idxMsg_calls pe xs v g _ G.out hl C1.out HW.out HS.out).mono ?_)
  rintro e w1 ⟨r, rfl, hr, hb⟩
  have HR := Lib.hid hr; have HB := Lib.hid hb
  clear hr hb
  go_wp2
  go_ret
  exact ⟨by rw [← HR.out]; rfl, HB.out⟩
end Go.Proofs.Ythnjcolbdoaabaa
