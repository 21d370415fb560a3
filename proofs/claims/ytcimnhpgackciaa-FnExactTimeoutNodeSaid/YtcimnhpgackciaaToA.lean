/- Nodes whose time is up: the words, and how one comes to lead. -/
import Derived.Test.YtcimnhpgackciaaGnK
namespace Go.Proofs.Ytcimnhpgackciaa
open Go Go.RowKit Go.Sort
set_option linter.unusedVariables false
set_option linter.unusedSimpArgs false

def tmOk (x : DRaftNode) : Bool := nodeOk x && !(x.fRole == 2) && !(x.fTerm == 1000)
def tmA (x : DRaftNode) : DRaftNode := { x with fTerm := x.fTerm + 1, fVote := x.fId, fVotes := [x.fId], fRole := 1 }
def tmL (x : DRaftNode) : DRaftNode := { x with fTerm := x.fTerm + 1, fVote := x.fId, fVotes := [], fRole := 2, fMatch := [(x.fLog.length : Int)] }
/-- What is asked of another. -/
structure DAsk where
  a : Int
  b : Int
  c : Int
  d : Int
  e : Int
def encA (x : DAsk) : List Value := [.int .i64 1, .int .i64 x.a, .int .i64 x.b, .int .i64 x.c, .int .i64 x.d, .int .i64 x.e, .slice none 0 0, .int .i64 0, .bool false]
def kAsk : Rp DAsk where
  sz := 9
  K := fun _ x cs => cs = encA x
  M := fun _ F x cs => F = [] ∧ cs = encA x
  K_len := fun h => by rw [h]; rfl
  K_one := fun h u hu => by
    rw [h] at hu
    simp [encA] at hu
    rcases hu with rfl | rfl | rfl | rfl | rfl | rfl | rfl | rfl | rfl <;> rfl
  K_below := fun _ h => h
  M_K := fun h => h.2
  M_lt := fun h b hb => by rw [h.1] at hb; cases hb
  M_move := fun _ h => h
theorem kAsk_flat : kAsk.Flat := ⟨fun h => h.1, fun h => ⟨rfl, h⟩⟩
def askV (x : DAsk) : DRaftMsg := ⟨1, x.a, x.b, x.c, x.d, x.e, [], 0, false⟩
theorem kAsk_to (w : World) (x : DAsk) : kRaftMsg.M w [] (askV x) (encA x) :=
  kRaftMsg_make (x := askV x) (Rp.Row_nil _ _ _)
theorem ElA_to {w : World} : ∀ {xs : List DAsk} {F : List Nat} {inner : List Value}, kAsk.El w F xs inner → kRaftMsg.El w F (xs.map askV) inner
  | [], _, _, h => h
  | x :: xs, _, _, ⟨_, _, _, _, h1, h2, ⟨rfl, rfl⟩, hr⟩ => ⟨_, _, [], _, h1, h2, kAsk_to w x, ElA_to hr⟩
theorem RowA_to {w : World} {e : TypeId} {xs : List DAsk} {F : List Nat} {v : Value} (r : kAsk.Row e w F xs v) : kRaftMsg.Row e w F (xs.map askV) v := by
  obtain ⟨inner, Fs, ho, he, rfl⟩ := r
  exact ⟨inner, Fs, by rw [List.length_map]; exact ho, ElA_to he, rfl⟩
/-- What is asked of the first k. -/
def tmMk (x : DRaftNode) (k : Nat) : List DAsk := ((List.range k).filter fun (i : Nat) => !((i : Int) == x.fId)).map fun (i : Nat) => (⟨x.fId, (i : Int), x.fTerm + 1, (x.fLog.length : Int), termV x.fLog x.fLog.length⟩ : DAsk)
theorem tmMk_len (x : DRaftNode) (k : Nat) : (tmMk x k).length ≤ k := by
  unfold tmMk
  rw [List.length_map]
  refine Nat.le_trans (List.length_filter_le _ _) ?_
  rw [List.length_range]
  exact Nat.le_refl _
theorem tmMk_no {x : DRaftNode} {k : Nat} (h : ((k : Int) == x.fId) = true) : tmMk x (k + 1) = tmMk x k := by
  simp [tmMk, List.range_succ, List.filter_append, h]
theorem tmMk_yes {x : DRaftNode} {k : Nat} (h : ((k : Int) == x.fId) = false) : tmMk x (k + 1) = tmMk x k ++ [⟨x.fId, (k : Int), x.fTerm + 1, (x.fLog.length : Int), termV x.fLog x.fLog.length⟩] := by
  simp [tmMk, List.range_succ, List.filter_append, h]
def tmN (x : DRaftNode) : DRaftNode := if x.fPeers == 1 then tmL x else tmA x
def tmV (x : DRaftNode) : DRaftNode := if tmOk x then tmN x else zRaftNode
def tmM (x : DRaftNode) : List DRaftMsg := if tmOk x && !(x.fPeers == 1) then (tmMk x x.fPeers.toNat).map askV else []
theorem entFrom_le {tm : Int} : ∀ {es : List DEntry} {p : Option Int}, entFrom tm p es = true → ∀ e ∈ es, e.fTerm ≤ tm
  | [], _, _, e, he => by cases he
  | y :: es, p, h, e, he => by
    simp only [entFrom, Bool.and_eq_true, Bool.not_eq_true', decide_eq_true_eq, decide_eq_false_iff_not] at h
    rcases List.mem_cons.1 he with rfl | he
    · have h1 := h.1
      omega
    · exact entFrom_le h.2 e he
theorem comFrom_none {x : DRaftNode} {t : Int} (h : ∀ e ∈ x.fLog, e.fTerm ≤ t) (ht : t < x.fTerm) : ∀ {k : Nat}, k ≤ x.fLog.length → comFrom x k = x.fCommit
  | 0, _ => by rw [comFrom]
  | k + 1, hk => by
    by_cases hc : ((k + 1 : Nat) : Int) ≤ x.fCommit
    · exact comFrom_le hc
    · rw [comFrom_no (by omega) ?_]
      · exact comFrom_none h ht (by omega)
      · have hv : termV x.fLog (k + 1) = x.fLog[k].fTerm := by rw [termV, if_neg (by omega), Nat.add_sub_cancel, List.getElem?_eq_getElem (by omega)]; rfl
        have h2 := h x.fLog[k] (List.getElem_mem _)
        have h3 : (termV x.fLog (k + 1) == x.fTerm) = false := by rw [hv]; simp; omega
        rw [majN, h3, Bool.and_false]
theorem tmL_com {x : DRaftNode} (h : nodeOk x = true) : comFrom (tmL x) (tmL x).fLog.length = x.fCommit := by
  refine comFrom_none (x := tmL x) (t := x.fTerm) (fun e he => ?_) (by show x.fTerm < x.fTerm + 1; omega) (Nat.le_refl _)
  simp only [nodeOk, logN, Bool.and_eq_true] at h
  exact entFrom_le h.1.1.1.2.1.1.2 e he
theorem mk_one (W : World) : (Instr.makeSlice 23 (.int .i64 1) (.int .i64 1)).run Try.prog W = .ok (.slice (some ⟨W.heap.size, 0, none⟩) 1 1) (W.alloc (.cells #[.int .i64 0] 3)) := by
  kernel_rfl
theorem KeptF.newerT {F : List Nat} {a b' c' : World} {g : Nat} (h : KeptF F a b') (hg : a.heap.size ≤ g) (k : KeptF [g] b' c') : KeptF F a c' :=
  ⟨k.os.trans h.os, k.tape.trans h.tape, k.output.trans h.output, Nat.le_trans h.size k.size, fun x hx hf => (k.block x (Nat.lt_of_lt_of_le hx h.size) (by simp; omega)).trans (h.block x hx hf)⟩
set_option maxHeartbeats 8000000 in
set_option maxRecDepth 100000 in
theorem iLeadN_calls {i pe te vo co ro : Int} {A4 A7 A8 : Option Addr} {n4 d4 d7 n8 d8 b : Nat} {w : World} (hp : 2 ≤ pe) (B : Box w b #[.int .i64 i, .int .i64 pe, .int .i64 te, .int .i64 vo, .slice A4 n4 d4, .int .i64 co, .int .i64 ro, .slice A7 1 d7, .slice A8 n8 d8] 29) : Calls Try.prog 24 #[.pointer (some ⟨b, 0, none⟩)] w
    fun e w' => e = .returned (.tuple #[]) ∧ w' = w := by
  have c1 := B.cell 1 (v := .int .i64 pe) rfl
  have c7 := B.cell 7 (v := .slice A7 1 d7) rfl
  have hd : decide (pe < 2 * 1) = false := decide_eq_false (by omega)
  have HD := Lib.hid hd; clear hd
  go_enter Try.func24, Try.ntmps24
  go_wp2_with ((with_reducible refine (iHalf_calls 1 pe b _ c1 (by omega) (by omega)).mono ?_); rintro e wq ⟨rfl, hq⟩; obtain rfl : w = wq := hq.symm; rw [HD.out])
  (try simp only [Exit.inBlock, Exit.then])
  refine bodyPost_ret (results_none rfl _ _ _) rfl ?_
  exact ⟨rfl, rfl⟩
def ldC (te vo co ro : Int) (A4 A7 A8 : Option Addr) (n4 d4 d7 n8 d8 : Nat) (a b c : Bool) (m : Value) : Array Value := #[.int .i64 0, .int .i64 1, .int .i64 te, .int .i64 vo, .slice A4 n4 d4, .int .i64 co, .int .i64 (bif a then 2 else ro), bif b then .slice none 0 0 else .slice A7 1 d7, bif c then m else .slice A8 n8 d8]
set_option maxHeartbeats 8000000 in
set_option maxRecDepth 100000 in
theorem iLeadY_calls {te vo co ro : Int} {A4 A7 A8 : Option Addr} {n4 d4 d7 n8 d8 b : Nat} {w : World} (B : Box w b #[.int .i64 0, .int .i64 1, .int .i64 te, .int .i64 vo, .slice A4 n4 d4, .int .i64 co, .int .i64 ro, .slice A7 1 d7, .slice A8 n8 d8] 29) : Calls Try.prog 24 #[.pointer (some ⟨b, 0, none⟩)] w
    fun e w' => e = .returned (.tuple #[]) ∧ ∃ gm, w.heap.size ≤ gm ∧ KeptF [b] w w' ∧ Box w' b #[.int .i64 0, .int .i64 1, .int .i64 te, .int .i64 vo, .slice A4 n4 d4, .int .i64 co, .int .i64 2, .slice none 0 0, .slice (some ⟨gm, 0, none⟩) 1 1] 29 ∧ Box w' gm #[.int .i64 (n4 : Int)] 3 := by
  have hbl : b < w.heap.size := B.lt
  have Xb := Lib.hid B; clear B
  have cb_0 := Xb.out.cell 0 (v := .int .i64 0) rfl; have cb_1 := Xb.out.cell 1 (v := .int .i64 1) rfl; have cb_2 := Xb.out.cell 2 (v := .int .i64 te) rfl; have cb_3 := Xb.out.cell 3 (v := .int .i64 vo) rfl; have cb_4 := Xb.out.cell 4 (v := .slice A4 n4 d4) rfl; have cb_5 := Xb.out.cell 5 (v := .int .i64 co) rfl; have cb_6 := Xb.out.cell 6 (v := .int .i64 ro) rfl; have cb_7 := Xb.out.cell 7 (v := .slice A7 1 d7) rfl; have cb_8 := Xb.out.cell 8 (v := .slice A8 n8 d8) rfl
  have hd : decide ((1 : Int) < 2 * 1) = true := decide_eq_true (by omega)
  have HD := Lib.hid hd; clear hd
  go_enter Try.func24, Try.ntmps24
  go_upto_region 1 with ((with_reducible refine (iHalf_calls 1 1 b _ cb_1 (by omega) (by omega)).mono ?_); rintro e wq ⟨rfl, hq⟩; obtain rfl : w = wq := hq.symm; rw [HD.out])
  refine wp_region_tab (G := Nat) (fun g => [(10, 0, .pointer (some ⟨b, 0, none⟩)), (0, 1, .pointer (some ⟨b, 0, none⟩)), (0, 2, .pointer (some ⟨b, 0, none⟩)), (0, 3, .pointer (some ⟨b, 0, none⟩)), (0, 4, .pointer (some ⟨b, 0, none⟩)), (0, 5, .pointer (some ⟨b, 1, none⟩)), (0, 6, .int .i64 1), (0, 7, .slice (some ⟨g, 0, none⟩) 1 1), (0, 8, .pointer (some ⟨b, 0, none⟩)), (0, 9, .pointer (some ⟨b, 6, none⟩)), (0, 11, .pointer (some ⟨b, 0, none⟩)), (0, 12, .pointer (some ⟨b, 7, none⟩)), (0, 14, .pointer (some ⟨b, 0, none⟩)), (0, 15, .pointer (some ⟨b, 8, none⟩))])
      (fun L g W => (KeptF [b] w W) ∧
        (Box W b (ldC te vo co ro A4 A7 A8 n4 d4 d7 n8 d8 (L 10) (L 13) (L 16) (.slice (some ⟨g, 0, none⟩) 1 1)) 29) ∧
        (L 7 = true → Box W g #[.int .i64 0] 3 ∧ w.heap.size ≤ g) ∧
        ((L 16 = true → L 7 = true)))
      (0) (by kernel_rfl) (by kernel_rfl) (fun _ => rfl) ?_ ?_ ?_
  · exact ⟨KeptF.of_below (Below.refl _ _).drew, Xb.out.drew, nofun, nofun⟩
  · simp (config := { maxSteps := 4000000 }) only [StepsT, layT, Nat.reduceAdd, Nat.reduceBEq, cond_true, cond_false]
    refine ⟨?_, ?_, ?_, ?_, ?_, ?_, ?_, ?_, ?_, ?_, ?_, ?_, ?_, ?_, ?_, ?_, ?_, trivial⟩
    · rintro L gm W hL hd ⟨q0, q1, q2, q3⟩
      try dsimp only at q0 q1 q2 q3
      try simp only [depsT, Region.binds, forall_const, and_true, beq_iff_eq, reduceCtorEq, false_implies, true_and] at hd
      intro K hK; refine do_wanted rfl ?_
      have HK := Lib.hid hK; clear hK
      try simp only [hd, cond_true]
      have Q0 := Lib.hid q0; have Q1 := Lib.hid q1; have Q2 := Lib.hid q2; have Q3 := Lib.hid q3
      clear q0 q1 q2 q3
      go_wp2
      exact HK.out _ _ ⟨gm, by simp only [upd, Nat.reduceBEq, cond_true, cond_false, hd], ⟨Q0.out, Q1.out, Q2.out, Q3.out⟩⟩
    · rintro L gm W hL hd ⟨q0, q1, q2, q3⟩
      try dsimp only at q0 q1 q2 q3
      try simp only [depsT, Region.binds, forall_const, and_true, beq_iff_eq, reduceCtorEq, false_implies, true_and] at hd
      intro K hK; refine do_wanted rfl ?_
      have HK := Lib.hid hK; clear hK
      try simp only [hd, cond_true]
      have Q0 := Lib.hid q0; have Q1 := Lib.hid q1; have Q2 := Lib.hid q2; have Q3 := Lib.hid q3
      clear q0 q1 q2 q3
      go_wp2
      exact HK.out _ _ ⟨gm, by simp only [upd, Nat.reduceBEq, cond_true, cond_false, hd], ⟨Q0.out, Q1.out, Q2.out, Q3.out⟩⟩
    · rintro L gm W hL hd ⟨q0, q1, q2, q3⟩
      try dsimp only at q0 q1 q2 q3
      try simp only [depsT, Region.binds, forall_const, and_true, beq_iff_eq, reduceCtorEq, false_implies, true_and] at hd
      intro K hK; refine do_wanted rfl ?_
      have HK := Lib.hid hK; clear hK
      try simp only [hd, cond_true]
      have Q0 := Lib.hid q0; have Q1 := Lib.hid q1; have Q2 := Lib.hid q2; have Q3 := Lib.hid q3
      clear q0 q1 q2 q3
      go_wp2
      exact HK.out _ _ ⟨gm, by simp only [upd, Nat.reduceBEq, cond_true, cond_false, hd], ⟨Q0.out, Q1.out, Q2.out, Q3.out⟩⟩
    · rintro L gm W hL hd ⟨q0, q1, q2, q3⟩
      try dsimp only at q0 q1 q2 q3
      try simp only [depsT, Region.binds, forall_const, and_true, beq_iff_eq, reduceCtorEq, false_implies, true_and] at hd
      intro K hK; refine do_wanted rfl ?_
      have HK := Lib.hid hK; clear hK
      try simp only [hd, cond_true]
      have Q0 := Lib.hid q0; have Q1 := Lib.hid q1; have Q2 := Lib.hid q2; have Q3 := Lib.hid q3
      clear q0 q1 q2 q3
      go_wp2
      exact HK.out _ _ ⟨gm, by simp only [upd, Nat.reduceBEq, cond_true, cond_false, hd], ⟨Q0.out, Q1.out, Q2.out, Q3.out⟩⟩
    · rintro L gm W hL hd ⟨q0, q1, q2, q3⟩
      try dsimp only at q0 q1 q2 q3
      try simp only [depsT, Region.binds, forall_const, and_true, beq_iff_eq, reduceCtorEq, false_implies, true_and] at hd
      intro K hK; refine do_wanted rfl ?_
      have HK := Lib.hid hK; clear hK
      try simp only [hd, cond_true]
      have Q0 := Lib.hid q0; have Q1 := Lib.hid q1; have Q2 := Lib.hid q2; have Q3 := Lib.hid q3
      clear q0 q1 q2 q3
      go_wp2
      exact HK.out _ _ ⟨gm, by simp only [upd, Nat.reduceBEq, cond_true, cond_false, hd], ⟨Q0.out, Q1.out, Q2.out, Q3.out⟩⟩
    · rintro L gm W hL hd ⟨q0, q1, q2, q3⟩
      try dsimp only at q0 q1 q2 q3
      try simp only [depsT, Region.binds, forall_const, and_true, beq_iff_eq, reduceCtorEq, false_implies, true_and] at hd
      intro K hK; refine do_wanted rfl ?_
      have HK := Lib.hid hK; clear hK
      try simp only [hd, cond_true]
      have Q0 := Lib.hid q0; have Q1 := Lib.hid q1; have Q2 := Lib.hid q2; have Q3 := Lib.hid q3
      clear q0 q1 q2 q3
      go_wp2
      exact HK.out _ _ ⟨gm, by simp only [upd, Nat.reduceBEq, cond_true, cond_false, hd], ⟨Q0.out, Q1.out, Q2.out, Q3.out⟩⟩
    · rintro L gm W hL hd ⟨q0, q1, q2, q3⟩
      try dsimp only at q0 q1 q2 q3
      try simp only [depsT, Region.binds, forall_const, and_true, beq_iff_eq, reduceCtorEq, false_implies, true_and] at hd
      intro K hK; refine do_wanted rfl ?_
      have HK := Lib.hid hK; clear hK
      try simp only [hd, cond_true]
      have cc := q1.cell 1 (v := .int .i64 1) rfl
      have Q0 := Lib.hid q0; have Q1 := Lib.hid q1; have Q2 := Lib.hid q2; have Q3 := Lib.hid q3
      clear q0 q1 q2 q3
      go_wp2
      exact HK.out _ _ ⟨gm, by simp only [upd, Nat.reduceBEq, cond_true, cond_false, hd], ⟨Q0.out, Q1.out, Q2.out, Q3.out⟩⟩
    · rintro L gm W hL hd ⟨q0, q1, q2, q3⟩
      try dsimp only at q0 q1 q2 q3
      try simp only [depsT, Region.binds, forall_const, and_true, beq_iff_eq, reduceCtorEq, false_implies, true_and] at hd
      intro K hK; refine do_wanted rfl ?_
      have HK := Lib.hid hK; clear hK
      try simp only [hd, cond_true]
      have E16 : L 16 = false := (by cases h : L 16 with | false => rfl | true => exact absurd (q3 h) (by rw [hL]; simp))
      have hmk := mk_one W
      have Q0 := Lib.hid q0; have Q1 := Lib.hid q1; have Q2 := Lib.hid q2; have Q3 := Lib.hid q3
      clear q0 q1 q2 q3
      go_wp2
      have HB := Lib.hid ((Below.refl W.heap.size W).alloc (Nat.le_refl _) (.cells #[.int .i64 0] 3))
      exact HK.out _ _ ⟨W.heap.size, by simp only [upd, Nat.reduceBEq, cond_true, cond_false, hd], ⟨Q0.out.trans (KeptF.of_below HB.out), by have h := Q1.out.below HB.out; rw [E16] at h; show Box _ b (ldC te vo co ro A4 A7 A8 n4 d4 d7 n8 d8 (L 10) (L 13) (L 16) (.slice (some ⟨W.heap.size, 0, none⟩) 1 1)) 29; rw [E16]; exact h, fun _ => ⟨Box.new rfl, Q0.out.size⟩, fun h => rfl⟩⟩
    · rintro L gm W hL hd ⟨q0, q1, q2, q3⟩
      try dsimp only at q0 q1 q2 q3
      try simp only [depsT, Region.binds, forall_const, and_true, beq_iff_eq, reduceCtorEq, false_implies, true_and] at hd
      intro K hK; refine do_wanted rfl ?_
      have HK := Lib.hid hK; clear hK
      try simp only [hd, cond_true]
      have Q0 := Lib.hid q0; have Q1 := Lib.hid q1; have Q2 := Lib.hid q2; have Q3 := Lib.hid q3
      clear q0 q1 q2 q3
      go_wp2
      exact HK.out _ _ ⟨gm, by simp only [upd, Nat.reduceBEq, cond_true, cond_false, hd], ⟨Q0.out, Q1.out, Q2.out, Q3.out⟩⟩
    · rintro L gm W hL hd ⟨q0, q1, q2, q3⟩
      try dsimp only at q0 q1 q2 q3
      try simp only [depsT, Region.binds, forall_const, and_true, beq_iff_eq, reduceCtorEq, false_implies, true_and] at hd
      intro K hK; refine do_wanted rfl ?_
      have HK := Lib.hid hK; clear hK
      try simp only [hd, cond_true]
      have Q0 := Lib.hid q0; have Q1 := Lib.hid q1; have Q2 := Lib.hid q2; have Q3 := Lib.hid q3
      clear q0 q1 q2 q3
      go_wp2
      exact HK.out _ _ ⟨gm, by simp only [upd, Nat.reduceBEq, cond_true, cond_false, hd], ⟨Q0.out, Q1.out, Q2.out, Q3.out⟩⟩
    · rintro L gm W hL hd ⟨q0, q1, q2, q3⟩
      try dsimp only at q0 q1 q2 q3
      try simp only [depsT, Region.binds, forall_const, and_true, beq_iff_eq, reduceCtorEq, false_implies, true_and] at hd
      intro K hK; refine do_wanted rfl ?_
      have HK := Lib.hid hK; clear hK
      try simp only [hd, cond_true]
      have cc := q1.cell 6 rfl
      have fb := q1.fro
      have Q0 := Lib.hid q0; have Q1 := Lib.hid q1; have Q2 := Lib.hid q2; have Q3 := Lib.hid q3
      clear q0 q1 q2 q3
      go_wp2
      exact HK.out _ _ ⟨gm, by simp only [upd, Nat.reduceBEq, cond_true, cond_false, hd], ⟨Q0.out.set (p := ⟨b, 6, none⟩) (by simp) _, Q1.out.set 6 (.int .i64 2), fun h => ⟨(Q2.out h).1.set_other (a := ⟨b, 6, none⟩) (.int .i64 2) (by have := (Q2.out h).2; simp; omega), (Q2.out h).2⟩, Q3.out⟩⟩
    · rintro L gm W hL hd ⟨q0, q1, q2, q3⟩
      try dsimp only at q0 q1 q2 q3
      try simp only [depsT, Region.binds, forall_const, and_true, beq_iff_eq, reduceCtorEq, false_implies, true_and] at hd
      intro K hK; refine do_wanted rfl ?_
      have HK := Lib.hid hK; clear hK
      try simp only [hd, cond_true]
      have Q0 := Lib.hid q0; have Q1 := Lib.hid q1; have Q2 := Lib.hid q2; have Q3 := Lib.hid q3
      clear q0 q1 q2 q3
      go_wp2
      exact HK.out _ _ ⟨gm, by simp only [upd, Nat.reduceBEq, cond_true, cond_false, hd], ⟨Q0.out, Q1.out, Q2.out, Q3.out⟩⟩
    · rintro L gm W hL hd ⟨q0, q1, q2, q3⟩
      try dsimp only at q0 q1 q2 q3
      try simp only [depsT, Region.binds, forall_const, and_true, beq_iff_eq, reduceCtorEq, false_implies, true_and] at hd
      intro K hK; refine do_wanted rfl ?_
      have HK := Lib.hid hK; clear hK
      try simp only [hd, cond_true]
      have Q0 := Lib.hid q0; have Q1 := Lib.hid q1; have Q2 := Lib.hid q2; have Q3 := Lib.hid q3
      clear q0 q1 q2 q3
      go_wp2
      exact HK.out _ _ ⟨gm, by simp only [upd, Nat.reduceBEq, cond_true, cond_false, hd], ⟨Q0.out, Q1.out, Q2.out, Q3.out⟩⟩
    · rintro L gm W hL hd ⟨q0, q1, q2, q3⟩
      try dsimp only at q0 q1 q2 q3
      try simp only [depsT, Region.binds, forall_const, and_true, beq_iff_eq, reduceCtorEq, false_implies, true_and] at hd
      intro K hK; refine do_wanted rfl ?_
      have HK := Lib.hid hK; clear hK
      try simp only [hd, cond_true]
      have cc := q1.cell 7 rfl
      have fb := q1.fro
      have Q0 := Lib.hid q0; have Q1 := Lib.hid q1; have Q2 := Lib.hid q2; have Q3 := Lib.hid q3
      clear q0 q1 q2 q3
      go_wp2
      exact HK.out _ _ ⟨gm, by simp only [upd, Nat.reduceBEq, cond_true, cond_false, hd], ⟨Q0.out.set (p := ⟨b, 7, none⟩) (by simp) _, Q1.out.set 7 (.slice none 0 0), fun h => ⟨(Q2.out h).1.set_other (a := ⟨b, 7, none⟩) (.slice none 0 0) (by have := (Q2.out h).2; simp; omega), (Q2.out h).2⟩, Q3.out⟩⟩
    · rintro L gm W hL hd ⟨q0, q1, q2, q3⟩
      try dsimp only at q0 q1 q2 q3
      try simp only [depsT, Region.binds, forall_const, and_true, beq_iff_eq, reduceCtorEq, false_implies, true_and] at hd
      intro K hK; refine do_wanted rfl ?_
      have HK := Lib.hid hK; clear hK
      try simp only [hd, cond_true]
      have Q0 := Lib.hid q0; have Q1 := Lib.hid q1; have Q2 := Lib.hid q2; have Q3 := Lib.hid q3
      clear q0 q1 q2 q3
      go_wp2
      exact HK.out _ _ ⟨gm, by simp only [upd, Nat.reduceBEq, cond_true, cond_false, hd], ⟨Q0.out, Q1.out, Q2.out, Q3.out⟩⟩
    · rintro L gm W hL hd ⟨q0, q1, q2, q3⟩
      try dsimp only at q0 q1 q2 q3
      try simp only [depsT, Region.binds, forall_const, and_true, beq_iff_eq, reduceCtorEq, false_implies, true_and] at hd
      intro K hK; refine do_wanted rfl ?_
      have HK := Lib.hid hK; clear hK
      try simp only [hd, cond_true]
      have Q0 := Lib.hid q0; have Q1 := Lib.hid q1; have Q2 := Lib.hid q2; have Q3 := Lib.hid q3
      clear q0 q1 q2 q3
      go_wp2
      exact HK.out _ _ ⟨gm, by simp only [upd, Nat.reduceBEq, cond_true, cond_false, hd], ⟨Q0.out, Q1.out, Q2.out, Q3.out⟩⟩
    · rintro L gm W hL hd ⟨q0, q1, q2, q3⟩
      try dsimp only at q0 q1 q2 q3
      try simp only [depsT, Region.binds, forall_const, and_true, beq_iff_eq, reduceCtorEq, false_implies, true_and] at hd
      intro K hK; refine do_wanted rfl ?_
      have HK := Lib.hid hK; clear hK
      try simp only [hd, cond_true]
      have cc := q1.cell 8 rfl
      have fb := q1.fro
      have Q0 := Lib.hid q0; have Q1 := Lib.hid q1; have Q2 := Lib.hid q2; have Q3 := Lib.hid q3
      clear q0 q1 q2 q3
      go_wp2
      exact HK.out _ _ ⟨gm, by simp only [upd, Nat.reduceBEq, cond_true, cond_false, hd], ⟨Q0.out.set (p := ⟨b, 8, none⟩) (by simp) _, Q1.out.set 8 (.slice (some ⟨gm, 0, none⟩) 1 1), fun h => ⟨(Q2.out h).1.set_other (a := ⟨b, 8, none⟩) (.slice (some ⟨gm, 0, none⟩) 1 1) (by have := (Q2.out h).2; simp; omega), (Q2.out h).2⟩, fun _ => (show L 7 = true by simp only [hd])⟩⟩
  · simp (config := { maxSteps := 4000000 }) only [layT, Nat.reduceAdd, Nat.reduceBEq, cond_true, cond_false]
    rintro L gm W hd ⟨q0, q1, q2, q3⟩
    simp only [doneT, true_and, List.length_cons, List.length_nil, Nat.reduceAdd] at hd
    obtain ⟨⟨⟨⟨⟨⟨⟨⟨⟨⟨⟨⟨⟨⟨⟨⟨e0, e1⟩, e2⟩, e3⟩, e4⟩, e5⟩, e6⟩, e7⟩, e8⟩, e9⟩, e10⟩, e11⟩, e12⟩, e13⟩, e14⟩, e15⟩, e16⟩ := hd
    try dsimp only at q0 q1 q2 q3
    simp only [e0, e1, e2, e3, e4, e5, e6, e7, e8, e9, e10, e11, e12, e13, e14, e15, e16, cond_true]
    have hg := (q2 e7).2; have hb2 := (q2 e7).1
    rw [e10, e13, e16] at q1
    have hbx : Box W b #[.int .i64 0, .int .i64 1, .int .i64 te, .int .i64 vo, .slice A4 n4 d4, .int .i64 co, .int .i64 2, .slice none 0 0, .slice (some ⟨gm, 0, none⟩) 1 1] 29 := q1
    have HK := Lib.hid q0; have XB := Lib.hid hbx; have XM := Lib.hid hb2
    clear q0 q1 q2 q3 hbx hb2
    clear cb_0 cb_1 cb_2 cb_3 cb_4 cb_5 cb_6 cb_7 cb_8
    have c0 := XB.out.cell 0 (v := .int .i64 0) rfl; have c4 := XB.out.cell 4 (v := .slice A4 n4 d4) rfl; have c8 := XB.out.cell 8 (v := .slice (some ⟨gm, 0, none⟩) 1 1) rfl; have m0 := XM.out.cell 0 (v := .int .i64 0) rfl; have fm := XM.out.fro
    go_upto_region 2 with fail
    refine wp_region_tab (G := Unit) (fun g => [(24, 0, .pointer (some ⟨b, 0, none⟩)), (0, 1, .pointer (some ⟨b, 0, none⟩)), (0, 2, .pointer (some ⟨b, 8, none⟩)), (0, 3, .slice (some ⟨gm, 0, none⟩) 1 1), (0, 4, .pointer (some ⟨b, 0, none⟩)), (0, 5, .pointer (some ⟨b, 0, none⟩)), (0, 6, .pointer (some ⟨b, 0, none⟩)), (0, 7, .int .i64 0), (0, 8, .pointer (some ⟨b, 0, none⟩)), (0, 9, .pointer (some ⟨b, 0, none⟩)), (0, 10, .pointer (some ⟨b, 4, none⟩)), (0, 11, .slice A4 n4 d4), (0, 12, .int .i64 n4), (0, 13, .pointer (some ⟨gm, 0, none⟩))])
        (fun L g W => (KeptF [b] w W) ∧
          (Box W b #[.int .i64 0, .int .i64 1, .int .i64 te, .int .i64 vo, .slice A4 n4 d4, .int .i64 co, .int .i64 2, .slice none 0 0, .slice (some ⟨gm, 0, none⟩) 1 1] 29) ∧
          (Box W gm #[.int .i64 (bif L 14 then (n4 : Int) else 0)] 3))
        (()) (by kernel_rfl) (by kernel_rfl) (fun _ => rfl) ?_ ?_ ?_
    · exact ⟨HK.out.trans (KeptF.of_below (Below.refl _ _).drew), XB.out.drew, XM.out.drew⟩
    · simp (config := { maxSteps := 4000000 }) only [StepsT, layT, Nat.reduceAdd, Nat.reduceBEq, cond_true, cond_false]
      refine ⟨?_, ?_, ?_, ?_, ?_, ?_, ?_, ?_, ?_, ?_, ?_, ?_, ?_, ?_, ?_, trivial⟩
      · rintro L g0 W hL hd ⟨q0, q1, q2⟩
        try dsimp only at q0 q1 q2
        try simp only [depsT, Region.binds, forall_const, and_true, beq_iff_eq, reduceCtorEq, false_implies, true_and] at hd
        intro K hK; refine do_wanted rfl ?_
        have HK := Lib.hid hK; clear hK
        try simp only [hd, cond_true]
        have Q0 := Lib.hid q0; have Q1 := Lib.hid q1; have Q2 := Lib.hid q2
        clear q0 q1 q2
        go_wp2
        exact HK.out _ _ ⟨(), by simp only [upd, Nat.reduceBEq, cond_true, cond_false, hd], ⟨Q0.out, Q1.out, Q2.out⟩⟩
      · rintro L g0 W hL hd ⟨q0, q1, q2⟩
        try dsimp only at q0 q1 q2
        try simp only [depsT, Region.binds, forall_const, and_true, beq_iff_eq, reduceCtorEq, false_implies, true_and] at hd
        intro K hK; refine do_wanted rfl ?_
        have HK := Lib.hid hK; clear hK
        try simp only [hd, cond_true]
        have Q0 := Lib.hid q0; have Q1 := Lib.hid q1; have Q2 := Lib.hid q2
        clear q0 q1 q2
        go_wp2
        exact HK.out _ _ ⟨(), by simp only [upd, Nat.reduceBEq, cond_true, cond_false, hd], ⟨Q0.out, Q1.out, Q2.out⟩⟩
      · rintro L g0 W hL hd ⟨q0, q1, q2⟩
        try dsimp only at q0 q1 q2
        try simp only [depsT, Region.binds, forall_const, and_true, beq_iff_eq, reduceCtorEq, false_implies, true_and] at hd
        intro K hK; refine do_wanted rfl ?_
        have HK := Lib.hid hK; clear hK
        try simp only [hd, cond_true]
        have Q0 := Lib.hid q0; have Q1 := Lib.hid q1; have Q2 := Lib.hid q2
        clear q0 q1 q2
        go_wp2
        exact HK.out _ _ ⟨(), by simp only [upd, Nat.reduceBEq, cond_true, cond_false, hd], ⟨Q0.out, Q1.out, Q2.out⟩⟩
      · rintro L g0 W hL hd ⟨q0, q1, q2⟩
        try dsimp only at q0 q1 q2
        try simp only [depsT, Region.binds, forall_const, and_true, beq_iff_eq, reduceCtorEq, false_implies, true_and] at hd
        intro K hK; refine do_wanted rfl ?_
        have HK := Lib.hid hK; clear hK
        try simp only [hd, cond_true]
        have cc := q1.cell 8 (v := .slice (some ⟨gm, 0, none⟩) 1 1) rfl
        have Q0 := Lib.hid q0; have Q1 := Lib.hid q1; have Q2 := Lib.hid q2
        clear q0 q1 q2
        go_wp2
        exact HK.out _ _ ⟨(), by simp only [upd, Nat.reduceBEq, cond_true, cond_false, hd], ⟨Q0.out, Q1.out, Q2.out⟩⟩
      · rintro L g0 W hL hd ⟨q0, q1, q2⟩
        try dsimp only at q0 q1 q2
        try simp only [depsT, Region.binds, forall_const, and_true, beq_iff_eq, reduceCtorEq, false_implies, true_and] at hd
        intro K hK; refine do_wanted rfl ?_
        have HK := Lib.hid hK; clear hK
        try simp only [hd, cond_true]
        have Q0 := Lib.hid q0; have Q1 := Lib.hid q1; have Q2 := Lib.hid q2
        clear q0 q1 q2
        go_wp2
        exact HK.out _ _ ⟨(), by simp only [upd, Nat.reduceBEq, cond_true, cond_false, hd], ⟨Q0.out, Q1.out, Q2.out⟩⟩
      · rintro L g0 W hL hd ⟨q0, q1, q2⟩
        try dsimp only at q0 q1 q2
        try simp only [depsT, Region.binds, forall_const, and_true, beq_iff_eq, reduceCtorEq, false_implies, true_and] at hd
        intro K hK; refine do_wanted rfl ?_
        have HK := Lib.hid hK; clear hK
        try simp only [hd, cond_true]
        have Q0 := Lib.hid q0; have Q1 := Lib.hid q1; have Q2 := Lib.hid q2
        clear q0 q1 q2
        go_wp2
        exact HK.out _ _ ⟨(), by simp only [upd, Nat.reduceBEq, cond_true, cond_false, hd], ⟨Q0.out, Q1.out, Q2.out⟩⟩
      · rintro L g0 W hL hd ⟨q0, q1, q2⟩
        try dsimp only at q0 q1 q2
        try simp only [depsT, Region.binds, forall_const, and_true, beq_iff_eq, reduceCtorEq, false_implies, true_and] at hd
        intro K hK; refine do_wanted rfl ?_
        have HK := Lib.hid hK; clear hK
        try simp only [hd, cond_true]
        have Q0 := Lib.hid q0; have Q1 := Lib.hid q1; have Q2 := Lib.hid q2
        clear q0 q1 q2
        go_wp2
        exact HK.out _ _ ⟨(), by simp only [upd, Nat.reduceBEq, cond_true, cond_false, hd], ⟨Q0.out, Q1.out, Q2.out⟩⟩
      · rintro L g0 W hL hd ⟨q0, q1, q2⟩
        try dsimp only at q0 q1 q2
        try simp only [depsT, Region.binds, forall_const, and_true, beq_iff_eq, reduceCtorEq, false_implies, true_and] at hd
        intro K hK; refine do_wanted rfl ?_
        have HK := Lib.hid hK; clear hK
        try simp only [hd, cond_true]
        have cc := q1.cell 0 (v := .int .i64 0) rfl
        have Q0 := Lib.hid q0; have Q1 := Lib.hid q1; have Q2 := Lib.hid q2
        clear q0 q1 q2
        go_wp2
        exact HK.out _ _ ⟨(), by simp only [upd, Nat.reduceBEq, cond_true, cond_false, hd], ⟨Q0.out, Q1.out, Q2.out⟩⟩
      · rintro L g0 W hL hd ⟨q0, q1, q2⟩
        try dsimp only at q0 q1 q2
        try simp only [depsT, Region.binds, forall_const, and_true, beq_iff_eq, reduceCtorEq, false_implies, true_and] at hd
        intro K hK; refine do_wanted rfl ?_
        have HK := Lib.hid hK; clear hK
        try simp only [hd, cond_true]
        have Q0 := Lib.hid q0; have Q1 := Lib.hid q1; have Q2 := Lib.hid q2
        clear q0 q1 q2
        go_wp2
        exact HK.out _ _ ⟨(), by simp only [upd, Nat.reduceBEq, cond_true, cond_false, hd], ⟨Q0.out, Q1.out, Q2.out⟩⟩
      · rintro L g0 W hL hd ⟨q0, q1, q2⟩
        try dsimp only at q0 q1 q2
        try simp only [depsT, Region.binds, forall_const, and_true, beq_iff_eq, reduceCtorEq, false_implies, true_and] at hd
        intro K hK; refine do_wanted rfl ?_
        have HK := Lib.hid hK; clear hK
        try simp only [hd, cond_true]
        have Q0 := Lib.hid q0; have Q1 := Lib.hid q1; have Q2 := Lib.hid q2
        clear q0 q1 q2
        go_wp2
        exact HK.out _ _ ⟨(), by simp only [upd, Nat.reduceBEq, cond_true, cond_false, hd], ⟨Q0.out, Q1.out, Q2.out⟩⟩
      · rintro L g0 W hL hd ⟨q0, q1, q2⟩
        try dsimp only at q0 q1 q2
        try simp only [depsT, Region.binds, forall_const, and_true, beq_iff_eq, reduceCtorEq, false_implies, true_and] at hd
        intro K hK; refine do_wanted rfl ?_
        have HK := Lib.hid hK; clear hK
        try simp only [hd, cond_true]
        have Q0 := Lib.hid q0; have Q1 := Lib.hid q1; have Q2 := Lib.hid q2
        clear q0 q1 q2
        go_wp2
        exact HK.out _ _ ⟨(), by simp only [upd, Nat.reduceBEq, cond_true, cond_false, hd], ⟨Q0.out, Q1.out, Q2.out⟩⟩
      · rintro L g0 W hL hd ⟨q0, q1, q2⟩
        try dsimp only at q0 q1 q2
        try simp only [depsT, Region.binds, forall_const, and_true, beq_iff_eq, reduceCtorEq, false_implies, true_and] at hd
        intro K hK; refine do_wanted rfl ?_
        have HK := Lib.hid hK; clear hK
        try simp only [hd, cond_true]
        have cc := q1.cell 4 (v := .slice A4 n4 d4) rfl
        have Q0 := Lib.hid q0; have Q1 := Lib.hid q1; have Q2 := Lib.hid q2
        clear q0 q1 q2
        go_wp2
        exact HK.out _ _ ⟨(), by simp only [upd, Nat.reduceBEq, cond_true, cond_false, hd], ⟨Q0.out, Q1.out, Q2.out⟩⟩
      · rintro L g0 W hL hd ⟨q0, q1, q2⟩
        try dsimp only at q0 q1 q2
        try simp only [depsT, Region.binds, forall_const, and_true, beq_iff_eq, reduceCtorEq, false_implies, true_and] at hd
        intro K hK; refine do_wanted rfl ?_
        have HK := Lib.hid hK; clear hK
        try simp only [hd, cond_true]
        have Q0 := Lib.hid q0; have Q1 := Lib.hid q1; have Q2 := Lib.hid q2
        clear q0 q1 q2
        go_wp2
        exact HK.out _ _ ⟨(), by simp only [upd, Nat.reduceBEq, cond_true, cond_false, hd], ⟨Q0.out, Q1.out, Q2.out⟩⟩
      · rintro L g0 W hL hd ⟨q0, q1, q2⟩
        try dsimp only at q0 q1 q2
        try simp only [depsT, Region.binds, forall_const, and_true, beq_iff_eq, reduceCtorEq, false_implies, true_and] at hd
        intro K hK; refine do_wanted rfl ?_
        have HK := Lib.hid hK; clear hK
        try simp only [hd, cond_true]
        have Q0 := Lib.hid q0; have Q1 := Lib.hid q1; have Q2 := Lib.hid q2
        clear q0 q1 q2
        go_wp2
        exact HK.out _ _ ⟨(), by simp only [upd, Nat.reduceBEq, cond_true, cond_false, hd], ⟨Q0.out, Q1.out, Q2.out⟩⟩
      · rintro L g0 W hL hd ⟨q0, q1, q2⟩
        try dsimp only at q0 q1 q2
        try simp only [depsT, Region.binds, forall_const, and_true, beq_iff_eq, reduceCtorEq, false_implies, true_and] at hd
        intro K hK; refine do_wanted rfl ?_
        have HK := Lib.hid hK; clear hK
        try simp only [hd, cond_true]
        have cc := q2.cell 0 rfl
        have fb := q2.fro
        have hgl := q2.lt
        have Q0 := Lib.hid q0; have Q1 := Lib.hid q1; have Q2 := Lib.hid q2
        clear q0 q1 q2
        go_wp2
        exact HK.out _ _ ⟨(), by simp only [upd, Nat.reduceBEq, cond_true, cond_false, hd], ⟨KeptF.newerT Q0.out hg (kept_set W gm 0 _), Q1.out.set_other (a := ⟨gm, 0, none⟩) (.int .i64 (n4 : Int)) (by simp; omega), Q2.out.set 0 (.int .i64 (n4 : Int))⟩⟩
    · simp (config := { maxSteps := 4000000 }) only [layT, Nat.reduceAdd, Nat.reduceBEq, cond_true, cond_false]
      rintro L g0 W hd ⟨q0, q1, q2⟩
      simp only [doneT, true_and, List.length_cons, List.length_nil, Nat.reduceAdd] at hd
      obtain ⟨⟨⟨⟨⟨⟨⟨⟨⟨⟨⟨⟨⟨⟨e0, e1⟩, e2⟩, e3⟩, e4⟩, e5⟩, e6⟩, e7⟩, e8⟩, e9⟩, e10⟩, e11⟩, e12⟩, e13⟩, e14⟩ := hd
      try dsimp only at q0 q1 q2
      simp only [e0, e1, e2, e3, e4, e5, e6, e7, e8, e9, e10, e11, e12, e13, e14, cond_true]
      rw [e14] at q2
      have q3 : Box W gm #[.int .i64 (n4 : Int)] 3 := q2
      have Q0 := Lib.hid q0; have Q1 := Lib.hid q1; have Q3 := Lib.hid q3
      clear q0 q1 q2 q3
      go_wp2
      go_end0
      exact ⟨rfl, gm, hg, Q0.out, Q1.out, Q3.out⟩
set_option maxHeartbeats 8000000 in
set_option maxRecDepth 100000 in
theorem sLead_calls {te vo co ro : Int} {lg : List DEntry} {A4 A7 A8 : Option Addr} {d4 n7 d7 n8 d8 : Nat} {w : World} (g4 : kEntry.S w lg (.slice A4 lg.length d4)) (hl : lg.length ≤ 1048576) (hc : 0 ≤ co) (hc2 : co ≤ lg.length) (hcom : comFrom (⟨0, 1, te, vo, lg, co, 2, [], [(lg.length : Int)]⟩ : DRaftNode) lg.length = co) : Calls Try.prog 18 #[.agg #[.int .i64 0, .int .i64 1, .int .i64 te, .int .i64 vo, .slice A4 lg.length d4, .int .i64 co, .int .i64 ro, .slice A7 n7 d7, .slice A8 n8 d8]] w
    fun e w' => ∃ gm, e = .returned (.agg #[.int .i64 0, .int .i64 1, .int .i64 te, .int .i64 vo, .slice A4 lg.length d4, .int .i64 co, .int .i64 2, .slice none 0 0, .slice (some ⟨gm, 0, none⟩) 1 1]) ∧ w.heap.size ≤ gm ∧ Box w' gm #[.int .i64 (lg.length : Int)] 3 ∧ Below w.heap.size w w' := by
  have G4 := Lib.hid g4; clear g4
  go_enter Try.func18, Try.ntmps18
  go_upto_region 1 with fail
  have HC := Lib.hid (show Below w.heap.size w ((w.alloc (.cells #[.int .i64 0, .int .i64 1, .int .i64 te, .int .i64 vo, .slice A4 lg.length d4, .int .i64 co, .int .i64 ro, .slice A7 n7 d7, .slice A8 n8 d8] 29)).alloc (.cells #[.int .i64 0, .int .i64 0, .int .i64 0, .int .i64 0, .slice none 0 0, .int .i64 0, .int .i64 0, .slice none 0 0, .slice none 0 0] 29)) from Below.alloc (Below.alloc (Below.refl w.heap.size w) (by first | exact Nat.le_refl _ | (simp; done) | (simp; omega)) (.cells #[.int .i64 0, .int .i64 1, .int .i64 te, .int .i64 vo, .slice A4 lg.length d4, .int .i64 co, .int .i64 ro, .slice A7 n7 d7, .slice A8 n8 d8] 29)) (by first | exact Nat.le_refl _ | (simp; done) | (simp; omega)) (.cells #[.int .i64 0, .int .i64 0, .int .i64 0, .int .i64 0, .slice none 0 0, .int .i64 0, .int .i64 0, .slice none 0 0, .slice none 0 0] 29))
  have Xn := Lib.hid (show Box ((w.alloc (.cells #[.int .i64 0, .int .i64 1, .int .i64 te, .int .i64 vo, .slice A4 lg.length d4, .int .i64 co, .int .i64 ro, .slice A7 n7 d7, .slice A8 n8 d8] 29)).alloc (.cells #[.int .i64 0, .int .i64 0, .int .i64 0, .int .i64 0, .slice none 0 0, .int .i64 0, .int .i64 0, .slice none 0 0, .slice none 0 0] 29)) (w.heap.size) #[.int .i64 0, .int .i64 1, .int .i64 te, .int .i64 vo, .slice A4 lg.length d4, .int .i64 co, .int .i64 ro, .slice A7 n7 d7, .slice A8 n8 d8] 29 from Box.alloc (Box.new rfl))
  have Xr := Lib.hid (show Box ((w.alloc (.cells #[.int .i64 0, .int .i64 1, .int .i64 te, .int .i64 vo, .slice A4 lg.length d4, .int .i64 co, .int .i64 ro, .slice A7 n7 d7, .slice A8 n8 d8] 29)).alloc (.cells #[.int .i64 0, .int .i64 0, .int .i64 0, .int .i64 0, .slice none 0 0, .int .i64 0, .int .i64 0, .slice none 0 0, .slice none 0 0] 29)) (w.heap.size + 1) #[.int .i64 0, .int .i64 0, .int .i64 0, .int .i64 0, .slice none 0 0, .int .i64 0, .int .i64 0, .slice none 0 0, .slice none 0 0] 29 from Box.new (by simp))
  have hsz : w.heap.size + 2 ≤ ((w.alloc (.cells #[.int .i64 0, .int .i64 1, .int .i64 te, .int .i64 vo, .slice A4 lg.length d4, .int .i64 co, .int .i64 ro, .slice A7 n7 d7, .slice A8 n8 d8] 29)).alloc (.cells #[.int .i64 0, .int .i64 0, .int .i64 0, .int .i64 0, .slice none 0 0, .int .i64 0, .int .i64 0, .slice none 0 0, .slice none 0 0] 29)).heap.size := by simp
  generalize (w.alloc (.cells #[.int .i64 0, .int .i64 1, .int .i64 te, .int .i64 vo, .slice A4 lg.length d4, .int .i64 co, .int .i64 ro, .slice A7 n7 d7, .slice A8 n8 d8] 29)).alloc (.cells #[.int .i64 0, .int .i64 0, .int .i64 0, .int .i64 0, .slice none 0 0, .int .i64 0, .int .i64 0, .slice none 0 0, .slice none 0 0] 29) = w1 at *
  have cn_0 := Xn.out.cell 0 (v := .int .i64 0) rfl; have cn_1 := Xn.out.cell 1 (v := .int .i64 1) rfl; have cn_2 := Xn.out.cell 2 (v := .int .i64 te) rfl; have cn_3 := Xn.out.cell 3 (v := .int .i64 vo) rfl; have cn_4 := Xn.out.cell 4 (v := .slice A4 lg.length d4) rfl; have cn_5 := Xn.out.cell 5 (v := .int .i64 co) rfl; have cn_6 := Xn.out.cell 6 (v := .int .i64 ro) rfl; have cn_7 := Xn.out.cell 7 (v := .slice A7 n7 d7) rfl; have cn_8 := Xn.out.cell 8 (v := .slice A8 n8 d8) rfl; have cr_0 := Xr.out.cell 0 (v := .int .i64 0) rfl; have cr_1 := Xr.out.cell 1 (v := .int .i64 0) rfl; have cr_2 := Xr.out.cell 2 (v := .int .i64 0) rfl; have cr_3 := Xr.out.cell 3 (v := .int .i64 0) rfl; have cr_4 := Xr.out.cell 4 (v := .slice none 0 0) rfl; have cr_5 := Xr.out.cell 5 (v := .int .i64 0) rfl; have cr_6 := Xr.out.cell 6 (v := .int .i64 0) rfl; have cr_7 := Xr.out.cell 7 (v := .slice none 0 0) rfl; have cr_8 := Xr.out.cell 8 (v := .slice none 0 0) rfl
  have fn := Xn.out.fro
  go_upto_region 2 with fail
  clear fn
  have hk := kept_set w1 (w.heap.size) 6 (.int .i64 2)
  have Xr := Lib.hid (Xr.out.set_other (a := ⟨w.heap.size, 6, none⟩) (.int .i64 2) (by first | (simp; done) | (simp; omega)))
  have Xn := Lib.hid (show Box (w1.setCell ⟨w.heap.size, 6, none⟩ (.int .i64 2)) (w.heap.size) #[.int .i64 0, .int .i64 1, .int .i64 te, .int .i64 vo, .slice A4 lg.length d4, .int .i64 co, .int .i64 2, .slice A7 n7 d7, .slice A8 n8 d8] 29 from Xn.out.set 6 (.int .i64 2))
  have HC := Lib.hid (HC.out.setCell (p := ⟨w.heap.size, 6, none⟩) (by first | (simp; done) | (simp; omega)) (.int .i64 2))
  replace hsz := Nat.le_trans hsz hk.size
  clear hk cn_0 cn_1 cn_2 cn_3 cn_4 cn_5 cn_6 cn_7 cn_8 cr_0 cr_1 cr_2 cr_3 cr_4 cr_5 cr_6 cr_7 cr_8
  generalize w1.setCell ⟨w.heap.size, 6, none⟩ (.int .i64 2) = w2 at *
  have cn_0 := Xn.out.cell 0 (v := .int .i64 0) rfl; have cn_1 := Xn.out.cell 1 (v := .int .i64 1) rfl; have cn_2 := Xn.out.cell 2 (v := .int .i64 te) rfl; have cn_3 := Xn.out.cell 3 (v := .int .i64 vo) rfl; have cn_4 := Xn.out.cell 4 (v := .slice A4 lg.length d4) rfl; have cn_5 := Xn.out.cell 5 (v := .int .i64 co) rfl; have cn_6 := Xn.out.cell 6 (v := .int .i64 2) rfl; have cn_7 := Xn.out.cell 7 (v := .slice A7 n7 d7) rfl; have cn_8 := Xn.out.cell 8 (v := .slice A8 n8 d8) rfl; have cr_0 := Xr.out.cell 0 (v := .int .i64 0) rfl; have cr_1 := Xr.out.cell 1 (v := .int .i64 0) rfl; have cr_2 := Xr.out.cell 2 (v := .int .i64 0) rfl; have cr_3 := Xr.out.cell 3 (v := .int .i64 0) rfl; have cr_4 := Xr.out.cell 4 (v := .slice none 0 0) rfl; have cr_5 := Xr.out.cell 5 (v := .int .i64 0) rfl; have cr_6 := Xr.out.cell 6 (v := .int .i64 0) rfl; have cr_7 := Xr.out.cell 7 (v := .slice none 0 0) rfl; have cr_8 := Xr.out.cell 8 (v := .slice none 0 0) rfl
  have fn := Xn.out.fro
  go_upto_region 3 with fail
  clear fn
  have hk := kept_set w2 (w.heap.size) 7 (.slice none 0 0)
  have Xr := Lib.hid (Xr.out.set_other (a := ⟨w.heap.size, 7, none⟩) (.slice none 0 0) (by first | (simp; done) | (simp; omega)))
  have Xn := Lib.hid (show Box (w2.setCell ⟨w.heap.size, 7, none⟩ (.slice none 0 0)) (w.heap.size) #[.int .i64 0, .int .i64 1, .int .i64 te, .int .i64 vo, .slice A4 lg.length d4, .int .i64 co, .int .i64 2, .slice none 0 0, .slice A8 n8 d8] 29 from Xn.out.set 7 (.slice none 0 0))
  have HC := Lib.hid (HC.out.setCell (p := ⟨w.heap.size, 7, none⟩) (by first | (simp; done) | (simp; omega)) (.slice none 0 0))
  replace hsz := Nat.le_trans hsz hk.size
  clear hk cn_0 cn_1 cn_2 cn_3 cn_4 cn_5 cn_6 cn_7 cn_8 cr_0 cr_1 cr_2 cr_3 cr_4 cr_5 cr_6 cr_7 cr_8
  generalize w2.setCell ⟨w.heap.size, 7, none⟩ (.slice none 0 0) = w3 at *
  have cn_0 := Xn.out.cell 0 (v := .int .i64 0) rfl; have cn_1 := Xn.out.cell 1 (v := .int .i64 1) rfl; have cn_2 := Xn.out.cell 2 (v := .int .i64 te) rfl; have cn_3 := Xn.out.cell 3 (v := .int .i64 vo) rfl; have cn_4 := Xn.out.cell 4 (v := .slice A4 lg.length d4) rfl; have cn_5 := Xn.out.cell 5 (v := .int .i64 co) rfl; have cn_6 := Xn.out.cell 6 (v := .int .i64 2) rfl; have cn_7 := Xn.out.cell 7 (v := .slice none 0 0) rfl; have cn_8 := Xn.out.cell 8 (v := .slice A8 n8 d8) rfl; have cr_0 := Xr.out.cell 0 (v := .int .i64 0) rfl; have cr_1 := Xr.out.cell 1 (v := .int .i64 0) rfl; have cr_2 := Xr.out.cell 2 (v := .int .i64 0) rfl; have cr_3 := Xr.out.cell 3 (v := .int .i64 0) rfl; have cr_4 := Xr.out.cell 4 (v := .slice none 0 0) rfl; have cr_5 := Xr.out.cell 5 (v := .int .i64 0) rfl; have cr_6 := Xr.out.cell 6 (v := .int .i64 0) rfl; have cr_7 := Xr.out.cell 7 (v := .slice none 0 0) rfl; have cr_8 := Xr.out.cell 8 (v := .slice none 0 0) rfl
  have hmk := mk_one w3
  have s0 : w.heap.size < w3.heap.size := by omega
  obtain ⟨ka, kb⟩ := acell w3
  have fn := Xn.out.fro
  go_upto_region 4 with fail
  clear fn hmk s0 ka kb
  obtain ⟨gm, hgm⟩ : ∃ gm, w3.heap.size = gm := ⟨_, rfl⟩
  simp only [hgm]
  have he : (w3.setCell ⟨w.heap.size, 8, none⟩ (.slice (some ⟨gm, 0, none⟩) 1 1)).heap.size = gm := by rw [← hgm]; simp
  have hgb : w.heap.size + 2 ≤ gm := by omega
  have hk := kept_set w3 (w.heap.size) 8 (.slice (some ⟨gm, 0, none⟩) 1 1)
  have Xr := Lib.hid (Xr.out.set_other (a := ⟨w.heap.size, 8, none⟩) (.slice (some ⟨gm, 0, none⟩) 1 1) (by first | (simp; done) | (simp; omega)))
  have Xn := Lib.hid (show Box (w3.setCell ⟨w.heap.size, 8, none⟩ (.slice (some ⟨gm, 0, none⟩) 1 1)) (w.heap.size) #[.int .i64 0, .int .i64 1, .int .i64 te, .int .i64 vo, .slice A4 lg.length d4, .int .i64 co, .int .i64 2, .slice none 0 0, .slice (some ⟨gm, 0, none⟩) 1 1] 29 from Xn.out.set 8 (.slice (some ⟨gm, 0, none⟩) 1 1))
  have HC := Lib.hid (HC.out.setCell (p := ⟨w.heap.size, 8, none⟩) (by first | (simp; done) | (simp; omega)) (.slice (some ⟨gm, 0, none⟩) 1 1))
  replace hsz := Nat.le_trans hsz hk.size
  clear hk cn_0 cn_1 cn_2 cn_3 cn_4 cn_5 cn_6 cn_7 cn_8 cr_0 cr_1 cr_2 cr_3 cr_4 cr_5 cr_6 cr_7 cr_8
  generalize w3.setCell ⟨w.heap.size, 8, none⟩ (.slice (some ⟨gm, 0, none⟩) 1 1) = w4 at *
  have cn_0 := Xn.out.cell 0 (v := .int .i64 0) rfl; have cn_1 := Xn.out.cell 1 (v := .int .i64 1) rfl; have cn_2 := Xn.out.cell 2 (v := .int .i64 te) rfl; have cn_3 := Xn.out.cell 3 (v := .int .i64 vo) rfl; have cn_4 := Xn.out.cell 4 (v := .slice A4 lg.length d4) rfl; have cn_5 := Xn.out.cell 5 (v := .int .i64 co) rfl; have cn_6 := Xn.out.cell 6 (v := .int .i64 2) rfl; have cn_7 := Xn.out.cell 7 (v := .slice none 0 0) rfl; have cn_8 := Xn.out.cell 8 (v := .slice (some ⟨gm, 0, none⟩) 1 1) rfl; have cr_0 := Xr.out.cell 0 (v := .int .i64 0) rfl; have cr_1 := Xr.out.cell 1 (v := .int .i64 0) rfl; have cr_2 := Xr.out.cell 2 (v := .int .i64 0) rfl; have cr_3 := Xr.out.cell 3 (v := .int .i64 0) rfl; have cr_4 := Xr.out.cell 4 (v := .slice none 0 0) rfl; have cr_5 := Xr.out.cell 5 (v := .int .i64 0) rfl; have cr_6 := Xr.out.cell 6 (v := .int .i64 0) rfl; have cr_7 := Xr.out.cell 7 (v := .slice none 0 0) rfl; have cr_8 := Xr.out.cell 8 (v := .slice none 0 0) rfl
  have hb := (Below.refl w4.heap.size w4).alloc (Nat.le_refl _) (.cells #[.int .i64 0] 3)
  have bm := Lib.hid (Box.new (by omega) : Box (w4.alloc (.cells #[.int .i64 0] 3)) gm #[.int .i64 0] 3)
  generalize w4.alloc (.cells #[.int .i64 0] 3) = w5 at *
  have HC := Lib.hid (HC.out.trans (hb.mono (by first | exact HC.out.size | (have := HC.out.size; omega)))); have hsz := Nat.le_trans hsz hb.size; have Xn := Lib.hid (Xn.out.below hb); have Xr := Lib.hid (Xr.out.below hb); clear cn_0 cn_1 cn_2 cn_3 cn_4 cn_5 cn_6 cn_7 cn_8 cr_0 cr_1 cr_2 cr_3 cr_4 cr_5 cr_6 cr_7 cr_8; clear hb; have cn_0 := Xn.out.cell 0 (v := .int .i64 0) rfl; have cn_1 := Xn.out.cell 1 (v := .int .i64 1) rfl; have cn_2 := Xn.out.cell 2 (v := .int .i64 te) rfl; have cn_3 := Xn.out.cell 3 (v := .int .i64 vo) rfl; have cn_4 := Xn.out.cell 4 (v := .slice A4 lg.length d4) rfl; have cn_5 := Xn.out.cell 5 (v := .int .i64 co) rfl; have cn_6 := Xn.out.cell 6 (v := .int .i64 2) rfl; have cn_7 := Xn.out.cell 7 (v := .slice none 0 0) rfl; have cn_8 := Xn.out.cell 8 (v := .slice (some ⟨gm, 0, none⟩) 1 1) rfl; have cr_0 := Xr.out.cell 0 (v := .int .i64 0) rfl; have cr_1 := Xr.out.cell 1 (v := .int .i64 0) rfl; have cr_2 := Xr.out.cell 2 (v := .int .i64 0) rfl; have cr_3 := Xr.out.cell 3 (v := .int .i64 0) rfl; have cr_4 := Xr.out.cell 4 (v := .slice none 0 0) rfl; have cr_5 := Xr.out.cell 5 (v := .int .i64 0) rfl; have cr_6 := Xr.out.cell 6 (v := .int .i64 0) rfl; have cr_7 := Xr.out.cell 7 (v := .slice none 0 0) rfl; have cr_8 := Xr.out.cell 8 (v := .slice none 0 0) rfl
  have m0 := bm.out.cell 0 (v := .int .i64 0) rfl; have fm := bm.out.fro
  go_upto_region 5 with fail
  clear m0 fm
  have Xn := Lib.hid (Xn.out.set_other (a := ⟨gm, 0, none⟩) (.int .i64 (lg.length : Int)) (by simp; omega)); have Xr := Lib.hid (Xr.out.set_other (a := ⟨gm, 0, none⟩) (.int .i64 (lg.length : Int)) (by simp; omega))
  have bm2 := Lib.hid (show Box (w5.setCell ⟨gm, 0, none⟩ (.int .i64 (lg.length : Int))) gm #[(.int .i64 (lg.length : Int))] 3 from bm.out.set 0 (.int .i64 (lg.length : Int)))
  have hk5 := kept_set w5 gm 0 (.int .i64 (lg.length : Int))
  have HC := Lib.hid (HC.out.trans (hk5.toBelow HC.out.size (fun b h => by have h2 : b = gm := (by simpa using h); omega)))
  replace hsz := Nat.le_trans hsz hk5.size
  clear bm hk5 cn_0 cn_1 cn_2 cn_3 cn_4 cn_5 cn_6 cn_7 cn_8 cr_0 cr_1 cr_2 cr_3 cr_4 cr_5 cr_6 cr_7 cr_8
  generalize w5.setCell ⟨gm, 0, none⟩ (.int .i64 (lg.length : Int)) = w6 at *
  have cn_0 := Xn.out.cell 0 (v := .int .i64 0) rfl; have cn_1 := Xn.out.cell 1 (v := .int .i64 1) rfl; have cn_2 := Xn.out.cell 2 (v := .int .i64 te) rfl; have cn_3 := Xn.out.cell 3 (v := .int .i64 vo) rfl; have cn_4 := Xn.out.cell 4 (v := .slice A4 lg.length d4) rfl; have cn_5 := Xn.out.cell 5 (v := .int .i64 co) rfl; have cn_6 := Xn.out.cell 6 (v := .int .i64 2) rfl; have cn_7 := Xn.out.cell 7 (v := .slice none 0 0) rfl; have cn_8 := Xn.out.cell 8 (v := .slice (some ⟨gm, 0, none⟩) 1 1) rfl; have cr_0 := Xr.out.cell 0 (v := .int .i64 0) rfl; have cr_1 := Xr.out.cell 1 (v := .int .i64 0) rfl; have cr_2 := Xr.out.cell 2 (v := .int .i64 0) rfl; have cr_3 := Xr.out.cell 3 (v := .int .i64 0) rfl; have cr_4 := Xr.out.cell 4 (v := .slice none 0 0) rfl; have cr_5 := Xr.out.cell 5 (v := .int .i64 0) rfl; have cr_6 := Xr.out.cell 6 (v := .int .i64 0) rfl; have cr_7 := Xr.out.cell 7 (v := .slice none 0 0) rfl; have cr_8 := Xr.out.cell 8 (v := .slice none 0 0) rfl
  have hS8 : kInt.S w6 [(lg.length : Int)] (.slice (some ⟨gm, 0, none⟩) 1 1) := Rp.S_one bm2.out rfl
  have hcall : Calls Try.prog 38 #[.agg #[.int .i64 0, .int .i64 1, .int .i64 te, .int .i64 vo, .slice A4 lg.length d4, .int .i64 co, .int .i64 2, .slice none 0 0, .slice (some ⟨gm, 0, none⟩) 1 1]] w6 (fun e w' => e = .returned (.agg #[.int .i64 0, .int .i64 1, .int .i64 te, .int .i64 vo, .slice A4 lg.length d4, .int .i64 co, .int .i64 2, .slice none 0 0, .slice (some ⟨gm, 0, none⟩) 1 1]) ∧ Below w6.heap.size w6 w') := by
    have h := sCommit_calls (⟨0, 1, te, vo, lg, co, 2, [], [(lg.length : Int)]⟩ : DRaftNode) A4 none (some ⟨gm, 0, none⟩) d4 0 0 1 w6 (Rp.S_below G4.out HC.out) hS8 hl (by show (1 : Nat) ≤ _; omega) hc hc2
    rw [hcom] at h
    exact h
  have HCL := Lib.hid hcall; clear hcall hS8
  go_wp2_with fail
  (with_reducible refine (HCL.out).mono ?_)
  rintro e w7 ⟨rfl, hb⟩
  have bm2 := Lib.hid (bm2.out.below hb)
  have HC := Lib.hid (HC.out.trans (hb.mono (by first | exact HC.out.size | (have := HC.out.size; omega)))); have hsz := Nat.le_trans hsz hb.size; have Xn := Lib.hid (Xn.out.below hb); have Xr := Lib.hid (Xr.out.below hb); clear cn_0 cn_1 cn_2 cn_3 cn_4 cn_5 cn_6 cn_7 cn_8 cr_0 cr_1 cr_2 cr_3 cr_4 cr_5 cr_6 cr_7 cr_8; clear hb; have cn_0 := Xn.out.cell 0 (v := .int .i64 0) rfl; have cn_1 := Xn.out.cell 1 (v := .int .i64 1) rfl; have cn_2 := Xn.out.cell 2 (v := .int .i64 te) rfl; have cn_3 := Xn.out.cell 3 (v := .int .i64 vo) rfl; have cn_4 := Xn.out.cell 4 (v := .slice A4 lg.length d4) rfl; have cn_5 := Xn.out.cell 5 (v := .int .i64 co) rfl; have cn_6 := Xn.out.cell 6 (v := .int .i64 2) rfl; have cn_7 := Xn.out.cell 7 (v := .slice none 0 0) rfl; have cn_8 := Xn.out.cell 8 (v := .slice (some ⟨gm, 0, none⟩) 1 1) rfl; have cr_0 := Xr.out.cell 0 (v := .int .i64 0) rfl; have cr_1 := Xr.out.cell 1 (v := .int .i64 0) rfl; have cr_2 := Xr.out.cell 2 (v := .int .i64 0) rfl; have cr_3 := Xr.out.cell 3 (v := .int .i64 0) rfl; have cr_4 := Xr.out.cell 4 (v := .slice none 0 0) rfl; have cr_5 := Xr.out.cell 5 (v := .int .i64 0) rfl; have cr_6 := Xr.out.cell 6 (v := .int .i64 0) rfl; have cr_7 := Xr.out.cell 7 (v := .slice none 0 0) rfl; have cr_8 := Xr.out.cell 8 (v := .slice none 0 0) rfl
  have fr_ := Xr.out.fro
  go_wp2
  obtain ⟨hk, bf⟩ := Xr.out.stored [.int .i64 0, .int .i64 1, .int .i64 te, .int .i64 vo, .slice A4 lg.length d4, .int .i64 co, .int .i64 2, .slice none 0 0, .slice (some ⟨gm, 0, none⟩) 1 1] 0
  rw [setA_all (by rfl)] at bf
  change bodyPost _ _ _ _ _ (Rp.setN w7 (w.heap.size + 1) 0 [.int .i64 0, .int .i64 1, .int .i64 te, .int .i64 vo, .slice A4 lg.length d4, .int .i64 co, .int .i64 2, .slice none 0 0, .slice (some ⟨gm, 0, none⟩) 1 1])
  clear fr_ cn_0 cn_1 cn_2 cn_3 cn_4 cn_5 cn_6 cn_7 cn_8 cr_0 cr_1 cr_2 cr_3 cr_4 cr_5 cr_6 cr_7 cr_8
  have HK := Lib.hid hk; clear hk
  generalize Rp.setN w7 (w.heap.size + 1) 0 [.int .i64 0, .int .i64 1, .int .i64 te, .int .i64 vo, .slice A4 lg.length d4, .int .i64 co, .int .i64 2, .slice none 0 0, .slice (some ⟨gm, 0, none⟩) 1 1] = wf at *
  have df0 := bf.cell 0 (v := .int .i64 0) rfl; have df1 := bf.cell 1 (v := .int .i64 1) rfl; have df2 := bf.cell 2 (v := .int .i64 te) rfl; have df3 := bf.cell 3 (v := .int .i64 vo) rfl; have df4 := bf.cell 4 (v := .slice A4 lg.length d4) rfl; have df5 := bf.cell 5 (v := .int .i64 co) rfl; have df6 := bf.cell 6 (v := .int .i64 2) rfl; have df7 := bf.cell 7 (v := .slice none 0 0) rfl; have df8 := bf.cell 8 (v := .slice (some ⟨gm, 0, none⟩) 1 1) rfl
  refine bodyPost_ret (v := .agg #[.int .i64 0, .int .i64 1, .int .i64 te, .int .i64 vo, .slice A4 lg.length d4, .int .i64 co, .int .i64 2, .slice none 0 0, .slice (some ⟨gm, 0, none⟩) 1 1]) (by simp [results, Try.results18, go_sem, df0, df1, df2, df3, df4, df5, df6, df7, df8]) rfl ⟨gm, rfl, by omega, Box_ne bm2.out HK.out (by omega), HC.out.trans (HK.out.toBelow HC.out.size (by simp))⟩
end Go.Proofs.Ytcimnhpgackciaa
