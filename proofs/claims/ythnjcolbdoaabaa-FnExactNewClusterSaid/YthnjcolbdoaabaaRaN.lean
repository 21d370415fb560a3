/- The first node. -/
import Derived.Test.YthnjcolbdoaabaaRaP
namespace Go.Proofs.Ythnjcolbdoaabaa
open Go Go.RowKit Go.Sort
set_option linter.unusedVariables false
set_option linter.unusedSimpArgs false

set_option maxHeartbeats 400000 in
theorem iInR_calls (n lo hi : Int) (w : World) : Calls Try.prog 76 #[.int .i64 n, .int .i64 lo, .int .i64 hi] w fun e w' => e = .returned (.bool (inR n lo hi)) ∧ w' = w := by
  go_enter Try.func76, Try.ntmps76
  go_wp2
  all_goals (go_ret; exact ⟨by congr 2; simp [inR]; omega, rfl⟩)
set_option maxHeartbeats 400000 in
theorem iPeers_calls (n : Int) (w : World) : Calls Try.prog 80 #[.int .i64 n] w fun e w' => e = .returned (.bool (inR n 1 7)) ∧ w' = w := by
  go_enter Try.func80, Try.ntmps80
  go_wp2_with (with_reducible refine (iInR_calls _ _ _ _).mono ?_; rintro e w1 ⟨rfl, rfl⟩)
  all_goals (go_ret; exact ⟨rfl, rfl⟩)
set_option maxHeartbeats 4000000 in
set_option maxRecDepth 100000 in
theorem iNewNode_k {id pe : Int} {w : World} (hi : (Lit.int .i64 id).wf = true) (hp : (Lit.int .i64 pe).wf = true) : Calls Try.prog 100 #[.int .i64 id, .int .i64 pe] w
    fun e w' => ∃ cs F, e = .returned (.tuple #[.agg cs.toArray, .bool (nodeB id pe)]) ∧ kRaftNode.M w' F (nodeV id pe) cs ∧ (∀ b ∈ F, w.heap.size ≤ b) ∧ F.Nodup ∧ Below w.heap.size w w' := by
  clear hi hp
  have hpath : inR pe 1 7 = false ∨ (inR pe 1 7 = true ∧ inR id 0 (pe - 1) = false) ∨ (inR pe 1 7 = true ∧ inR id 0 (pe - 1) = true) := by
    cases inR pe 1 7 <;> cases inR id 0 (pe - 1) <;> simp
  rcases hpath with h1 | ⟨h1, h2⟩ | ⟨h1, h2⟩
  · have HBB := Lib.hid (show nodeB id pe = false by simp [nodeB, h1])
    go_enter Try.func100, Try.ntmps100
    go_upto_region 2 with (first | ((with_reducible refine (iPeers_calls pe _).mono ?_); rintro e wq ⟨rfl, rfl⟩; rw [h1]))
    have B0 : Box (w.alloc (.cells #[.int .i64 0, .int .i64 0, .int .i64 0, .int .i64 0, .slice none 0 0, .int .i64 0, .int .i64 0, .slice none 0 0, .slice none 0 0] 29)) w.heap.size #[.int .i64 0, .int .i64 0, .int .i64 0, .int .i64 0, .slice none 0 0, .int .i64 0, .int .i64 0, .slice none 0 0, .slice none 0 0] 29 := Box.new rfl
    have HB := Lib.hid ((Below.refl w.heap.size w).alloc (Nat.le_refl _) (.cells #[.int .i64 0, .int .i64 0, .int .i64 0, .int .i64 0, .slice none 0 0, .int .i64 0, .int .i64 0, .slice none 0 0, .slice none 0 0] 29))
    generalize w.alloc (.cells #[.int .i64 0, .int .i64 0, .int .i64 0, .int .i64 0, .slice none 0 0, .int .i64 0, .int .i64 0, .slice none 0 0, .slice none 0 0] 29) = w1 at *
    have c0 := B0.cell 0 (v := .int .i64 0) rfl
    have c1 := B0.cell 1 (v := .int .i64 0) rfl
    have c2 := B0.cell 2 (v := .int .i64 0) rfl
    have c3 := B0.cell 3 (v := .int .i64 0) rfl
    have c4 := B0.cell 4 (v := .slice none 0 0) rfl
    have c5 := B0.cell 5 (v := .int .i64 0) rfl
    have c6 := B0.cell 6 (v := .int .i64 0) rfl
    have c7 := B0.cell 7 (v := .slice none 0 0) rfl
    have c8 := B0.cell 8 (v := .slice none 0 0) rfl
    have f0 := B0.fro
    have HX := Lib.hid B0; clear B0
    go_wp2
    have hk : KeptF [w.heap.size] w1 (Rp.setN w1 w.heap.size 0 [.int .i64 0, .int .i64 0, .int .i64 0, .int .i64 0, .slice none 0 0, .int .i64 0, .int .i64 0, .slice none 0 0, .slice none 0 0]) := Rp.setN_kept (by simp) _ _ _ (KeptF.refl _ _)
    have bf : Box (Rp.setN w1 w.heap.size 0 [.int .i64 0, .int .i64 0, .int .i64 0, .int .i64 0, .slice none 0 0, .int .i64 0, .int .i64 0, .slice none 0 0, .slice none 0 0]) w.heap.size #[.int .i64 0, .int .i64 0, .int .i64 0, .int .i64 0, .slice none 0 0, .int .i64 0, .int .i64 0, .slice none 0 0, .slice none 0 0] 29 := by
      have h := Box.setN [.int .i64 0, .int .i64 0, .int .i64 0, .int .i64 0, .slice none 0 0, .int .i64 0, .int .i64 0, .slice none 0 0, .slice none 0 0] HX.out 0
      rw [setA_all (by rfl)] at h
      exact h
    change bodyPost _ _ _ _ _ (Rp.setN w1 w.heap.size 0 [.int .i64 0, .int .i64 0, .int .i64 0, .int .i64 0, .slice none 0 0, .int .i64 0, .int .i64 0, .slice none 0 0, .slice none 0 0])
    clear c0 c1 c2 c3 c4 c5 c6 c7 c8 f0
    generalize Rp.setN w1 w.heap.size 0 [.int .i64 0, .int .i64 0, .int .i64 0, .int .i64 0, .slice none 0 0, .int .i64 0, .int .i64 0, .slice none 0 0, .slice none 0 0] = wf at *
    have d0 := bf.cell 0 (v := .int .i64 0) rfl
    have d1 := bf.cell 1 (v := .int .i64 0) rfl
    have d2 := bf.cell 2 (v := .int .i64 0) rfl
    have d3 := bf.cell 3 (v := .int .i64 0) rfl
    have d4 := bf.cell 4 (v := .slice none 0 0) rfl
    have d5 := bf.cell 5 (v := .int .i64 0) rfl
    have d6 := bf.cell 6 (v := .int .i64 0) rfl
    have d7 := bf.cell 7 (v := .slice none 0 0) rfl
    have d8 := bf.cell 8 (v := .slice none 0 0) rfl
    refine bodyPost_ret (v := .tuple #[.agg #[.int .i64 0, .int .i64 0, .int .i64 0, .int .i64 0, .slice none 0 0, .int .i64 0, .int .i64 0, .slice none 0 0, .slice none 0 0], .bool false]) (by simp [results, Try.results100, go_sem, d0, d1, d2, d3, d4, d5, d6, d7, d8]) rfl ⟨[.int .i64 0, .int .i64 0, .int .i64 0, .int .i64 0, .slice none 0 0, .int .i64 0, .int .i64 0, .slice none 0 0, .slice none 0 0], [], by rw [HBB.out], ?_, by simp, by simp, HB.out.trans (hk.toBelow HB.out.size (by simp))⟩
    rw [show nodeV id pe = zRaftNode by rw [nodeV, HBB.out]; rfl]
    exact kRaftNode_make (x := zRaftNode) (Rp.Row_nil _ _ _) (Rp.Row_nil _ _ _) (Rp.Row_nil _ _ _)
  · have HBB := Lib.hid (show nodeB id pe = false by simp [nodeB, h1, h2])
    have hpe : 1 ≤ pe ∧ pe ≤ 7 := by simpa [inR] using h1
    obtain ⟨hp1, hp2⟩ := hpe
    have hwr : IntKind.i64.wrap (pe - 1) = pe - 1 := by rw [IntKind.wrap_i64]; omega
    go_enter Try.func100, Try.ntmps100
    go_upto_region 2 with (first | ((with_reducible refine (iPeers_calls pe _).mono ?_); rintro e wq ⟨rfl, rfl⟩; rw [h1]) | ((with_reducible refine (iInR_calls id _ _ _).mono ?_); rintro e wq ⟨rfl, rfl⟩; rw [h2]))
    have B0 : Box (w.alloc (.cells #[.int .i64 0, .int .i64 0, .int .i64 0, .int .i64 0, .slice none 0 0, .int .i64 0, .int .i64 0, .slice none 0 0, .slice none 0 0] 29)) w.heap.size #[.int .i64 0, .int .i64 0, .int .i64 0, .int .i64 0, .slice none 0 0, .int .i64 0, .int .i64 0, .slice none 0 0, .slice none 0 0] 29 := Box.new rfl
    have HB := Lib.hid ((Below.refl w.heap.size w).alloc (Nat.le_refl _) (.cells #[.int .i64 0, .int .i64 0, .int .i64 0, .int .i64 0, .slice none 0 0, .int .i64 0, .int .i64 0, .slice none 0 0, .slice none 0 0] 29))
    generalize w.alloc (.cells #[.int .i64 0, .int .i64 0, .int .i64 0, .int .i64 0, .slice none 0 0, .int .i64 0, .int .i64 0, .slice none 0 0, .slice none 0 0] 29) = w1 at *
    have c0 := B0.cell 0 (v := .int .i64 0) rfl
    have c1 := B0.cell 1 (v := .int .i64 0) rfl
    have c2 := B0.cell 2 (v := .int .i64 0) rfl
    have c3 := B0.cell 3 (v := .int .i64 0) rfl
    have c4 := B0.cell 4 (v := .slice none 0 0) rfl
    have c5 := B0.cell 5 (v := .int .i64 0) rfl
    have c6 := B0.cell 6 (v := .int .i64 0) rfl
    have c7 := B0.cell 7 (v := .slice none 0 0) rfl
    have c8 := B0.cell 8 (v := .slice none 0 0) rfl
    have f0 := B0.fro
    have HX := Lib.hid B0; clear B0
    go_wp2
    have hk : KeptF [w.heap.size] w1 (Rp.setN w1 w.heap.size 0 [.int .i64 0, .int .i64 0, .int .i64 0, .int .i64 0, .slice none 0 0, .int .i64 0, .int .i64 0, .slice none 0 0, .slice none 0 0]) := Rp.setN_kept (by simp) _ _ _ (KeptF.refl _ _)
    have bf : Box (Rp.setN w1 w.heap.size 0 [.int .i64 0, .int .i64 0, .int .i64 0, .int .i64 0, .slice none 0 0, .int .i64 0, .int .i64 0, .slice none 0 0, .slice none 0 0]) w.heap.size #[.int .i64 0, .int .i64 0, .int .i64 0, .int .i64 0, .slice none 0 0, .int .i64 0, .int .i64 0, .slice none 0 0, .slice none 0 0] 29 := by
      have h := Box.setN [.int .i64 0, .int .i64 0, .int .i64 0, .int .i64 0, .slice none 0 0, .int .i64 0, .int .i64 0, .slice none 0 0, .slice none 0 0] HX.out 0
      rw [setA_all (by rfl)] at h
      exact h
    change bodyPost _ _ _ _ _ (Rp.setN w1 w.heap.size 0 [.int .i64 0, .int .i64 0, .int .i64 0, .int .i64 0, .slice none 0 0, .int .i64 0, .int .i64 0, .slice none 0 0, .slice none 0 0])
    clear c0 c1 c2 c3 c4 c5 c6 c7 c8 f0
    generalize Rp.setN w1 w.heap.size 0 [.int .i64 0, .int .i64 0, .int .i64 0, .int .i64 0, .slice none 0 0, .int .i64 0, .int .i64 0, .slice none 0 0, .slice none 0 0] = wf at *
    have d0 := bf.cell 0 (v := .int .i64 0) rfl
    have d1 := bf.cell 1 (v := .int .i64 0) rfl
    have d2 := bf.cell 2 (v := .int .i64 0) rfl
    have d3 := bf.cell 3 (v := .int .i64 0) rfl
    have d4 := bf.cell 4 (v := .slice none 0 0) rfl
    have d5 := bf.cell 5 (v := .int .i64 0) rfl
    have d6 := bf.cell 6 (v := .int .i64 0) rfl
    have d7 := bf.cell 7 (v := .slice none 0 0) rfl
    have d8 := bf.cell 8 (v := .slice none 0 0) rfl
    refine bodyPost_ret (v := .tuple #[.agg #[.int .i64 0, .int .i64 0, .int .i64 0, .int .i64 0, .slice none 0 0, .int .i64 0, .int .i64 0, .slice none 0 0, .slice none 0 0], .bool false]) (by simp [results, Try.results100, go_sem, d0, d1, d2, d3, d4, d5, d6, d7, d8]) rfl ⟨[.int .i64 0, .int .i64 0, .int .i64 0, .int .i64 0, .slice none 0 0, .int .i64 0, .int .i64 0, .slice none 0 0, .slice none 0 0], [], by rw [HBB.out], ?_, by simp, by simp, HB.out.trans (hk.toBelow HB.out.size (by simp))⟩
    rw [show nodeV id pe = zRaftNode by rw [nodeV, HBB.out]; rfl]
    exact kRaftNode_make (x := zRaftNode) (Rp.Row_nil _ _ _) (Rp.Row_nil _ _ _) (Rp.Row_nil _ _ _)
  · have HBB := Lib.hid (show nodeB id pe = true by simp [nodeB, h1, h2])
    have hpe : 1 ≤ pe ∧ pe ≤ 7 := by simpa [inR] using h1
    obtain ⟨hp1, hp2⟩ := hpe
    have hwr : IntKind.i64.wrap (pe - 1) = pe - 1 := by rw [IntKind.wrap_i64]; omega
    go_enter Try.func100, Try.ntmps100
    go_upto_region 3 with (first | ((with_reducible refine (iPeers_calls pe _).mono ?_); rintro e wq ⟨rfl, rfl⟩; rw [h1]) | ((with_reducible refine (iInR_calls id _ _ _).mono ?_); rintro e wq ⟨rfl, rfl⟩; rw [h2]))
    have B0 : Box (w.alloc (.cells #[.int .i64 0, .int .i64 0, .int .i64 0, .int .i64 0, .slice none 0 0, .int .i64 0, .int .i64 0, .slice none 0 0, .slice none 0 0] 29)) w.heap.size #[.int .i64 0, .int .i64 0, .int .i64 0, .int .i64 0, .slice none 0 0, .int .i64 0, .int .i64 0, .slice none 0 0, .slice none 0 0] 29 := Box.new rfl
    have HB := Lib.hid ((Below.refl w.heap.size w).alloc (Nat.le_refl _) (.cells #[.int .i64 0, .int .i64 0, .int .i64 0, .int .i64 0, .slice none 0 0, .int .i64 0, .int .i64 0, .slice none 0 0, .slice none 0 0] 29))
    generalize w.alloc (.cells #[.int .i64 0, .int .i64 0, .int .i64 0, .int .i64 0, .slice none 0 0, .int .i64 0, .int .i64 0, .slice none 0 0, .slice none 0 0] 29) = w1 at *
    have c0 := B0.cell 0 (v := .int .i64 0) rfl
    have c1 := B0.cell 1 (v := .int .i64 0) rfl
    have c2 := B0.cell 2 (v := .int .i64 0) rfl
    have c3 := B0.cell 3 (v := .int .i64 0) rfl
    have c4 := B0.cell 4 (v := .slice none 0 0) rfl
    have c5 := B0.cell 5 (v := .int .i64 0) rfl
    have c6 := B0.cell 6 (v := .int .i64 0) rfl
    have c7 := B0.cell 7 (v := .slice none 0 0) rfl
    have c8 := B0.cell 8 (v := .slice none 0 0) rfl
    have f0 := B0.fro
    have HX := Lib.hid B0; clear B0
    go_wp2
    have hk : KeptF [w.heap.size] w1 (Rp.setN w1 w.heap.size 0 [.int .i64 id, .int .i64 pe, .int .i64 0, .int .i64 (-1), .slice none 0 0, .int .i64 0, .int .i64 0, .slice none 0 0, .slice none 0 0]) := Rp.setN_kept (by simp) _ _ _ (KeptF.refl _ _)
    have bf : Box (Rp.setN w1 w.heap.size 0 [.int .i64 id, .int .i64 pe, .int .i64 0, .int .i64 (-1), .slice none 0 0, .int .i64 0, .int .i64 0, .slice none 0 0, .slice none 0 0]) w.heap.size #[.int .i64 id, .int .i64 pe, .int .i64 0, .int .i64 (-1), .slice none 0 0, .int .i64 0, .int .i64 0, .slice none 0 0, .slice none 0 0] 29 := by
      have h := Box.setN [.int .i64 id, .int .i64 pe, .int .i64 0, .int .i64 (-1), .slice none 0 0, .int .i64 0, .int .i64 0, .slice none 0 0, .slice none 0 0] HX.out 0
      rw [setA_all (by rfl)] at h
      exact h
    change bodyPost _ _ _ _ _ (Rp.setN w1 w.heap.size 0 [.int .i64 id, .int .i64 pe, .int .i64 0, .int .i64 (-1), .slice none 0 0, .int .i64 0, .int .i64 0, .slice none 0 0, .slice none 0 0])
    clear c0 c1 c2 c3 c4 c5 c6 c7 c8 f0
    generalize Rp.setN w1 w.heap.size 0 [.int .i64 id, .int .i64 pe, .int .i64 0, .int .i64 (-1), .slice none 0 0, .int .i64 0, .int .i64 0, .slice none 0 0, .slice none 0 0] = wf at *
    have d0 := bf.cell 0 (v := .int .i64 id) rfl
    have d1 := bf.cell 1 (v := .int .i64 pe) rfl
    have d2 := bf.cell 2 (v := .int .i64 0) rfl
    have d3 := bf.cell 3 (v := .int .i64 (-1)) rfl
    have d4 := bf.cell 4 (v := .slice none 0 0) rfl
    have d5 := bf.cell 5 (v := .int .i64 0) rfl
    have d6 := bf.cell 6 (v := .int .i64 0) rfl
    have d7 := bf.cell 7 (v := .slice none 0 0) rfl
    have d8 := bf.cell 8 (v := .slice none 0 0) rfl
    refine bodyPost_ret (v := .tuple #[.agg #[.int .i64 id, .int .i64 pe, .int .i64 0, .int .i64 (-1), .slice none 0 0, .int .i64 0, .int .i64 0, .slice none 0 0, .slice none 0 0], .bool true]) (by simp [results, Try.results100, go_sem, d0, d1, d2, d3, d4, d5, d6, d7, d8]) rfl ⟨[.int .i64 id, .int .i64 pe, .int .i64 0, .int .i64 (-1), .slice none 0 0, .int .i64 0, .int .i64 0, .slice none 0 0, .slice none 0 0], [], by rw [HBB.out], ?_, by simp, by simp, HB.out.trans (hk.toBelow HB.out.size (by simp))⟩
    rw [show nodeV id pe = ⟨id, pe, 0, -1, [], 0, 0, [], []⟩ by rw [nodeV, HBB.out]; rfl]
    exact kRaftNode_make (x := ⟨id, pe, 0, -1, [], 0, 0, [], []⟩) (Rp.Row_nil _ _ _) (Rp.Row_nil _ _ _) (Rp.Row_nil _ _ _)

set_option maxHeartbeats 400000 in
theorem sInR_calls (n lo hi : Int) (w : World) : Calls Try.prog 79 #[.int .i64 n, .int .i64 lo, .int .i64 hi] w fun e w' => e = .returned (.bool (inR n lo hi)) ∧ w' = w := by
  go_enter Try.func79, Try.ntmps79
  go_wp2
  all_goals (go_ret; exact ⟨by congr 2; simp [inR]; omega, rfl⟩)
set_option maxHeartbeats 400000 in
theorem sPeers_calls (n : Int) (w : World) : Calls Try.prog 98 #[.int .i64 n] w fun e w' => e = .returned (.bool (inR n 1 7)) ∧ w' = w := by
  go_enter Try.func98, Try.ntmps98
  go_wp2_with (with_reducible refine (sInR_calls _ _ _ _).mono ?_; rintro e w1 ⟨rfl, rfl⟩)
  all_goals (go_ret; exact ⟨rfl, rfl⟩)
set_option maxHeartbeats 4000000 in
set_option maxRecDepth 100000 in
theorem sNewNode_k {id pe : Int} {w : World} (hi : (Lit.int .i64 id).wf = true) (hp : (Lit.int .i64 pe).wf = true) : Calls Try.prog 99 #[.int .i64 id, .int .i64 pe] w
    fun e w' => ∃ cs F, e = .returned (.tuple #[.agg cs.toArray, .bool (nodeB id pe)]) ∧ kRaftNode.M w' F (nodeV id pe) cs ∧ (∀ b ∈ F, w.heap.size ≤ b) ∧ F.Nodup ∧ Below w.heap.size w w' := by
  clear hi hp
  have hpath : inR pe 1 7 = false ∨ (inR pe 1 7 = true ∧ inR id 0 (pe - 1) = false) ∨ (inR pe 1 7 = true ∧ inR id 0 (pe - 1) = true) := by
    cases inR pe 1 7 <;> cases inR id 0 (pe - 1) <;> simp
  rcases hpath with h1 | ⟨h1, h2⟩ | ⟨h1, h2⟩
  · have HBB := Lib.hid (show nodeB id pe = false by simp [nodeB, h1])
    go_enter Try.func99, Try.ntmps99
    go_upto_region 2 with (first | ((with_reducible refine (sPeers_calls pe _).mono ?_); rintro e wq ⟨rfl, rfl⟩; rw [h1]))
    have B0 : Box (w.alloc (.cells #[.int .i64 0, .int .i64 0, .int .i64 0, .int .i64 0, .slice none 0 0, .int .i64 0, .int .i64 0, .slice none 0 0, .slice none 0 0] 29)) w.heap.size #[.int .i64 0, .int .i64 0, .int .i64 0, .int .i64 0, .slice none 0 0, .int .i64 0, .int .i64 0, .slice none 0 0, .slice none 0 0] 29 := Box.new rfl
    have HB := Lib.hid ((Below.refl w.heap.size w).alloc (Nat.le_refl _) (.cells #[.int .i64 0, .int .i64 0, .int .i64 0, .int .i64 0, .slice none 0 0, .int .i64 0, .int .i64 0, .slice none 0 0, .slice none 0 0] 29))
    generalize w.alloc (.cells #[.int .i64 0, .int .i64 0, .int .i64 0, .int .i64 0, .slice none 0 0, .int .i64 0, .int .i64 0, .slice none 0 0, .slice none 0 0] 29) = w1 at *
    have c0 := B0.cell 0 (v := .int .i64 0) rfl
    have c1 := B0.cell 1 (v := .int .i64 0) rfl
    have c2 := B0.cell 2 (v := .int .i64 0) rfl
    have c3 := B0.cell 3 (v := .int .i64 0) rfl
    have c4 := B0.cell 4 (v := .slice none 0 0) rfl
    have c5 := B0.cell 5 (v := .int .i64 0) rfl
    have c6 := B0.cell 6 (v := .int .i64 0) rfl
    have c7 := B0.cell 7 (v := .slice none 0 0) rfl
    have c8 := B0.cell 8 (v := .slice none 0 0) rfl
    have f0 := B0.fro
    have HX := Lib.hid B0; clear B0
    go_wp2
    have hk : KeptF [w.heap.size] w1 (Rp.setN w1 w.heap.size 0 [.int .i64 0, .int .i64 0, .int .i64 0, .int .i64 0, .slice none 0 0, .int .i64 0, .int .i64 0, .slice none 0 0, .slice none 0 0]) := Rp.setN_kept (by simp) _ _ _ (KeptF.refl _ _)
    have bf : Box (Rp.setN w1 w.heap.size 0 [.int .i64 0, .int .i64 0, .int .i64 0, .int .i64 0, .slice none 0 0, .int .i64 0, .int .i64 0, .slice none 0 0, .slice none 0 0]) w.heap.size #[.int .i64 0, .int .i64 0, .int .i64 0, .int .i64 0, .slice none 0 0, .int .i64 0, .int .i64 0, .slice none 0 0, .slice none 0 0] 29 := by
      have h := Box.setN [.int .i64 0, .int .i64 0, .int .i64 0, .int .i64 0, .slice none 0 0, .int .i64 0, .int .i64 0, .slice none 0 0, .slice none 0 0] HX.out 0
      rw [setA_all (by rfl)] at h
      exact h
    change bodyPost _ _ _ _ _ (Rp.setN w1 w.heap.size 0 [.int .i64 0, .int .i64 0, .int .i64 0, .int .i64 0, .slice none 0 0, .int .i64 0, .int .i64 0, .slice none 0 0, .slice none 0 0])
    clear c0 c1 c2 c3 c4 c5 c6 c7 c8 f0
    generalize Rp.setN w1 w.heap.size 0 [.int .i64 0, .int .i64 0, .int .i64 0, .int .i64 0, .slice none 0 0, .int .i64 0, .int .i64 0, .slice none 0 0, .slice none 0 0] = wf at *
    have d0 := bf.cell 0 (v := .int .i64 0) rfl
    have d1 := bf.cell 1 (v := .int .i64 0) rfl
    have d2 := bf.cell 2 (v := .int .i64 0) rfl
    have d3 := bf.cell 3 (v := .int .i64 0) rfl
    have d4 := bf.cell 4 (v := .slice none 0 0) rfl
    have d5 := bf.cell 5 (v := .int .i64 0) rfl
    have d6 := bf.cell 6 (v := .int .i64 0) rfl
    have d7 := bf.cell 7 (v := .slice none 0 0) rfl
    have d8 := bf.cell 8 (v := .slice none 0 0) rfl
    refine bodyPost_ret (v := .tuple #[.agg #[.int .i64 0, .int .i64 0, .int .i64 0, .int .i64 0, .slice none 0 0, .int .i64 0, .int .i64 0, .slice none 0 0, .slice none 0 0], .bool false]) (by simp [results, Try.results99, go_sem, d0, d1, d2, d3, d4, d5, d6, d7, d8]) rfl ⟨[.int .i64 0, .int .i64 0, .int .i64 0, .int .i64 0, .slice none 0 0, .int .i64 0, .int .i64 0, .slice none 0 0, .slice none 0 0], [], by rw [HBB.out], ?_, by simp, by simp, HB.out.trans (hk.toBelow HB.out.size (by simp))⟩
    rw [show nodeV id pe = zRaftNode by rw [nodeV, HBB.out]; rfl]
    exact kRaftNode_make (x := zRaftNode) (Rp.Row_nil _ _ _) (Rp.Row_nil _ _ _) (Rp.Row_nil _ _ _)
  · have HBB := Lib.hid (show nodeB id pe = false by simp [nodeB, h1, h2])
    have hpe : 1 ≤ pe ∧ pe ≤ 7 := by simpa [inR] using h1
    obtain ⟨hp1, hp2⟩ := hpe
    have hwr : IntKind.i64.wrap (pe - 1) = pe - 1 := by rw [IntKind.wrap_i64]; omega
    go_enter Try.func99, Try.ntmps99
    go_upto_region 2 with (first | ((with_reducible refine (sPeers_calls pe _).mono ?_); rintro e wq ⟨rfl, rfl⟩; rw [h1]) | ((with_reducible refine (sInR_calls id _ _ _).mono ?_); rintro e wq ⟨rfl, rfl⟩; rw [h2]))
    have B0 : Box (w.alloc (.cells #[.int .i64 0, .int .i64 0, .int .i64 0, .int .i64 0, .slice none 0 0, .int .i64 0, .int .i64 0, .slice none 0 0, .slice none 0 0] 29)) w.heap.size #[.int .i64 0, .int .i64 0, .int .i64 0, .int .i64 0, .slice none 0 0, .int .i64 0, .int .i64 0, .slice none 0 0, .slice none 0 0] 29 := Box.new rfl
    have HB := Lib.hid ((Below.refl w.heap.size w).alloc (Nat.le_refl _) (.cells #[.int .i64 0, .int .i64 0, .int .i64 0, .int .i64 0, .slice none 0 0, .int .i64 0, .int .i64 0, .slice none 0 0, .slice none 0 0] 29))
    generalize w.alloc (.cells #[.int .i64 0, .int .i64 0, .int .i64 0, .int .i64 0, .slice none 0 0, .int .i64 0, .int .i64 0, .slice none 0 0, .slice none 0 0] 29) = w1 at *
    have c0 := B0.cell 0 (v := .int .i64 0) rfl
    have c1 := B0.cell 1 (v := .int .i64 0) rfl
    have c2 := B0.cell 2 (v := .int .i64 0) rfl
    have c3 := B0.cell 3 (v := .int .i64 0) rfl
    have c4 := B0.cell 4 (v := .slice none 0 0) rfl
    have c5 := B0.cell 5 (v := .int .i64 0) rfl
    have c6 := B0.cell 6 (v := .int .i64 0) rfl
    have c7 := B0.cell 7 (v := .slice none 0 0) rfl
    have c8 := B0.cell 8 (v := .slice none 0 0) rfl
    have f0 := B0.fro
    have HX := Lib.hid B0; clear B0
    go_wp2
    have hk : KeptF [w.heap.size] w1 (Rp.setN w1 w.heap.size 0 [.int .i64 0, .int .i64 0, .int .i64 0, .int .i64 0, .slice none 0 0, .int .i64 0, .int .i64 0, .slice none 0 0, .slice none 0 0]) := Rp.setN_kept (by simp) _ _ _ (KeptF.refl _ _)
    have bf : Box (Rp.setN w1 w.heap.size 0 [.int .i64 0, .int .i64 0, .int .i64 0, .int .i64 0, .slice none 0 0, .int .i64 0, .int .i64 0, .slice none 0 0, .slice none 0 0]) w.heap.size #[.int .i64 0, .int .i64 0, .int .i64 0, .int .i64 0, .slice none 0 0, .int .i64 0, .int .i64 0, .slice none 0 0, .slice none 0 0] 29 := by
      have h := Box.setN [.int .i64 0, .int .i64 0, .int .i64 0, .int .i64 0, .slice none 0 0, .int .i64 0, .int .i64 0, .slice none 0 0, .slice none 0 0] HX.out 0
      rw [setA_all (by rfl)] at h
      exact h
    change bodyPost _ _ _ _ _ (Rp.setN w1 w.heap.size 0 [.int .i64 0, .int .i64 0, .int .i64 0, .int .i64 0, .slice none 0 0, .int .i64 0, .int .i64 0, .slice none 0 0, .slice none 0 0])
    clear c0 c1 c2 c3 c4 c5 c6 c7 c8 f0
    generalize Rp.setN w1 w.heap.size 0 [.int .i64 0, .int .i64 0, .int .i64 0, .int .i64 0, .slice none 0 0, .int .i64 0, .int .i64 0, .slice none 0 0, .slice none 0 0] = wf at *
    have d0 := bf.cell 0 (v := .int .i64 0) rfl
    have d1 := bf.cell 1 (v := .int .i64 0) rfl
    have d2 := bf.cell 2 (v := .int .i64 0) rfl
    have d3 := bf.cell 3 (v := .int .i64 0) rfl
    have d4 := bf.cell 4 (v := .slice none 0 0) rfl
    have d5 := bf.cell 5 (v := .int .i64 0) rfl
    have d6 := bf.cell 6 (v := .int .i64 0) rfl
    have d7 := bf.cell 7 (v := .slice none 0 0) rfl
    have d8 := bf.cell 8 (v := .slice none 0 0) rfl
    refine bodyPost_ret (v := .tuple #[.agg #[.int .i64 0, .int .i64 0, .int .i64 0, .int .i64 0, .slice none 0 0, .int .i64 0, .int .i64 0, .slice none 0 0, .slice none 0 0], .bool false]) (by simp [results, Try.results99, go_sem, d0, d1, d2, d3, d4, d5, d6, d7, d8]) rfl ⟨[.int .i64 0, .int .i64 0, .int .i64 0, .int .i64 0, .slice none 0 0, .int .i64 0, .int .i64 0, .slice none 0 0, .slice none 0 0], [], by rw [HBB.out], ?_, by simp, by simp, HB.out.trans (hk.toBelow HB.out.size (by simp))⟩
    rw [show nodeV id pe = zRaftNode by rw [nodeV, HBB.out]; rfl]
    exact kRaftNode_make (x := zRaftNode) (Rp.Row_nil _ _ _) (Rp.Row_nil _ _ _) (Rp.Row_nil _ _ _)
  · have HBB := Lib.hid (show nodeB id pe = true by simp [nodeB, h1, h2])
    have hpe : 1 ≤ pe ∧ pe ≤ 7 := by simpa [inR] using h1
    obtain ⟨hp1, hp2⟩ := hpe
    have hwr : IntKind.i64.wrap (pe - 1) = pe - 1 := by rw [IntKind.wrap_i64]; omega
    go_enter Try.func99, Try.ntmps99
    go_upto_region 3 with (first | ((with_reducible refine (sPeers_calls pe _).mono ?_); rintro e wq ⟨rfl, rfl⟩; rw [h1]) | ((with_reducible refine (sInR_calls id _ _ _).mono ?_); rintro e wq ⟨rfl, rfl⟩; rw [h2]))
    have B0 : Box (w.alloc (.cells #[.int .i64 0, .int .i64 0, .int .i64 0, .int .i64 0, .slice none 0 0, .int .i64 0, .int .i64 0, .slice none 0 0, .slice none 0 0] 29)) w.heap.size #[.int .i64 0, .int .i64 0, .int .i64 0, .int .i64 0, .slice none 0 0, .int .i64 0, .int .i64 0, .slice none 0 0, .slice none 0 0] 29 := Box.new rfl
    have HB := Lib.hid ((Below.refl w.heap.size w).alloc (Nat.le_refl _) (.cells #[.int .i64 0, .int .i64 0, .int .i64 0, .int .i64 0, .slice none 0 0, .int .i64 0, .int .i64 0, .slice none 0 0, .slice none 0 0] 29))
    generalize w.alloc (.cells #[.int .i64 0, .int .i64 0, .int .i64 0, .int .i64 0, .slice none 0 0, .int .i64 0, .int .i64 0, .slice none 0 0, .slice none 0 0] 29) = w1 at *
    have c0 := B0.cell 0 (v := .int .i64 0) rfl
    have c1 := B0.cell 1 (v := .int .i64 0) rfl
    have c2 := B0.cell 2 (v := .int .i64 0) rfl
    have c3 := B0.cell 3 (v := .int .i64 0) rfl
    have c4 := B0.cell 4 (v := .slice none 0 0) rfl
    have c5 := B0.cell 5 (v := .int .i64 0) rfl
    have c6 := B0.cell 6 (v := .int .i64 0) rfl
    have c7 := B0.cell 7 (v := .slice none 0 0) rfl
    have c8 := B0.cell 8 (v := .slice none 0 0) rfl
    have f0 := B0.fro
    have HX := Lib.hid B0; clear B0
    go_wp2
    have hk : KeptF [w.heap.size] w1 (Rp.setN w1 w.heap.size 0 [.int .i64 id, .int .i64 pe, .int .i64 0, .int .i64 (-1), .slice none 0 0, .int .i64 0, .int .i64 0, .slice none 0 0, .slice none 0 0]) := Rp.setN_kept (by simp) _ _ _ (KeptF.refl _ _)
    have bf : Box (Rp.setN w1 w.heap.size 0 [.int .i64 id, .int .i64 pe, .int .i64 0, .int .i64 (-1), .slice none 0 0, .int .i64 0, .int .i64 0, .slice none 0 0, .slice none 0 0]) w.heap.size #[.int .i64 id, .int .i64 pe, .int .i64 0, .int .i64 (-1), .slice none 0 0, .int .i64 0, .int .i64 0, .slice none 0 0, .slice none 0 0] 29 := by
      have h := Box.setN [.int .i64 id, .int .i64 pe, .int .i64 0, .int .i64 (-1), .slice none 0 0, .int .i64 0, .int .i64 0, .slice none 0 0, .slice none 0 0] HX.out 0
      rw [setA_all (by rfl)] at h
      exact h
    change bodyPost _ _ _ _ _ (Rp.setN w1 w.heap.size 0 [.int .i64 id, .int .i64 pe, .int .i64 0, .int .i64 (-1), .slice none 0 0, .int .i64 0, .int .i64 0, .slice none 0 0, .slice none 0 0])
    clear c0 c1 c2 c3 c4 c5 c6 c7 c8 f0
    generalize Rp.setN w1 w.heap.size 0 [.int .i64 id, .int .i64 pe, .int .i64 0, .int .i64 (-1), .slice none 0 0, .int .i64 0, .int .i64 0, .slice none 0 0, .slice none 0 0] = wf at *
    have d0 := bf.cell 0 (v := .int .i64 id) rfl
    have d1 := bf.cell 1 (v := .int .i64 pe) rfl
    have d2 := bf.cell 2 (v := .int .i64 0) rfl
    have d3 := bf.cell 3 (v := .int .i64 (-1)) rfl
    have d4 := bf.cell 4 (v := .slice none 0 0) rfl
    have d5 := bf.cell 5 (v := .int .i64 0) rfl
    have d6 := bf.cell 6 (v := .int .i64 0) rfl
    have d7 := bf.cell 7 (v := .slice none 0 0) rfl
    have d8 := bf.cell 8 (v := .slice none 0 0) rfl
    refine bodyPost_ret (v := .tuple #[.agg #[.int .i64 id, .int .i64 pe, .int .i64 0, .int .i64 (-1), .slice none 0 0, .int .i64 0, .int .i64 0, .slice none 0 0, .slice none 0 0], .bool true]) (by simp [results, Try.results99, go_sem, d0, d1, d2, d3, d4, d5, d6, d7, d8]) rfl ⟨[.int .i64 id, .int .i64 pe, .int .i64 0, .int .i64 (-1), .slice none 0 0, .int .i64 0, .int .i64 0, .slice none 0 0, .slice none 0 0], [], by rw [HBB.out], ?_, by simp, by simp, HB.out.trans (hk.toBelow HB.out.size (by simp))⟩
    rw [show nodeV id pe = ⟨id, pe, 0, -1, [], 0, 0, [], []⟩ by rw [nodeV, HBB.out]; rfl]
    exact kRaftNode_make (x := ⟨id, pe, 0, -1, [], 0, 0, [], []⟩) (Rp.Row_nil _ _ _) (Rp.Row_nil _ _ _) (Rp.Row_nil _ _ _)
end Go.Proofs.Ythnjcolbdoaabaa
