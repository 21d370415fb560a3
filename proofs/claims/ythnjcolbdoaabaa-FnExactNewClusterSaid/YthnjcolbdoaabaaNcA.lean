/- The first cluster: its kinds, what is held in a cluster, and a first node's own cells. -/
import Derived.Test.YthnjcolbdoaabaaMkF
import Derived.Test.YthnjcolbdoaabaaRaN
namespace Go.Proofs.Ythnjcolbdoaabaa
open Go Go.RowKit Go.Sort
set_option linter.unusedVariables false
set_option linter.unusedSimpArgs false

/-- A first node: a flat kind (its slices are nil). -/
structure DNod where
  a : Int
  b : Int
def encN (x : DNod) : List Value := [.int .i64 x.a, .int .i64 x.b, .int .i64 0, .int .i64 (-1), .slice none 0 0, .int .i64 0, .int .i64 0, .slice none 0 0, .slice none 0 0]
def kNod : Rp DNod where
  sz := 9
  K := fun _ x cs => cs = encN x
  M := fun _ F x cs => F = [] ∧ cs = encN x
  K_len := fun h => by rw [h]; rfl
  K_one := fun h u hu => by
    rw [h] at hu
    simp [encN] at hu
    rcases hu with rfl | rfl | rfl | rfl | rfl | rfl | rfl | rfl | rfl <;> rfl
  K_below := fun _ h => h
  M_K := fun h => h.2
  M_lt := fun h b hb => by rw [h.1] at hb; cases hb
  M_move := fun _ h => h
theorem kNod_flat : kNod.Flat := ⟨fun h => h.1, fun h => ⟨rfl, h⟩⟩
def ndV (x : DNod) : DRaftNode := ⟨x.a, x.b, 0, -1, [], 0, 0, [], []⟩
theorem kNod_to (w : World) (x : DNod) : kRaftNode.M w [] (ndV x) (encN x) :=
  kRaftNode_make (x := ndV x) (Rp.Row_nil _ _ _) (Rp.Row_nil _ _ _) (Rp.Row_nil _ _ _)
theorem El_to {w : World} : ∀ {xs : List DNod} {F : List Nat} {inner : List Value}, kNod.El w F xs inner → kRaftNode.El w F (xs.map ndV) inner
  | [], _, _, h => h
  | x :: xs, _, _, ⟨_, _, _, _, h1, h2, ⟨rfl, rfl⟩, hr⟩ => ⟨_, _, [], _, h1, h2, kNod_to w x, El_to hr⟩
theorem Row_to {w : World} {e : TypeId} {xs : List DNod} {F : List Nat} {v : Value} (r : kNod.Row e w F xs v) : kRaftNode.Row e w F (xs.map ndV) v := by
  obtain ⟨inner, Fs, ho, he, rfl⟩ := r
  exact ⟨inner, Fs, by rw [List.length_map]; exact ho, El_to he, rfl⟩
set_option maxHeartbeats 4000000 in
set_option maxRecDepth 100000 in
theorem heldCluster_k {x : DCluster} {cs : List Value} {k : Int} {w : World} (hk : kCluster.K w (mkCluster x k).1 cs) (h0 : 0 ≤ k) (h1 : (mkCluster x k).2 ≤ 4611686018427387904) (hs : smCluster 140737488355328 x) : Calls Try.prog 44 #[.agg cs.toArray, .int .i64 k] w
    fun e w' => e = .returned (.int .i64 (mkCluster x k).2) ∧ Below w.heap.size w w' := by
  obtain ⟨q0, hq0⟩ : ∃ q, q = mkL meRaftNode x.fNodes k := ⟨_, rfl⟩
  obtain ⟨q1, hq1⟩ : ∃ q, q = mkL meRaftMsg x.fNet q0.2 := ⟨_, rfl⟩
  obtain ⟨q2, hq2⟩ : ∃ q, q = mkL mkLead x.fLeads q1.2 := ⟨_, rfl⟩
  have hfull : mkCluster x k = ((⟨q0.1, q1.1, q2.1⟩ : DCluster), q2.2) := by rw [hq2, hq1, hq0]; rfl
  rw [hfull] at hk h1 ⊢
  clear hfull
  obtain ⟨v0, v1, v2, rfl, g0, g1, g2⟩ := kCluster_read hk
  obtain ⟨l0, l1, l2⟩ := hs
  dsimp only at g0 g1 g2 h1
  have m0 : k ≤ q0.2 := by rw [hq0]; exact mkL_le meRaftNode_le _ _
  have m1 : q0.2 ≤ q1.2 := by rw [hq1]; exact mkL_le meRaftMsg_le _ _
  have m2 : q1.2 ≤ q2.2 := by rw [hq2]; exact mkL_le mkLead_le _ _
  have d0 := Lib.hid (show ∀ W, Below w.heap.size w W → Calls Try.prog 101 #[v0, .int .i64 k] W fun e w' => e = .returned (.int .i64 q0.2) ∧ Below W.heap.size W w' from fun W hW => by
    have h := heldRaftNodeS_calls x.fNodes (k) v0 W (Rp.S_below (hq0 ▸ g0) hW) (by omega) (by rw [← hq0]; omega) l0
    rw [← hq0] at h
    exact h)
  have d1 := Lib.hid (show ∀ W, Below w.heap.size w W → Calls Try.prog 19 #[v1, .int .i64 q0.2] W fun e w' => e = .returned (.int .i64 q1.2) ∧ Below W.heap.size W w' from fun W hW => by
    have h := heldRaftMsgS_calls x.fNet (q0.2) v1 W (Rp.S_below (hq1 ▸ g1) hW) (by omega) (by rw [← hq1]; omega) l1
    rw [← hq1] at h
    exact h)
  have d2 := Lib.hid (show ∀ W, Below w.heap.size w W → Calls Try.prog 41 #[v2, .int .i64 q1.2] W fun e w' => e = .returned (.int .i64 q2.2) ∧ Below W.heap.size W w' from fun W hW => by
    have h := heldLeadS_calls x.fLeads (q1.2) v2 W (Rp.S_below (hq2 ▸ g2) hW) (by omega) (by rw [← hq2]; omega) l2
    rw [← hq2] at h
    exact h)
  clear hq0 hq1 hq2 g0 g1 g2 l0 l1 l2 hk
  have n0 : ¬ q0.2 < 0 := by omega
  have n1 : ¬ q1.2 < 0 := by omega
  have n2 : ¬ q2.2 < 0 := by omega
  go_enter Try.func44, Try.ntmps44
  go_wp2_with fail
  have HA := Lib.hid ((Below.refl w.heap.size w).alloc (Nat.le_refl _) (.cells #[v0, v1, v2] 68))
  (with_reducible refine (d0.out _ HA.out).mono ?_)
  rintro e w0 ⟨rfl, hb⟩
  have B := Lib.hid (show Box w0 w.heap.size #[v0, v1, v2] 68 from Box.below (Box.new rfl) hb)
  have HB := Lib.hid (HA.out.trans (hb.mono HA.out.size))
  clear hb HA
  have c1 := B.out.cell 1 (v := v1) rfl
  go_wp2_with fail
  (with_reducible refine (d1.out _ HB.out).mono ?_)
  rintro e w1 ⟨rfl, hb⟩
  have HB2 := Lib.hid (HB.out.trans (hb.mono HB.out.size))
  have B2 := Lib.hid (B.out.below hb)
  clear hb c1
  have c2 := B2.out.cell 2 (v := v2) rfl
  go_wp2_with fail
  (with_reducible refine (d2.out _ HB2.out).mono ?_)
  rintro e w2 ⟨rfl, hb⟩
  have HB3 := Lib.hid (HB2.out.trans (hb.mono HB2.out.size))
  clear hb c2
  go_wp2
  go_ret
  exact ⟨rfl, HB3.out⟩
set_option maxHeartbeats 4000000 in
set_option maxRecDepth 100000 in
theorem iNewNode_n (id pe : Int) (w : World) (h1 : inR pe 1 7 = true) (h2 : inR id 0 (pe - 1) = true) : Calls Try.prog 100 #[.int .i64 id, .int .i64 pe] w
    fun e w' => e = .returned (.tuple #[.agg #[.int .i64 id, .int .i64 pe, .int .i64 0, .int .i64 (-1), .slice none 0 0, .int .i64 0, .int .i64 0, .slice none 0 0, .slice none 0 0], .bool true]) ∧ Below w.heap.size w w' := by
  have hpe : 1 ≤ pe ∧ pe ≤ 7 := by simpa [inR] using h1
  obtain ⟨hp1, hp2⟩ := hpe
  have hwr : IntKind.i64.wrap (pe - 1) = pe - 1 := by rw [IntKind.wrap_i64]; omega
  go_enter Try.func100, Try.ntmps100
  go_upto_region 3 with (first | ((with_reducible refine (iPeers_calls pe _).mono ?_); rintro e wq ⟨rfl, rfl⟩; rw [h1]) | ((with_reducible refine (iInR_calls id _ _ _).mono ?_); rintro e wq ⟨rfl, rfl⟩; rw [h2]))
  have B0 : Box (w.alloc (.cells #[.int .i64 0, .int .i64 0, .int .i64 0, .int .i64 0, .slice none 0 0, .int .i64 0, .int .i64 0, .slice none 0 0, .slice none 0 0] 29)) w.heap.size #[.int .i64 0, .int .i64 0, .int .i64 0, .int .i64 0, .slice none 0 0, .int .i64 0, .int .i64 0, .slice none 0 0, .slice none 0 0] 29 := Box.new rfl
  have HB := Lib.hid ((Below.refl w.heap.size w).alloc (Nat.le_refl _) (.cells #[.int .i64 0, .int .i64 0, .int .i64 0, .int .i64 0, .slice none 0 0, .int .i64 0, .int .i64 0, .slice none 0 0, .slice none 0 0] 29))
  generalize w.alloc (.cells #[.int .i64 0, .int .i64 0, .int .i64 0, .int .i64 0, .slice none 0 0, .int .i64 0, .int .i64 0, .slice none 0 0, .slice none 0 0] 29) = w1 at *
  have c0 := B0.cell 0 (v := .int .i64 0) rfl
  have c1 := B0.cell 1 (v := .int .i64 0) rfl
  have c2 := B0.cell 2 (v := .int .i64 0) rfl
  have c3 := B0.cell 3 (v := .int .i64 0) rfl
  have c4 := B0.cell 4 (v := .slice none 0 0) rfl
  have c5 := B0.cell 5 (v := .int .i64 0) rfl
  have c6 := B0.cell 6 (v := .int .i64 0) rfl
  have c7 := B0.cell 7 (v := .slice none 0 0) rfl
  have c8 := B0.cell 8 (v := .slice none 0 0) rfl
  have f0 := B0.fro
  have HX := Lib.hid B0; clear B0
  go_wp2
  have hk : KeptF [w.heap.size] w1 (Rp.setN w1 w.heap.size 0 [.int .i64 id, .int .i64 pe, .int .i64 0, .int .i64 (-1), .slice none 0 0, .int .i64 0, .int .i64 0, .slice none 0 0, .slice none 0 0]) := Rp.setN_kept (by simp) _ _ _ (KeptF.refl _ _)
  have bf : Box (Rp.setN w1 w.heap.size 0 [.int .i64 id, .int .i64 pe, .int .i64 0, .int .i64 (-1), .slice none 0 0, .int .i64 0, .int .i64 0, .slice none 0 0, .slice none 0 0]) w.heap.size #[.int .i64 id, .int .i64 pe, .int .i64 0, .int .i64 (-1), .slice none 0 0, .int .i64 0, .int .i64 0, .slice none 0 0, .slice none 0 0] 29 := by
    have h := Box.setN [.int .i64 id, .int .i64 pe, .int .i64 0, .int .i64 (-1), .slice none 0 0, .int .i64 0, .int .i64 0, .slice none 0 0, .slice none 0 0] HX.out 0
    rw [setA_all (by rfl)] at h
    exact h
  change bodyPost _ _ _ _ _ (Rp.setN w1 w.heap.size 0 [.int .i64 id, .int .i64 pe, .int .i64 0, .int .i64 (-1), .slice none 0 0, .int .i64 0, .int .i64 0, .slice none 0 0, .slice none 0 0])
  clear c0 c1 c2 c3 c4 c5 c6 c7 c8 f0
  generalize Rp.setN w1 w.heap.size 0 [.int .i64 id, .int .i64 pe, .int .i64 0, .int .i64 (-1), .slice none 0 0, .int .i64 0, .int .i64 0, .slice none 0 0, .slice none 0 0] = wf at *
  have d0 := bf.cell 0 (v := .int .i64 id) rfl
  have d1 := bf.cell 1 (v := .int .i64 pe) rfl
  have d2 := bf.cell 2 (v := .int .i64 0) rfl
  have d3 := bf.cell 3 (v := .int .i64 (-1)) rfl
  have d4 := bf.cell 4 (v := .slice none 0 0) rfl
  have d5 := bf.cell 5 (v := .int .i64 0) rfl
  have d6 := bf.cell 6 (v := .int .i64 0) rfl
  have d7 := bf.cell 7 (v := .slice none 0 0) rfl
  have d8 := bf.cell 8 (v := .slice none 0 0) rfl
  refine bodyPost_ret (v := .tuple #[.agg #[.int .i64 id, .int .i64 pe, .int .i64 0, .int .i64 (-1), .slice none 0 0, .int .i64 0, .int .i64 0, .slice none 0 0, .slice none 0 0], .bool true]) (by simp [results, Try.results100, go_sem, d0, d1, d2, d3, d4, d5, d6, d7, d8]) rfl ⟨rfl, HB.out.trans (hk.toBelow HB.out.size (by simp))⟩
set_option maxHeartbeats 4000000 in
set_option maxRecDepth 100000 in
theorem sNewNode_n (id pe : Int) (w : World) (h1 : inR pe 1 7 = true) (h2 : inR id 0 (pe - 1) = true) : Calls Try.prog 99 #[.int .i64 id, .int .i64 pe] w
    fun e w' => e = .returned (.tuple #[.agg #[.int .i64 id, .int .i64 pe, .int .i64 0, .int .i64 (-1), .slice none 0 0, .int .i64 0, .int .i64 0, .slice none 0 0, .slice none 0 0], .bool true]) ∧ Below w.heap.size w w' := by
  have hpe : 1 ≤ pe ∧ pe ≤ 7 := by simpa [inR] using h1
  obtain ⟨hp1, hp2⟩ := hpe
  have hwr : IntKind.i64.wrap (pe - 1) = pe - 1 := by rw [IntKind.wrap_i64]; omega
  go_enter Try.func99, Try.ntmps99
  go_upto_region 3 with (first | ((with_reducible refine (sPeers_calls pe _).mono ?_); rintro e wq ⟨rfl, rfl⟩; rw [h1]) | ((with_reducible refine (sInR_calls id _ _ _).mono ?_); rintro e wq ⟨rfl, rfl⟩; rw [h2]))
  have B0 : Box (w.alloc (.cells #[.int .i64 0, .int .i64 0, .int .i64 0, .int .i64 0, .slice none 0 0, .int .i64 0, .int .i64 0, .slice none 0 0, .slice none 0 0] 29)) w.heap.size #[.int .i64 0, .int .i64 0, .int .i64 0, .int .i64 0, .slice none 0 0, .int .i64 0, .int .i64 0, .slice none 0 0, .slice none 0 0] 29 := Box.new rfl
  have HB := Lib.hid ((Below.refl w.heap.size w).alloc (Nat.le_refl _) (.cells #[.int .i64 0, .int .i64 0, .int .i64 0, .int .i64 0, .slice none 0 0, .int .i64 0, .int .i64 0, .slice none 0 0, .slice none 0 0] 29))
  generalize w.alloc (.cells #[.int .i64 0, .int .i64 0, .int .i64 0, .int .i64 0, .slice none 0 0, .int .i64 0, .int .i64 0, .slice none 0 0, .slice none 0 0] 29) = w1 at *
  have c0 := B0.cell 0 (v := .int .i64 0) rfl
  have c1 := B0.cell 1 (v := .int .i64 0) rfl
  have c2 := B0.cell 2 (v := .int .i64 0) rfl
  have c3 := B0.cell 3 (v := .int .i64 0) rfl
  have c4 := B0.cell 4 (v := .slice none 0 0) rfl
  have c5 := B0.cell 5 (v := .int .i64 0) rfl
  have c6 := B0.cell 6 (v := .int .i64 0) rfl
  have c7 := B0.cell 7 (v := .slice none 0 0) rfl
  have c8 := B0.cell 8 (v := .slice none 0 0) rfl
  have f0 := B0.fro
  have HX := Lib.hid B0; clear B0
  go_wp2
  have hk : KeptF [w.heap.size] w1 (Rp.setN w1 w.heap.size 0 [.int .i64 id, .int .i64 pe, .int .i64 0, .int .i64 (-1), .slice none 0 0, .int .i64 0, .int .i64 0, .slice none 0 0, .slice none 0 0]) := Rp.setN_kept (by simp) _ _ _ (KeptF.refl _ _)
  have bf : Box (Rp.setN w1 w.heap.size 0 [.int .i64 id, .int .i64 pe, .int .i64 0, .int .i64 (-1), .slice none 0 0, .int .i64 0, .int .i64 0, .slice none 0 0, .slice none 0 0]) w.heap.size #[.int .i64 id, .int .i64 pe, .int .i64 0, .int .i64 (-1), .slice none 0 0, .int .i64 0, .int .i64 0, .slice none 0 0, .slice none 0 0] 29 := by
    have h := Box.setN [.int .i64 id, .int .i64 pe, .int .i64 0, .int .i64 (-1), .slice none 0 0, .int .i64 0, .int .i64 0, .slice none 0 0, .slice none 0 0] HX.out 0
    rw [setA_all (by rfl)] at h
    exact h
  change bodyPost _ _ _ _ _ (Rp.setN w1 w.heap.size 0 [.int .i64 id, .int .i64 pe, .int .i64 0, .int .i64 (-1), .slice none 0 0, .int .i64 0, .int .i64 0, .slice none 0 0, .slice none 0 0])
  clear c0 c1 c2 c3 c4 c5 c6 c7 c8 f0
  generalize Rp.setN w1 w.heap.size 0 [.int .i64 id, .int .i64 pe, .int .i64 0, .int .i64 (-1), .slice none 0 0, .int .i64 0, .int .i64 0, .slice none 0 0, .slice none 0 0] = wf at *
  have d0 := bf.cell 0 (v := .int .i64 id) rfl
  have d1 := bf.cell 1 (v := .int .i64 pe) rfl
  have d2 := bf.cell 2 (v := .int .i64 0) rfl
  have d3 := bf.cell 3 (v := .int .i64 (-1)) rfl
  have d4 := bf.cell 4 (v := .slice none 0 0) rfl
  have d5 := bf.cell 5 (v := .int .i64 0) rfl
  have d6 := bf.cell 6 (v := .int .i64 0) rfl
  have d7 := bf.cell 7 (v := .slice none 0 0) rfl
  have d8 := bf.cell 8 (v := .slice none 0 0) rfl
  refine bodyPost_ret (v := .tuple #[.agg #[.int .i64 id, .int .i64 pe, .int .i64 0, .int .i64 (-1), .slice none 0 0, .int .i64 0, .int .i64 0, .slice none 0 0, .slice none 0 0], .bool true]) (by simp [results, Try.results99, go_sem, d0, d1, d2, d3, d4, d5, d6, d7, d8]) rfl ⟨rfl, HB.out.trans (hk.toBelow HB.out.size (by simp))⟩
end Go.Proofs.Ythnjcolbdoaabaa
