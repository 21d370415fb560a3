/- NewCluster, walked. -/
import Derived.Test.YthnjcolbdoaabaaNcA
import Derived.Test.YthnjcolbdoaabaaMade
namespace Go.Proofs.Ythnjcolbdoaabaa
open Go Go.RowKit Go.Sort
set_option linter.unusedVariables false
set_option linter.unusedSimpArgs false

def ncL (n k : Nat) : List DNod := (List.range k).map fun (i : Nat) => (⟨(i : Int), (n : Int)⟩ : DNod)
theorem ncL_succ (n k : Nat) : ncL n (k + 1) = ncL n k ++ [⟨(k : Int), (n : Int)⟩] := by
  simp [ncL, List.range_succ]
theorem ncL_len (n k : Nat) : (ncL n k).length = k := by simp [ncL]
def ncV (pe : Int) : DCluster := if inR pe 1 7 then ⟨(ncL pe.toNat pe.toNat).map ndV, [], []⟩ else ⟨[], [], []⟩
set_option maxHeartbeats 4000000 in
set_option maxRecDepth 100000 in
theorem iNewCluster_k {pe : Int} {w : World} (hp : (Lit.int .i64 pe).wf = true) : Calls Try.prog 43 #[.int .i64 pe] w
    fun e w' => ∃ cs F, e = .returned (.tuple #[.agg cs.toArray, .bool (inR pe 1 7)]) ∧ kCluster.M w' F (ncV pe) cs ∧ (∀ b ∈ F, w.heap.size ≤ b) ∧ F.Nodup ∧ Below w.heap.size w w' := by
  clear hp
  cases h1 : inR pe 1 7
  · have HBB := Lib.hid h1
    go_enter Try.func43, Try.ntmps43
    go_upto_region 2 with ((with_reducible refine (iPeers_calls pe _).mono ?_); rintro e wq ⟨rfl, rfl⟩; rw [h1])
    have B0 : Box (w.alloc (.cells #[.slice none 0 0, .slice none 0 0, .slice none 0 0] 68)) w.heap.size #[.slice none 0 0, .slice none 0 0, .slice none 0 0] 68 := Box.new rfl
    have HB := Lib.hid ((Below.refl w.heap.size w).alloc (Nat.le_refl _) (.cells #[.slice none 0 0, .slice none 0 0, .slice none 0 0] 68))
    generalize w.alloc (.cells #[.slice none 0 0, .slice none 0 0, .slice none 0 0] 68) = w1 at *
    have BX := Lib.hid B0
    have c0 := B0.cell 0 (v := .slice none 0 0) rfl
    have c1 := B0.cell 1 (v := .slice none 0 0) rfl
    have c2 := B0.cell 2 (v := .slice none 0 0) rfl
    clear B0
    have f0 := BX.out.fro
    go_wp2
    have hk : KeptF [w.heap.size] w1 (Rp.setN w1 w.heap.size 0 [.slice none 0 0, .slice none 0 0, .slice none 0 0]) := Rp.setN_kept (by simp) _ _ _ (KeptF.refl _ _)
    have bf : Box (Rp.setN w1 w.heap.size 0 [.slice none 0 0, .slice none 0 0, .slice none 0 0]) w.heap.size #[.slice none 0 0, .slice none 0 0, .slice none 0 0] 68 := by
      have h := Box.setN [.slice none 0 0, .slice none 0 0, .slice none 0 0] BX.out 0
      rw [setA_all (by rfl)] at h
      exact h
    change bodyPost _ _ _ _ _ (Rp.setN w1 w.heap.size 0 [.slice none 0 0, .slice none 0 0, .slice none 0 0])
    clear c0 c1 c2 f0
    generalize Rp.setN w1 w.heap.size 0 [.slice none 0 0, .slice none 0 0, .slice none 0 0] = wf at *
    have d0 := bf.cell 0 (v := .slice none 0 0) rfl
    have d1 := bf.cell 1 (v := .slice none 0 0) rfl
    have d2 := bf.cell 2 (v := .slice none 0 0) rfl
    refine bodyPost_ret (v := .tuple #[.agg #[.slice none 0 0, .slice none 0 0, .slice none 0 0], .bool false]) (by simp [results, Try.results43, go_sem, d0, d1, d2]) rfl ⟨[.slice none 0 0, .slice none 0 0, .slice none 0 0], [], rfl, ?_, by simp, by simp, HB.out.trans (hk.toBelow HB.out.size (by simp))⟩
    rw [show ncV pe = ⟨[], [], []⟩ by rw [ncV, HBB.out]; rfl]
    exact kCluster_make (x := ⟨[], [], []⟩) (Rp.Row_nil _ _ _) (Rp.Row_nil _ _ _) (Rp.Row_nil _ _ _)
  · have hpe : 1 ≤ pe ∧ pe ≤ 7 := by simpa [inR] using h1
    obtain ⟨n, rfl⟩ : ∃ n : Nat, pe = (n : Int) := ⟨pe.toNat, by omega⟩
    obtain ⟨hp1, hp2⟩ := hpe
    have HP := Lib.hid h1
    go_enter Try.func43, Try.ntmps43
    go_upto_region 4 with ((with_reducible refine (iPeers_calls (n : Int) _).mono ?_); rintro e wq ⟨rfl, rfl⟩; rw [h1])
    have Bc0 : Box ((w.alloc (.cells #[.slice none 0 0, .slice none 0 0, .slice none 0 0] 68)).alloc (.cells #[.slice none 0 0, .slice none 0 0, .slice none 0 0] 68)) w.heap.size #[.slice none 0 0, .slice none 0 0, .slice none 0 0] 68 := Box.alloc (Box.new rfl)
    have Bc1 : Box ((w.alloc (.cells #[.slice none 0 0, .slice none 0 0, .slice none 0 0] 68)).alloc (.cells #[.slice none 0 0, .slice none 0 0, .slice none 0 0] 68)) (w.heap.size + 1) #[.slice none 0 0, .slice none 0 0, .slice none 0 0] 68 := Box.new (by simp)
    have HB := Lib.hid (Below.alloc ((Below.refl w.heap.size w).alloc (Nat.le_refl _) (.cells #[.slice none 0 0, .slice none 0 0, .slice none 0 0] 68)) (by simp) (.cells #[.slice none 0 0, .slice none 0 0, .slice none 0 0] 68))
    have hsz : w.heap.size + 2 ≤ ((w.alloc (.cells #[.slice none 0 0, .slice none 0 0, .slice none 0 0] 68)).alloc (.cells #[.slice none 0 0, .slice none 0 0, .slice none 0 0] 68)).heap.size := by simp
    generalize (w.alloc (.cells #[.slice none 0 0, .slice none 0 0, .slice none 0 0] 68)).alloc (.cells #[.slice none 0 0, .slice none 0 0, .slice none 0 0] 68) = w1 at *
    have X0 := Lib.hid Bc0; have X1 := Lib.hid Bc1
    clear Bc0 Bc1 h1
    go_wp2
    go_loopw [14] (fun i wr => ∃ k : Nat, k ≤ n ∧ i = .int .i64 k ∧ ∃ v, Hid (kNod.Row 29 wr (Rp.ofOwn v) (ncL n k) v) ∧ Hid (∀ b ∈ Rp.ofOwn v, w.heap.size + 2 ≤ b) ∧ Hid (Below w.heap.size w wr) ∧ Hid (w.heap.size + 2 ≤ wr.heap.size) ∧ Hid (Box wr w.heap.size #[.slice none 0 0, .slice none 0 0, .slice none 0 0] 68) ∧ Hid (Box wr (w.heap.size + 1) #[v, .slice none 0 0, .slice none 0 0] 68)) (fun i _ => n - (intOf i).toNat)
    case atStart => exact ⟨0, Nat.zero_le _, rfl, .slice none 0 0, Rp.Row_nil _ _ _, by simp [Hid, Rp.ofOwn, Value.ownBlock], HB.out, hsz, X0.out, X1.out⟩
    case round =>
      clear HB hsz X0 X1
      obtain ⟨k, hk, rfl, v_, HR, HF, HB, HS, X0, X1⟩ := hrel
      obtain ⟨A, c, e1, _, _⟩ := Rp.Row_K HR.out
      rw [ncL_len] at e1
      subst e1
      by_cases hlk : k < n
      · have i3 : (k : Int) < (n : Int) := by omega
        have CN := Lib.hid (fun W => iNewNode_n (k : Int) (n : Int) W HP.out (by simp [inR]; omega))
        have hnl : (ncL n k).length + 1 ≤ 16777216 := by rw [ncL_len]; omega
        have HNL := Lib.hid hnl; clear hnl
        go_wp2_with fail
        (with_reducible refine (CN.out _).mono ?_)
        rintro e wn ⟨rfl, hb⟩
        have HR := Lib.hid (Rp.Row_below HR.out hb)
        have X0 := Lib.hid (X0.out.below hb); have X1 := Lib.hid (X1.out.below hb)
        have HB := Lib.hid (HB.out.trans (hb.mono HB.out.size)); have HS := Lib.hid (Nat.le_trans HS.out hb.size)
        clear hb CN
        have c0 := X1.out.cell 0 (v := .slice A k c) rfl
        have u1 := X1.out.lt
        go_wp2_with (at_builtin; go_loud (refine wp_append (d := kNod) rfl _ _ 66 29 rfl Try.underlying66 infoRaftNode rfl (by decide) rfl (by decide) kNod_flat (xs := ncL n k) (ys := [⟨(k : Int), (n : Int)⟩]) rfl rfl (Rp.Row_below HR.out (((Below.refl _ _).alloc (Nat.le_refl _) _).alloc (by simp) _)) (Rp.S_one (Box.new (by simp)) rfl) (by have := HNL.out; simp; omega) ?_; intro va w2 r1 r2 r3 r4; clear r4; rw [← ncL_succ] at r1; obtain ⟨P_, C_, e2, _, _⟩ := id (Rp.Row_K r1); rw [ncL_len] at e2; subst e2; have R1 := Lib.hid r1; have R3 := Lib.hid r3; have Y0 := Lib.hid ((Box.alloc (Box.alloc X0.out)).kept r2 (fun h => by have := HF.out _ h; omega)); have y1 := (Box.alloc (Box.alloc X1.out)).kept r2 (fun h => by have := HF.out _ h; omega); have HB2 := Lib.hid ((Below.alloc (Below.alloc HB.out HB.out.size _) (by have := HB.out.size; simp; omega) _).trans (r2.toBelow (by have := HB.out.size; simp; omega) (fun b hb => by have := HF.out b hb; omega))); have HS2 := Lib.hid (Nat.le_trans (Nat.le_trans HS.out (by simp; omega)) r2.size); clear c0 r1 r2 r3; have c0 := y1.cell 0 (v := .slice A k c) rfl; have f1 := y1.fro; have u1 := y1.lt; have Y1 := Lib.hid y1; clear y1))
        have hk := kept_set w2 (w.heap.size + 1) 0 (.slice P_ (k + 1) C_)
        have hF : ∀ b ∈ Rp.ofOwn (.slice P_ (k + 1) C_), w.heap.size + 2 ≤ b := fun b hb => by
          rcases R3.out b hb with h | h
          · exact HF.out b h
          · have := HS.out; simp at h; omega
        exact ⟨⟨k + 1, by omega, by go_num, .slice P_ (k + 1) C_, Row_ne R1.out hk (fun h => by have := hF _ h; omega), hF, HB2.out.setCell (p := ⟨w.heap.size + 1, 0, none⟩) (by simp) _, Nat.le_trans HS2.out hk.size, Box_ne Y0.out hk (by omega), Y1.out.set 0 _⟩, by simp [intOf]; omega⟩
      · obtain rfl : k = n := by omega
        have c0 := X1.out.cell 0 (v := .slice A k c) rfl
        have c1 := X1.out.cell 1 (v := .slice none 0 0) rfl
        have c2 := X1.out.cell 2 (v := .slice none 0 0) rfl
        have a0 := X0.out.cell 0 (v := .slice none 0 0) rfl
        have a1 := X0.out.cell 1 (v := .slice none 0 0) rfl
        have a2 := X0.out.cell 2 (v := .slice none 0 0) rfl
        have f0 := X0.out.fro
        have i3 : ¬ (k : Int) < (k : Int) := by omega
        go_wp2
        have hk : KeptF [w.heap.size] wr (Rp.setN wr w.heap.size 0 [.slice A k c, .slice none 0 0, .slice none 0 0]) := Rp.setN_kept (by simp) _ _ _ (KeptF.refl _ _)
        have bf : Box (Rp.setN wr w.heap.size 0 [.slice A k c, .slice none 0 0, .slice none 0 0]) w.heap.size #[.slice A k c, .slice none 0 0, .slice none 0 0] 68 := by
          have h := Box.setN [.slice A k c, .slice none 0 0, .slice none 0 0] X0.out 0
          rw [setA_all (by rfl)] at h
          exact h
        change bodyPost _ _ _ _ _ (Rp.setN wr w.heap.size 0 [.slice A k c, .slice none 0 0, .slice none 0 0])
        have HQ := Lib.hid (Row_ne HR.out hk (fun h => by have := HF.out _ h; omega))
        have HW := Lib.hid (HB.out.trans (hk.toBelow HB.out.size (by simp)))
        clear c0 c1 c2 a0 a1 a2 f0 hk
        generalize Rp.setN wr w.heap.size 0 [.slice A k c, .slice none 0 0, .slice none 0 0] = wf at *
        have d0 := bf.cell 0 (v := .slice A k c) rfl
        have d1 := bf.cell 1 (v := .slice none 0 0) rfl
        have d2 := bf.cell 2 (v := .slice none 0 0) rfl
        refine bodyPost_ret (v := .tuple #[.agg #[.slice A k c, .slice none 0 0, .slice none 0 0], .bool true]) (by simp [results, Try.results43, go_sem, d0, d1, d2]) rfl ?_
        have hFF : ∀ b ∈ Rp.ofOwn (.slice A k c) ++ ([] ++ []), w.heap.size ≤ b := fun b hb => by
          rw [List.append_nil, List.append_nil] at hb
          have := HF.out b hb
          omega
        have hFn : (Rp.ofOwn (.slice A k c) ++ ([] ++ [])).Nodup := by
          rw [List.append_nil, List.append_nil]
          exact ofOwn_nodup _
        refine ⟨[.slice A k c, .slice none 0 0, .slice none 0 0], rfl, Rp.ofOwn (.slice A k c) ++ ([] ++ []), ?_, hFF, hFn, HW.out⟩
        rw [show ncV (k : Int) = ⟨(ncL k k).map ndV, [], []⟩ by rw [ncV, HP.out]; rfl]
        exact kCluster_make (x := ⟨(ncL k k).map ndV, [], []⟩) (Row_to HQ.out) (Rp.Row_nil _ _ _) (Rp.Row_nil _ _ _)
set_option maxHeartbeats 4000000 in
set_option maxRecDepth 100000 in
theorem sNewCluster_k {pe : Int} {w : World} (hp : (Lit.int .i64 pe).wf = true) : Calls Try.prog 42 #[.int .i64 pe] w
    fun e w' => ∃ cs F, e = .returned (.tuple #[.agg cs.toArray, .bool (inR pe 1 7)]) ∧ kCluster.M w' F (ncV pe) cs ∧ (∀ b ∈ F, w.heap.size ≤ b) ∧ F.Nodup ∧ Below w.heap.size w w' := by
  clear hp
  cases h1 : inR pe 1 7
  · have HBB := Lib.hid h1
    go_enter Try.func42, Try.ntmps42
    go_upto_region 2 with ((with_reducible refine (sPeers_calls pe _).mono ?_); rintro e wq ⟨rfl, rfl⟩; rw [h1])
    have B0 : Box (w.alloc (.cells #[.slice none 0 0, .slice none 0 0, .slice none 0 0] 68)) w.heap.size #[.slice none 0 0, .slice none 0 0, .slice none 0 0] 68 := Box.new rfl
    have HB := Lib.hid ((Below.refl w.heap.size w).alloc (Nat.le_refl _) (.cells #[.slice none 0 0, .slice none 0 0, .slice none 0 0] 68))
    generalize w.alloc (.cells #[.slice none 0 0, .slice none 0 0, .slice none 0 0] 68) = w1 at *
    have BX := Lib.hid B0
    have c0 := B0.cell 0 (v := .slice none 0 0) rfl
    have c1 := B0.cell 1 (v := .slice none 0 0) rfl
    have c2 := B0.cell 2 (v := .slice none 0 0) rfl
    clear B0
    have f0 := BX.out.fro
    go_wp2
    have hk : KeptF [w.heap.size] w1 (Rp.setN w1 w.heap.size 0 [.slice none 0 0, .slice none 0 0, .slice none 0 0]) := Rp.setN_kept (by simp) _ _ _ (KeptF.refl _ _)
    have bf : Box (Rp.setN w1 w.heap.size 0 [.slice none 0 0, .slice none 0 0, .slice none 0 0]) w.heap.size #[.slice none 0 0, .slice none 0 0, .slice none 0 0] 68 := by
      have h := Box.setN [.slice none 0 0, .slice none 0 0, .slice none 0 0] BX.out 0
      rw [setA_all (by rfl)] at h
      exact h
    change bodyPost _ _ _ _ _ (Rp.setN w1 w.heap.size 0 [.slice none 0 0, .slice none 0 0, .slice none 0 0])
    clear c0 c1 c2 f0
    generalize Rp.setN w1 w.heap.size 0 [.slice none 0 0, .slice none 0 0, .slice none 0 0] = wf at *
    have d0 := bf.cell 0 (v := .slice none 0 0) rfl
    have d1 := bf.cell 1 (v := .slice none 0 0) rfl
    have d2 := bf.cell 2 (v := .slice none 0 0) rfl
    refine bodyPost_ret (v := .tuple #[.agg #[.slice none 0 0, .slice none 0 0, .slice none 0 0], .bool false]) (by simp [results, Try.results42, go_sem, d0, d1, d2]) rfl ⟨[.slice none 0 0, .slice none 0 0, .slice none 0 0], [], rfl, ?_, by simp, by simp, HB.out.trans (hk.toBelow HB.out.size (by simp))⟩
    rw [show ncV pe = ⟨[], [], []⟩ by rw [ncV, HBB.out]; rfl]
    exact kCluster_make (x := ⟨[], [], []⟩) (Rp.Row_nil _ _ _) (Rp.Row_nil _ _ _) (Rp.Row_nil _ _ _)
  · have hpe : 1 ≤ pe ∧ pe ≤ 7 := by simpa [inR] using h1
    obtain ⟨n, rfl⟩ : ∃ n : Nat, pe = (n : Int) := ⟨pe.toNat, by omega⟩
    obtain ⟨hp1, hp2⟩ := hpe
    have HP := Lib.hid h1
    go_enter Try.func42, Try.ntmps42
    go_upto_region 4 with ((with_reducible refine (sPeers_calls (n : Int) _).mono ?_); rintro e wq ⟨rfl, rfl⟩; rw [h1])
    have Bc0 : Box ((w.alloc (.cells #[.slice none 0 0, .slice none 0 0, .slice none 0 0] 68)).alloc (.cells #[.slice none 0 0, .slice none 0 0, .slice none 0 0] 68)) w.heap.size #[.slice none 0 0, .slice none 0 0, .slice none 0 0] 68 := Box.alloc (Box.new rfl)
    have Bc1 : Box ((w.alloc (.cells #[.slice none 0 0, .slice none 0 0, .slice none 0 0] 68)).alloc (.cells #[.slice none 0 0, .slice none 0 0, .slice none 0 0] 68)) (w.heap.size + 1) #[.slice none 0 0, .slice none 0 0, .slice none 0 0] 68 := Box.new (by simp)
    have HB := Lib.hid (Below.alloc ((Below.refl w.heap.size w).alloc (Nat.le_refl _) (.cells #[.slice none 0 0, .slice none 0 0, .slice none 0 0] 68)) (by simp) (.cells #[.slice none 0 0, .slice none 0 0, .slice none 0 0] 68))
    have hsz : w.heap.size + 2 ≤ ((w.alloc (.cells #[.slice none 0 0, .slice none 0 0, .slice none 0 0] 68)).alloc (.cells #[.slice none 0 0, .slice none 0 0, .slice none 0 0] 68)).heap.size := by simp
    generalize (w.alloc (.cells #[.slice none 0 0, .slice none 0 0, .slice none 0 0] 68)).alloc (.cells #[.slice none 0 0, .slice none 0 0, .slice none 0 0] 68) = w1 at *
    have X0 := Lib.hid Bc0; have X1 := Lib.hid Bc1
    clear Bc0 Bc1 h1
    go_wp2
    go_loopw [5] (fun i wr => ∃ k : Nat, k ≤ n ∧ i = .int .i64 k ∧ ∃ v, Hid (kNod.Row 29 wr (Rp.ofOwn v) (ncL n k) v) ∧ Hid (∀ b ∈ Rp.ofOwn v, w.heap.size + 2 ≤ b) ∧ Hid (Below w.heap.size w wr) ∧ Hid (w.heap.size + 2 ≤ wr.heap.size) ∧ Hid (Box wr w.heap.size #[.slice none 0 0, .slice none 0 0, .slice none 0 0] 68) ∧ Hid (Box wr (w.heap.size + 1) #[v, .slice none 0 0, .slice none 0 0] 68)) (fun i _ => n - (intOf i).toNat)
    case atStart => exact ⟨0, Nat.zero_le _, rfl, .slice none 0 0, Rp.Row_nil _ _ _, by simp [Hid, Rp.ofOwn, Value.ownBlock], HB.out, hsz, X0.out, X1.out⟩
    case round =>
      clear HB hsz X0 X1
      obtain ⟨k, hk, rfl, v_, HR, HF, HB, HS, X0, X1⟩ := hrel
      obtain ⟨A, c, e1, _, _⟩ := Rp.Row_K HR.out
      rw [ncL_len] at e1
      subst e1
      by_cases hlk : k < n
      · have i3 : (k : Int) < (n : Int) := by omega
        have CN := Lib.hid (fun W => sNewNode_n (k : Int) (n : Int) W HP.out (by simp [inR]; omega))
        have hnl : (ncL n k).length + 1 ≤ 16777216 := by rw [ncL_len]; omega
        have HNL := Lib.hid hnl; clear hnl
        go_wp2_with fail
        (with_reducible refine (CN.out _).mono ?_)
        rintro e wn ⟨rfl, hb⟩
        have HR := Lib.hid (Rp.Row_below HR.out hb)
        have X0 := Lib.hid (X0.out.below hb); have X1 := Lib.hid (X1.out.below hb)
        have HB := Lib.hid (HB.out.trans (hb.mono HB.out.size)); have HS := Lib.hid (Nat.le_trans HS.out hb.size)
        clear hb CN
        have c0 := X1.out.cell 0 (v := .slice A k c) rfl
        have u1 := X1.out.lt
        go_wp2_with (at_builtin; go_loud (refine wp_append (d := kNod) rfl _ _ 66 29 rfl Try.underlying66 infoRaftNode rfl (by decide) rfl (by decide) kNod_flat (xs := ncL n k) (ys := [⟨(k : Int), (n : Int)⟩]) rfl rfl (Rp.Row_below HR.out (((Below.refl _ _).alloc (Nat.le_refl _) _).alloc (by simp) _)) (Rp.S_one (Box.new (by simp)) rfl) (by have := HNL.out; simp; omega) ?_; intro va w2 r1 r2 r3 r4; clear r4; rw [← ncL_succ] at r1; obtain ⟨P_, C_, e2, _, _⟩ := id (Rp.Row_K r1); rw [ncL_len] at e2; subst e2; have R1 := Lib.hid r1; have R3 := Lib.hid r3; have Y0 := Lib.hid ((Box.alloc (Box.alloc X0.out)).kept r2 (fun h => by have := HF.out _ h; omega)); have y1 := (Box.alloc (Box.alloc X1.out)).kept r2 (fun h => by have := HF.out _ h; omega); have HB2 := Lib.hid ((Below.alloc (Below.alloc HB.out HB.out.size _) (by have := HB.out.size; simp; omega) _).trans (r2.toBelow (by have := HB.out.size; simp; omega) (fun b hb => by have := HF.out b hb; omega))); have HS2 := Lib.hid (Nat.le_trans (Nat.le_trans HS.out (by simp; omega)) r2.size); clear c0 r1 r2 r3; have c0 := y1.cell 0 (v := .slice A k c) rfl; have f1 := y1.fro; have u1 := y1.lt; have Y1 := Lib.hid y1; clear y1))
        have hk := kept_set w2 (w.heap.size + 1) 0 (.slice P_ (k + 1) C_)
        have hF : ∀ b ∈ Rp.ofOwn (.slice P_ (k + 1) C_), w.heap.size + 2 ≤ b := fun b hb => by
          rcases R3.out b hb with h | h
          · exact HF.out b h
          · have := HS.out; simp at h; omega
        exact ⟨⟨k + 1, by omega, by go_num, .slice P_ (k + 1) C_, Row_ne R1.out hk (fun h => by have := hF _ h; omega), hF, HB2.out.setCell (p := ⟨w.heap.size + 1, 0, none⟩) (by simp) _, Nat.le_trans HS2.out hk.size, Box_ne Y0.out hk (by omega), Y1.out.set 0 _⟩, by simp [intOf]; omega⟩
      · obtain rfl : k = n := by omega
        have c0 := X1.out.cell 0 (v := .slice A k c) rfl
        have c1 := X1.out.cell 1 (v := .slice none 0 0) rfl
        have c2 := X1.out.cell 2 (v := .slice none 0 0) rfl
        have a0 := X0.out.cell 0 (v := .slice none 0 0) rfl
        have a1 := X0.out.cell 1 (v := .slice none 0 0) rfl
        have a2 := X0.out.cell 2 (v := .slice none 0 0) rfl
        have f0 := X0.out.fro
        have i3 : ¬ (k : Int) < (k : Int) := by omega
        go_wp2
        have hk : KeptF [w.heap.size] wr (Rp.setN wr w.heap.size 0 [.slice A k c, .slice none 0 0, .slice none 0 0]) := Rp.setN_kept (by simp) _ _ _ (KeptF.refl _ _)
        have bf : Box (Rp.setN wr w.heap.size 0 [.slice A k c, .slice none 0 0, .slice none 0 0]) w.heap.size #[.slice A k c, .slice none 0 0, .slice none 0 0] 68 := by
          have h := Box.setN [.slice A k c, .slice none 0 0, .slice none 0 0] X0.out 0
          rw [setA_all (by rfl)] at h
          exact h
        change bodyPost _ _ _ _ _ (Rp.setN wr w.heap.size 0 [.slice A k c, .slice none 0 0, .slice none 0 0])
        have HQ := Lib.hid (Row_ne HR.out hk (fun h => by have := HF.out _ h; omega))
        have HW := Lib.hid (HB.out.trans (hk.toBelow HB.out.size (by simp)))
        clear c0 c1 c2 a0 a1 a2 f0 hk
        generalize Rp.setN wr w.heap.size 0 [.slice A k c, .slice none 0 0, .slice none 0 0] = wf at *
        have d0 := bf.cell 0 (v := .slice A k c) rfl
        have d1 := bf.cell 1 (v := .slice none 0 0) rfl
        have d2 := bf.cell 2 (v := .slice none 0 0) rfl
        refine bodyPost_ret (v := .tuple #[.agg #[.slice A k c, .slice none 0 0, .slice none 0 0], .bool true]) (by simp [results, Try.results42, go_sem, d0, d1, d2]) rfl ?_
        have hFF : ∀ b ∈ Rp.ofOwn (.slice A k c) ++ ([] ++ []), w.heap.size ≤ b := fun b hb => by
          rw [List.append_nil, List.append_nil] at hb
          have := HF.out b hb
          omega
        have hFn : (Rp.ofOwn (.slice A k c) ++ ([] ++ [])).Nodup := by
          rw [List.append_nil, List.append_nil]
          exact ofOwn_nodup _
        refine ⟨[.slice A k c, .slice none 0 0, .slice none 0 0], rfl, Rp.ofOwn (.slice A k c) ++ ([] ++ []), ?_, hFF, hFn, HW.out⟩
        rw [show ncV (k : Int) = ⟨(ncL k k).map ndV, [], []⟩ by rw [ncV, HP.out]; rfl]
        exact kCluster_make (x := ⟨(ncL k k).map ndV, [], []⟩) (Row_to HQ.out) (Rp.Row_nil _ _ _) (Rp.Row_nil _ _ _)
theorem ncV_sm (pe : Int) : smCluster 1048576 (ncV pe) := by
  unfold ncV
  split
  · rename_i h
    have hpe : 1 ≤ pe ∧ pe ≤ 7 := by simpa [inR] using h
    refine ⟨⟨by rw [List.length_map, ncL_len]; omega, fun y hy => ?_⟩, ⟨Nat.zero_le _, by simp⟩, Nat.zero_le _⟩
    obtain ⟨z, _, rfl⟩ := List.mem_map.1 hy
    exact ⟨Nat.zero_le _, Nat.zero_le _, Nat.zero_le _⟩
  · exact ⟨⟨Nat.zero_le _, by simp⟩, ⟨Nat.zero_le _, by simp⟩, Nat.zero_le _⟩
end Go.Proofs.Ythnjcolbdoaabaa
