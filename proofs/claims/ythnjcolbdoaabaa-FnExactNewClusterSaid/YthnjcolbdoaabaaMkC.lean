/- Marks of slices of structs that hold slices. -/
import Derived.Test.YthnjcolbdoaabaaMkA
namespace Go.Proofs.Ythnjcolbdoaabaa
open Go Go.RowKit Go.Sort
set_option linter.unusedVariables false
set_option linter.unusedSimpArgs false

def meRaftNode (x : DRaftNode) (k : Int) : DRaftNode × Int :=
  let q4 := mkL mkEntry x.fLog (k + 1 + 1 + 1 + 1)
  let q7 := mkL mkInt x.fVotes (q4.2 + 1 + 1)
  let q8 := mkL mkInt x.fMatch q7.2
  ((⟨k, (k + 1), (k + 1 + 1), (k + 1 + 1 + 1), q4.1, q4.2, (q4.2 + 1), q7.1, q8.1⟩ : DRaftNode), q8.2)
theorem meRaftNode_le (x : DRaftNode) (k : Int) : k ≤ (meRaftNode x k).2 := by
  simp only [meRaftNode]
  have h4 := mkL_le mkEntry_le x.fLog ((k + 1 + 1 + 1 + 1))
  have h7 := mkL_le mkInt_le x.fVotes (((mkL mkEntry x.fLog (k + 1 + 1 + 1 + 1)).2 + 1 + 1))
  have h8 := mkL_le mkInt_le x.fMatch ((mkL mkInt x.fVotes ((mkL mkEntry x.fLog (k + 1 + 1 + 1 + 1)).2 + 1 + 1)).2)
  omega

set_option maxHeartbeats 4000000 in
set_option maxRecDepth 100000 in
theorem markRaftNodeS_calls (xs : List DRaftNode) (k : Int) (F : List Nat) (v : Value) (w : World) (h : kRaftNode.Row 29 w F xs v) (hnF : F.Nodup) (h0 : 0 ≤ k) (h1 : (mkL meRaftNode xs k).2 ≤ 4611686018427387904) (hl : smRaftNodeS 140737488355328 xs) :
    Calls Try.prog 97 #[v, .int .i64 k] w fun e w' => e = .returned (.int .i64 (mkL meRaftNode xs k).2) ∧ kRaftNode.Row 29 w' F (mkL meRaftNode xs k).1 v ∧ KeptF F w w' := by
  obtain ⟨A, c, rfl, hc, _⟩ := Rp.Row_K h
  have H := Lib.hid h; clear h
  have H1 := Lib.hid h1; clear h1
  have HL := Lib.hid hl
  have hl1 := hl.1
  clear hl
  go_enter Try.func97, Try.ntmps97
  go_wp2
  go_loopw [1, 5] (fun a n wr => ∃ i : Nat, i ≤ xs.length ∧ n = .int .i64 i ∧ a = .int .i64 (mkNo meRaftNode xs k i) ∧ Hid (kRaftNode.Row 29 wr F (mkAt meRaftNode xs k i) (.slice A xs.length c)) ∧ Hid (KeptF F w wr)) (fun _ n _ => xs.length - (intOf n).toNat)
  case atStart => exact ⟨0, Nat.zero_le _, rfl, by rw [mkNo_zero], by rw [mkAt_zero]; exact H.out, KeptF.refl _ _⟩
  case round =>
    obtain ⟨i, hi, rfl, rfl, HR, HK⟩ := hrel
    by_cases hlt : i < xs.length
    · have b1 := mkNo_ge (mk := meRaftNode) (k := k) meRaftNode_le (Nat.le_of_lt hlt)
      have b2 := mkNo_top (mk := meRaftNode) (k := k) meRaftNode_le (i := i + 1) hlt
      have b4 := mkNo_succ (mk := meRaftNode) (k := k) hlt
      have b5 := H1.out
      have hset := mkAt_set (mk := meRaftNode) (k := k) hlt
      have hl2 : i < (mkAt meRaftNode xs k i).length := by rw [mkAt_len hi]; exact hlt
      have hy := mkAt_get' (mk := meRaftNode) (k := k) hlt hl2
      have hsm := HL.out.2 xs[i] (List.getElem_mem hlt)
      have hR := HR.out
      clear HR
      have c1 : 0 ≤ mkNo meRaftNode xs k i := by omega
      have c2 : mkNo meRaftNode xs k (i + 1) ≤ 4611686018427387904 := by omega
      clear b1 b2 b5
      generalize mkNo meRaftNode xs k i = kk at *
      generalize hkn : mkNo meRaftNode xs k (i + 1) = kn at *
      generalize hzs : mkAt meRaftNode xs k (i + 1) = zs at *
      generalize mkAt meRaftNode xs k i = ys at *
      generalize he : xs[i] = x at *
      have HE := Lib.hid he; clear he
      have HKN := Lib.hid hkn; have HZS := Lib.hid hzs; clear hkn hzs
      obtain ⟨q4, hq4⟩ : ∃ q, q = mkL mkEntry x.fLog (kk + 1 + 1 + 1 + 1) := ⟨_, rfl⟩
      obtain ⟨q7, hq7⟩ : ∃ q, q = mkL mkInt x.fVotes (q4.2 + 1 + 1) := ⟨_, rfl⟩
      obtain ⟨q8, hq8⟩ : ∃ q, q = mkL mkInt x.fMatch q7.2 := ⟨_, rfl⟩
      have hfull : meRaftNode x kk = ((⟨kk, (kk + 1), (kk + 1 + 1), (kk + 1 + 1 + 1), q4.1, q4.2, (q4.2 + 1), q7.1, q8.1⟩ : DRaftNode), q8.2) := by rw [hq8, hq7, hq4]; rfl
      rw [hfull] at b4 hset
      have HS := Lib.hid hset; clear hset hfull
      have m4 : (kk + 1 + 1 + 1 + 1) ≤ q4.2 := by rw [hq4]; exact mkL_le mkEntry_le _ _
      have m7 : (q4.2 + 1 + 1) ≤ q7.2 := by rw [hq7]; exact mkL_le mkInt_le _ _
      have m8 : q7.2 ≤ q8.2 := by rw [hq8]; exact mkL_le mkInt_le _ _
      have HQ4 := Lib.hid hq4; clear hq4
      have HQ7 := Lib.hid hq7; clear hq7
      have HQ8 := Lib.hid hq8; clear hq8
      obtain ⟨l4, l7, l8⟩ := hsm
      simp only at b4
      have i1 : (0 : Int) ≤ (i : Int) := by omega
      have i2 : (i : Int) < (xs.length : Int) := by omega
      have HY := Lib.hid hy; clear hy
      have hK := HK.out
      obtain ⟨g2, cap2, c2_, F2, q0, gF, gl, q2, gd, gnd, q3, q5, gcl⟩ := Rp.Row_open2 hR hnF i hl2
      rw [HY.out] at q2
      obtain ⟨v4, v7, v8, F4, F7, F8, rfl, rfl, r4, r7, r8⟩ := kRaftNode_open q2
      obtain ⟨g, rfl⟩ : ∃ g, A = some ⟨g, 0, none⟩ := ⟨g2, by simp at q0; exact q0.1⟩
      obtain rfl : g = g2 := by simp at q0; exact q0.1
      have z0 : wr.cell? ⟨g, i * 9, none⟩ = some (.int .i64 x.fId) := q3 0 _ rfl
      have y0 : wr.frozen? ⟨g, i * 9, none⟩ = false := q5 _
      have z1 : wr.cell? ⟨g, i * 9 + 1, none⟩ = some (.int .i64 x.fPeers) := q3 1 _ rfl
      have y1 : wr.frozen? ⟨g, i * 9 + 1, none⟩ = false := q5 _
      have z2 : wr.cell? ⟨g, i * 9 + 2, none⟩ = some (.int .i64 x.fTerm) := q3 2 _ rfl
      have y2 : wr.frozen? ⟨g, i * 9 + 2, none⟩ = false := q5 _
      have z3 : wr.cell? ⟨g, i * 9 + 3, none⟩ = some (.int .i64 x.fVote) := q3 3 _ rfl
      have y3 : wr.frozen? ⟨g, i * 9 + 3, none⟩ = false := q5 _
      have z4 : wr.cell? ⟨g, i * 9 + 4, none⟩ = some (v4) := q3 4 _ rfl
      have y4 : wr.frozen? ⟨g, i * 9 + 4, none⟩ = false := q5 _
      have z5 : wr.cell? ⟨g, i * 9 + 5, none⟩ = some (.int .i64 x.fCommit) := q3 5 _ rfl
      have y5 : wr.frozen? ⟨g, i * 9 + 5, none⟩ = false := q5 _
      have z6 : wr.cell? ⟨g, i * 9 + 6, none⟩ = some (.int .i64 x.fRole) := q3 6 _ rfl
      have y6 : wr.frozen? ⟨g, i * 9 + 6, none⟩ = false := q5 _
      have z7 : wr.cell? ⟨g, i * 9 + 7, none⟩ = some (v7) := q3 7 _ rfl
      have y7 : wr.frozen? ⟨g, i * 9 + 7, none⟩ = false := q5 _
      have z8 : wr.cell? ⟨g, i * 9 + 8, none⟩ = some (v8) := q3 8 _ rfl
      have y8 : wr.frozen? ⟨g, i * 9 + 8, none⟩ = false := q5 _
      clear q0 q2 q3 q5
      have HR0 := Lib.hid hR; have HK0 := Lib.hid hK; have HG0 := Lib.hid gcl; have HGD := Lib.hid gd; have HGN := Lib.hid gnd
      have HH4 := Lib.hid r4
      have HH7 := Lib.hid r7
      have HH8 := Lib.hid r8
      clear hR hK gcl gd gnd r4 r7 r8
      go_upto_region 12 with fail
      have s0 := HR0.out
      have s1 := Rp.Row_store s0 hnF i hl2 0 (by decide) (.int .i64 kk) (⟨kk, x.fPeers, x.fTerm, x.fVote, x.fLog, x.fCommit, x.fRole, x.fVotes, x.fMatch⟩ : DRaftNode) (fun c F1 hM => by rw [HY.out] at hM; obtain ⟨v4, v7, v8, F4, F7, F8, rfl, rfl, a4, a7, a8⟩ := kRaftNode_open hM; exact kRaftNode_make a4 a7 a8)
      have s2 := Rp.Row_store s1 hnF i (by rw [List.length_set]; exact hl2) 1 (by decide) (.int .i64 (kk + 1)) (⟨kk, (kk + 1), x.fTerm, x.fVote, x.fLog, x.fCommit, x.fRole, x.fVotes, x.fMatch⟩ : DRaftNode) (fun c F1 hM => by rw [List.getElem_set_self] at hM; obtain ⟨v4, v7, v8, F4, F7, F8, rfl, rfl, a4, a7, a8⟩ := kRaftNode_open hM; exact kRaftNode_make a4 a7 a8)
      rw [List.set_set] at s2
      have s3 := Rp.Row_store s2 hnF i (by rw [List.length_set]; exact hl2) 2 (by decide) (.int .i64 (kk + 1 + 1)) (⟨kk, (kk + 1), (kk + 1 + 1), x.fVote, x.fLog, x.fCommit, x.fRole, x.fVotes, x.fMatch⟩ : DRaftNode) (fun c F1 hM => by rw [List.getElem_set_self] at hM; obtain ⟨v4, v7, v8, F4, F7, F8, rfl, rfl, a4, a7, a8⟩ := kRaftNode_open hM; exact kRaftNode_make a4 a7 a8)
      rw [List.set_set] at s3
      have s4 := Rp.Row_store s3 hnF i (by rw [List.length_set]; exact hl2) 3 (by decide) (.int .i64 (kk + 1 + 1 + 1)) (⟨kk, (kk + 1), (kk + 1 + 1), (kk + 1 + 1 + 1), x.fLog, x.fCommit, x.fRole, x.fVotes, x.fMatch⟩ : DRaftNode) (fun c F1 hM => by rw [List.getElem_set_self] at hM; obtain ⟨v4, v7, v8, F4, F7, F8, rfl, rfl, a4, a7, a8⟩ := kRaftNode_open hM; exact kRaftNode_make a4 a7 a8)
      rw [List.set_set] at s4
      simp only [kRaftNode_sz, Nat.add_zero] at s4
      refine wp_gen (Q := fun W_ => kRaftNode.Row 29 W_ F (ys.set i (⟨kk, (kk + 1), (kk + 1 + 1), (kk + 1 + 1 + 1), x.fLog, x.fCommit, x.fRole, x.fVotes, x.fMatch⟩ : DRaftNode)) _ ∧ KeptF F w W_) _ ⟨s4, by repeat (first | exact HK0.out | (refine KeptF.set ?_ (show g ∈ F from gF) _))⟩ ?_
      clear HR0 HG0 HGD HGN gF gl z0 y0 z1 y1 z2 y2 z3 y3 z4 y4 z5 y5 z6 y6 z7 y7 z8 y8 s0 s1 s2 s3 s4 HH4 HH7 HH8
      clear HK0
      rintro wa4 ⟨hR, hK⟩
      obtain ⟨g2, cap2, c2_, F2, q0, gF, gl, q2, gd, gnd, q3, q5, gcl⟩ := Rp.Row_open2 hR hnF i (by rw [List.length_set]; exact hl2)
      rw [List.getElem_set_self] at q2
      obtain ⟨v4, v7, v8, F4, F7, F8, rfl, rfl, r4, r7, r8⟩ := kRaftNode_open q2
      obtain rfl : g = g2 := by simp at q0; exact q0.1
      have z0 : wa4.cell? ⟨g, i * 9, none⟩ = some (.int .i64 kk) := q3 0 _ rfl
      have y0 : wa4.frozen? ⟨g, i * 9, none⟩ = false := q5 _
      have z1 : wa4.cell? ⟨g, i * 9 + 1, none⟩ = some (.int .i64 (kk + 1)) := q3 1 _ rfl
      have y1 : wa4.frozen? ⟨g, i * 9 + 1, none⟩ = false := q5 _
      have z2 : wa4.cell? ⟨g, i * 9 + 2, none⟩ = some (.int .i64 (kk + 1 + 1)) := q3 2 _ rfl
      have y2 : wa4.frozen? ⟨g, i * 9 + 2, none⟩ = false := q5 _
      have z3 : wa4.cell? ⟨g, i * 9 + 3, none⟩ = some (.int .i64 (kk + 1 + 1 + 1)) := q3 3 _ rfl
      have y3 : wa4.frozen? ⟨g, i * 9 + 3, none⟩ = false := q5 _
      have z4 : wa4.cell? ⟨g, i * 9 + 4, none⟩ = some (v4) := q3 4 _ rfl
      have y4 : wa4.frozen? ⟨g, i * 9 + 4, none⟩ = false := q5 _
      have z5 : wa4.cell? ⟨g, i * 9 + 5, none⟩ = some (.int .i64 x.fCommit) := q3 5 _ rfl
      have y5 : wa4.frozen? ⟨g, i * 9 + 5, none⟩ = false := q5 _
      have z6 : wa4.cell? ⟨g, i * 9 + 6, none⟩ = some (.int .i64 x.fRole) := q3 6 _ rfl
      have y6 : wa4.frozen? ⟨g, i * 9 + 6, none⟩ = false := q5 _
      have z7 : wa4.cell? ⟨g, i * 9 + 7, none⟩ = some (v7) := q3 7 _ rfl
      have y7 : wa4.frozen? ⟨g, i * 9 + 7, none⟩ = false := q5 _
      have z8 : wa4.cell? ⟨g, i * 9 + 8, none⟩ = some (v8) := q3 8 _ rfl
      have y8 : wa4.frozen? ⟨g, i * 9 + 8, none⟩ = false := q5 _
      clear q0 q2 q3 q5
      have HR0 := Lib.hid hR; have HK0 := Lib.hid hK; have HG0 := Lib.hid gcl; have HGD := Lib.hid gd; have HGN := Lib.hid gnd
      have HH4 := Lib.hid r4
      have HH7 := Lib.hid r7
      have HH8 := Lib.hid r8
      clear hR hK gcl gd gnd r4 r7 r8
      go_wp2_with fail
      have gnd := HGN.out
      (with_reducible refine (markEntryS_calls x.fLog _ _ v4 _ HH4.out (List.nodup_append.1 gnd).1 (by omega) (by rw [← HQ4.out]; omega) l4).mono ?_)
      rintro e wb4 ⟨rfl, hr, hk⟩
      rw [← HQ4.out] at hr ⊢
      have hR := HG0.out wb4 (⟨kk, (kk + 1), (kk + 1 + 1), (kk + 1 + 1 + 1), q4.1, x.fCommit, x.fRole, x.fVotes, x.fMatch⟩ : DRaftNode) (fun b hb hnb => hk.block b (Rp.Row_lt HR0.out b hb) (fun hc => hnb (by simp [hc]))) (kRaftNode_make hr (Rp.Row_kept HH7.out hk (fun b hb hc => (List.nodup_append.1 gnd).2.2 b (by simp [hc]) b (by simp [hb]) rfl)) (Rp.Row_kept HH8.out hk (fun b hb hc => (List.nodup_append.1 gnd).2.2 b (by simp [hc]) b (by simp [hb]) rfl)))
      rw [List.set_set] at hR
      have hK : KeptF F w wb4 := HK0.out.trans (hk.mono (fun b hb => (HGD.out b (by simp [hb])).1))
      clear hr hk gnd HR0 HK0 HG0 HGD HGN gF gl z0 y0 z1 y1 z2 y2 z3 y3 z4 y4 z5 y5 z6 y6 z7 y7 z8 y8 HH4 HH7 HH8
      obtain ⟨g2, cap2, c2_, F2, q0, gF, gl, q2, gd, gnd, q3, q5, gcl⟩ := Rp.Row_open2 hR hnF i (by rw [List.length_set]; exact hl2)
      rw [List.getElem_set_self] at q2
      obtain ⟨v4, v7, v8, F4, F7, F8, rfl, rfl, r4, r7, r8⟩ := kRaftNode_open q2
      obtain rfl : g = g2 := by simp at q0; exact q0.1
      have z0 : wb4.cell? ⟨g, i * 9, none⟩ = some (.int .i64 kk) := q3 0 _ rfl
      have y0 : wb4.frozen? ⟨g, i * 9, none⟩ = false := q5 _
      have z1 : wb4.cell? ⟨g, i * 9 + 1, none⟩ = some (.int .i64 (kk + 1)) := q3 1 _ rfl
      have y1 : wb4.frozen? ⟨g, i * 9 + 1, none⟩ = false := q5 _
      have z2 : wb4.cell? ⟨g, i * 9 + 2, none⟩ = some (.int .i64 (kk + 1 + 1)) := q3 2 _ rfl
      have y2 : wb4.frozen? ⟨g, i * 9 + 2, none⟩ = false := q5 _
      have z3 : wb4.cell? ⟨g, i * 9 + 3, none⟩ = some (.int .i64 (kk + 1 + 1 + 1)) := q3 3 _ rfl
      have y3 : wb4.frozen? ⟨g, i * 9 + 3, none⟩ = false := q5 _
      have z4 : wb4.cell? ⟨g, i * 9 + 4, none⟩ = some (v4) := q3 4 _ rfl
      have y4 : wb4.frozen? ⟨g, i * 9 + 4, none⟩ = false := q5 _
      have z5 : wb4.cell? ⟨g, i * 9 + 5, none⟩ = some (.int .i64 x.fCommit) := q3 5 _ rfl
      have y5 : wb4.frozen? ⟨g, i * 9 + 5, none⟩ = false := q5 _
      have z6 : wb4.cell? ⟨g, i * 9 + 6, none⟩ = some (.int .i64 x.fRole) := q3 6 _ rfl
      have y6 : wb4.frozen? ⟨g, i * 9 + 6, none⟩ = false := q5 _
      have z7 : wb4.cell? ⟨g, i * 9 + 7, none⟩ = some (v7) := q3 7 _ rfl
      have y7 : wb4.frozen? ⟨g, i * 9 + 7, none⟩ = false := q5 _
      have z8 : wb4.cell? ⟨g, i * 9 + 8, none⟩ = some (v8) := q3 8 _ rfl
      have y8 : wb4.frozen? ⟨g, i * 9 + 8, none⟩ = false := q5 _
      clear q0 q2 q3 q5
      have HR0 := Lib.hid hR; have HK0 := Lib.hid hK; have HG0 := Lib.hid gcl; have HGD := Lib.hid gd; have HGN := Lib.hid gnd
      have HH4 := Lib.hid r4
      have HH7 := Lib.hid r7
      have HH8 := Lib.hid r8
      clear hR hK gcl gd gnd r4 r7 r8
      go_upto_region 17 with fail
      have s5 := HR0.out
      have s6 := Rp.Row_store s5 hnF i (by rw [List.length_set]; exact hl2) 5 (by decide) (.int .i64 q4.2) (⟨kk, (kk + 1), (kk + 1 + 1), (kk + 1 + 1 + 1), q4.1, q4.2, x.fRole, x.fVotes, x.fMatch⟩ : DRaftNode) (fun c F1 hM => by rw [List.getElem_set_self] at hM; obtain ⟨v4, v7, v8, F4, F7, F8, rfl, rfl, a4, a7, a8⟩ := kRaftNode_open hM; exact kRaftNode_make a4 a7 a8)
      rw [List.set_set] at s6
      have s7 := Rp.Row_store s6 hnF i (by rw [List.length_set]; exact hl2) 6 (by decide) (.int .i64 (q4.2 + 1)) (⟨kk, (kk + 1), (kk + 1 + 1), (kk + 1 + 1 + 1), q4.1, q4.2, (q4.2 + 1), x.fVotes, x.fMatch⟩ : DRaftNode) (fun c F1 hM => by rw [List.getElem_set_self] at hM; obtain ⟨v4, v7, v8, F4, F7, F8, rfl, rfl, a4, a7, a8⟩ := kRaftNode_open hM; exact kRaftNode_make a4 a7 a8)
      rw [List.set_set] at s7
      simp only [kRaftNode_sz, Nat.add_zero] at s7
      refine wp_gen (Q := fun W_ => kRaftNode.Row 29 W_ F (ys.set i (⟨kk, (kk + 1), (kk + 1 + 1), (kk + 1 + 1 + 1), q4.1, q4.2, (q4.2 + 1), x.fVotes, x.fMatch⟩ : DRaftNode)) _ ∧ KeptF F w W_) _ ⟨s7, by repeat (first | exact HK0.out | (refine KeptF.set ?_ (show g ∈ F from gF) _))⟩ ?_
      clear HR0 HG0 HGD HGN gF gl z0 y0 z1 y1 z2 y2 z3 y3 z4 y4 z5 y5 z6 y6 z7 y7 z8 y8 s5 s6 s7 HH4 HH7 HH8
      clear HK0
      rintro wa7 ⟨hR, hK⟩
      obtain ⟨g2, cap2, c2_, F2, q0, gF, gl, q2, gd, gnd, q3, q5, gcl⟩ := Rp.Row_open2 hR hnF i (by rw [List.length_set]; exact hl2)
      rw [List.getElem_set_self] at q2
      obtain ⟨v4, v7, v8, F4, F7, F8, rfl, rfl, r4, r7, r8⟩ := kRaftNode_open q2
      obtain rfl : g = g2 := by simp at q0; exact q0.1
      have z0 : wa7.cell? ⟨g, i * 9, none⟩ = some (.int .i64 kk) := q3 0 _ rfl
      have y0 : wa7.frozen? ⟨g, i * 9, none⟩ = false := q5 _
      have z1 : wa7.cell? ⟨g, i * 9 + 1, none⟩ = some (.int .i64 (kk + 1)) := q3 1 _ rfl
      have y1 : wa7.frozen? ⟨g, i * 9 + 1, none⟩ = false := q5 _
      have z2 : wa7.cell? ⟨g, i * 9 + 2, none⟩ = some (.int .i64 (kk + 1 + 1)) := q3 2 _ rfl
      have y2 : wa7.frozen? ⟨g, i * 9 + 2, none⟩ = false := q5 _
      have z3 : wa7.cell? ⟨g, i * 9 + 3, none⟩ = some (.int .i64 (kk + 1 + 1 + 1)) := q3 3 _ rfl
      have y3 : wa7.frozen? ⟨g, i * 9 + 3, none⟩ = false := q5 _
      have z4 : wa7.cell? ⟨g, i * 9 + 4, none⟩ = some (v4) := q3 4 _ rfl
      have y4 : wa7.frozen? ⟨g, i * 9 + 4, none⟩ = false := q5 _
      have z5 : wa7.cell? ⟨g, i * 9 + 5, none⟩ = some (.int .i64 q4.2) := q3 5 _ rfl
      have y5 : wa7.frozen? ⟨g, i * 9 + 5, none⟩ = false := q5 _
      have z6 : wa7.cell? ⟨g, i * 9 + 6, none⟩ = some (.int .i64 (q4.2 + 1)) := q3 6 _ rfl
      have y6 : wa7.frozen? ⟨g, i * 9 + 6, none⟩ = false := q5 _
      have z7 : wa7.cell? ⟨g, i * 9 + 7, none⟩ = some (v7) := q3 7 _ rfl
      have y7 : wa7.frozen? ⟨g, i * 9 + 7, none⟩ = false := q5 _
      have z8 : wa7.cell? ⟨g, i * 9 + 8, none⟩ = some (v8) := q3 8 _ rfl
      have y8 : wa7.frozen? ⟨g, i * 9 + 8, none⟩ = false := q5 _
      clear q0 q2 q3 q5
      have HR0 := Lib.hid hR; have HK0 := Lib.hid hK; have HG0 := Lib.hid gcl; have HGD := Lib.hid gd; have HGN := Lib.hid gnd
      have HH4 := Lib.hid r4
      have HH7 := Lib.hid r7
      have HH8 := Lib.hid r8
      clear hR hK gcl gd gnd r4 r7 r8
      go_wp2_with fail
      have gnd := HGN.out
      (with_reducible refine (markIntS_calls x.fVotes _ _ v7 _ HH7.out (List.nodup_append.1 (List.nodup_append.1 gnd).2.1).1 (by omega) (by rw [← HQ7.out]; omega) l7).mono ?_)
      rintro e wb7 ⟨rfl, hr, hk⟩
      rw [← HQ7.out] at hr ⊢
      have hR := HG0.out wb7 (⟨kk, (kk + 1), (kk + 1 + 1), (kk + 1 + 1 + 1), q4.1, q4.2, (q4.2 + 1), q7.1, x.fMatch⟩ : DRaftNode) (fun b hb hnb => hk.block b (Rp.Row_lt HR0.out b hb) (fun hc => hnb (by simp [hc]))) (kRaftNode_make (Rp.Row_kept HH4.out hk (fun b hb hc => (List.nodup_append.1 gnd).2.2 b (by simp [hb]) b (by simp [hc]) rfl)) hr (Rp.Row_kept HH8.out hk (fun b hb hc => (List.nodup_append.1 (List.nodup_append.1 gnd).2.1).2.2 b (by simp [hc]) b (by simp [hb]) rfl)))
      rw [List.set_set] at hR
      have hK : KeptF F w wb7 := HK0.out.trans (hk.mono (fun b hb => (HGD.out b (by simp [hb])).1))
      clear hr hk gnd HR0 HK0 HG0 HGD HGN gF gl z0 y0 z1 y1 z2 y2 z3 y3 z4 y4 z5 y5 z6 y6 z7 y7 z8 y8 HH4 HH7 HH8
      obtain ⟨g2, cap2, c2_, F2, q0, gF, gl, q2, gd, gnd, q3, q5, gcl⟩ := Rp.Row_open2 hR hnF i (by rw [List.length_set]; exact hl2)
      rw [List.getElem_set_self] at q2
      obtain ⟨v4, v7, v8, F4, F7, F8, rfl, rfl, r4, r7, r8⟩ := kRaftNode_open q2
      obtain rfl : g = g2 := by simp at q0; exact q0.1
      have z0 : wb7.cell? ⟨g, i * 9, none⟩ = some (.int .i64 kk) := q3 0 _ rfl
      have y0 : wb7.frozen? ⟨g, i * 9, none⟩ = false := q5 _
      have z1 : wb7.cell? ⟨g, i * 9 + 1, none⟩ = some (.int .i64 (kk + 1)) := q3 1 _ rfl
      have y1 : wb7.frozen? ⟨g, i * 9 + 1, none⟩ = false := q5 _
      have z2 : wb7.cell? ⟨g, i * 9 + 2, none⟩ = some (.int .i64 (kk + 1 + 1)) := q3 2 _ rfl
      have y2 : wb7.frozen? ⟨g, i * 9 + 2, none⟩ = false := q5 _
      have z3 : wb7.cell? ⟨g, i * 9 + 3, none⟩ = some (.int .i64 (kk + 1 + 1 + 1)) := q3 3 _ rfl
      have y3 : wb7.frozen? ⟨g, i * 9 + 3, none⟩ = false := q5 _
      have z4 : wb7.cell? ⟨g, i * 9 + 4, none⟩ = some (v4) := q3 4 _ rfl
      have y4 : wb7.frozen? ⟨g, i * 9 + 4, none⟩ = false := q5 _
      have z5 : wb7.cell? ⟨g, i * 9 + 5, none⟩ = some (.int .i64 q4.2) := q3 5 _ rfl
      have y5 : wb7.frozen? ⟨g, i * 9 + 5, none⟩ = false := q5 _
      have z6 : wb7.cell? ⟨g, i * 9 + 6, none⟩ = some (.int .i64 (q4.2 + 1)) := q3 6 _ rfl
      have y6 : wb7.frozen? ⟨g, i * 9 + 6, none⟩ = false := q5 _
      have z7 : wb7.cell? ⟨g, i * 9 + 7, none⟩ = some (v7) := q3 7 _ rfl
      have y7 : wb7.frozen? ⟨g, i * 9 + 7, none⟩ = false := q5 _
      have z8 : wb7.cell? ⟨g, i * 9 + 8, none⟩ = some (v8) := q3 8 _ rfl
      have y8 : wb7.frozen? ⟨g, i * 9 + 8, none⟩ = false := q5 _
      clear q0 q2 q3 q5
      have HR0 := Lib.hid hR; have HK0 := Lib.hid hK; have HG0 := Lib.hid gcl; have HGD := Lib.hid gd; have HGN := Lib.hid gnd
      have HH4 := Lib.hid r4
      have HH7 := Lib.hid r7
      have HH8 := Lib.hid r8
      clear hR hK gcl gd gnd r4 r7 r8
      go_wp2_with fail
      have gnd := HGN.out
      (with_reducible refine (markIntS_calls x.fMatch _ _ v8 _ HH8.out (List.nodup_append.1 (List.nodup_append.1 gnd).2.1).2.1 (by omega) (by rw [← HQ8.out]; omega) l8).mono ?_)
      rintro e wb8 ⟨rfl, hr, hk⟩
      rw [← HQ8.out] at hr ⊢
      have hR := HG0.out wb8 (⟨kk, (kk + 1), (kk + 1 + 1), (kk + 1 + 1 + 1), q4.1, q4.2, (q4.2 + 1), q7.1, q8.1⟩ : DRaftNode) (fun b hb hnb => hk.block b (Rp.Row_lt HR0.out b hb) (fun hc => hnb (by simp [hc]))) (kRaftNode_make (Rp.Row_kept HH4.out hk (fun b hb hc => (List.nodup_append.1 gnd).2.2 b (by simp [hb]) b (by simp [hc]) rfl)) (Rp.Row_kept HH7.out hk (fun b hb hc => (List.nodup_append.1 (List.nodup_append.1 gnd).2.1).2.2 b (by simp [hb]) b (by simp [hc]) rfl)) hr)
      rw [List.set_set] at hR
      have hK : KeptF F w wb8 := HK0.out.trans (hk.mono (fun b hb => (HGD.out b (by simp [hb])).1))
      clear hr hk gnd HR0 HK0 HG0 HGD HGN gF gl z0 y0 z1 y1 z2 y2 z3 y3 z4 y4 z5 y5 z6 y6 z7 y7 z8 y8 HH4 HH7 HH8
      obtain ⟨g2, cap2, c2_, F2, q0, gF, gl, q2, gd, gnd, q3, q5, gcl⟩ := Rp.Row_open2 hR hnF i (by rw [List.length_set]; exact hl2)
      rw [List.getElem_set_self] at q2
      obtain ⟨v4, v7, v8, F4, F7, F8, rfl, rfl, r4, r7, r8⟩ := kRaftNode_open q2
      obtain rfl : g = g2 := by simp at q0; exact q0.1
      have z0 : wb8.cell? ⟨g, i * 9, none⟩ = some (.int .i64 kk) := q3 0 _ rfl
      have y0 : wb8.frozen? ⟨g, i * 9, none⟩ = false := q5 _
      have z1 : wb8.cell? ⟨g, i * 9 + 1, none⟩ = some (.int .i64 (kk + 1)) := q3 1 _ rfl
      have y1 : wb8.frozen? ⟨g, i * 9 + 1, none⟩ = false := q5 _
      have z2 : wb8.cell? ⟨g, i * 9 + 2, none⟩ = some (.int .i64 (kk + 1 + 1)) := q3 2 _ rfl
      have y2 : wb8.frozen? ⟨g, i * 9 + 2, none⟩ = false := q5 _
      have z3 : wb8.cell? ⟨g, i * 9 + 3, none⟩ = some (.int .i64 (kk + 1 + 1 + 1)) := q3 3 _ rfl
      have y3 : wb8.frozen? ⟨g, i * 9 + 3, none⟩ = false := q5 _
      have z4 : wb8.cell? ⟨g, i * 9 + 4, none⟩ = some (v4) := q3 4 _ rfl
      have y4 : wb8.frozen? ⟨g, i * 9 + 4, none⟩ = false := q5 _
      have z5 : wb8.cell? ⟨g, i * 9 + 5, none⟩ = some (.int .i64 q4.2) := q3 5 _ rfl
      have y5 : wb8.frozen? ⟨g, i * 9 + 5, none⟩ = false := q5 _
      have z6 : wb8.cell? ⟨g, i * 9 + 6, none⟩ = some (.int .i64 (q4.2 + 1)) := q3 6 _ rfl
      have y6 : wb8.frozen? ⟨g, i * 9 + 6, none⟩ = false := q5 _
      have z7 : wb8.cell? ⟨g, i * 9 + 7, none⟩ = some (v7) := q3 7 _ rfl
      have y7 : wb8.frozen? ⟨g, i * 9 + 7, none⟩ = false := q5 _
      have z8 : wb8.cell? ⟨g, i * 9 + 8, none⟩ = some (v8) := q3 8 _ rfl
      have y8 : wb8.frozen? ⟨g, i * 9 + 8, none⟩ = false := q5 _
      clear q0 q2 q3 q5
      have HR0 := Lib.hid hR; have HK0 := Lib.hid hK
      clear hR hK gcl gd gnd r4 r7 r8
      go_wp2
      have s9 := HR0.out
      rw [HS.out, ← HZS.out] at s9
      exact ⟨⟨i + 1, by omega, by go_num, by rw [HKN.out, b4], s9, (by repeat (first | exact HK0.out | (refine KeptF.set ?_ (show g ∈ F from gF) _)))⟩, by simp [intOf]; omega⟩
    · go_wp2
      go_ret
      obtain rfl : i = xs.length := by omega
      exact ⟨ret_int mkNo_all, by rw [← mkAt_all]; exact HR.out, HK.out⟩

end Go.Proofs.Ythnjcolbdoaabaa
