/- Marks of slices of structs that hold slices. -/
import Derived.Test.YtcimnhpgackciaaMkA
namespace Go.Proofs.Ytcimnhpgackciaa
open Go Go.RowKit Go.Sort
set_option linter.unusedVariables false
set_option linter.unusedSimpArgs false

def meRaftMsg (x : DRaftMsg) (k : Int) : DRaftMsg × Int :=
  let q6 := mkL mkEntry x.fEntries (k + 1 + 1 + 1 + 1 + 1 + 1)
  ((⟨k, (k + 1), (k + 1 + 1), (k + 1 + 1 + 1), (k + 1 + 1 + 1 + 1), (k + 1 + 1 + 1 + 1 + 1), q6.1, q6.2, ((q6.2 + 1) % 3 == 0)⟩ : DRaftMsg), q6.2 + 1 + 1)
theorem meRaftMsg_le (x : DRaftMsg) (k : Int) : k ≤ (meRaftMsg x k).2 := by
  simp only [meRaftMsg]
  have h6 := mkL_le mkEntry_le x.fEntries ((k + 1 + 1 + 1 + 1 + 1 + 1))
  omega

set_option maxHeartbeats 4000000 in
set_option maxRecDepth 100000 in
theorem markRaftMsgS_calls (xs : List DRaftMsg) (k : Int) (F : List Nat) (v : Value) (w : World) (h : kRaftMsg.Row 44 w F xs v) (hnF : F.Nodup) (h0 : 0 ≤ k) (h1 : (mkL meRaftMsg xs k).2 ≤ 4611686018427387904) (hl : smRaftMsgS 140737488355328 xs) :
    Calls Try.prog 11 #[v, .int .i64 k] w fun e w' => e = .returned (.int .i64 (mkL meRaftMsg xs k).2) ∧ kRaftMsg.Row 44 w' F (mkL meRaftMsg xs k).1 v ∧ KeptF F w w' := by
  obtain ⟨A, c, rfl, hc, _⟩ := Rp.Row_K h
  have H := Lib.hid h; clear h
  have H1 := Lib.hid h1; clear h1
  have HL := Lib.hid hl
  have hl1 := hl.1
  clear hl
  go_enter Try.func11, Try.ntmps11
  go_wp2
  go_loopw [1, 5] (fun a n wr => ∃ i : Nat, i ≤ xs.length ∧ n = .int .i64 i ∧ a = .int .i64 (mkNo meRaftMsg xs k i) ∧ Hid (kRaftMsg.Row 44 wr F (mkAt meRaftMsg xs k i) (.slice A xs.length c)) ∧ Hid (KeptF F w wr)) (fun _ n _ => xs.length - (intOf n).toNat)
  case atStart => exact ⟨0, Nat.zero_le _, rfl, by rw [mkNo_zero], by rw [mkAt_zero]; exact H.out, KeptF.refl _ _⟩
  case round =>
    obtain ⟨i, hi, rfl, rfl, HR, HK⟩ := hrel
    by_cases hlt : i < xs.length
    · have b1 := mkNo_ge (mk := meRaftMsg) (k := k) meRaftMsg_le (Nat.le_of_lt hlt)
      have b2 := mkNo_top (mk := meRaftMsg) (k := k) meRaftMsg_le (i := i + 1) hlt
      have b4 := mkNo_succ (mk := meRaftMsg) (k := k) hlt
      have b5 := H1.out
      have hset := mkAt_set (mk := meRaftMsg) (k := k) hlt
      have hl2 : i < (mkAt meRaftMsg xs k i).length := by rw [mkAt_len hi]; exact hlt
      have hy := mkAt_get' (mk := meRaftMsg) (k := k) hlt hl2
      have hsm := HL.out.2 xs[i] (List.getElem_mem hlt)
      have hR := HR.out
      clear HR
      have c1 : 0 ≤ mkNo meRaftMsg xs k i := by omega
      have c2 : mkNo meRaftMsg xs k (i + 1) ≤ 4611686018427387904 := by omega
      clear b1 b2 b5
      generalize mkNo meRaftMsg xs k i = kk at *
      generalize hkn : mkNo meRaftMsg xs k (i + 1) = kn at *
      generalize hzs : mkAt meRaftMsg xs k (i + 1) = zs at *
      generalize mkAt meRaftMsg xs k i = ys at *
      generalize he : xs[i] = x at *
      have HE := Lib.hid he; clear he
      have HKN := Lib.hid hkn; have HZS := Lib.hid hzs; clear hkn hzs
      obtain ⟨q6, hq6⟩ : ∃ q, q = mkL mkEntry x.fEntries (kk + 1 + 1 + 1 + 1 + 1 + 1) := ⟨_, rfl⟩
      have hfull : meRaftMsg x kk = ((⟨kk, (kk + 1), (kk + 1 + 1), (kk + 1 + 1 + 1), (kk + 1 + 1 + 1 + 1), (kk + 1 + 1 + 1 + 1 + 1), q6.1, q6.2, ((q6.2 + 1) % 3 == 0)⟩ : DRaftMsg), q6.2 + 1 + 1) := by rw [hq6]; rfl
      rw [hfull] at b4 hset
      have HS := Lib.hid hset; clear hset hfull
      have m6 : (kk + 1 + 1 + 1 + 1 + 1 + 1) ≤ q6.2 := by rw [hq6]; exact mkL_le mkEntry_le _ _
      have HQ6 := Lib.hid hq6; clear hq6
      have l6 : x.fEntries.length ≤ 140737488355328 := hsm
      clear hsm
      simp only at b4
      have i1 : (0 : Int) ≤ (i : Int) := by omega
      have i2 : (i : Int) < (xs.length : Int) := by omega
      have HY := Lib.hid hy; clear hy
      have hK := HK.out
      obtain ⟨g2, cap2, c2_, F2, q0, gF, gl, q2, gd, gnd, q3, q5, gcl⟩ := Rp.Row_open2 hR hnF i hl2
      rw [HY.out] at q2
      obtain ⟨v6, F6, rfl, rfl, r6⟩ := kRaftMsg_open q2
      obtain ⟨g, rfl⟩ : ∃ g, A = some ⟨g, 0, none⟩ := ⟨g2, by simp at q0; exact q0.1⟩
      obtain rfl : g = g2 := by simp at q0; exact q0.1
      have z0 : wr.cell? ⟨g, i * 9, none⟩ = some (.int .i64 x.fKind) := q3 0 _ rfl
      have y0 : wr.frozen? ⟨g, i * 9, none⟩ = false := q5 _
      have z1 : wr.cell? ⟨g, i * 9 + 1, none⟩ = some (.int .i64 x.fFrom) := q3 1 _ rfl
      have y1 : wr.frozen? ⟨g, i * 9 + 1, none⟩ = false := q5 _
      have z2 : wr.cell? ⟨g, i * 9 + 2, none⟩ = some (.int .i64 x.fTo) := q3 2 _ rfl
      have y2 : wr.frozen? ⟨g, i * 9 + 2, none⟩ = false := q5 _
      have z3 : wr.cell? ⟨g, i * 9 + 3, none⟩ = some (.int .i64 x.fTerm) := q3 3 _ rfl
      have y3 : wr.frozen? ⟨g, i * 9 + 3, none⟩ = false := q5 _
      have z4 : wr.cell? ⟨g, i * 9 + 4, none⟩ = some (.int .i64 x.fIndex) := q3 4 _ rfl
      have y4 : wr.frozen? ⟨g, i * 9 + 4, none⟩ = false := q5 _
      have z5 : wr.cell? ⟨g, i * 9 + 5, none⟩ = some (.int .i64 x.fBefore) := q3 5 _ rfl
      have y5 : wr.frozen? ⟨g, i * 9 + 5, none⟩ = false := q5 _
      have z6 : wr.cell? ⟨g, i * 9 + 6, none⟩ = some (v6) := q3 6 _ rfl
      have y6 : wr.frozen? ⟨g, i * 9 + 6, none⟩ = false := q5 _
      have z7 : wr.cell? ⟨g, i * 9 + 7, none⟩ = some (.int .i64 x.fCommit) := q3 7 _ rfl
      have y7 : wr.frozen? ⟨g, i * 9 + 7, none⟩ = false := q5 _
      have z8 : wr.cell? ⟨g, i * 9 + 8, none⟩ = some (.bool x.fYes) := q3 8 _ rfl
      have y8 : wr.frozen? ⟨g, i * 9 + 8, none⟩ = false := q5 _
      clear q0 q2 q3 q5
      have HR0 := Lib.hid hR; have HK0 := Lib.hid hK; have HG0 := Lib.hid gcl; have HGD := Lib.hid gd; have HGN := Lib.hid gnd
      have HH6 := Lib.hid r6
      clear hR hK gcl gd gnd r6
      go_upto_region 16 with fail
      have s0 := HR0.out
      have s1 := Rp.Row_store s0 hnF i hl2 0 (by decide) (.int .i64 kk) (⟨kk, x.fFrom, x.fTo, x.fTerm, x.fIndex, x.fBefore, x.fEntries, x.fCommit, x.fYes⟩ : DRaftMsg) (fun c F1 hM => by rw [HY.out] at hM; obtain ⟨v6, F6, rfl, rfl, a6⟩ := kRaftMsg_open hM; exact kRaftMsg_make a6)
      have s2 := Rp.Row_store s1 hnF i (by rw [List.length_set]; exact hl2) 1 (by decide) (.int .i64 (kk + 1)) (⟨kk, (kk + 1), x.fTo, x.fTerm, x.fIndex, x.fBefore, x.fEntries, x.fCommit, x.fYes⟩ : DRaftMsg) (fun c F1 hM => by rw [List.getElem_set_self] at hM; obtain ⟨v6, F6, rfl, rfl, a6⟩ := kRaftMsg_open hM; exact kRaftMsg_make a6)
      rw [List.set_set] at s2
      have s3 := Rp.Row_store s2 hnF i (by rw [List.length_set]; exact hl2) 2 (by decide) (.int .i64 (kk + 1 + 1)) (⟨kk, (kk + 1), (kk + 1 + 1), x.fTerm, x.fIndex, x.fBefore, x.fEntries, x.fCommit, x.fYes⟩ : DRaftMsg) (fun c F1 hM => by rw [List.getElem_set_self] at hM; obtain ⟨v6, F6, rfl, rfl, a6⟩ := kRaftMsg_open hM; exact kRaftMsg_make a6)
      rw [List.set_set] at s3
      have s4 := Rp.Row_store s3 hnF i (by rw [List.length_set]; exact hl2) 3 (by decide) (.int .i64 (kk + 1 + 1 + 1)) (⟨kk, (kk + 1), (kk + 1 + 1), (kk + 1 + 1 + 1), x.fIndex, x.fBefore, x.fEntries, x.fCommit, x.fYes⟩ : DRaftMsg) (fun c F1 hM => by rw [List.getElem_set_self] at hM; obtain ⟨v6, F6, rfl, rfl, a6⟩ := kRaftMsg_open hM; exact kRaftMsg_make a6)
      rw [List.set_set] at s4
      have s5 := Rp.Row_store s4 hnF i (by rw [List.length_set]; exact hl2) 4 (by decide) (.int .i64 (kk + 1 + 1 + 1 + 1)) (⟨kk, (kk + 1), (kk + 1 + 1), (kk + 1 + 1 + 1), (kk + 1 + 1 + 1 + 1), x.fBefore, x.fEntries, x.fCommit, x.fYes⟩ : DRaftMsg) (fun c F1 hM => by rw [List.getElem_set_self] at hM; obtain ⟨v6, F6, rfl, rfl, a6⟩ := kRaftMsg_open hM; exact kRaftMsg_make a6)
      rw [List.set_set] at s5
      have s6 := Rp.Row_store s5 hnF i (by rw [List.length_set]; exact hl2) 5 (by decide) (.int .i64 (kk + 1 + 1 + 1 + 1 + 1)) (⟨kk, (kk + 1), (kk + 1 + 1), (kk + 1 + 1 + 1), (kk + 1 + 1 + 1 + 1), (kk + 1 + 1 + 1 + 1 + 1), x.fEntries, x.fCommit, x.fYes⟩ : DRaftMsg) (fun c F1 hM => by rw [List.getElem_set_self] at hM; obtain ⟨v6, F6, rfl, rfl, a6⟩ := kRaftMsg_open hM; exact kRaftMsg_make a6)
      rw [List.set_set] at s6
      simp only [kRaftMsg_sz, Nat.add_zero] at s6
      refine wp_gen (Q := fun W_ => kRaftMsg.Row 44 W_ F (ys.set i (⟨kk, (kk + 1), (kk + 1 + 1), (kk + 1 + 1 + 1), (kk + 1 + 1 + 1 + 1), (kk + 1 + 1 + 1 + 1 + 1), x.fEntries, x.fCommit, x.fYes⟩ : DRaftMsg)) _ ∧ KeptF F w W_) _ ⟨s6, by repeat (first | exact HK0.out | (refine KeptF.set ?_ (show g ∈ F from gF) _))⟩ ?_
      clear HR0 HG0 HGD HGN gF gl z0 y0 z1 y1 z2 y2 z3 y3 z4 y4 z5 y5 z6 y6 z7 y7 z8 y8 s0 s1 s2 s3 s4 s5 s6 HH6
      clear HK0
      rintro wa6 ⟨hR, hK⟩
      obtain ⟨g2, cap2, c2_, F2, q0, gF, gl, q2, gd, gnd, q3, q5, gcl⟩ := Rp.Row_open2 hR hnF i (by rw [List.length_set]; exact hl2)
      rw [List.getElem_set_self] at q2
      obtain ⟨v6, F6, rfl, rfl, r6⟩ := kRaftMsg_open q2
      obtain rfl : g = g2 := by simp at q0; exact q0.1
      have z0 : wa6.cell? ⟨g, i * 9, none⟩ = some (.int .i64 kk) := q3 0 _ rfl
      have y0 : wa6.frozen? ⟨g, i * 9, none⟩ = false := q5 _
      have z1 : wa6.cell? ⟨g, i * 9 + 1, none⟩ = some (.int .i64 (kk + 1)) := q3 1 _ rfl
      have y1 : wa6.frozen? ⟨g, i * 9 + 1, none⟩ = false := q5 _
      have z2 : wa6.cell? ⟨g, i * 9 + 2, none⟩ = some (.int .i64 (kk + 1 + 1)) := q3 2 _ rfl
      have y2 : wa6.frozen? ⟨g, i * 9 + 2, none⟩ = false := q5 _
      have z3 : wa6.cell? ⟨g, i * 9 + 3, none⟩ = some (.int .i64 (kk + 1 + 1 + 1)) := q3 3 _ rfl
      have y3 : wa6.frozen? ⟨g, i * 9 + 3, none⟩ = false := q5 _
      have z4 : wa6.cell? ⟨g, i * 9 + 4, none⟩ = some (.int .i64 (kk + 1 + 1 + 1 + 1)) := q3 4 _ rfl
      have y4 : wa6.frozen? ⟨g, i * 9 + 4, none⟩ = false := q5 _
      have z5 : wa6.cell? ⟨g, i * 9 + 5, none⟩ = some (.int .i64 (kk + 1 + 1 + 1 + 1 + 1)) := q3 5 _ rfl
      have y5 : wa6.frozen? ⟨g, i * 9 + 5, none⟩ = false := q5 _
      have z6 : wa6.cell? ⟨g, i * 9 + 6, none⟩ = some (v6) := q3 6 _ rfl
      have y6 : wa6.frozen? ⟨g, i * 9 + 6, none⟩ = false := q5 _
      have z7 : wa6.cell? ⟨g, i * 9 + 7, none⟩ = some (.int .i64 x.fCommit) := q3 7 _ rfl
      have y7 : wa6.frozen? ⟨g, i * 9 + 7, none⟩ = false := q5 _
      have z8 : wa6.cell? ⟨g, i * 9 + 8, none⟩ = some (.bool x.fYes) := q3 8 _ rfl
      have y8 : wa6.frozen? ⟨g, i * 9 + 8, none⟩ = false := q5 _
      clear q0 q2 q3 q5
      have HR0 := Lib.hid hR; have HK0 := Lib.hid hK; have HG0 := Lib.hid gcl; have HGD := Lib.hid gd; have HGN := Lib.hid gnd
      have HH6 := Lib.hid r6
      clear hR hK gcl gd gnd r6
      go_wp2_with fail
      have gnd := HGN.out
      (with_reducible refine (markEntryS_calls x.fEntries _ _ v6 _ HH6.out gnd (by omega) (by rw [← HQ6.out]; omega) l6).mono ?_)
      rintro e wb6 ⟨rfl, hr, hk⟩
      rw [← HQ6.out] at hr ⊢
      have hR := HG0.out wb6 (⟨kk, (kk + 1), (kk + 1 + 1), (kk + 1 + 1 + 1), (kk + 1 + 1 + 1 + 1), (kk + 1 + 1 + 1 + 1 + 1), q6.1, x.fCommit, x.fYes⟩ : DRaftMsg) (fun b hb hnb => hk.block b (Rp.Row_lt HR0.out b hb) (fun hc => hnb (by simp [hc]))) (kRaftMsg_make hr)
      rw [List.set_set] at hR
      have hK : KeptF F w wb6 := HK0.out.trans (hk.mono (fun b hb => (HGD.out b (by simp [hb])).1))
      clear hr hk gnd HR0 HK0 HG0 HGD HGN gF gl z0 y0 z1 y1 z2 y2 z3 y3 z4 y4 z5 y5 z6 y6 z7 y7 z8 y8 HH6
      obtain ⟨g2, cap2, c2_, F2, q0, gF, gl, q2, gd, gnd, q3, q5, gcl⟩ := Rp.Row_open2 hR hnF i (by rw [List.length_set]; exact hl2)
      rw [List.getElem_set_self] at q2
      obtain ⟨v6, F6, rfl, rfl, r6⟩ := kRaftMsg_open q2
      obtain rfl : g = g2 := by simp at q0; exact q0.1
      have z0 : wb6.cell? ⟨g, i * 9, none⟩ = some (.int .i64 kk) := q3 0 _ rfl
      have y0 : wb6.frozen? ⟨g, i * 9, none⟩ = false := q5 _
      have z1 : wb6.cell? ⟨g, i * 9 + 1, none⟩ = some (.int .i64 (kk + 1)) := q3 1 _ rfl
      have y1 : wb6.frozen? ⟨g, i * 9 + 1, none⟩ = false := q5 _
      have z2 : wb6.cell? ⟨g, i * 9 + 2, none⟩ = some (.int .i64 (kk + 1 + 1)) := q3 2 _ rfl
      have y2 : wb6.frozen? ⟨g, i * 9 + 2, none⟩ = false := q5 _
      have z3 : wb6.cell? ⟨g, i * 9 + 3, none⟩ = some (.int .i64 (kk + 1 + 1 + 1)) := q3 3 _ rfl
      have y3 : wb6.frozen? ⟨g, i * 9 + 3, none⟩ = false := q5 _
      have z4 : wb6.cell? ⟨g, i * 9 + 4, none⟩ = some (.int .i64 (kk + 1 + 1 + 1 + 1)) := q3 4 _ rfl
      have y4 : wb6.frozen? ⟨g, i * 9 + 4, none⟩ = false := q5 _
      have z5 : wb6.cell? ⟨g, i * 9 + 5, none⟩ = some (.int .i64 (kk + 1 + 1 + 1 + 1 + 1)) := q3 5 _ rfl
      have y5 : wb6.frozen? ⟨g, i * 9 + 5, none⟩ = false := q5 _
      have z6 : wb6.cell? ⟨g, i * 9 + 6, none⟩ = some (v6) := q3 6 _ rfl
      have y6 : wb6.frozen? ⟨g, i * 9 + 6, none⟩ = false := q5 _
      have z7 : wb6.cell? ⟨g, i * 9 + 7, none⟩ = some (.int .i64 x.fCommit) := q3 7 _ rfl
      have y7 : wb6.frozen? ⟨g, i * 9 + 7, none⟩ = false := q5 _
      have z8 : wb6.cell? ⟨g, i * 9 + 8, none⟩ = some (.bool x.fYes) := q3 8 _ rfl
      have y8 : wb6.frozen? ⟨g, i * 9 + 8, none⟩ = false := q5 _
      clear q0 q2 q3 q5
      have HR0 := Lib.hid hR; have HK0 := Lib.hid hK
      clear hR hK gcl gd gnd r6
      go_wp2
      have s7 := HR0.out
      have s8 := Rp.Row_store s7 hnF i (by rw [List.length_set]; exact hl2) 7 (by decide) (.int .i64 q6.2) (⟨kk, (kk + 1), (kk + 1 + 1), (kk + 1 + 1 + 1), (kk + 1 + 1 + 1 + 1), (kk + 1 + 1 + 1 + 1 + 1), q6.1, q6.2, x.fYes⟩ : DRaftMsg) (fun c F1 hM => by rw [List.getElem_set_self] at hM; obtain ⟨v6, F6, rfl, rfl, a6⟩ := kRaftMsg_open hM; exact kRaftMsg_make a6)
      rw [List.set_set] at s8
      have s9 := Rp.Row_store s8 hnF i (by rw [List.length_set]; exact hl2) 8 (by decide) (.bool ((q6.2 + 1) % 3 == 0)) (⟨kk, (kk + 1), (kk + 1 + 1), (kk + 1 + 1 + 1), (kk + 1 + 1 + 1 + 1), (kk + 1 + 1 + 1 + 1 + 1), q6.1, q6.2, ((q6.2 + 1) % 3 == 0)⟩ : DRaftMsg) (fun c F1 hM => by rw [List.getElem_set_self] at hM; obtain ⟨v6, F6, rfl, rfl, a6⟩ := kRaftMsg_open hM; exact kRaftMsg_make a6)
      rw [List.set_set] at s9
      simp only [kRaftMsg_sz, Nat.add_zero] at s9
      rw [HS.out, ← HZS.out] at s9
      exact ⟨⟨i + 1, by omega, by go_num, by rw [HKN.out, b4], s9, (by repeat (first | exact HK0.out | (refine KeptF.set ?_ (show g ∈ F from gF) _)))⟩, by simp [intOf]; omega⟩
    · go_wp2
      go_ret
      obtain rfl : i = xs.length := by omega
      exact ⟨ret_int mkNo_all, by rw [← mkAt_all]; exact HR.out, HK.out⟩

end Go.Proofs.Ytcimnhpgackciaa
