/- A drawn entry. -/
import Derived.Test.YtjigbmgfjmghcaaCurB
import Derived.Test.YtjigbmgfjmghcaaG1
namespace Go.Proofs.Ytjigbmgfjmghcaa
open Go Go.RowKit Go.Sort
set_option linter.unusedVariables false
set_option linter.unusedSimpArgs false

theorem KeptF.newer {F : List Nat} {a b' c' : World} {g : Nat} (h : KeptF F a b') (hg : a.heap.size ≤ g) (k : KeptF [g] b' c') : KeptF F a c' :=
  ⟨k.os.trans h.os, k.tape.trans h.tape, k.output.trans h.output, Nat.le_trans h.size k.size, fun x hx hf => (k.block x (Nat.lt_of_lt_of_le hx h.size) (by simp; omega)).trans (h.block x hx hf)⟩
theorem S_three {w : World} {g : Nat} {x y z : Int} (h : Box w g #[.int .i64 x, .int .i64 y, .int .i64 z] 3) : kInt.S w [x, y, z] (.slice (some ⟨g, 0, none⟩) 3 3) := by
  refine ⟨_, _, rfl, ⟨Nat.le_refl _, by simp⟩, .inr ⟨g, 0, rfl, fun i v hi => ?_⟩⟩
  refine ⟨[.int .i64 v], rfl, fun j u hu => ?_⟩
  have hj : j = 0 := by rcases j with _ | j; rfl; simp at hu
  subst hj
  simp at hu
  subst hu
  rcases i with _ | _ | _ | i
  · simp at hi; subst hi; exact h.cell 0 rfl
  · simp at hi; subst hi; exact h.cell 1 rfl
  · simp at hi; subst hi; exact h.cell 2 rfl
  · simp at hi
set_option maxHeartbeats 4000000 in
set_option maxRecDepth 100000 in
theorem entry_calls (te : Int) {w : World} {b : Nat} {bs : List Int} {A : Option Addr} {c top : Nat} (h : Cur w b bs A c top) (ht : top ≤ 1000000) (hb : b < w.heap.size) (hA : bs ≠ [] → ∀ a, A = some a → a.block < w.heap.size) : Calls Try.prog 16 #[.pointer (some ⟨b, 0, none⟩), .int .i64 te] w
    fun e w' => ∃ (t : Int) (s : ByteArray), e = .returned (.agg #[.int .i64 t, .string s]) ∧ s.size ≤ 101 ∧ (t = te ∨ 0 ≤ t ∧ t ≤ 1000001) ∧ KeptF [b] w w' ∧ Cur w' b bs A c (top + 200) := by
  have BA : Box (w.alloc (.cells #[.int .i64 0, .string ⟨#[]⟩] 27)) w.heap.size #[.int .i64 0, .string ⟨#[]⟩] 27 := Box.new rfl
  have HBA := (Below.refl w.heap.size w).alloc (Nat.le_refl _) (.cells #[.int .i64 0, .string ⟨#[]⟩] 27)
  have HSZ : w.heap.size + 1 ≤ (w.alloc (.cells #[.int .i64 0, .string ⟨#[]⟩] 27)).heap.size := by simp
  go_enter Try.func16, Try.ntmps16
  go_upto_region 1 with fail
  generalize w.alloc (.cells #[.int .i64 0, .string ⟨#[]⟩] 27) = w1 at *
  have B4 := Lib.hid BA; have H := Lib.hid (h.below HBA); have HK := Lib.hid (show KeptF [b] w w1 from KeptF.of_below HBA); have SZ := Lib.hid HSZ
  clear BA h HBA HSZ
  go_wp2_with fail
  (with_reducible refine (pick_calls 30 H.out (by omega)).mono ?_)
  rintro e w2 ⟨r, rfl, r0, r1, hk, h'⟩
  obtain ⟨m, rfl⟩ : ∃ m : Nat, r = (m : Int) := ⟨r.toNat, by omega⟩
  have hm : m ≤ 30 := by omega
  have B4 := Lib.hid (B4.out.kept hk (by simp; omega)); have HK := Lib.hid (HK.out.trans hk); have SZ := Lib.hid (Nat.le_trans SZ.out hk.size); have H := Lib.hid h'
  clear hk h' r0 r1
  go_wp2_with fail
  (with_reducible refine (text_calls m H.out (by omega) (by omega) (by have := SZ.out; omega) (fun he a ha => by have := hA he a ha; have := SZ.out; omega)).mono ?_)
  rintro e w3 ⟨s, rfl, hss, hk, h'⟩
  have B4 := Lib.hid (B4.out.kept hk (by simp; omega)); have HK := Lib.hid (HK.out.trans hk); have SZ := Lib.hid (Nat.le_trans SZ.out hk.size); have H := Lib.hid (h'.mono (show top + 2 + 2 * m ≤ top + 62 by omega))
  clear hk h'
  have hss2 : s.size ≤ 101 := by omega
  clear hss hm
  go_upto_region 2 with fail
  have b5 : Box (w3.alloc (.cells #[.int .i64 te, .string s] 27)) w3.heap.size #[.int .i64 te, .string s] 27 := Box.new rfl
  have hb5 := (Below.refl w3.heap.size w3).alloc (Nat.le_refl _) (.cells #[.int .i64 te, .string s] 27)
  have hg5 := SZ.out
  have sz5 : w3.heap.size + 1 ≤ (w3.alloc (.cells #[.int .i64 te, .string s] 27)).heap.size := by simp
  generalize w3.alloc (.cells #[.int .i64 te, .string s] 27) = w4 at *
  have B4 := Lib.hid (B4.out.below hb5); have HK := Lib.hid (HK.out.trans (KeptF.of_below hb5)); have SZ := Lib.hid sz5; have H := Lib.hid (H.out.below hb5)
  have B5 := Lib.hid b5
  clear b5 hb5 sz5
  generalize w3.heap.size = g5 at *
  go_wp2_with fail
  (with_reducible refine (pick_calls 60 H.out (by omega)).mono ?_)
  rintro e w5 ⟨q, rfl, q0, q1, hk, h'⟩
  have B4 := Lib.hid (B4.out.kept hk (by simp; omega)); have B5 := Lib.hid (B5.out.kept hk (by simp; omega)); have HK := Lib.hid (HK.out.trans hk); have SZ := Lib.hid (Nat.le_trans SZ.out hk.size); have H := Lib.hid h'
  clear hk h'
  by_cases hq0 : q = 0
  · subst hq0
    have hcs : Box (w5.alloc (.cells #[.int .i64 0, .int .i64 1000000, .int .i64 1000001] 3)) w5.heap.size #[.int .i64 0, .int .i64 1000000, .int .i64 1000001] 3 := Box.new rfl
    have hbA := (Below.refl w5.heap.size w5).alloc (Nat.le_refl _) (.cells #[.int .i64 0, .int .i64 1000000, .int .i64 1000001] 3)
    have HC := Lib.hid (show Calls Try.prog 31 #[.pointer (some ⟨b, 0, none⟩), .slice (some ⟨w5.heap.size, 0, none⟩) 3 3] _ _ from among_calls [0, 1000000, 1000001] (H.out.below hbA) (by omega) (S_three hcs) (by decide) (by decide) (fun a ha => by simp at ha; subst ha; have := SZ.out; simp; omega))
    have HBA := Lib.hid hbA
    clear hcs hbA
    go_wp2_with fail
    (with_reducible refine HC.out.mono ?_)
    rintro e w6 ⟨t, rfl, htm, hk, h'⟩
    have htr : 0 ≤ t ∧ t ≤ 1000001 := by simp at htm; omega
    have hk2 := (KeptF.of_below (F := [b]) HBA.out).trans hk
    have B4 := Lib.hid (B4.out.kept hk2 (by simp; omega)); have B5 := Lib.hid (B5.out.kept hk2 (by simp; omega)); have HK := Lib.hid (HK.out.trans hk2); have H := Lib.hid h'
    clear hk h' hk2 HC HBA htm
    have u0 := B5.out.cell 0 (v := .int .i64 te) rfl
    have f5 := B5.out.fro
    go_upto_region 7 with fail
    refine wp_genC (Q := fun W => Box W w.heap.size #[.int .i64 0, .string ⟨#[]⟩] 27 ∧ Box W g5 #[.int .i64 t, .string s] 27 ∧ KeptF [b] w W ∧ Cur W b bs A c (top + 200)) _ ⟨Box_ne B4.out (kept_set _ _ _ _) (by omega), B5.out.set 0 _, KeptF.newset HK.out (by omega) _ _, (H.out.kept (kept_set _ _ _ _) (by simp; omega) (fun he a ha => by have := hA he a ha; simp; omega)).mono (by omega)⟩ ?_
    clear u0 f5 B4 B5 HK H
    rintro wz ⟨B4, B5, HK, H⟩
    have a0 := B5.cell 0 (v := .int .i64 t) rfl; have a1 := B5.cell 1 (v := .string s) rfl
    have z0 := B4.cell 0 (v := .int .i64 0) rfl; have z1 := B4.cell 1 (v := .string ⟨#[]⟩) rfl
    have f0 := B4.fro
    have BX := Lib.hid B4; have HK := Lib.hid HK; have H := Lib.hid H
    clear B4 B5
    go_wp2
    have hk : KeptF [w.heap.size] wz (Rp.setN wz w.heap.size 0 [.int .i64 t, .string s]) := Rp.setN_kept (by simp) _ _ _ (KeptF.refl _ _)
    have bf : Box (Rp.setN wz w.heap.size 0 [.int .i64 t, .string s]) w.heap.size #[.int .i64 t, .string s] 27 := by
      have h := Box.setN [.int .i64 t, .string s] BX.out 0
      rw [setA_all (by rfl)] at h
      exact h
    change bodyPost _ _ _ _ _ (Rp.setN wz w.heap.size 0 [.int .i64 t, .string s])
    have HF := Lib.hid (KeptF.newer HK.out (Nat.le_refl _) hk)
    have H := Lib.hid (H.out.kept hk (by simp; omega) (fun he a ha => by have := hA he a ha; simp; omega))
    clear a0 a1 z0 z1 f0 hk
    generalize Rp.setN wz w.heap.size 0 [.int .i64 t, .string s] = wf at *
    have d0 := bf.cell 0 (v := .int .i64 t) rfl; have d1 := bf.cell 1 (v := .string s) rfl
    refine bodyPost_ret (v := .agg #[.int .i64 t, .string s]) (by simp [results, Try.results16, go_sem, d0, d1]) rfl ?_
    exact ⟨t, s, rfl, hss2, .inr htr, HF.out, H.out⟩
  by_cases hq1 : q = 1
  · subst hq1
    go_wp2_with fail
    (with_reducible refine (pick_calls 2 H.out (by omega)).mono ?_)
    rintro e w6 ⟨r, rfl, r0, r1, hk, h'⟩
    obtain ⟨m2, rfl⟩ : ∃ m : Nat, r = (m : Int) := ⟨r.toNat, by omega⟩
    have hm2 : m2 ≤ 1 := by omega
    have B4 := Lib.hid (B4.out.kept hk (by simp; omega)); have B5 := Lib.hid (B5.out.kept hk (by simp; omega)); have HK := Lib.hid (HK.out.trans hk); have SZ := Lib.hid (Nat.le_trans SZ.out hk.size); have H := Lib.hid h'
    clear hk h' r0 r1
    obtain ⟨w7, hmk, hR, hB, hlt0⟩ := mk_full (P := Try.prog) w6 22 5 kByte 0 Try.underlying22 infoByteC rfl (fun w => ⟨rfl, rfl⟩) (100 + m2) (by omega) (by decide)
    rw [show (((100 + m2 : Nat)) : Int) = 100 + (m2 : Int) by omega] at hmk
    have hcv := run_convert_bytes_arg (P := Try.prog) (w := w7) 22 5 Try.underlying22 Try.underlying5 w6.heap.size 0 (100 + m2) (100 + m2) (List.replicate (100 + m2) 0) (by simp) (fun i hi => by
      obtain ⟨A_, c_, e_, _, hC⟩ := Rp.Row_K hR
      obtain ⟨rfl, _, rfl⟩ := Value.slice.inj e_
      obtain ⟨g, o, cs, hA2, k1, q1⟩ := Rp.C_get hC i (by simp; omega)
      simp at hA2
      obtain ⟨rfl, rfl⟩ := hA2
      obtain rfl : cs = [.int .u8 (List.replicate (100 + m2) (0 : Int))[i]] := k1
      have := q1 0 _ rfl
      simpa [Rp.int, Rp.scalar, List.getD, List.getElem?_replicate, hi] using this) 9 Try.underlying9
    have hs2 : (strOfNums (List.replicate (100 + m2) 0)).size ≤ 101 := by rw [strOfNums_size, List.length_replicate]; omega
    generalize strOfNums (List.replicate (100 + m2) 0) = s2 at *
    have B4 := Lib.hid (B4.out.below hB); have B5 := Lib.hid (B5.out.below hB); have HK := Lib.hid (HK.out.trans (KeptF.of_below hB)); have H := Lib.hid (H.out.below hB)
    clear hR hB hlt0
    have u1 := B5.out.cell 1 (v := .string s) rfl
    have f5 := B5.out.fro
    go_upto_region 7 with fail
    refine wp_genC (Q := fun W => Box W w.heap.size #[.int .i64 0, .string ⟨#[]⟩] 27 ∧ Box W g5 #[.int .i64 te, .string s2] 27 ∧ KeptF [b] w W ∧ Cur W b bs A c (top + 200)) _ ⟨Box_ne B4.out (kept_set _ _ _ _) (by omega), B5.out.set 1 _, KeptF.newset HK.out (by omega) _ _, (H.out.kept (kept_set _ _ _ _) (by simp; omega) (fun he a ha => by have := hA he a ha; simp; omega)).mono (by omega)⟩ ?_
    clear u1 f5 B4 B5 HK H hmk hcv
    rintro wz ⟨B4, B5, HK, H⟩
    have a0 := B5.cell 0 (v := .int .i64 te) rfl; have a1 := B5.cell 1 (v := .string s2) rfl
    have z0 := B4.cell 0 (v := .int .i64 0) rfl; have z1 := B4.cell 1 (v := .string ⟨#[]⟩) rfl
    have f0 := B4.fro
    have BX := Lib.hid B4; have HK := Lib.hid HK; have H := Lib.hid H
    clear B4 B5
    go_wp2
    have hk : KeptF [w.heap.size] wz (Rp.setN wz w.heap.size 0 [.int .i64 te, .string s2]) := Rp.setN_kept (by simp) _ _ _ (KeptF.refl _ _)
    have bf : Box (Rp.setN wz w.heap.size 0 [.int .i64 te, .string s2]) w.heap.size #[.int .i64 te, .string s2] 27 := by
      have h := Box.setN [.int .i64 te, .string s2] BX.out 0
      rw [setA_all (by rfl)] at h
      exact h
    change bodyPost _ _ _ _ _ (Rp.setN wz w.heap.size 0 [.int .i64 te, .string s2])
    have HF := Lib.hid (KeptF.newer HK.out (Nat.le_refl _) hk)
    have H := Lib.hid (H.out.kept hk (by simp; omega) (fun he a ha => by have := hA he a ha; simp; omega))
    clear a0 a1 z0 z1 f0 hk
    generalize Rp.setN wz w.heap.size 0 [.int .i64 te, .string s2] = wf at *
    have d0 := bf.cell 0 (v := .int .i64 te) rfl; have d1 := bf.cell 1 (v := .string s2) rfl
    refine bodyPost_ret (v := .agg #[.int .i64 te, .string s2]) (by simp [results, Try.results16, go_sem, d0, d1]) rfl ?_
    exact ⟨te, s2, rfl, hs2, .inl rfl, HF.out, H.out⟩
  go_upto_region 7 with fail
  refine wp_genC (Q := fun W => Box W w.heap.size #[.int .i64 0, .string ⟨#[]⟩] 27 ∧ Box W g5 #[.int .i64 te, .string s] 27 ∧ KeptF [b] w W ∧ Cur W b bs A c (top + 200)) _ ⟨B4.out, B5.out, HK.out, H.out.mono (by omega)⟩ ?_
  clear B4 B5 HK H
  rintro wz ⟨B4, B5, HK, H⟩
  have a0 := B5.cell 0 (v := .int .i64 te) rfl; have a1 := B5.cell 1 (v := .string s) rfl
  have z0 := B4.cell 0 (v := .int .i64 0) rfl; have z1 := B4.cell 1 (v := .string ⟨#[]⟩) rfl
  have f0 := B4.fro
  have BX := Lib.hid B4; have HK := Lib.hid HK; have H := Lib.hid H
  clear B4 B5
  go_wp2
  have hk : KeptF [w.heap.size] wz (Rp.setN wz w.heap.size 0 [.int .i64 te, .string s]) := Rp.setN_kept (by simp) _ _ _ (KeptF.refl _ _)
  have bf : Box (Rp.setN wz w.heap.size 0 [.int .i64 te, .string s]) w.heap.size #[.int .i64 te, .string s] 27 := by
    have h := Box.setN [.int .i64 te, .string s] BX.out 0
    rw [setA_all (by rfl)] at h
    exact h
  change bodyPost _ _ _ _ _ (Rp.setN wz w.heap.size 0 [.int .i64 te, .string s])
  have HF := Lib.hid (KeptF.newer HK.out (Nat.le_refl _) hk)
  have H := Lib.hid (H.out.kept hk (by simp; omega) (fun he a ha => by have := hA he a ha; simp; omega))
  clear a0 a1 z0 z1 f0 hk
  generalize Rp.setN wz w.heap.size 0 [.int .i64 te, .string s] = wf at *
  have d0 := bf.cell 0 (v := .int .i64 te) rfl; have d1 := bf.cell 1 (v := .string s) rfl
  refine bodyPost_ret (v := .agg #[.int .i64 te, .string s]) (by simp [results, Try.results16, go_sem, d0, d1]) rfl ?_
  exact ⟨te, s, rfl, hss2, .inl rfl, HF.out, H.out⟩
end Go.Proofs.Ytjigbmgfjmghcaa
