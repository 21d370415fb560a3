/- Drawn keys and items. -/
import Derived.Test.YthfhhfnimffpdaaCurB
namespace Go.Proofs.Ythfhhfnimffpdaa
open Go Go.RowKit Go.Sort
set_option linter.unusedVariables false
set_option linter.unusedSimpArgs false

theorem KeptF.newer {F : List Nat} {a b' c' : World} {g : Nat} (h : KeptF F a b') (hg : a.heap.size ≤ g) (k : KeptF [g] b' c') : KeptF F a c' :=
  ⟨k.os.trans h.os, k.tape.trans h.tape, k.output.trans h.output, Nat.le_trans h.size k.size, fun x hx hf => (k.block x (Nat.lt_of_lt_of_le hx h.size) (by simp; omega)).trans (h.block x hx hf)⟩
theorem S_three {w : World} {g : Nat} {x y z : Int} (h : Box w g #[.int .i64 x, .int .i64 y, .int .i64 z] 3) : kInt.S w [x, y, z] (.slice (some ⟨g, 0, none⟩) 3 3) := by
  refine ⟨_, _, rfl, ⟨Nat.le_refl _, by simp⟩, .inr ⟨g, 0, rfl, fun i v hi => ?_⟩⟩
  refine ⟨[.int .i64 v], rfl, fun j u hu => ?_⟩
  have hj : j = 0 := by rcases j with _ | j; rfl; simp at hu
  subst hj
  simp at hu
  subst hu
  rcases i with _ | _ | _ | i
  · simp at hi; subst hi; exact h.cell 0 rfl
  · simp at hi; subst hi; exact h.cell 1 rfl
  · simp at hi; subst hi; exact h.cell 2 rfl
  · simp at hi
theorem S_strs {w : World} {g : Nat} {xs : List ByteArray} {n : Nat} (h : Box w g (xs.map Value.string).toArray 9) (hn : xs.length = n) : (Rp.str).S w xs (.slice (some ⟨g, 0, none⟩) n n) := by
  subst hn
  refine ⟨_, _, rfl, ⟨Nat.le_refl _, by simp⟩, .inr ⟨g, 0, rfl, fun i v hi => ?_⟩⟩
  refine ⟨[.string v], rfl, fun j u hu => ?_⟩
  have hj : j = 0 := by rcases j with _ | j; rfl; simp at hu
  subst hj
  simp at hu
  subst hu
  have h0 := h.cell i (v := .string v) (by simp [hi])
  simpa [Rp.str, Rp.scalar] using h0
theorem str_flat : (Rp.str).Flat := ⟨fun h => h.1, fun h => ⟨rfl, h⟩⟩
set_option maxHeartbeats 4000000 in
theorem of_calls (xs : List ByteArray) {w : World} {b : Nat} {bs : List Int} {A A2 : Option Addr} {c c2 top n : Nat} (h : Cur w b bs A c top) (ht : top ≤ 100000000) (hx : (Rp.str).S w xs (.slice A2 n c2)) (hn : xs.length = n) (hl : 1 ≤ n) (hb : n ≤ 1000) (hne : ∀ a, A2 = some a → a.block ≠ b) :
    Calls Try.prog 58 #[.pointer (some ⟨b, 0, none⟩), .slice A2 n c2] w
    fun e w' => ∃ r : ByteArray, e = .returned (.string r) ∧ r ∈ xs ∧ KeptF [b] w w' ∧ Cur w' b bs A c (top + 2) := by
  subst hn
  have H := Lib.hid h; have HX := Lib.hid hx
  clear h hx
  go_enter Try.func58, Try.ntmps58
  go_wp2_with fail
  (with_reducible refine (pick_calls (xs.length : Int) H.out ht).mono ?_)
  rintro e w1 ⟨r, rfl, r0, r1, hk, h'⟩
  have H' := Lib.hid h'; have HK := Lib.hid hk
  have hX := S_keptC str_flat HX.out hk hne
  clear h' hk
  obtain ⟨k, rfl⟩ : ∃ k : Nat, r = (k : Int) := ⟨r.toNat, by omega⟩
  have hk : k < xs.length := by omega
  clear r1
  obtain ⟨A_, c_, e_, _, hC⟩ := hX
  obtain ⟨rfl, _, rfl⟩ := Value.slice.inj e_
  obtain ⟨g, o, cs, rfl, k1, q1⟩ := Rp.C_get hC k hk
  obtain rfl : cs = [.string xs[k]] := k1
  have a0 : w1.cell? ⟨g, o + k, none⟩ = some (.string xs[k]) := by
    have := q1 0 _ rfl
    simpa [Rp.str, Rp.scalar] using this
  have hm := List.getElem_mem hk
  generalize xs[k] = x at *
  have i1 : (0 : Int) ≤ (k : Int) := by omega
  have i2 : (k : Int) < (xs.length : Int) := by omega
  clear q1 hC e_
  go_wp2
  go_ret
  exact ⟨_, rfl, hm, HK.out, H'.out⟩
set_option maxHeartbeats 4000000 in
set_option maxRecDepth 100000 in
theorem key_calls {w : World} {b : Nat} {bs : List Int} {A : Option Addr} {c top : Nat} (h : Cur w b bs A c top) (ht : top ≤ 10000000) (hb : b < w.heap.size) : Calls Try.prog 49 #[.pointer (some ⟨b, 0, none⟩)] w
    fun e w' => ∃ s : ByteArray, e = .returned (.string s) ∧ s.size ≤ 17 ∧ KeptF [b] w w' ∧ Cur w' b bs A c (top + 4) := by
  have H := Lib.hid h; clear h
  go_enter Try.func49, Try.ntmps49
  go_wp2_with fail
  (with_reducible refine (one_calls 60 H.out (by omega)).mono ?_)
  rintro e w1 ⟨q, rfl, hk, h'⟩
  have HK := Lib.hid hk; have H := Lib.hid h'
  clear hk h'
  cases q
  · skip
    have hcs : Box (w1.alloc (.cells #[.string ⟨#[97]⟩, .string ⟨#[98]⟩, .string ⟨#[98, 97]⟩, .string ⟨#[99]⟩, .string ⟨#[99, 97, 114]⟩, .string ⟨#[100]⟩, .string ⟨#[101]⟩] 9)) w1.heap.size #[.string ⟨#[97]⟩, .string ⟨#[98]⟩, .string ⟨#[98, 97]⟩, .string ⟨#[99]⟩, .string ⟨#[99, 97, 114]⟩, .string ⟨#[100]⟩, .string ⟨#[101]⟩] 9 := Box.new rfl
    have hbA := (Below.refl w1.heap.size w1).alloc (Nat.le_refl _) (.cells #[.string ⟨#[97]⟩, .string ⟨#[98]⟩, .string ⟨#[98, 97]⟩, .string ⟨#[99]⟩, .string ⟨#[99, 97, 114]⟩, .string ⟨#[100]⟩, .string ⟨#[101]⟩] 9)
    have HC := Lib.hid (of_calls (n := 7) (c2 := 7) [(⟨#[97]⟩ : ByteArray), (⟨#[98]⟩ : ByteArray), (⟨#[98, 97]⟩ : ByteArray), (⟨#[99]⟩ : ByteArray), (⟨#[99, 97, 114]⟩ : ByteArray), (⟨#[100]⟩ : ByteArray), (⟨#[101]⟩ : ByteArray)] (H.out.below hbA) (by omega) (S_strs (n := 7) (xs := [(⟨#[97]⟩ : ByteArray), (⟨#[98]⟩ : ByteArray), (⟨#[98, 97]⟩ : ByteArray), (⟨#[99]⟩ : ByteArray), (⟨#[99, 97, 114]⟩ : ByteArray), (⟨#[100]⟩ : ByteArray), (⟨#[101]⟩ : ByteArray)]) hcs rfl) rfl (by decide) (by decide) (fun a ha => by simp at ha; subst ha; have := hb; have := HK.out.size; simp; omega))
    have HBA := Lib.hid hbA
    clear hcs hbA
    go_wp2_with fail
    (with_reducible refine HC.out.mono ?_)
    rintro e w2 ⟨r, rfl, hr, hk, h'⟩
    have hsz : r.size ≤ 17 := by
      simp at hr
      rcases hr with rfl | rfl | rfl | rfl | rfl | rfl | rfl <;> decide
    have HK2 := Lib.hid (HK.out.trans ((KeptF.of_below (F := [b]) HBA.out).trans hk)); have H2 := Lib.hid h'
    clear hk h' hr HC HBA
    go_wp2
    go_ret
    exact ⟨_, rfl, hsz, HK2.out, H2.out.mono (by omega)⟩
  · skip
    have hcs : Box (w1.alloc (.cells #[.string ⟨#[]⟩, .string ⟨#[49, 50, 51, 52, 53, 54, 55, 56, 57, 48, 49, 50, 51, 52, 53, 54, 55]⟩] 9)) w1.heap.size #[.string ⟨#[]⟩, .string ⟨#[49, 50, 51, 52, 53, 54, 55, 56, 57, 48, 49, 50, 51, 52, 53, 54, 55]⟩] 9 := Box.new rfl
    have hbA := (Below.refl w1.heap.size w1).alloc (Nat.le_refl _) (.cells #[.string ⟨#[]⟩, .string ⟨#[49, 50, 51, 52, 53, 54, 55, 56, 57, 48, 49, 50, 51, 52, 53, 54, 55]⟩] 9)
    have HC := Lib.hid (of_calls (n := 2) (c2 := 2) [(⟨#[]⟩ : ByteArray), (⟨#[49, 50, 51, 52, 53, 54, 55, 56, 57, 48, 49, 50, 51, 52, 53, 54, 55]⟩ : ByteArray)] (H.out.below hbA) (by omega) (S_strs (n := 2) (xs := [(⟨#[]⟩ : ByteArray), (⟨#[49, 50, 51, 52, 53, 54, 55, 56, 57, 48, 49, 50, 51, 52, 53, 54, 55]⟩ : ByteArray)]) hcs rfl) rfl (by decide) (by decide) (fun a ha => by simp at ha; subst ha; have := hb; have := HK.out.size; simp; omega))
    have HBA := Lib.hid hbA
    clear hcs hbA
    go_wp2_with fail
    (with_reducible refine HC.out.mono ?_)
    rintro e w2 ⟨r, rfl, hr, hk, h'⟩
    have hsz : r.size ≤ 17 := by
      simp at hr
      rcases hr with rfl | rfl <;> decide
    have HK2 := Lib.hid (HK.out.trans ((KeptF.of_below (F := [b]) HBA.out).trans hk)); have H2 := Lib.hid h'
    clear hk h' hr HC HBA
    go_wp2
    go_ret
    exact ⟨_, rfl, hsz, HK2.out, H2.out.mono (by omega)⟩
set_option maxHeartbeats 4000000 in
set_option maxRecDepth 100000 in
theorem item_calls {w : World} {b : Nat} {bs : List Int} {A : Option Addr} {c top : Nat} (h : Cur w b bs A c top) (ht : top ≤ 1000000) (hb : b < w.heap.size) (hA : bs ≠ [] → ∀ a, A = some a → a.block < w.heap.size) : Calls Try.prog 40 #[.pointer (some ⟨b, 0, none⟩)] w
    fun e w' => ∃ (ks : ByteArray) (sq kd : Int) (vs : ByteArray), e = .returned (.agg #[.string ks, .int .i64 sq, .int .i64 kd, .string vs]) ∧ ks.size ≤ 17 ∧ vs.size ≤ 41 ∧ (-1 ≤ sq ∧ sq ≤ 1000000001) ∧ (kd = 0 ∨ kd = 1) ∧ KeptF [b] w w' ∧ Cur w' b bs A c (top + 60) := by
  have BA : Box (w.alloc (.cells #[.string ⟨#[]⟩, .int .i64 0, .int .i64 0, .string ⟨#[]⟩] 50)) w.heap.size #[.string ⟨#[]⟩, .int .i64 0, .int .i64 0, .string ⟨#[]⟩] 50 := Box.new rfl
  have HBA := (Below.refl w.heap.size w).alloc (Nat.le_refl _) (.cells #[.string ⟨#[]⟩, .int .i64 0, .int .i64 0, .string ⟨#[]⟩] 50)
  have HSZ : w.heap.size + 1 ≤ (w.alloc (.cells #[.string ⟨#[]⟩, .int .i64 0, .int .i64 0, .string ⟨#[]⟩] 50)).heap.size := by simp
  go_enter Try.func40, Try.ntmps40
  go_upto_region 1 with fail
  generalize w.alloc (.cells #[.string ⟨#[]⟩, .int .i64 0, .int .i64 0, .string ⟨#[]⟩] 50) = w1 at *
  have B4 := Lib.hid BA; have H := Lib.hid (h.below HBA); have HK := Lib.hid (show KeptF [b] w w1 from KeptF.of_below HBA); have SZ := Lib.hid HSZ
  clear BA h HBA HSZ
  go_wp2_with fail
  (with_reducible refine (key_calls H.out (by omega) (by have := SZ.out; omega)).mono ?_)
  rintro e w2 ⟨ks, rfl, hks, hk, h'⟩
  have B4 := Lib.hid (B4.out.kept hk (by simp; omega)); have HK := Lib.hid (HK.out.trans hk); have SZ := Lib.hid (Nat.le_trans SZ.out hk.size); have H := Lib.hid h'; clear hk h'
  go_wp2_with fail
  (with_reducible refine (pick_calls 20 H.out (by omega)).mono ?_)
  rintro e w3 ⟨sq, rfl, sq0, sq1, hk, h'⟩
  have B4 := Lib.hid (B4.out.kept hk (by simp; omega)); have HK := Lib.hid (HK.out.trans hk); have SZ := Lib.hid (Nat.le_trans SZ.out hk.size); have H := Lib.hid h'; clear hk h'
  go_wp2_with fail
  (with_reducible refine (pick_calls 5 H.out (by omega)).mono ?_)
  rintro e w4 ⟨r, rfl, r0, r1, hk, h'⟩
  obtain ⟨m, rfl⟩ : ∃ m : Nat, r = (m : Int) := ⟨r.toNat, by omega⟩
  have hm : m ≤ 5 := by omega
  have B4 := Lib.hid (B4.out.kept hk (by simp; omega)); have HK := Lib.hid (HK.out.trans hk); have SZ := Lib.hid (Nat.le_trans SZ.out hk.size); have H := Lib.hid h'; clear hk h'
  clear r0 r1
  go_wp2_with fail
  (with_reducible refine (text_calls m H.out (by omega) (by omega) (by have := SZ.out; omega) (fun he a ha => by have := hA he a ha; have := SZ.out; omega)).mono ?_)
  rintro e w5 ⟨vs0, rfl, hv0, hk, h'⟩
  have B4 := Lib.hid (B4.out.kept hk (by simp; omega)); have HK := Lib.hid (HK.out.trans hk); have SZ := Lib.hid (Nat.le_trans SZ.out hk.size); have H := Lib.hid h'; clear hk h'
  have hv1 : vs0.size ≤ 41 := by omega
  clear hv0
  go_upto_region 2 with fail
  have b5 : Box (w5.alloc (.cells #[.string ks, .int .i64 sq, .int .i64 1, .string vs0] 50)) w5.heap.size #[.string ks, .int .i64 sq, .int .i64 1, .string vs0] 50 := Box.new rfl
  have hb5 := (Below.refl w5.heap.size w5).alloc (Nat.le_refl _) (.cells #[.string ks, .int .i64 sq, .int .i64 1, .string vs0] 50)
  have hg5 := SZ.out
  have sz5 : w5.heap.size + 1 ≤ (w5.alloc (.cells #[.string ks, .int .i64 sq, .int .i64 1, .string vs0] 50)).heap.size := by simp
  generalize w5.alloc (.cells #[.string ks, .int .i64 sq, .int .i64 1, .string vs0] 50) = w6 at *
  have B4 := Lib.hid (B4.out.below hb5); have HK := Lib.hid (HK.out.trans (KeptF.of_below hb5)); have SZ := Lib.hid sz5; have H := Lib.hid ((H.out.below hb5).mono (show top + 4 + 2 + 2 + 2 * m ≤ top + 20 by omega))
  have B5 := Lib.hid b5
  clear b5 hb5 sz5
  generalize w5.heap.size = g5 at *
  go_upto_if 14 with ((with_reducible refine (one_calls 4 H.out (by omega)).mono ?_); rintro e wq ⟨r2, rfl, hk, h'⟩; have B5 := Lib.hid (B5.out.kept hk (by simp; omega)); have B4 := Lib.hid (B4.out.kept hk (by simp; omega)); have HK := Lib.hid (HK.out.trans hk); have SZ := Lib.hid (Nat.le_trans SZ.out hk.size); have H := Lib.hid h'; clear hk h')
  go_cut [] from 15 to 16 (fun wx => ∃ (kd : Int) (vs : ByteArray), (kd = 0 ∨ kd = 1) ∧ vs.size ≤ 41 ∧ Hid (Box wx g5 #[.string ks, .int .i64 sq, .int .i64 kd, .string vs] 50) ∧ Hid (Box wx w.heap.size #[.string ⟨#[]⟩, .int .i64 0, .int .i64 0, .string ⟨#[]⟩] 50) ∧ Hid (KeptF [b] w wx) ∧ Hid (g5 + 1 ≤ wx.heap.size) ∧ Hid (Cur wx b bs A c (top + 30)))
  case first =>
    cases r2
    · go_wp2_with fail
      go_meet
      exact ⟨1, vs0, .inr rfl, hv1, B5.out, B4.out, HK.out, SZ.out, H.out.mono (by omega)⟩
    · have u2 := B5.out.cell 2 (v := .int .i64 1) rfl
      have f3 := B5.out.fro
      go_upto_region 4 with fail
      refine wp_genC (Q := fun W => Box W g5 #[.string ks, .int .i64 sq, .int .i64 0, .string vs0] 50 ∧ Box W w.heap.size #[.string ⟨#[]⟩, .int .i64 0, .int .i64 0, .string ⟨#[]⟩] 50 ∧ KeptF [b] w W ∧ g5 + 1 ≤ W.heap.size ∧ Cur W b bs A c (top + 30)) _ ⟨B5.out.set 2 _, Box_ne B4.out (kept_set _ _ _ _) (by omega), KeptF.newset HK.out (by omega) _ _, Nat.le_trans SZ.out (kept_set _ _ _ _).size, (H.out.kept (kept_set _ _ _ _) (by simp; omega) (fun he a ha => by have := hA he a ha; simp; omega)).mono (by omega)⟩ ?_
      clear u2 f3 B5 B4 HK SZ H
      rintro w7 ⟨b5, b4, hk0, hsz, hc⟩
      have B5 := Lib.hid b5; have B4 := Lib.hid b4; have HK := Lib.hid hk0; have SZ := Lib.hid hsz; have H := Lib.hid hc
      clear b5 b4 hk0 hsz hc
      have u3 := B5.out.cell 3 (v := .string vs0) rfl
      have f3 := B5.out.fro
      go_wp2_with fail
      go_meet
      exact ⟨0, ⟨#[]⟩, .inl rfl, by decide, B5.out.set 3 _, Box_ne B4.out (kept_set _ _ _ _) (by omega), KeptF.newset HK.out (by omega) _ _, Nat.le_trans SZ.out (kept_set _ _ _ _).size, (H.out.kept (kept_set _ _ _ _) (by simp; omega) (fun he a ha => by have := hA he a ha; simp; omega)).mono (by omega)⟩
  case rest =>
    clear B5 B4 HK SZ H
    obtain ⟨kd, vs, hkd, hvs, B5, B4, HK, SZ, H⟩ := hcut
    go_wp2_with fail
    (with_reducible refine (pick_calls 60 H.out (by omega)).mono ?_)
    rintro e w8 ⟨q, rfl, q0, q1, hk, h'⟩
    have B5 := Lib.hid (B5.out.kept hk (by simp; omega)); have B4 := Lib.hid (B4.out.kept hk (by simp; omega)); have HK := Lib.hid (HK.out.trans hk); have SZ := Lib.hid (Nat.le_trans SZ.out hk.size); have H := Lib.hid h'; clear hk h'
    by_cases hq0 : q = 0
    · subst hq0
      have hcs : Box (w8.alloc (.cells #[.int .i64 (-1), .int .i64 1000000000, .int .i64 1000000001] 3)) w8.heap.size #[.int .i64 (-1), .int .i64 1000000000, .int .i64 1000000001] 3 := Box.new rfl
      have hbA := (Below.refl w8.heap.size w8).alloc (Nat.le_refl _) (.cells #[.int .i64 (-1), .int .i64 1000000000, .int .i64 1000000001] 3)
      have HC := Lib.hid (show Calls Try.prog 51 #[.pointer (some ⟨b, 0, none⟩), .slice (some ⟨w8.heap.size, 0, none⟩) 3 3] _ _ from among_calls [-1, 1000000000, 1000000001] (H.out.below hbA) (by omega) (S_three hcs) (by decide) (by decide) (fun a ha => by simp at ha; subst ha; have := SZ.out; simp; omega))
      have HBA := Lib.hid hbA
      clear hcs hbA
      go_wp2_with fail
      (with_reducible refine HC.out.mono ?_)
      rintro e w9 ⟨t, rfl, htm, hk, h'⟩
      have htr : -1 ≤ t ∧ t ≤ 1000000001 := by simp at htm; omega
      replace hk := (KeptF.of_below (F := [b]) HBA.out).trans hk
      have B5 := Lib.hid (B5.out.kept hk (by simp; omega)); have B4 := Lib.hid (B4.out.kept hk (by simp; omega)); have HK := Lib.hid (HK.out.trans hk); have SZ := Lib.hid (Nat.le_trans SZ.out hk.size); have H := Lib.hid h'; clear hk h'
      clear HC HBA htm
      have u1 := B5.out.cell 1 (v := .int .i64 sq) rfl
      have f3 := B5.out.fro
      go_upto_region 10 with fail
      refine wp_genC (Q := fun W => Box W w.heap.size #[.string ⟨#[]⟩, .int .i64 0, .int .i64 0, .string ⟨#[]⟩] 50 ∧ Box W g5 #[.string ks, .int .i64 t, .int .i64 kd, .string vs] 50 ∧ KeptF [b] w W ∧ Cur W b bs A c (top + 60)) _ ⟨Box_ne B4.out (kept_set _ _ _ _) (by omega), B5.out.set 1 _, KeptF.newset HK.out (by omega) _ _, (H.out.kept (kept_set _ _ _ _) (by simp; omega) (fun he a ha => by have := hA he a ha; simp; omega)).mono (by omega)⟩ ?_
      clear u1 f3 B4 B5 HK H
      rintro wz ⟨B4, B5, HK, H⟩
      have a0 := B5.cell 0 (v := .string ks) rfl; have a1 := B5.cell 1 (v := .int .i64 t) rfl; have a2 := B5.cell 2 (v := .int .i64 kd) rfl; have a3 := B5.cell 3 (v := .string vs) rfl
      have z0 := B4.cell 0 (v := .string ⟨#[]⟩) rfl; have z1 := B4.cell 1 (v := .int .i64 0) rfl; have z2 := B4.cell 2 (v := .int .i64 0) rfl; have z3 := B4.cell 3 (v := .string ⟨#[]⟩) rfl
      have f0 := B4.fro
      have BX := Lib.hid B4; have HK := Lib.hid HK; have H := Lib.hid H
      clear B4 B5
      go_wp2
      have hk : KeptF [w.heap.size] wz (Rp.setN wz w.heap.size 0 [.string ks, .int .i64 t, .int .i64 kd, .string vs]) := Rp.setN_kept (by simp) _ _ _ (KeptF.refl _ _)
      have bf : Box (Rp.setN wz w.heap.size 0 [.string ks, .int .i64 t, .int .i64 kd, .string vs]) w.heap.size #[.string ks, .int .i64 t, .int .i64 kd, .string vs] 50 := by
        have h := Box.setN [.string ks, .int .i64 t, .int .i64 kd, .string vs] BX.out 0
        rw [setA_all (by rfl)] at h
        exact h
      change bodyPost _ _ _ _ _ (Rp.setN wz w.heap.size 0 [.string ks, .int .i64 t, .int .i64 kd, .string vs])
      have HF := Lib.hid (KeptF.newer HK.out (Nat.le_refl _) hk)
      have H := Lib.hid (H.out.kept hk (by simp; omega) (fun he a ha => by have := hA he a ha; simp; omega))
      clear a0 a1 a2 a3 z0 z1 z2 z3 f0 hk
      generalize Rp.setN wz w.heap.size 0 [.string ks, .int .i64 t, .int .i64 kd, .string vs] = wf at *
      have d0 := bf.cell 0 (v := .string ks) rfl; have d1 := bf.cell 1 (v := .int .i64 t) rfl; have d2 := bf.cell 2 (v := .int .i64 kd) rfl; have d3 := bf.cell 3 (v := .string vs) rfl
      refine bodyPost_ret (v := .agg #[.string ks, .int .i64 t, .int .i64 kd, .string vs]) (by simp [results, Try.results40, go_sem, d0, d1, d2, d3]) rfl ?_
      exact ⟨ks, t, kd, vs, rfl, hks, hvs, htr, hkd, HF.out, H.out⟩
    by_cases hq1 : q = 1
    · subst hq1
      go_wp2_with fail
      (with_reducible refine (pick_calls 2 H.out (by omega)).mono ?_)
      rintro e w9 ⟨r, rfl, r0, r1, hk, h'⟩
      obtain ⟨m2, rfl⟩ : ∃ m : Nat, r = (m : Int) := ⟨r.toNat, by omega⟩
      have hm2 : m2 ≤ 1 := by omega
      have B5 := Lib.hid (B5.out.kept hk (by simp; omega)); have B4 := Lib.hid (B4.out.kept hk (by simp; omega)); have HK := Lib.hid (HK.out.trans hk); have SZ := Lib.hid (Nat.le_trans SZ.out hk.size); have H := Lib.hid h'; clear hk h'
      clear r0 r1
      obtain ⟨wa, hmk, hR, hB, hlt0⟩ := mk_full (P := Try.prog) w9 22 5 kByte 0 Try.underlying22 infoByteC rfl (fun w => ⟨rfl, rfl⟩) (40 + m2) (by omega) (by decide)
      rw [show (((40 + m2 : Nat)) : Int) = 40 + (m2 : Int) by omega] at hmk
      have hcv := run_convert_bytes_arg (P := Try.prog) (w := wa) 22 5 Try.underlying22 Try.underlying5 w9.heap.size 0 (40 + m2) (40 + m2) (List.replicate (40 + m2) 0) (by simp) (fun i hi => by
        obtain ⟨A_, c_, e_, _, hC⟩ := Rp.Row_K hR
        obtain ⟨rfl, _, rfl⟩ := Value.slice.inj e_
        obtain ⟨g, o, cs, hA2, k1, q1⟩ := Rp.C_get hC i (by simp; omega)
        simp at hA2
        obtain ⟨rfl, rfl⟩ := hA2
        obtain rfl : cs = [.int .u8 (List.replicate (40 + m2) (0 : Int))[i]] := k1
        have := q1 0 _ rfl
        simpa [Rp.int, Rp.scalar, List.getD, List.getElem?_replicate, hi] using this) 9 Try.underlying9
      have hs2 : (strOfNums (List.replicate (40 + m2) 0)).size ≤ 41 := by rw [strOfNums_size, List.length_replicate]; omega
      generalize strOfNums (List.replicate (40 + m2) 0) = s2 at *
      have B4 := Lib.hid (B4.out.below hB); have B5 := Lib.hid (B5.out.below hB); have HK := Lib.hid (HK.out.trans (KeptF.of_below hB)); have H := Lib.hid (H.out.below hB)
      clear hR hB hlt0
      have u3 := B5.out.cell 3 (v := .string vs) rfl
      have f3 := B5.out.fro
      go_upto_region 10 with fail
      refine wp_genC (Q := fun W => Box W w.heap.size #[.string ⟨#[]⟩, .int .i64 0, .int .i64 0, .string ⟨#[]⟩] 50 ∧ Box W g5 #[.string ks, .int .i64 sq, .int .i64 kd, .string s2] 50 ∧ KeptF [b] w W ∧ Cur W b bs A c (top + 60)) _ ⟨Box_ne B4.out (kept_set _ _ _ _) (by omega), B5.out.set 3 _, KeptF.newset HK.out (by omega) _ _, (H.out.kept (kept_set _ _ _ _) (by simp; omega) (fun he a ha => by have := hA he a ha; simp; omega)).mono (by omega)⟩ ?_
      clear u3 f3 B4 B5 HK H hmk hcv
      rintro wz ⟨B4, B5, HK, H⟩
      have a0 := B5.cell 0 (v := .string ks) rfl; have a1 := B5.cell 1 (v := .int .i64 sq) rfl; have a2 := B5.cell 2 (v := .int .i64 kd) rfl; have a3 := B5.cell 3 (v := .string s2) rfl
      have z0 := B4.cell 0 (v := .string ⟨#[]⟩) rfl; have z1 := B4.cell 1 (v := .int .i64 0) rfl; have z2 := B4.cell 2 (v := .int .i64 0) rfl; have z3 := B4.cell 3 (v := .string ⟨#[]⟩) rfl
      have f0 := B4.fro
      have BX := Lib.hid B4; have HK := Lib.hid HK; have H := Lib.hid H
      clear B4 B5
      go_wp2
      have hk : KeptF [w.heap.size] wz (Rp.setN wz w.heap.size 0 [.string ks, .int .i64 sq, .int .i64 kd, .string s2]) := Rp.setN_kept (by simp) _ _ _ (KeptF.refl _ _)
      have bf : Box (Rp.setN wz w.heap.size 0 [.string ks, .int .i64 sq, .int .i64 kd, .string s2]) w.heap.size #[.string ks, .int .i64 sq, .int .i64 kd, .string s2] 50 := by
        have h := Box.setN [.string ks, .int .i64 sq, .int .i64 kd, .string s2] BX.out 0
        rw [setA_all (by rfl)] at h
        exact h
      change bodyPost _ _ _ _ _ (Rp.setN wz w.heap.size 0 [.string ks, .int .i64 sq, .int .i64 kd, .string s2])
      have HF := Lib.hid (KeptF.newer HK.out (Nat.le_refl _) hk)
      have H := Lib.hid (H.out.kept hk (by simp; omega) (fun he a ha => by have := hA he a ha; simp; omega))
      clear a0 a1 a2 a3 z0 z1 z2 z3 f0 hk
      generalize Rp.setN wz w.heap.size 0 [.string ks, .int .i64 sq, .int .i64 kd, .string s2] = wf at *
      have d0 := bf.cell 0 (v := .string ks) rfl; have d1 := bf.cell 1 (v := .int .i64 sq) rfl; have d2 := bf.cell 2 (v := .int .i64 kd) rfl; have d3 := bf.cell 3 (v := .string s2) rfl
      refine bodyPost_ret (v := .agg #[.string ks, .int .i64 sq, .int .i64 kd, .string s2]) (by simp [results, Try.results40, go_sem, d0, d1, d2, d3]) rfl ?_
      exact ⟨ks, sq, kd, s2, rfl, hks, hs2, by omega, hkd, HF.out, H.out⟩
    go_upto_region 10 with fail
    refine wp_genC (Q := fun W => Box W w.heap.size #[.string ⟨#[]⟩, .int .i64 0, .int .i64 0, .string ⟨#[]⟩] 50 ∧ Box W g5 #[.string ks, .int .i64 sq, .int .i64 kd, .string vs] 50 ∧ KeptF [b] w W ∧ Cur W b bs A c (top + 60)) _ ⟨B4.out, B5.out, HK.out, H.out.mono (by omega)⟩ ?_
    clear B4 B5 HK H
    rintro wz ⟨B4, B5, HK, H⟩
    have a0 := B5.cell 0 (v := .string ks) rfl; have a1 := B5.cell 1 (v := .int .i64 sq) rfl; have a2 := B5.cell 2 (v := .int .i64 kd) rfl; have a3 := B5.cell 3 (v := .string vs) rfl
    have z0 := B4.cell 0 (v := .string ⟨#[]⟩) rfl; have z1 := B4.cell 1 (v := .int .i64 0) rfl; have z2 := B4.cell 2 (v := .int .i64 0) rfl; have z3 := B4.cell 3 (v := .string ⟨#[]⟩) rfl
    have f0 := B4.fro
    have BX := Lib.hid B4; have HK := Lib.hid HK; have H := Lib.hid H
    clear B4 B5
    go_wp2
    have hk : KeptF [w.heap.size] wz (Rp.setN wz w.heap.size 0 [.string ks, .int .i64 sq, .int .i64 kd, .string vs]) := Rp.setN_kept (by simp) _ _ _ (KeptF.refl _ _)
    have bf : Box (Rp.setN wz w.heap.size 0 [.string ks, .int .i64 sq, .int .i64 kd, .string vs]) w.heap.size #[.string ks, .int .i64 sq, .int .i64 kd, .string vs] 50 := by
      have h := Box.setN [.string ks, .int .i64 sq, .int .i64 kd, .string vs] BX.out 0
      rw [setA_all (by rfl)] at h
      exact h
    change bodyPost _ _ _ _ _ (Rp.setN wz w.heap.size 0 [.string ks, .int .i64 sq, .int .i64 kd, .string vs])
    have HF := Lib.hid (KeptF.newer HK.out (Nat.le_refl _) hk)
    have H := Lib.hid (H.out.kept hk (by simp; omega) (fun he a ha => by have := hA he a ha; simp; omega))
    clear a0 a1 a2 a3 z0 z1 z2 z3 f0 hk
    generalize Rp.setN wz w.heap.size 0 [.string ks, .int .i64 sq, .int .i64 kd, .string vs] = wf at *
    have d0 := bf.cell 0 (v := .string ks) rfl; have d1 := bf.cell 1 (v := .int .i64 sq) rfl; have d2 := bf.cell 2 (v := .int .i64 kd) rfl; have d3 := bf.cell 3 (v := .string vs) rfl
    refine bodyPost_ret (v := .agg #[.string ks, .int .i64 sq, .int .i64 kd, .string vs]) (by simp [results, Try.results40, go_sem, d0, d1, d2, d3]) rfl ?_
    exact ⟨ks, sq, kd, vs, rfl, hks, hvs, by omega, hkd, HF.out, H.out⟩
end Go.Proofs.Ythfhhfnimffpdaa
