/- Drawn numbers and texts. -/
import Derived.Test.YthfhhfnimffpdaaCur
import Derived.Laws.IdiomStrings
import Derived.Laws.BytesArg
namespace Go.Proofs.Ythfhhfnimffpdaa
open Go Go.RowKit Go.Sort
set_option linter.unusedVariables false
set_option linter.unusedSimpArgs false

theorem Cur.mono {w : World} {b : Nat} {bs : List Int} {A : Option Addr} {c t u : Nat} (h : Cur w b bs A c t) (htu : t ≤ u) : Cur w b bs A c u := by
  obtain ⟨⟨k, sd, B, hk, h0, h1⟩, S, ne, by_, hl⟩ := h
  exact ⟨⟨k, sd, B, Nat.le_trans hk htu, h0, h1⟩, S, ne, by_, hl⟩
/-- What lies in other blocks has turned. -/
theorem Cur.kept {w w' : World} {b : Nat} {bs : List Int} {A : Option Addr} {c t : Nat} {F : List Nat} (h : Cur w b bs A c t) (hk : KeptF F w w') (hb : b ∉ F) (hA : bs ≠ [] → ∀ a, A = some a → a.block ∉ F) : Cur w' b bs A c t := by
  obtain ⟨⟨k, sd, B, hk', h0, h1⟩, S, ne, by_, hl⟩ := h
  refine ⟨⟨k, sd, B.kept hk hb, hk', h0, h1⟩, ?_, ne, by_, hl⟩
  obtain ⟨A', c', e, z1, z2⟩ := S
  obtain ⟨rfl, _, rfl⟩ := Value.slice.inj e
  refine ⟨A, c, rfl, z1, ?_⟩
  by_cases he : bs = []
  · exact .inl he
  rcases z2 with z2 | ⟨g, off, rfl, z2⟩
  · exact .inl z2
  · refine .inr ⟨g, off, rfl, fun i x hi => ?_⟩
    obtain ⟨cs, k1, k2⟩ := z2 i x hi
    refine ⟨cs, k1, fun j u hu => ?_⟩
    have := k2 j u hu
    rw [World.cell?_of_block (hk.block g (World.block_lt_of_cell? w _ this) (hA he _ rfl))]
    exact this
theorem Cur.below {w w' : World} {b : Nat} {bs : List Int} {A : Option Addr} {c t : Nat} (h : Cur w b bs A c t) (hb : Below w.heap.size w w') : Cur w' b bs A c t :=
  h.kept (F := []) (KeptF.of_below hb) (by simp) (by simp)
set_option maxHeartbeats 4000000 in
theorem pick_calls (n : Int) {w : World} {b : Nat} {bs : List Int} {A : Option Addr} {c top : Nat} (h : Cur w b bs A c top) (ht : top ≤ 100000000) : Calls Try.prog 13 #[.pointer (some ⟨b, 0, none⟩), .int .i64 n] w
    fun e w' => ∃ r : Int, e = .returned (.int .i64 r) ∧ 0 ≤ r ∧ (r = 0 ∨ r < n) ∧ KeptF [b] w w' ∧ Cur w' b bs A c (top + 2) := by
  have H := Lib.hid h
  by_cases h1 : n ≤ 1
  · go_enter Try.func13, Try.ntmps13
    go_wp2
    go_ret
    exact ⟨0, rfl, by decide, .inl rfl, KeptF.refl _ _, H.out.mono (by omega)⟩
  · have n0 : ¬ n = 0 := by omega
    go_enter Try.func13, Try.ntmps13
    go_wp2_with fail
    (with_reducible refine (next_calls H.out (by omega)).mono ?_)
    rintro e w1 ⟨r, rfl, r0, r1, hk, h'⟩
    have H' := Lib.hid h'; have HK := Lib.hid hk
    clear h' hk h H
    by_cases h2 : 200 < n
    · go_wp2_with fail
      (with_reducible refine (next_calls H'.out (by omega)).mono ?_)
      rintro e w2 ⟨q, rfl, q0, q1, hk, h'⟩
      have H2 := Lib.hid h'; have HK2 := Lib.hid hk
      clear h' hk
      go_wp2
      go_ret
      exact ⟨_, rfl, Int.emod_nonneg _ (by omega), .inr (Int.emod_lt_of_pos _ (by omega)), HK.out.trans HK2.out, H2.out⟩
    · go_wp2
      go_ret
      exact ⟨_, rfl, Int.emod_nonneg _ (by omega), .inr (Int.emod_lt_of_pos _ (by omega)), HK.out, H'.out.mono (by omega)⟩
set_option maxHeartbeats 4000000 in
theorem one_calls (n : Int) {w : World} {b : Nat} {bs : List Int} {A : Option Addr} {c top : Nat} (h : Cur w b bs A c top) (ht : top ≤ 100000000) : Calls Try.prog 14 #[.pointer (some ⟨b, 0, none⟩), .int .i64 n] w
    fun e w' => ∃ r : Bool, e = .returned (.bool r) ∧ KeptF [b] w w' ∧ Cur w' b bs A c (top + 2) := by
  have H := Lib.hid h
  clear h
  go_enter Try.func14, Try.ntmps14
  go_wp2_with fail
  (with_reducible refine (pick_calls n H.out ht).mono ?_)
  rintro e w1 ⟨r, rfl, r0, r1, hk, h'⟩
  have H' := Lib.hid h'; have HK := Lib.hid hk
  clear h' hk r1
  go_wp2
  go_ret
  exact ⟨_, rfl, HK.out, H'.out⟩
set_option maxHeartbeats 4000000 in
theorem among_calls (xs : List Int) {w : World} {b : Nat} {bs : List Int} {A A2 : Option Addr} {c c2 top : Nat} (h : Cur w b bs A c top) (ht : top ≤ 100000000) (hx : kInt.S w xs (.slice A2 xs.length c2)) (hl : 1 ≤ xs.length) (hb : xs.length ≤ 1000) (hne : ∀ a, A2 = some a → a.block ≠ b) :
    Calls Try.prog 51 #[.pointer (some ⟨b, 0, none⟩), .slice A2 xs.length c2] w
    fun e w' => ∃ r : Int, e = .returned (.int .i64 r) ∧ r ∈ xs ∧ KeptF [b] w w' ∧ Cur w' b bs A c (top + 2) := by
  have H := Lib.hid h; have HX := Lib.hid hx
  clear h hx
  go_enter Try.func51, Try.ntmps51
  go_wp2_with fail
  (with_reducible refine (pick_calls (xs.length : Int) H.out ht).mono ?_)
  rintro e w1 ⟨r, rfl, r0, r1, hk, h'⟩
  have H' := Lib.hid h'; have HK := Lib.hid hk
  have hX := S_keptC kInt_flat HX.out hk hne
  clear h' hk
  obtain ⟨k, rfl⟩ : ∃ k : Nat, r = (k : Int) := ⟨r.toNat, by omega⟩
  have hk : k < xs.length := by omega
  clear r1
  obtain ⟨A_, c_, e_, _, hC⟩ := hX
  obtain ⟨rfl, _, rfl⟩ := Value.slice.inj e_
  obtain ⟨g, o, cs, rfl, k1, q1⟩ := Rp.C_get hC k hk
  obtain rfl : cs = [.int .i64 xs[k]] := k1
  have a0 : w1.cell? ⟨g, o + k, none⟩ = some (.int .i64 xs[k]) := by
    have := q1 0 _ rfl
    simpa [Rp.int, Rp.scalar] using this
  have hm := List.getElem_mem hk
  generalize xs[k] = x at *
  have i1 : (0 : Int) ≤ (k : Int) := by omega
  have i2 : (k : Int) < (xs.length : Int) := by omega
  clear q1 hC e_
  go_wp2
  go_ret
  exact ⟨_, rfl, hm, HK.out, H'.out⟩
theorem KeptF.newset {F : List Nat} {a b' : World} (h : KeptF F a b') {g : Nat} (hg : a.heap.size ≤ g) (o : Nat) (v : Value) : KeptF F a (b'.setCell ⟨g, o, none⟩ v) := by
  have k := kept_set b' g o v
  exact ⟨k.os.trans h.os, k.tape.trans h.tape, k.output.trans h.output, Nat.le_trans h.size k.size, fun x hx hf => (k.block x (Nat.lt_of_lt_of_le hx h.size) (by simp; omega)).trans (h.block x hx hf)⟩
theorem infoByteC : (Try.prog.info? 5).map (fun i => (i.zero, i.size, i.bytes)) = some (some (.int .u8 0), 1, 1) := by kernel_rfl
set_option maxHeartbeats 4000000 in
set_option maxRecDepth 100000 in
theorem text_calls (n : Nat) {w : World} {b : Nat} {bs : List Int} {A : Option Addr} {c top : Nat} (h : Cur w b bs A c top) (ht : top ≤ 10000000) (hn : n ≤ 1000) (hb : b < w.heap.size) (hA : bs ≠ [] → ∀ a, A = some a → a.block < w.heap.size) : Calls Try.prog 50 #[.pointer (some ⟨b, 0, none⟩), .int .i64 (n : Int)] w
    fun e w' => ∃ s : ByteArray, e = .returned (.string s) ∧ s.size = n ∧ KeptF [b] w w' ∧ Cur w' b bs A c (top + 2 * n) := by
  obtain ⟨w0, hmk, hR, hB, hlt0⟩ := mk_full (P := Try.prog) w 22 5 kByte 0 Try.underlying22 infoByteC rfl (fun w => ⟨rfl, rfl⟩) n (by omega) (by decide)
  have H := Lib.hid (h.below hB)
  have R := Lib.hid hR; have HK := Lib.hid (show KeptF [b] w w0 from (KeptF.of_below hB))
  have HS := Lib.hid hlt0
  clear h hR hB hlt0
  go_enter Try.func50, Try.ntmps50
  go_wp2
  clear hmk
  go_loopw [11] (fun i wr => ∃ k : Nat, k ≤ n ∧ i = .int .i64 k ∧ ∃ xs : List Int, xs.length = n ∧ Hid (kByte.Row 5 wr [w.heap.size] xs (.slice (some ⟨w.heap.size, 0, none⟩) n n)) ∧ Hid (KeptF [b] w wr) ∧ Hid (w.heap.size < wr.heap.size) ∧ Hid (Cur wr b bs A c (top + 2 * k))) (fun i _ => n - (intOf i).toNat)
  case atStart => exact ⟨0, Nat.zero_le _, rfl, List.replicate n 0, by simp, R.out, HK.out, HS.out, H.out⟩
  case round =>
    clear H R HK HS
    obtain ⟨k, hk, rfl, xs, hxl, R, HK, HS, H⟩ := hrel
    by_cases hlk : k < n
    · have i1 : (0 : Int) ≤ (k : Int) := by omega
      have i2 : (k : Int) < (n : Int) := by omega
      go_wp2_with fail
      (with_reducible refine (pick_calls 256 H.out (by omega)).mono ?_)
      rintro e w1 ⟨r, rfl, r0, r1, hk1, h'⟩
      have hR := Rp.Row_kept R.out hk1 (fun x hx hm => by simp at hx hm; omega)
      have HK := Lib.hid (HK.out.trans hk1); have HS := Lib.hid (Nat.lt_of_lt_of_le HS.out hk1.size); have H := Lib.hid h'
      clear R hk1 h'
      obtain ⟨g2, cap2, c2', F2, q0, gF, _, q2, _, _, q3, q4⟩ := Rp.Row_open hR (by simp) k (by omega)
      obtain ⟨_, rfl⟩ := q2
      obtain rfl : w.heap.size = g2 := by simp at q0; exact q0.1
      have z0 : w1.cell? ⟨w.heap.size, k, none⟩ = some (.int .u8 xs[k]) := by have := q3 0 _ rfl; simpa [Rp.int, Rp.scalar] using this
      have y0 : w1.frozen? ⟨w.heap.size, k, none⟩ = false := q4 _
      clear q0 q3 q4
      have s1 := Rp.Row_store hR (by simp) k (by omega) 0 (by decide) (.int .u8 r) r (fun c F1 hM => by obtain ⟨rfl, rfl⟩ := hM; exact ⟨rfl, rfl⟩)
      have e1 : (⟨w.heap.size, k * kByte.sz + 0, none⟩ : Addr) = ⟨w.heap.size, k, none⟩ := by simp [Rp.int, Rp.scalar]
      rw [e1] at s1
      have S1 := Lib.hid s1
      clear s1 e1 hR
      generalize xs[k] = x at *
      go_wp2
      exact ⟨⟨k + 1, by omega, by go_num, _, by rw [List.length_set]; exact hxl, S1.out, KeptF.newset HK.out (Nat.le_refl _) _ _, Nat.lt_of_lt_of_le HS.out (kept_set _ _ _ _).size, H.out.kept (kept_set _ _ _ _) (by simp; omega) (fun he a ha => by have := hA he a ha; simp; omega)⟩, by simp [intOf]; omega⟩
    · obtain rfl : k = n := by omega
      have hcv := run_convert_bytes_arg (P := Try.prog) (w := wr) 22 5 Try.underlying22 Try.underlying5 w.heap.size 0 k k xs hxl (fun i hi => by
        have hC := (Rp.Row_K R.out)
        obtain ⟨A_, c_, e_, _, hC⟩ := hC
        obtain ⟨rfl, _, rfl⟩ := Value.slice.inj e_
        obtain ⟨g, o, cs, hA2, k1, q1⟩ := Rp.C_get hC i (by omega)
        simp at hA2
        obtain ⟨rfl, rfl⟩ := hA2
        obtain rfl : cs = [.int .u8 xs[i]] := k1
        have := q1 0 _ rfl
        simpa [Rp.int, Rp.scalar, List.getD, List.getElem?_eq_getElem (show i < xs.length by omega)] using this) 9 Try.underlying9
      go_wp2
      go_ret
      exact ⟨_, rfl, by rw [strOfNums_size]; exact hxl, HK.out, H.out⟩
end Go.Proofs.Ythfhhfnimffpdaa
