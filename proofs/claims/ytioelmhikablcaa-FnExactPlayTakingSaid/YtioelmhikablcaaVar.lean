/- The bytes of a number. -/
import Derived.Test.YtioelmhikablcaaKit
import Derived.Test.YtioelmhikablcaaProg
import Derived.Test.YtioelmhikablcaaKitB
import Derived.Laws.BytesArg
import Derived.Laws.BitsLemmas
namespace Go.Proofs.Ytioelmhikablcaa
open Go Go.RowKit Go.Sort
set_option linter.unusedVariables false
set_option linter.unusedSimpArgs false

abbrev kByte : Rp Int := Rp.int .u8
theorem kByte_flat : kByte.Flat := ⟨fun h => h.1, fun h => ⟨rfl, h⟩⟩
theorem infoByte : (Try.prog.info? 5).map (fun i => (i.zero, i.size, i.bytes)) = some (some (.int .u8 0), 1, 1) := by kernel_rfl
/-- The text of owned bytes. -/
theorem conv_row {P : Program} {w : World} {F : List Nat} {xs : List Int} {v : Value} {src e e2 dst : TypeId} (hs : P.underlying src = some (.slice e)) (he : P.underlying e = some (.int .u8)) (hd : P.underlying dst = some .string)
    (h : kByte.Row e2 w F xs v) : (convert src dst v).run P w = .ok (.string (strOfNums xs)) w := by
  obtain ⟨A, c, rfl, hc, hr⟩ := Rp.Row_K h
  clear h
  rcases hr with rfl | ⟨b, off, rfl, h⟩
  · show (convert src dst (.slice A 0 c)).run P w = _
    cases A with
    | none => exact (run_convert_bytes_nil w src e hs he _ _ dst hd)
    | some a =>
      rw [run_convert_bytes_string w src dst e _ _ c hs he hd, run_bytesToString w _ 0 c [] (by simpa using run_loadCells_list (P := P) w a [] (fun j v hj => by simp at hj))]
      rfl
  · refine run_convert_bytes_arg w src e hs he b off xs.length c xs rfl (fun i hi => ?_) dst hd
    obtain ⟨cs, k, q⟩ := h i xs[i] (List.getElem?_eq_getElem hi)
    obtain rfl : cs = [.int .u8 xs[i]] := k
    have := q 0 _ rfl
    simp [kByte, Rp.int, Rp.scalar] at this
    rw [this]
    simp [List.getD, List.getElem?_eq_getElem hi]

theorem or128 (a : Nat) (h : a < 128) : bits .or .i64 ((a : Nat) : Int) 128 = (a : Int) + 128 := by
  have h1 := (bits_nat .i64 63 (by decide) (fun n h0 h1 => by rw [IntKind.wrap_i64]; omega) a 128 (by omega) (by decide)).2
  have h2 := Nat.two_pow_add_eq_or_of_lt (i := 7) (b := a) (by omega) 1
  rw [show ((128 : Int)) = ((128 : Nat) : Int) from rfl, h1, Nat.or_comm, show (128 : Nat) = 2 ^ 7 * 1 from rfl, ← h2]
  omega
def vb : Nat → Nat → List Int
  | 0, _ => []
  | f + 1, n => if n < 128 then [(n : Int)] else (n % 128 + 128 : Int) :: vb f (n / 128)
theorem vb_len : ∀ (f n : Nat), (vb f n).length ≤ f
  | 0, _ => Nat.le_refl _
  | f + 1, n => by
    unfold vb
    split
    · simp
    · simp [vb_len f]
def varT (n : Nat) : ByteArray := strOfNums (vb 10 n)

set_option maxHeartbeats 2000000 in
set_option maxRecDepth 100000 in
theorem iVar_calls (n : Nat) (w : World) (hn : n ≤ 9223372036854775807) : Calls Try.prog 108 #[.int .i64 n] w fun e w' => e = .returned (.string (varT n)) ∧ Below w.heap.size w w' := by
  go_enter Try.func108, Try.ntmps108
  go_wp2
  go_loopw [0, 3] (fun a o wr => ∃ (f m : Nat) (bs : List Int) (F : List Nat), a = .int .i64 m ∧ m ≤ 9223372036854775807 ∧ m < 128 ^ f ∧ 1 ≤ f ∧ bs.length + f ≤ 10 ∧ Hid (bs ++ vb f m = vb 10 n) ∧ Hid (kByte.Row 5 wr F bs o) ∧ Hid (∀ b ∈ F, w.heap.size ≤ b) ∧ Hid (Below w.heap.size w wr)) (fun a _ _ => (intOf a).toNat)
  case atStart => exact ⟨10, n, [], _, rfl, hn, by omega, by omega, by simp, rfl, Rp.Row_made0 _ _ _ rfl, by simp [Hid], (Below.refl _ _).alloc (Nat.le_refl _) _⟩
  case round =>
    obtain ⟨f, m, bs, F, rfl, hm, hf0, h1, hl, HE, HR, HF, HB⟩ := hrel
    have hf := Lib.hid hf0
    clear hf0
    obtain ⟨f, rfl⟩ : ∃ f', f = f' + 1 := ⟨f - 1, by omega⟩
    have hE := HE.out
    rw [vb] at hE
    have hz := HB.out.size
    by_cases hlt : m < 128
    · rw [if_pos hlt] at hE
      have HE2 := Lib.hid hE; clear hE HE
      have hw1 : IntKind.u8.wrap (m : Int) = (m : Int) := by rw [IntKind.wrap_u8]; omega
      have hcv := fun (w : World) (F : List Nat) (xs : List Int) (v : Value) (h : kByte.Row 5 w F xs v) => conv_row (P := Try.prog) Try.underlying65 Try.underlying5 Try.underlying9 h
      have HC := Lib.hid hcv; clear hcv
      go_wp2_with (at_builtin; refine wp_append (d := kByte) rfl _ _ 65 5 rfl Try.underlying65 infoByte rfl (by decide) rfl (by decide) kByte_flat (xs := bs) (ys := [(m : Int)]) rfl rfl (Rp.Row_below HR.out ((Below.refl _ _).alloc (Nat.le_refl _) _)) (Rp.S_one (Box.new rfl) rfl) (by simp; omega) ?_; intro v1 w1 r1 r2 r3 _; have hcv := HC.out w1 _ _ _ r1; have R1 := Lib.hid r1; have R2 := Lib.hid r2; have R3 := Lib.hid r3; clear r1 r2 r3)
      go_ret
      exact ⟨by rw [HE2.out]; rfl, (Below.alloc HB.out HB.out.size _).trans (R2.out.toBelow (by simp; omega) HF.out)⟩
    · rw [if_neg hlt] at hE
      have HE2 := Lib.hid hE; clear hE HE
      have hw1 : IntKind.u8.wrap ((m : Int) % 128) = (m : Int) % 128 := by rw [IntKind.wrap_u8]; omega
      have hw2 : IntKind.u8.wrap ((m : Int) % 128 + 128) = (m : Int) % 128 + 128 := by rw [IntKind.wrap_u8]; omega
      go_wp2_with (at_builtin; refine wp_append (d := kByte) rfl _ _ 65 5 rfl Try.underlying65 infoByte rfl (by decide) rfl (by decide) kByte_flat (xs := bs) (ys := [(m : Int) % 128 + 128]) rfl rfl (Rp.Row_below HR.out ((Below.refl _ _).alloc (Nat.le_refl _) _)) (Rp.S_one (Box.new rfl) rfl) (by simp; omega) ?_; intro v1 w1 r1 r2 r3 _; have R1 := Lib.hid r1; have R2 := Lib.hid r2; have R3 := Lib.hid r3; clear r1 r2 r3)
      have h4 : m / 128 < 128 ^ f := by have := hf.out; rw [Nat.pow_succ] at this; omega
      exact ⟨⟨f, m / 128, bs ++ [(m : Int) % 128 + 128], _, by go_num, by omega, h4, by rcases Nat.eq_zero_or_pos f with h | h; subst h; omega; exact h, by simp; omega, by rw [Hid, ← HE2.out]; simp, R1.out, fun b hb => by rcases R3.out b hb with h | h; exact HF.out b h; simp at h; omega, (Below.alloc HB.out HB.out.size _).trans (R2.out.toBelow (by simp; omega) HF.out)⟩, by simp [intOf]; omega⟩
set_option maxHeartbeats 2000000 in
set_option maxRecDepth 100000 in
theorem sVar_calls (n : Nat) (w : World) (hn : n ≤ 9223372036854775807) : Calls Try.prog 183 #[.int .i64 n] w fun e w' => e = .returned (.string (varT n)) ∧ Below w.heap.size w w' := by
  go_enter Try.func183, Try.ntmps183
  go_wp2
  go_loopw [0, 3] (fun a o wr => ∃ (f m : Nat) (bs : List Int) (F : List Nat), a = .int .i64 m ∧ m ≤ 9223372036854775807 ∧ m < 128 ^ f ∧ 1 ≤ f ∧ bs.length + f ≤ 10 ∧ Hid (bs ++ vb f m = vb 10 n) ∧ Hid (kByte.Row 5 wr F bs o) ∧ Hid (∀ b ∈ F, w.heap.size ≤ b) ∧ Hid (Below w.heap.size w wr)) (fun a _ _ => (intOf a).toNat)
  case atStart => exact ⟨10, n, [], _, rfl, hn, by omega, by omega, by simp, rfl, Rp.Row_nil _ _ _, by simp [Hid], Below.refl _ _⟩
  case round =>
    obtain ⟨f, m, bs, F, rfl, hm, hf0, h1, hl, HE, HR, HF, HB⟩ := hrel
    have hf := Lib.hid hf0
    clear hf0
    obtain ⟨f, rfl⟩ : ∃ f', f = f' + 1 := ⟨f - 1, by omega⟩
    have hE := HE.out
    rw [vb] at hE
    have hz := HB.out.size
    by_cases hlt : m < 128
    · rw [if_pos hlt] at hE
      have HE2 := Lib.hid hE; clear hE HE
      have hw1 : IntKind.u8.wrap (m : Int) = (m : Int) := by rw [IntKind.wrap_u8]; omega
      have hcv := fun (w : World) (F : List Nat) (xs : List Int) (v : Value) (h : kByte.Row 5 w F xs v) => conv_row (P := Try.prog) Try.underlying65 Try.underlying5 Try.underlying9 h
      have HC := Lib.hid hcv; clear hcv
      go_wp2_with (at_builtin; refine wp_append (d := kByte) rfl _ _ 65 5 rfl Try.underlying65 infoByte rfl (by decide) rfl (by decide) kByte_flat (xs := bs) (ys := [(m : Int)]) rfl rfl (Rp.Row_below HR.out ((Below.refl _ _).alloc (Nat.le_refl _) _)) (Rp.S_one (Box.new rfl) rfl) (by simp; omega) ?_; intro v1 w1 r1 r2 r3 _; have hcv := HC.out w1 _ _ _ r1; have R1 := Lib.hid r1; have R2 := Lib.hid r2; have R3 := Lib.hid r3; clear r1 r2 r3)
      go_ret
      exact ⟨by rw [HE2.out]; rfl, (Below.alloc HB.out HB.out.size _).trans (R2.out.toBelow (by simp; omega) HF.out)⟩
    · rw [if_neg hlt] at hE
      have HE2 := Lib.hid hE; clear hE HE
      have hb1 : bits .and .i64 (m : Int) 127 = (m : Int) % 128 := bits_mask .i64 63 (by decide) (fun n h0 h1 => by rw [IntKind.wrap_i64]; omega) 7 (by decide) m (by omega) (by omega)
      have hb2 : bits .or .i64 ((m : Int) % 128) 128 = (m : Int) % 128 + 128 := (by have := or128 (m % 128) (by omega); simpa using this)
      have hw2 : IntKind.u8.wrap ((m : Int) % 128 + 128) = (m : Int) % 128 + 128 := by rw [IntKind.wrap_u8]; omega
      go_wp2_with (at_builtin; refine wp_append (d := kByte) rfl _ _ 65 5 rfl Try.underlying65 infoByte rfl (by decide) rfl (by decide) kByte_flat (xs := bs) (ys := [(m : Int) % 128 + 128]) rfl rfl (Rp.Row_below HR.out ((Below.refl _ _).alloc (Nat.le_refl _) _)) (Rp.S_one (Box.new rfl) rfl) (by simp; omega) ?_; intro v1 w1 r1 r2 r3 _; have R1 := Lib.hid r1; have R2 := Lib.hid r2; have R3 := Lib.hid r3; clear r1 r2 r3)
      have h4 : m / 128 < 128 ^ f := by have := hf.out; rw [Nat.pow_succ] at this; omega
      exact ⟨⟨f, m / 128, bs ++ [(m : Int) % 128 + 128], _, by go_num, by omega, h4, by rcases Nat.eq_zero_or_pos f with h | h; subst h; omega; exact h, by simp; omega, by rw [Hid, ← HE2.out]; simp, R1.out, fun b hb => by rcases R3.out b hb with h | h; exact HF.out b h; simp at h; omega, (Below.alloc HB.out HB.out.size _).trans (R2.out.toBelow (by simp; omega) HF.out)⟩, by simp [intOf]; omega⟩
end Go.Proofs.Ytioelmhikablcaa
