/- The text that a mark is. -/
import Derived.Test.YtiliaijgkedhnaaProg
import Derived.Test.YtiliaijgkedhnaaKit
namespace Go.Proofs.Ytiliaijgkedhnaa
open Go Go.RowKit Go.Sort
set_option linter.unusedVariables false

def mdig (fuel : Nat) (n : Nat) (out : ByteArray) : ByteArray :=
  match fuel with
  | 0 => out
  | f + 1 => if n = 0 then out else mdig f (n / 10) (⟨#[48 + UInt8.ofNat (n % 10)]⟩ ++ out)
def mtxt (k : Int) : ByteArray := if k ≤ 0 then ⟨#[109, 48]⟩ else ⟨#[109]⟩ ++ mdig 20 k.toNat ⟨#[]⟩

set_option maxHeartbeats 1000000 in
set_option maxRecDepth 100000 in
theorem markText_calls (k : Int) (w : World) (h1 : k ≤ 4611686018427387904) : Calls Try.prog 51 #[.int .i64 k] w
    fun e w' => e = .returned (.string (mtxt k)) ∧ Below w.heap.size w w' := by
  by_cases h0 : k ≤ 0
  · go_enter Try.func51, Try.ntmps51
    go_wp2
    go_ret
    exact ⟨by rw [mtxt, if_pos h0]; rfl, Below.refl _ _⟩
  · obtain ⟨n, rfl⟩ := Int.eq_ofNat_of_zero_le (show 0 ≤ k by omega)
    have h2 : 0 < n := by omega
    have h3 : n ≤ 4611686018427387904 := by omega
    clear h1
    go_enter Try.func51, Try.ntmps51
    go_wp2
    go_loopw [0, 3] (fun a o wr => ∃ (f m : Nat) (s : ByteArray), a = .int .i64 m ∧ o = .string s ∧ m ≤ 4611686018427387904 ∧ m < 10 ^ f ∧ s.size + f ≤ 20 ∧ Hid (mdig f m s = mdig 20 n ⟨#[]⟩) ∧ Hid (Below w.heap.size w wr)) (fun a _ _ => (intOf a).toNat)
    case atStart => exact ⟨20, n, _, rfl, rfl, h3, by omega, by show 0 + 20 ≤ 20; omega, rfl, Below.refl _ _⟩
    case round =>
      obtain ⟨f, m, s, rfl, rfl, hm, hf0, hs, HE, HB⟩ := hrel
      have hf := Lib.hid hf0
      clear hf0
      by_cases hz : 0 < m
      · have hcv := fun n => conv1 (P := Try.prog) wr Try.underlying90 Try.underlying5 Try.underlying9 n
        obtain ⟨f, rfl⟩ : ∃ f', f = f' + 1 := ⟨f - 1, by
          have : f ≠ 0 := by rintro rfl; have := hf.out; omega
          omega⟩
        go_wp2
        have h4 : m / 10 < 10 ^ f := by have := hf.out; rw [Nat.pow_succ] at this; omega
        have h5 : mdig f (m / 10) ({ data := #[48 + UInt8.ofNat (m % 10)] } ++ s) = mdig 20 n ⟨#[]⟩ := by
          rw [← HE.out, mdig, if_neg (by omega)]
        have h6 : ({ data := #[48 + UInt8.ofNat (m % 10)] } ++ s : ByteArray).size = 1 + s.size := by rw [ByteArray.size_append]; rfl
        exact ⟨⟨f, m / 10, _, by go_num, rfl, by omega, h4, by rw [h6]; omega, h5, HB.out.alloc HB.out.size _⟩, by simp [intOf]; omega⟩
      · go_wp2
        go_ret
        obtain rfl : m = 0 := by omega
        have h5 : mdig f 0 s = s := by cases f <;> simp [mdig]
        exact ⟨by rw [mtxt, if_neg (by omega), Int.toNat_natCast, ← HE.out, h5]; rfl, HB.out⟩
end Go.Proofs.Ytiliaijgkedhnaa
