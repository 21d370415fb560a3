/- What CommandBytes answers, over numbers and lists alone. -/
import Derived.Test.YtioelmhikablcaaPFnExactCommandBytesx5
namespace Go.Proofs.Ytioelmhikablcaa
open Go Go.RowKit Go.Proofs.YtioelmhikablcaaW.PrintWords Go.Proofs.YtioelmhikablcaaW.PrintLast Go.Proofs.YtioelmhikablcaaW.PrintMore Go.Proofs.Ytioelmhikablcaa.PFnExactCommandBytes
set_option linter.unusedVariables false
set_option linter.unusedSimpArgs false

theorem varT_size (n : Nat) : (varT n).size ≤ 10 := by rw [varT, strOfNums_size]; exact vb_len _ _
theorem i_varZ {m : Int} (h0 : 0 ≤ m) (hm : m ≤ 9223372036854775807) : impl_varBytes.f m = some (varT m.toNat) := by
  rw [impl_varBytes.f, if_pos ⟨h0, hm⟩]
theorem s_varZ {m : Int} (h0 : 0 ≤ m) (hm : m ≤ 9223372036854775807) : spec_l2Var.f m = some (varT m.toNat) := by
  rw [spec_l2Var.f, if_pos ⟨h0, hm⟩]
theorem i_varf {m : Nat} (hm : m ≤ 9223372036854775807) : impl_varBytes.f m = some (varT m) := i_varZ (by omega) (by omega)
theorem s_varf {m : Nat} (hm : m ≤ 9223372036854775807) : spec_l2Var.f m = some (varT m) := s_varZ (by omega) (by omega)
theorem in_f (a lo hi : Int) : spec_l1In.f a lo hi = some (decide (lo ≤ a ∧ a ≤ hi)) := by
  unfold spec_l1In.f
  by_cases h : a ≥ lo
  · rw [if_pos h]; congr 1; simp; omega
  · rw [if_neg h]; congr 1; simp; omega
theorem in_i : impl_in.f = spec_l1In.f := rfl

theorem good_eq (a b c : Int) (x y z : ByteArray) : impl_GoodCommand.f a b c x y z = spec_GoodCommand.f a b c x y z := by
  unfold impl_GoodCommand.f spec_GoodCommand.f
  rw [in_i, show impl_isKey.f = spec_l4Key.f from rfl]
  simp only [impl_isValue.f, Option.bind_some, decide_eq_true_eq]
  by_cases h4 : (y.size : Int) ≤ 40
  · by_cases h5 : (z.size : Int) ≤ 40
    · simp only [if_pos h4, if_pos h5, if_neg (show ¬ (y.size : Int) > 40 by omega), if_neg (show ¬ (z.size : Int) > 40 by omega)]
    · simp only [if_pos h4, if_neg h5, if_neg (show ¬ (y.size : Int) > 40 by omega), if_pos (show (z.size : Int) > 40 by omega)]
  · simp only [if_neg h4, if_pos (show (y.size : Int) > 40 by omega)]
theorem good_some (a b c : Int) (x y z : ByteArray) : ∃ r, spec_GoodCommand.f a b c x y z = some r ∧ (r = true → (0 ≤ a ∧ a ≤ 99) ∧ (1 ≤ b ∧ b ≤ 1000000) ∧ x.size ≤ 16 ∧ y.size ≤ 40 ∧ z.size ≤ 40) := by
  unfold spec_GoodCommand.f spec_l4Key.f
  simp only [in_f, Option.bind_some, decide_eq_true_eq]
  repeat' split
  all_goals exact ⟨_, rfl, fun h => by first | (exact absurd h (by decide)) | (refine ⟨⟨?_, ?_⟩, ⟨?_, ?_⟩, ?_, ?_, ?_⟩ <;> omega)⟩
theorem bytes_s {k : Nat} (hk : 20 < k) {a b c : Int} {x y z : ByteArray} (h : (0 ≤ a ∧ a ≤ 99) ∧ (1 ≤ b ∧ b ≤ 1000000) ∧ x.size ≤ 16 ∧ y.size ≤ 40 ∧ z.size ≤ 40) :
    spec_l14Bytes.f k a b c x y z = some (varT a.toNat ++ varT b.toNat ++ strOfNums [c % 256] ++ (varT x.size ++ x) ++ (varT y.size ++ y) ++ (varT z.size ++ z)) := by
  obtain ⟨⟨a0, a1⟩, ⟨b0, b1⟩, hx, hy, hz⟩ := h
  obtain ⟨k, rfl⟩ : ∃ j, k = j + 5 := ⟨k - 5, by omega⟩
  have q : ∀ n, (varT n).size ≤ 10 := varT_size
  have q1 := q a.toNat; have q2 := q b.toNat; have q3 := q x.size; have q4 := q y.size; have q5 := q z.size
  unfold spec_l14Bytes.f
  rw [s_varZ a0 (by omega), s_varZ (by omega) (by omega)]
  simp only [Option.bind_some]
  have e3 : (strOfNums [c % 256]).size = 1 := by rw [strOfNums_size]; rfl
  rw [if_pos (by omega), if_pos (by simp only [ByteArray.size_append]; omega)]
  simp only [List.length_cons, List.length_nil, Nat.zero_add, Nat.reduceAdd]
  rw [spec_l14Bytes.l0, if_pos (by simp), if_pos (by decide), if_pos (by simp)]
  rw [show rdOf ByteArray.empty [x, y, z] 0 = x from rfl, s_varf (by omega)]
  simp only [Option.bind_some]
  rw [if_pos (by omega), if_pos (by simp only [ByteArray.size_append]; omega), show wrap64 (0 + 1) = 1 by unfold wrap64; omega]
  rw [spec_l14Bytes.l0, if_pos (by simp), if_pos (by decide), if_pos (by simp)]
  rw [show rdOf ByteArray.empty [x, y, z] 1 = y from rfl, s_varf (by omega)]
  simp only [Option.bind_some]
  rw [if_pos (by omega), if_pos (by simp only [ByteArray.size_append]; omega), show wrap64 (1 + 1) = 2 by unfold wrap64; omega]
  rw [spec_l14Bytes.l0, if_pos (by simp), if_pos (by decide), if_pos (by simp)]
  rw [show rdOf ByteArray.empty [x, y, z] 2 = z from rfl, s_varf (by omega)]
  simp only [Option.bind_some]
  rw [if_pos (by omega), if_pos (by simp only [ByteArray.size_append]; omega), show wrap64 (2 + 1) = 3 by unfold wrap64; omega]
  rw [spec_l14Bytes.l0, if_neg (by simp)]
theorem sized_i {x : ByteArray} (hx : x.size ≤ 40) : impl_sized.f x = some (varT x.size ++ x) := by
  unfold impl_sized.f
  have q := varT_size x.size
  rw [i_varf (by omega)]
  simp only [Option.bind_some]
  rw [if_pos (by omega)]
theorem bytes_i {a b c : Int} {x y z : ByteArray} (h : (0 ≤ a ∧ a ≤ 99) ∧ (1 ≤ b ∧ b ≤ 1000000) ∧ x.size ≤ 16 ∧ y.size ≤ 40 ∧ z.size ≤ 40) (hg : impl_GoodCommand.f a b c x y z = some true) :
    impl_CommandBytes.f a b c x y z = some (varT a.toNat ++ varT b.toNat ++ strOfNums [c % 256] ++ (varT x.size ++ x) ++ (varT y.size ++ y) ++ (varT z.size ++ z), true) := by
  obtain ⟨⟨a0, a1⟩, ⟨b0, b1⟩, hx, hy, hz⟩ := h
  have q : ∀ n, (varT n).size ≤ 10 := varT_size
  have q1 := q a.toNat; have q2 := q b.toNat; have q3 := q x.size; have q4 := q y.size; have q5 := q z.size
  have e3 : (strOfNums [c % 256]).size = 1 := by rw [strOfNums_size]; rfl
  unfold impl_CommandBytes.f
  rw [hg]
  simp only [Option.bind_some, if_true]
  rw [i_varZ a0 (by omega), i_varZ (by omega) (by omega)]
  simp only [Option.bind_some]
  rw [if_pos (by omega), if_pos (by simp only [ByteArray.size_append]; omega), sized_i (by omega)]
  simp only [Option.bind_some]
  rw [if_pos (by simp only [ByteArray.size_append]; omega), sized_i (by omega)]
  simp only [Option.bind_some]
  rw [if_pos (by simp only [ByteArray.size_append]; omega), sized_i (by omega)]
  simp only [Option.bind_some]
  rw [if_pos (by simp only [ByteArray.size_append]; omega)]
theorem sz_some (a b c : Int) (x y z : ByteArray) (n : Int) : ∃ r, laws_szCommand.f a b c x y z n = some r := by
  unfold laws_szCommand.f
  repeat' split
  all_goals exact ⟨_, rfl⟩
theorem pure_FnExactCommandBytes (a b c : Int) (x y z : ByteArray) (h : ((Lit.int .i64 a).wf = true) ∧ ((Lit.int .i64 b).wf = true) ∧ ((Lit.int .i64 c).wf = true) ∧ (x.size ≤ 140737488351232) ∧ (y.size ≤ 140737488351232) ∧ (z.size ≤ 140737488351232)) :
    ∃ k, laws_FnExactCommandBytes.f k a b c x y z = some true := by
  refine ⟨30, ?_⟩
  unfold laws_FnExactCommandBytes.f
  obtain ⟨t, ht⟩ := sz_some a b c x y z 1048576
  rw [ht]
  simp only [Option.bind_some]
  by_cases h0 : t < 0
  · rw [if_pos h0]
  rw [if_neg h0]
  simp only [laws_toCommand.f, Option.bind_some]
  obtain ⟨r, hr, hb⟩ := good_some a b c x y z
  have hi := (good_eq a b c x y z).trans hr
  cases r with
  | true =>
    rw [bytes_i (hb rfl) hi]
    unfold spec_CommandBytes.f
    rw [hr]
    simp only [Option.bind_some, if_true]
    rw [bytes_s (by decide) (hb rfl)]
    simp
  | false =>
    unfold spec_CommandBytes.f impl_CommandBytes.f
    rw [hr, hi]
    simp
end Go.Proofs.Ytioelmhikablcaa
