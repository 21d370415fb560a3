/- The table of the sums. -/
import Derived.Test.YtioelmhikablcaaVar
import Derived.Test.YtioelmhikablcaaMade
namespace Go.Proofs.Ytioelmhikablcaa
open Go Go.RowKit Go.Sort
set_option linter.unusedVariables false
set_option linter.unusedSimpArgs false

abbrev kU : Rp Int := Rp.int .u32
theorem kU_flat : kU.Flat := ⟨fun h => h.1, fun h => ⟨rfl, h⟩⟩
theorem infoU : (Try.prog.info? 40).map (fun i => (i.zero, i.size, i.bytes)) = some (some (.int .u32 0), 1, 4) := by kernel_rfl
def crS (n : Int) : Int := if (bits .and .u32 n 1 == 1) = true then bits .xor .u32 (n / 2) 2197175160 else n / 2
def crN (k : Nat) : Nat → Int
  | 0 => k
  | j + 1 => crS (crN k j)
def crTab (n : Nat) : List Int := (List.range n).map fun k => crN k 8
theorem crTab_succ (n : Nat) : crTab (n + 1) = crTab n ++ [crN n 8] := by simp [crTab, List.range_succ]
theorem crTab_len (n : Nat) : (crTab n).length = n := by simp [crTab]

set_option maxHeartbeats 4000000 in
set_option maxRecDepth 100000 in
theorem iTab_calls (w : World) : Calls Try.prog 222 #[] w fun e w' => ∃ v, e = .returned v ∧ MadeR kU 40 (crTab 256) w w' v := by
  go_enter Try.func222, Try.ntmps222
  go_wp2
  go_loopw [1, 5] (fun v i wr => ∃ k : Nat, k ≤ 256 ∧ i = .int .u32 k ∧ Hid (kU.Row 40 wr (Rp.ofOwn v) (crTab k) v) ∧ Hid (∀ b ∈ Rp.ofOwn v, w.heap.size ≤ b) ∧ Hid (Below w.heap.size w wr)) (fun _ i _ => 256 - (intOf i).toNat)
  case atStart => exact ⟨0, by omega, rfl, Rp.Row_made0 _ _ _ rfl, by simp [Hid, Rp.ofOwn, Value.ownBlock], (Below.refl _ _).alloc (Nat.le_refl _) _⟩
  case round =>
    obtain ⟨k, hk, rfl, HR, HF, HB⟩ := hrel
    by_cases hlt : k < 256
    · have i1 : (0 : Int) ≤ (k : Int) := by omega
      have i2 : (k : Int) < 256 := by omega
      go_wp2
      rename World => wr
      go_loopw [2, 8] (fun n j wr2 => ∃ m : Nat, m ≤ 8 ∧ j = .int .i64 m ∧ n = .int .u32 (crN k m) ∧ Hid (wr = wr2)) (fun _ j _ => 8 - (intOf j).toNat)
      case atStart => exact ⟨0, by omega, rfl, rfl, rfl⟩
      case round =>
        obtain ⟨m, hm, rfl, rfl, HW⟩ := hrel
        obtain rfl := HW.out
        by_cases hlm : m < 8
        · have hst : crN k (m + 1) = crS (crN k m) := rfl
          generalize crN k m = z at *
          have HST := Lib.hid hst; clear hst
          have j1 : (0 : Int) ≤ (m : Int) := by omega
          have j2 : (m : Int) < 8 := by omega
          cases hz : (bits .and .u32 z 1 == 1)
          all_goals (go_wp2; exact ⟨⟨m + 1, by omega, by go_num, by rw [HST.out]; simp [crS, hz], trivial⟩, by simp [intOf]; omega⟩)
        · obtain rfl : m = 8 := by omega
          have HN := Lib.hid (crTab_succ k)
          have HL := Lib.hid (crTab_len k)
          generalize crTab k = L at *
          generalize crN k 8 = z at *
          have hw1 : IntKind.u32.wrap ((k : Int) + 1) = ((k + 1 : Nat) : Int) := by rw [IntKind.wrap_u32]; omega
          go_wp2_with (at_builtin; go_loud (refine wp_append (d := kU) rfl _ _ 240 40 rfl Try.underlying240 infoU rfl (by decide) rfl (by decide) kU_flat (xs := L) (ys := [z]) rfl rfl (Rp.Row_below HR.out ((Below.refl _ _).alloc (Nat.le_refl _) _)) (Rp.S_one (Box.new rfl) rfl) (by have := HL.out; simp; omega) ?_; intro v1 w1 r1 r2 r3 _; have R1 := Lib.hid r1; have R2 := Lib.hid r2; have R3 := Lib.hid r3; clear r1 r2 r3))
          exact ⟨⟨k + 1, by omega, by go_num, by rw [HN.out]; exact R1.out, fun b hb => by rcases R3.out b hb with h | h; exact HF.out b h; simp at h; have := HB.out.size; omega, (Below.alloc HB.out HB.out.size _).trans (R2.out.toBelow (by have := HB.out.size; simp; omega) HF.out)⟩, by simp [intOf]; omega⟩
    · obtain rfl : k = 256 := by omega
      go_wp2
      go_ret
      exact ⟨_, rfl, _, HR.out, HF.out, ofOwn_nodup _, HB.out⟩

def crFill (k : Nat) : List Int := crTab k ++ List.replicate (256 - k) 0
theorem crFill_len {k : Nat} (h : k ≤ 256) : (crFill k).length = 256 := by simp [crFill, crTab_len]; omega
theorem crFill_get {k : Nat} (h : k < 256) (h2 : k < (crFill k).length) : (crFill k)[k] = 0 := by
  simp only [crFill]
  rw [List.getElem_append_right (by rw [crTab_len]; omega)]
  simp
theorem crFill_set {k : Nat} (h : k < 256) : (crFill k).set k (crN k 8) = crFill (k + 1) := by
  simp only [crFill]
  rw [List.set_append_right _ _ (by rw [crTab_len]; omega), crTab_len, Nat.sub_self, crTab_succ, List.append_assoc, show 256 - k = (256 - (k + 1)) + 1 by omega]
  rfl
set_option maxHeartbeats 4000000 in
set_option maxRecDepth 100000 in
theorem sTab_calls (w : World) : Calls Try.prog 217 #[] w fun e w' => ∃ v, e = .returned v ∧ MadeR kU 40 (crTab 256) w w' v := by
  obtain ⟨w0, hmk, hR, hB, hlt0⟩ := mk_full w 240 40 kU 0 Try.underlying240 infoU rfl (fun w => ⟨rfl, rfl⟩) 256 (by decide) (by decide)
  rw [show ((256 : Nat) : Int) = 256 from rfl] at hmk
  have HR := Lib.hid hR; clear hR
  have HB := Lib.hid hB; clear hB
  go_enter Try.func217, Try.ntmps217
  go_wp2
  clear hmk
  go_loopw [9] (fun i wr => ∃ k : Nat, k ≤ 256 ∧ i = .int .i64 k ∧ (∃ F, Hid (kU.Row 40 wr F (crFill k) (.slice (some ⟨w.heap.size, 0, none⟩) 256 256)) ∧ Hid (F.Nodup ∧ ∀ b ∈ F, w.heap.size ≤ b)) ∧ Hid (Below w.heap.size w wr)) (fun i _ => 256 - (intOf i).toNat)
  case atStart => exact ⟨0, Nat.zero_le _, rfl, ⟨_, by rw [show crFill 0 = List.replicate 256 0 from by simp [crFill, crTab]]; exact HR.out, by simp [Hid]⟩, HB.out⟩
  case round =>
    clear HR HB hlt0
    obtain ⟨k, hk, rfl, ⟨F, HR, HF⟩, HB⟩ := hrel
    by_cases hlt : k < 256
    · have i1 : (0 : Int) ≤ (k : Int) := by omega
      have i2 : (k : Int) < 256 := by omega
      have hw1 : IntKind.u32.wrap (k : Int) = (k : Int) := by rw [IntKind.wrap_u32]; omega
      go_wp2
      rename World => wr
      go_loopw [3, 4] (fun n j wr2 => ∃ m : Nat, m ≤ 8 ∧ j = .int .i64 m ∧ n = .int .u32 (crN k m) ∧ Hid (wr = wr2)) (fun _ j _ => 8 - (intOf j).toNat)
      case atStart => exact ⟨0, by omega, rfl, rfl, rfl⟩
      case round =>
        obtain ⟨m, hm, rfl, rfl, HW⟩ := hrel
        obtain rfl := HW.out
        by_cases hlm : m < 8
        · have hst : crN k (m + 1) = crS (crN k m) := rfl
          generalize crN k m = z at *
          have HST := Lib.hid hst; clear hst
          have j1 : (0 : Int) ≤ (m : Int) := by omega
          have j2 : (m : Int) < 8 := by omega
          cases hz : (bits .and .u32 z 1 == 1)
          all_goals (go_wp2; exact ⟨⟨m + 1, by omega, by go_num, by rw [HST.out]; simp [crS, hz], trivial⟩, by simp [intOf]; omega⟩)
        · obtain rfl : m = 8 := by omega
          have hk2 : k < (crFill k).length := by rw [crFill_len hk]; exact hlt
          have HS := Lib.hid (crFill_set hlt)
          obtain ⟨g, cap, cz, F1, q0, hgF, hgl, q2, _, _, q3, q4⟩ := Rp.Row_open HR.out HF.out.1 k hk2
          rw [crFill_get hlt hk2] at q2
          obtain ⟨rfl, rfl⟩ := q2
          obtain rfl : w.heap.size = g := by simp at q0; exact q0.1
          have z0 : wr.cell? ⟨w.heap.size, k, none⟩ = some (.int .u32 0) := by have := q3 0 _ rfl; simpa [Rp.int, Rp.scalar] using this
          have y0 : wr.frozen? ⟨w.heap.size, k, none⟩ = false := q4 _
          generalize crN k 8 = x at *
          have HP := Rp.Row_put HR.out HF.out.1 k hk2 x [.int .u32 x] [] ⟨rfl, rfl⟩ (by simp) (by simp)
          rw [HS.out] at HP
          have HP := Lib.hid HP
          clear q0 q3 q4 hgF hgl hk2 HR
          go_wp2
          obtain ⟨F', p1, p2, p3, p4⟩ := HP.out
          have e1 : Rp.setN wr w.heap.size (k * (kU).sz) [.int .u32 x] = wr.setCell ⟨w.heap.size, k, none⟩ (.int .u32 x) := by simp [Rp.setN, Rp.int, Rp.scalar]
          rw [e1] at p1
          exact ⟨⟨k + 1, by omega, by go_num, ⟨F', p1, p2, fun b hb => HF.out.2 b (by simpa using p3 b hb)⟩, HB.out.setCell (by simp) _⟩, by simp [intOf]; omega⟩
    · obtain rfl : k = 256 := by omega
      go_wp2
      go_ret
      exact ⟨_, rfl, _, by simpa [crFill] using HR.out, HF.out.2, HF.out.1, HB.out⟩

theorem crX_nat (z b : Int) : ∃ n : Nat, n < 256 ∧ bits .xor .u8 z b = (n : Int) := by
  have h : 0 ≤ bits .xor .u8 z b ∧ bits .xor .u8 z b < 256 := by
    show 0 ≤ IntKind.u8.wrap ((BitVec.ofInt 8 z ^^^ BitVec.ofInt 8 b).toNat : Int) ∧ IntKind.u8.wrap ((BitVec.ofInt 8 z ^^^ BitVec.ofInt 8 b).toNat : Int) < 256
    rw [IntKind.wrap_u8]; omega
  exact ⟨(bits .xor .u8 z b).toNat, by omega, by omega⟩
theorem bits_xc (a b : Int) : bits .xor .u32 a b = bits .xor .u32 b a := by
  show IntKind.u32.wrap ((BitVec.ofInt 32 a ^^^ BitVec.ofInt 32 b).toNat : Int) = IntKind.u32.wrap ((BitVec.ofInt 32 b ^^^ BitVec.ofInt 32 a).toNat : Int)
  rw [BitVec.xor_comm]
def crO (z b : Int) : Int := bits .xor .u32 (z / 256) ((crTab 256).getD (bits .xor .u8 (z % 256) b).toNat 0)
def onN (z : Int) (s : ByteArray) : Nat → Int
  | 0 => z
  | k + 1 => crO (onN z s k) (if h : k < s.size then (s[k].toNat : Int) else 0)
theorem onN_succ (z : Int) (s : ByteArray) (k : Nat) (h : k < s.size) : onN z s (k + 1) = crO (onN z s k) (s[k].toNat : Int) := by
  rw [onN, dif_pos h]
theorem tab_get {w : World} {T : List Int} {v : Value} (h : kU.S w T v) (hl : T.length = 256) : ∃ b off c, v = .slice (some ⟨b, off, none⟩) 256 c ∧ 256 ≤ c ∧ ∀ i : Nat, i < 256 → w.cell? ⟨b, off + i, none⟩ = some (.int .u32 (T.getD i 0)) := by
  obtain ⟨A, c, rfl, hc, h⟩ := h
  have key : ∀ i : Nat, i < 256 → ∃ b off, A = some ⟨b, off, none⟩ ∧ w.cell? ⟨b, off + i, none⟩ = some (.int .u32 (T.getD i 0)) := fun i hi => by
    obtain ⟨b1, o1, cs1, e1, k1, q1⟩ := Rp.C_get h i (by omega)
    obtain rfl : cs1 = [.int .u32 (T[i]'(by omega))] := k1
    have := q1 0 _ rfl
    simp only [Rp.int, Rp.scalar, Nat.mul_one, Nat.add_zero] at this
    exact ⟨b1, o1, e1, by rw [this]; simp [List.getD, List.getElem?_eq_getElem (show i < T.length by omega)]⟩
  obtain ⟨b0, o0, rfl, _⟩ := key 0 (by omega)
  refine ⟨b0, o0, c, by rw [hl], by have := hc.1; omega, fun i hi => ?_⟩
  obtain ⟨b1, o1, e1, h1⟩ := key i hi
  simp only [Option.some.injEq, Addr.mk.injEq] at e1
  obtain ⟨rfl, rfl, _⟩ := e1
  exact h1
set_option maxHeartbeats 4000000 in
set_option maxRecDepth 100000 in
theorem iOn_calls (z : Int) (s : ByteArray) (w : World) (hs : s.size ≤ 1073741824) : Calls Try.prog 173 #[.int .u32 z, .string s] w fun e w' => e = .returned (.int .u32 (onN z s s.size)) ∧ Below w.heap.size w w' := by
  go_enter Try.func173, Try.ntmps173
  go_wp2_with ((with_reducible refine (iTab_calls _).mono ?_); rintro e1 w1 ⟨vT, rfl, F, r1, r2, r3, r4⟩; obtain ⟨b, off, c, rfl, hc, hcell⟩ := tab_get (Rp.Row_S r1) (crTab_len 256); have R4 := Lib.hid r4; have HC := Lib.hid hcell; clear r1 r2 r3 r4 hcell)
  go_loopw [0, 10] (fun y i wr => ∃ k : Nat, k ≤ s.size ∧ i = .int .i64 k ∧ y = .int .u32 (onN z s k) ∧ Hid (wr = w1)) (fun _ i _ => s.size - (intOf i).toNat)
  case atStart => exact ⟨0, Nat.zero_le _, rfl, rfl, rfl⟩
  case round =>
    obtain ⟨k, hk, rfl, rfl, HW⟩ := hrel
    obtain rfl := HW.out
    by_cases hlt : k < s.size
    · have i1 : (0 : Int) ≤ (k : Int) := by omega
      have i2 : (k : Int) < s.size := by omega
      have hst := onN_succ z s k hlt
      generalize onN z s k = q at *
      obtain ⟨n, hn, hX⟩ := crX_nat (q % 256) (s[k].toNat : Int)
      rw [crO, hX, Int.toNat_natCast] at hst
      have HST := Lib.hid hst; clear hst
      have a1 := HC.out n hn
      generalize (crTab 256).getD n 0 = t at *
      go_wp2
      exact ⟨⟨k + 1, by omega, by go_num, by rw [HST.out], trivial⟩, by simp [intOf]; omega⟩
    · obtain rfl : k = s.size := by omega
      go_wp2
      go_ret
      exact ⟨rfl, R4.out⟩
set_option maxHeartbeats 4000000 in
set_option maxRecDepth 100000 in
theorem sOn_calls (z : Int) (s : ByteArray) (v : Value) (w : World) (hv : kU.S w (crTab 256) v) (hs : s.size ≤ 1073741824) : Calls Try.prog 216 #[v, .int .u32 z, .string s] w fun e w' => e = .returned (.int .u32 (onN z s s.size)) ∧ w' = w := by
  obtain ⟨b, off, c, rfl, hc, hcell⟩ := tab_get hv (crTab_len 256)
  have HC := Lib.hid hcell; clear hcell hv
  go_enter Try.func216, Try.ntmps216
  go_wp2
  go_loopw [1, 7] (fun y i wr => ∃ k : Nat, k ≤ s.size ∧ i = .int .i64 k ∧ y = .int .u32 (onN z s k) ∧ Hid (wr = w)) (fun _ i _ => s.size - (intOf i).toNat)
  case atStart => exact ⟨0, Nat.zero_le _, rfl, rfl, rfl⟩
  case round =>
    obtain ⟨k, hk, rfl, rfl, HW⟩ := hrel
    obtain rfl := HW.out
    by_cases hlt : k < s.size
    · have i1 : (0 : Int) ≤ (k : Int) := by omega
      have i2 : (k : Int) < s.size := by omega
      have hst := onN_succ z s k hlt
      generalize onN z s k = q at *
      obtain ⟨n, hn, hX⟩ := crX_nat (q % 256) (s[k].toNat : Int)
      rw [crO, hX, Int.toNat_natCast] at hst
      have HST := Lib.hid hst; clear hst
      have a1 := HC.out n hn
      generalize (crTab 256).getD n 0 = t at *
      go_wp2
      exact ⟨⟨k + 1, by omega, by go_num, by rw [HST.out, bits_xc], trivial⟩, by simp [intOf]; omega⟩
    · obtain rfl : k = s.size := by omega
      go_wp2
      go_ret
      exact ⟨rfl, rfl⟩
def sumT (s : ByteArray) : Int := bits .xor .u32 IntKind.u32.max (onN 4294967295 s s.size)
set_option maxHeartbeats 4000000 in
set_option maxRecDepth 100000 in
theorem iSum_calls (s : ByteArray) (w : World) (hs : s.size ≤ 1073741824) : Calls Try.prog 86 #[.string s] w fun e w' => e = .returned (.int .u32 (sumT s)) ∧ Below w.heap.size w w' := by
  go_enter Try.func86, Try.ntmps86
  go_wp2_with ((with_reducible refine (iOn_calls 4294967295 s _ hs).mono ?_); rintro e1 w1 ⟨rfl, hb⟩; have HC := Lib.hid hb; clear hb)
  go_ret
  exact ⟨rfl, HC.out⟩
set_option maxHeartbeats 4000000 in
set_option maxRecDepth 100000 in
theorem sSum_calls (s : ByteArray) (w : World) (hs : s.size ≤ 1073741824) : Calls Try.prog 167 #[.string s] w fun e w' => e = .returned (.int .u32 (sumT s)) ∧ Below w.heap.size w w' := by
  go_enter Try.func167, Try.ntmps167
  go_wp2_with (first | ((with_reducible refine (sTab_calls _).mono ?_); rintro e1 w1 ⟨vT, rfl, F, r1, r2, r3, r4⟩; have rs := Rp.Row_S r1; have R1 := Lib.hid rs; have R4 := Lib.hid r4; clear r1 r2 r3 r4 rs) | ((with_reducible refine (sOn_calls 4294967295 s _ _ R1.out hs).mono ?_); rintro e1 w1 ⟨rfl, rfl⟩))
  go_ret
  exact ⟨rfl, R4.out⟩
theorem varT_size (n : Nat) : (varT n).size ≤ 10 := by
  show (strOfNums (vb 10 n)).size ≤ 10
  have := vb_len 10 n
  simp [strOfNums, ByteArray.size]
  omega
theorem iVarI_calls (z : Int) (t : ByteArray) (w : World) (ht : varT z.toNat = t) (h0 : 0 ≤ z) (h1 : z ≤ 9223372036854775807) : Calls Try.prog 108 #[.int .i64 z] w fun e w' => e = .returned (.string t) ∧ Below w.heap.size w w' := by
  subst ht
  have := iVar_calls z.toNat w (by omega)
  rwa [Int.toNat_of_nonneg h0] at this
theorem sVarI_calls (z : Int) (t : ByteArray) (w : World) (ht : varT z.toNat = t) (h0 : 0 ≤ z) (h1 : z ≤ 9223372036854775807) : Calls Try.prog 183 #[.int .i64 z] w fun e w' => e = .returned (.string t) ∧ Below w.heap.size w w' := by
  subst ht
  have := sVar_calls z.toNat w (by omega)
  rwa [Int.toNat_of_nonneg h0] at this
def chS (f a : Int) (s : ByteArray) : Int := sumT (varT f.toNat ++ varT a.toNat ++ s)
theorem chS_size (m n : Nat) (s : ByteArray) (hs : s.size ≤ 1048576) : (varT m ++ varT n ++ s).size ≤ 1073741824 := by
  have := varT_size m
  have := varT_size n
  simp only [ByteArray.size_append]
  omega
set_option maxHeartbeats 4000000 in
set_option maxRecDepth 100000 in
theorem iChunk_calls (f a : Int) (s : ByteArray) (w : World) (hs : s.size ≤ 1048576) (hf : f ≤ 9223372036854775807) (ha : a ≤ 9223372036854775807) : Calls Try.prog 220 #[.int .i64 f, .int .i64 a, .string s] w fun e w' => e = .returned (.int .u32 (chS f a s)) ∧ Below w.heap.size w w' := by
  obtain ⟨f', h1, h2, h3, h4⟩ : ∃ f' : Int, 0 ≤ f' ∧ f' ≤ 9223372036854775807 ∧ f'.toNat = f.toNat ∧ (f < 0 ∧ f' = 0 ∨ 0 ≤ f ∧ f' = f) := by
    rcases Int.lt_or_le f 0 with h | h
    · exact ⟨0, by omega, by omega, by omega, .inl ⟨h, rfl⟩⟩
    · exact ⟨f, by omega, by omega, by omega, .inr ⟨h, rfl⟩⟩
  obtain ⟨a', k1, k2, k3, k4⟩ : ∃ f' : Int, 0 ≤ f' ∧ f' ≤ 9223372036854775807 ∧ f'.toNat = a.toNat ∧ (a < 0 ∧ f' = 0 ∨ 0 ≤ a ∧ f' = a) := by
    rcases Int.lt_or_le a 0 with h | h
    · exact ⟨0, by omega, by omega, by omega, .inl ⟨h, rfl⟩⟩
    · exact ⟨a, by omega, by omega, by omega, .inr ⟨h, rfl⟩⟩
  have hz := chS_size f'.toNat a'.toNat s hs
  have s1 := varT_size f'.toNat
  have s2 := varT_size a'.toNat
  rw [chS, ← h3, ← k3]
  clear h3 k3
  generalize hF : varT f'.toNat = tf at *
  generalize hA : varT a'.toNat = ta at *
  have HF := Lib.hid hF; have HA := Lib.hid hA; clear hF hA
  have l1 : tf.size + ta.size ≤ 9223372036854775807 := by omega
  have l2 : tf.size + ta.size + s.size ≤ 9223372036854775807 := by omega
  go_enter Try.func220, Try.ntmps220
  rcases h4 with ⟨h4, rfl⟩ | ⟨h4, rfl⟩ <;> rcases k4 with ⟨k4, rfl⟩ | ⟨k4, rfl⟩
  · obtain rfl : tf = ta := HF.out.symm.trans HA.out
    go_wp2_with (first | ((with_reducible refine (iVarI_calls 0 tf _ HF.out (by decide) (by decide)).mono ?_); rintro e1 w1 ⟨rfl, hb⟩; (first | (have HB1 := Lib.hid (HB0.out.trans (hb.mono HB0.out.size)); clear HB0) | have HB0 := Lib.hid hb); clear hb) | ((with_reducible refine (iSum_calls (tf ++ _ ++ s) _ hz).mono ?_); rintro e1 w1 ⟨rfl, hb⟩; have HC := Lib.hid hb; clear hb))
    go_ret
    exact ⟨rfl, HB1.out.trans (HC.out.mono HB1.out.size)⟩
  · go_wp2_with (first | ((with_reducible refine (iVarI_calls 0 tf _ HF.out (by decide) (by decide)).mono ?_); rintro e1 w1 ⟨rfl, hb⟩; (first | (have HB1 := Lib.hid (HB0.out.trans (hb.mono HB0.out.size)); clear HB0) | have HB0 := Lib.hid hb); clear hb) | ((with_reducible refine (iVarI_calls a' ta _ HA.out k1 k2).mono ?_); rintro e1 w1 ⟨rfl, hb⟩; (first | (have HB1 := Lib.hid (HB0.out.trans (hb.mono HB0.out.size)); clear HB0) | have HB0 := Lib.hid hb); clear hb) | ((with_reducible refine (iSum_calls (tf ++ _ ++ s) _ hz).mono ?_); rintro e1 w1 ⟨rfl, hb⟩; have HC := Lib.hid hb; clear hb))
    go_ret
    exact ⟨rfl, HB1.out.trans (HC.out.mono HB1.out.size)⟩
  · go_wp2_with (first | ((with_reducible refine (iVarI_calls f' tf _ HF.out h1 h2).mono ?_); rintro e1 w1 ⟨rfl, hb⟩; (first | (have HB1 := Lib.hid (HB0.out.trans (hb.mono HB0.out.size)); clear HB0) | have HB0 := Lib.hid hb); clear hb) | ((with_reducible refine (iVarI_calls 0 ta _ HA.out (by decide) (by decide)).mono ?_); rintro e1 w1 ⟨rfl, hb⟩; (first | (have HB1 := Lib.hid (HB0.out.trans (hb.mono HB0.out.size)); clear HB0) | have HB0 := Lib.hid hb); clear hb) | ((with_reducible refine (iSum_calls (tf ++ _ ++ s) _ hz).mono ?_); rintro e1 w1 ⟨rfl, hb⟩; have HC := Lib.hid hb; clear hb))
    go_ret
    exact ⟨rfl, HB1.out.trans (HC.out.mono HB1.out.size)⟩
  · go_wp2_with (first | ((with_reducible refine (iVarI_calls f' tf _ HF.out h1 h2).mono ?_); rintro e1 w1 ⟨rfl, hb⟩; (first | (have HB1 := Lib.hid (HB0.out.trans (hb.mono HB0.out.size)); clear HB0) | have HB0 := Lib.hid hb); clear hb) | ((with_reducible refine (iVarI_calls a' ta _ HA.out k1 k2).mono ?_); rintro e1 w1 ⟨rfl, hb⟩; (first | (have HB1 := Lib.hid (HB0.out.trans (hb.mono HB0.out.size)); clear HB0) | have HB0 := Lib.hid hb); clear hb) | ((with_reducible refine (iSum_calls (tf ++ _ ++ s) _ hz).mono ?_); rintro e1 w1 ⟨rfl, hb⟩; have HC := Lib.hid hb; clear hb))
    go_ret
    exact ⟨rfl, HB1.out.trans (HC.out.mono HB1.out.size)⟩
set_option maxHeartbeats 4000000 in
set_option maxRecDepth 100000 in
theorem sl13_calls (f a : Int) (s : ByteArray) (w : World) (hs : s.size ≤ 1048576) (hf : f ≤ 9223372036854775807) (ha : a ≤ 9223372036854775807) : Calls Try.prog 215 #[.int .i64 f, .int .i64 a, .string s] w fun e w' => e = .returned (.int .u32 (chS f a s)) ∧ Below w.heap.size w w' := by
  obtain ⟨f', h1, h2, h3, h4⟩ : ∃ f' : Int, 0 ≤ f' ∧ f' ≤ 9223372036854775807 ∧ f'.toNat = f.toNat ∧ (f < 0 ∧ f' = 0 ∨ 0 ≤ f ∧ f' = f) := by
    rcases Int.lt_or_le f 0 with h | h
    · exact ⟨0, by omega, by omega, by omega, .inl ⟨h, rfl⟩⟩
    · exact ⟨f, by omega, by omega, by omega, .inr ⟨h, rfl⟩⟩
  obtain ⟨a', k1, k2, k3, k4⟩ : ∃ f' : Int, 0 ≤ f' ∧ f' ≤ 9223372036854775807 ∧ f'.toNat = a.toNat ∧ (a < 0 ∧ f' = 0 ∨ 0 ≤ a ∧ f' = a) := by
    rcases Int.lt_or_le a 0 with h | h
    · exact ⟨0, by omega, by omega, by omega, .inl ⟨h, rfl⟩⟩
    · exact ⟨a, by omega, by omega, by omega, .inr ⟨h, rfl⟩⟩
  have hz := chS_size f'.toNat a'.toNat s hs
  have s1 := varT_size f'.toNat
  have s2 := varT_size a'.toNat
  rw [chS, ← h3, ← k3]
  clear h3 k3
  generalize hF : varT f'.toNat = tf at *
  generalize hA : varT a'.toNat = ta at *
  have HF := Lib.hid hF; have HA := Lib.hid hA; clear hF hA
  have l1 : tf.size + ta.size ≤ 9223372036854775807 := by omega
  have l2 : tf.size + ta.size + s.size ≤ 9223372036854775807 := by omega
  go_enter Try.func215, Try.ntmps215
  rcases h4 with ⟨h4, rfl⟩ | ⟨h4, rfl⟩ <;> rcases k4 with ⟨k4, rfl⟩ | ⟨k4, rfl⟩
  · obtain rfl : tf = ta := HF.out.symm.trans HA.out
    go_wp2_with (first | ((with_reducible refine (sVarI_calls 0 tf _ HF.out (by decide) (by decide)).mono ?_); rintro e1 w1 ⟨rfl, hb⟩; (first | (have HB1 := Lib.hid (HB0.out.trans (hb.mono HB0.out.size)); clear HB0) | have HB0 := Lib.hid hb); clear hb) | ((with_reducible refine (sSum_calls (tf ++ _ ++ s) _ hz).mono ?_); rintro e1 w1 ⟨rfl, hb⟩; have HC := Lib.hid hb; clear hb))
    go_ret
    exact ⟨rfl, HB1.out.trans (HC.out.mono HB1.out.size)⟩
  · go_wp2_with (first | ((with_reducible refine (sVarI_calls 0 tf _ HF.out (by decide) (by decide)).mono ?_); rintro e1 w1 ⟨rfl, hb⟩; (first | (have HB1 := Lib.hid (HB0.out.trans (hb.mono HB0.out.size)); clear HB0) | have HB0 := Lib.hid hb); clear hb) | ((with_reducible refine (sVarI_calls a' ta _ HA.out k1 k2).mono ?_); rintro e1 w1 ⟨rfl, hb⟩; (first | (have HB1 := Lib.hid (HB0.out.trans (hb.mono HB0.out.size)); clear HB0) | have HB0 := Lib.hid hb); clear hb) | ((with_reducible refine (sSum_calls (tf ++ _ ++ s) _ hz).mono ?_); rintro e1 w1 ⟨rfl, hb⟩; have HC := Lib.hid hb; clear hb))
    go_ret
    exact ⟨rfl, HB1.out.trans (HC.out.mono HB1.out.size)⟩
  · go_wp2_with (first | ((with_reducible refine (sVarI_calls f' tf _ HF.out h1 h2).mono ?_); rintro e1 w1 ⟨rfl, hb⟩; (first | (have HB1 := Lib.hid (HB0.out.trans (hb.mono HB0.out.size)); clear HB0) | have HB0 := Lib.hid hb); clear hb) | ((with_reducible refine (sVarI_calls 0 ta _ HA.out (by decide) (by decide)).mono ?_); rintro e1 w1 ⟨rfl, hb⟩; (first | (have HB1 := Lib.hid (HB0.out.trans (hb.mono HB0.out.size)); clear HB0) | have HB0 := Lib.hid hb); clear hb) | ((with_reducible refine (sSum_calls (tf ++ _ ++ s) _ hz).mono ?_); rintro e1 w1 ⟨rfl, hb⟩; have HC := Lib.hid hb; clear hb))
    go_ret
    exact ⟨rfl, HB1.out.trans (HC.out.mono HB1.out.size)⟩
  · go_wp2_with (first | ((with_reducible refine (sVarI_calls f' tf _ HF.out h1 h2).mono ?_); rintro e1 w1 ⟨rfl, hb⟩; (first | (have HB1 := Lib.hid (HB0.out.trans (hb.mono HB0.out.size)); clear HB0) | have HB0 := Lib.hid hb); clear hb) | ((with_reducible refine (sVarI_calls a' ta _ HA.out k1 k2).mono ?_); rintro e1 w1 ⟨rfl, hb⟩; (first | (have HB1 := Lib.hid (HB0.out.trans (hb.mono HB0.out.size)); clear HB0) | have HB0 := Lib.hid hb); clear hb) | ((with_reducible refine (sSum_calls (tf ++ _ ++ s) _ hz).mono ?_); rintro e1 w1 ⟨rfl, hb⟩; have HC := Lib.hid hb; clear hb))
    go_ret
    exact ⟨rfl, HB1.out.trans (HC.out.mono HB1.out.size)⟩
theorem lit_le {z : Int} (h : (Lit.int .i64 z).wf = true) : z ≤ 9223372036854775807 := by
  simp [Lit.wf, IntKind.min, IntKind.max, IntKind.signed, IntKind.bits] at h
  omega
theorem iChunkSum_k {f a : Int} {s : ByteArray} {w : World} (h0 : (Lit.int .i64 f).wf = true) (h1 : (Lit.int .i64 a).wf = true) (hs : s.size ≤ 1048576) : Calls Try.prog 220 #[.int .i64 f, .int .i64 a, .string s] w fun e w' => e = .returned (.int .u32 (chS f a s)) ∧ Below w.heap.size w w' := iChunk_calls f a s w hs (lit_le h0) (lit_le h1)
end Go.Proofs.Ytioelmhikablcaa
