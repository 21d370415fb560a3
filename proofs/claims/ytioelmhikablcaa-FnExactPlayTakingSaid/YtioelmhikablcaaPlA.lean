/- A text with a bit turned. -/
import Derived.Test.YtioelmhikablcaaTkF
import Derived.StillTailTactics
import Derived.Laws.IdiomStrings
import Derived.Laws.BytesArg
namespace Go.Proofs.Ytioelmhikablcaa
open Go Go.RowKit Go.Sort
set_option linter.unusedVariables false
set_option linter.unusedSimpArgs false

theorem str_bytes {P : Program} (w : World) (src dst e : TypeId) (s : ByteArray) (hs : P.underlying src = some .string) (hd : P.underlying dst = some (.slice e)) (he : P.underlying e = some (.int .u8)) :
    ∃ W1 cap, (convert src dst (.string s)).run P w = .ok (.slice (some ⟨w.heap.size, 0, none⟩) s.size cap) W1 ∧ (∀ j (h : j < s.size), W1.cell? ⟨w.heap.size, j, none⟩ = some (.int .u8 (s[j].toNat : Int))) ∧ (∀ j, j < s.size → W1.frozen? ⟨w.heap.size, j, none⟩ = false) ∧
      Below w.heap.size w W1 ∧ w.heap.size < W1.heap.size := by
  refine ⟨_, _, run_bytes_of_string w src dst e s hs hd he, fun j h => ?_, fun j h => ?_, Below.alloc (Below.drew (Below.refl _ _)) (Nat.le_refl _) _, by simp⟩
  · rw [show w.heap.size = w.drew.heap.size from rfl, World.cell?_alloc_mark, bytesRow_at s _ j h]
    rfl
  · rw [show w.heap.size = w.drew.heap.size from rfl, World.frozen?_alloc_mark]
    have : ¬ (bytesRow s (grownCap w s.size 0 e)).size ≤ j := by
      have h2 := bytesRow_at s (grownCap w s.size 0 e) j h
      have := (Array.getElem?_eq_some_iff.1 h2).1
      omega
    simp [this]
def nums (s : ByteArray) : List Int := s.data.toList.map fun b => (b.toNat : Int)
theorem nums_len (s : ByteArray) : (nums s).length = s.size := by simp [nums]
theorem nums_at (s : ByteArray) (j : Nat) (h : j < s.size) : (nums s).getD j 0 = (s[j].toNat : Int) := by
  have h2 : j < s.data.size := h
  rw [nums, List.getD, List.getElem?_map, List.getElem?_eq_getElem (by simpa using h2)]
  rfl
def fbT (c bit : Int) : Int := bits .xor .u8 c (IntKind.u8.wrap (2 ^ (bit.tmod 8).toNat))
def flT (s : ByteArray) (bit : Int) : ByteArray := if inR bit 0 (8 * (s.size : Int) - 1) then strOfNums ((nums s).set (bit / 8).toNat (fbT ((nums s).getD (bit / 8).toNat 0) bit)) else s
theorem flT_size (s : ByteArray) (bit : Int) : (flT s bit).size = s.size := by
  unfold flT
  split
  · rw [strOfNums_size, List.length_set, nums_len]
  · rfl
/-- A row of bytes, one of them written, made a text. -/
theorem bytes_back {P : Program} (w w1 : World) {src dst e : TypeId} (hs : P.underlying src = some (.slice e)) (he : P.underlying e = some (.int .u8)) (hd : P.underlying dst = some .string) (s : ByteArray) (k cap g : Nat) (v : Int)
    (hc : ∀ j (h : j < s.size), w1.cell? ⟨g, j, none⟩ = some (.int .u8 (s[j].toNat : Int))) (hk : k < s.size) :
    (convert src dst (.slice (some ⟨g, 0, none⟩) s.size cap)).run P (w1.setCell ⟨g, k, none⟩ (.int .u8 v)) = .ok (.string (strOfNums ((nums s).set k v))) (w1.setCell ⟨g, k, none⟩ (.int .u8 v)) := by
  refine run_convert_bytes_arg _ src e hs he g 0 s.size cap ((nums s).set k v) (by rw [List.length_set, nums_len]) (fun i hi => ?_) dst hd
  rw [Nat.zero_add]
  by_cases hik : k = i
  · subst hik
    rw [World.cell?_setCell_same' _ _ _ (by rw [hc k hk]; rfl), List.getD, List.getElem?_set_self (by rw [nums_len]; exact hk)]
    rfl
  · rw [(World.cell?_setCell_other _ _ _ _ (by intro h; cases h; exact hik rfl) : (w1.setCell ⟨g, k, none⟩ (.int .u8 v)).cell? ⟨g, i, none⟩ = w1.cell? ⟨g, i, none⟩), hc i hi, List.getD, List.getElem?_set_ne hik, ← List.getD, nums_at s i hi]
set_option maxHeartbeats 4000000 in
set_option maxRecDepth 100000 in
theorem flip_calls (s : ByteArray) (bit : Int) (w : World) (hs : s.size ≤ 64) : Calls Try.prog 104 #[.string s, .int .i64 bit] w fun e w' => e = .returned (.string (flT s bit)) ∧ Below w.heap.size w w' := by
  by_cases hin : 0 ≤ bit ∧ bit ≤ 8 * (s.size : Int) - 1
  · have hi : inR bit 0 (8 * (s.size : Int) - 1) = true := inR_iff.2 hin
    obtain ⟨h0, h1⟩ := hin
    have HI := Lib.hid hi; clear hi
    obtain ⟨w1, cap, hrun, hc, hf, hb, hsz⟩ := str_bytes w 9 65 5 s Try.underlying9 Try.underlying65 Try.underlying5
    obtain ⟨k, hk⟩ : ∃ k : Nat, bit / 8 = (k : Int) := ⟨(bit / 8).toNat, by omega⟩
    have hkl : k < s.size := by omega
    have hck := hc k hkl
    have hfk := hf k hkl
    have HC := Lib.hid hc; have HF := Lib.hid hf; have HB := Lib.hid hb; have HK := Lib.hid hk
    clear hc hf hb
    have k1 : (0 : Int) ≤ bit / 8 := by omega
    have k2 : bit / 8 < (s.size : Int) := by omega
    go_enter Try.func104, Try.ntmps104
    go_wp2_with ((with_reducible refine (iInR_calls _ _ _ _).mono ?_); rintro e wq ⟨rfl, hw⟩; rw [HI.out, hw]; clear hw)
    have hq : IntKind.i64.wrap (bit.tdiv 8) = (k : Int) := by rw [Int.tdiv_eq_ediv_of_nonneg h0, HK.out]; exact IntWalk.i64_in _ (by omega)
    have hr : IntKind.i64.wrap (bit.tmod 8) = bit % 8 := by rw [Int.tmod_eq_emod_of_nonneg h0]; exact IntWalk.i64_in _ (by omega)
    have r1 : 0 ≤ bit.tmod 8 := by rw [Int.tmod_eq_emod_of_nonneg h0]; omega
    have r2 : bit.tmod 8 ≤ 8 := by rw [Int.tmod_eq_emod_of_nonneg h0]; omega
    have k3 : (0 : Int) ≤ (k : Int) := by omega
    have k4 : (k : Int) < (s.size : Int) := by omega
    clear hk
    go_still_tail 10, (by kernel_rfl)
    change wpList _ _ _ _ _ w1.drew
    have HFL := Lib.hid (show flT s bit = strOfNums ((nums s).set k (fbT (s[k].toNat : Int) bit)) by rw [flT, if_pos HI.out, show (bit / 8).toNat = k by rw [HK.out]; rfl, nums_at s k hkl])
    rw [show bits BinOp.xor IntKind.u8 (s[k].toNat : Int) (IntKind.u8.wrap (2 ^ (bit.tmod 8).toNat)) = fbT (s[k].toNat : Int) bit from rfl]
    have hb2 := bytes_back (P := Try.prog) w w1.drew (src := 65) (dst := 9) Try.underlying65 Try.underlying5 Try.underlying9 s k cap w.heap.size (fbT (s[k].toNat : Int) bit) (fun j h => HC.out j h) hkl
    generalize fbT (s[k].toNat : Int) bit = v at *
    have HB2 := Lib.hid (show Below w.heap.size w (w1.drew.setCell ⟨w.heap.size, k, none⟩ (.int .u8 v)) from HB.out.drew.setCell (Nat.le_refl _) _)
    have hb3 : (convert 65 9 (.slice (some ⟨w.heap.size, 0, none⟩) s.size cap)).run Try.prog (w1.setCell ⟨w.heap.size, k, none⟩ (.int .u8 v)).drew = .ok (.string (strOfNums ((nums s).set k v))) (w1.setCell ⟨w.heap.size, k, none⟩ (.int .u8 v)).drew := hb2
    clear hb2 hrun
    go_wp2
    go_ret
    exact ⟨by rw [HFL.out]; rfl, HB2.out⟩
  · have HI := Lib.hid (show inR bit 0 (8 * (s.size : Int) - 1) = false from inR_no.2 hin)
    have HFL := Lib.hid (show flT s bit = s by rw [flT, HI.out]; rfl)
    clear hin
    go_enter Try.func104, Try.ntmps104
    go_wp2_with ((with_reducible refine (iInR_calls _ _ _ _).mono ?_); rintro e wq ⟨rfl, hw⟩; rw [HI.out, hw]; clear hw)
    go_ret
    exact ⟨by rw [HFL.out]; rfl, Below.refl _ _⟩
end Go.Proofs.Ytioelmhikablcaa
