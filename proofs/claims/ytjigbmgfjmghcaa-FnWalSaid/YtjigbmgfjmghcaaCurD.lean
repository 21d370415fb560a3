/- The term at a log's end. -/
import Derived.Test.YtjigbmgfjmghcaaCurC
import Derived.Test.YtjigbmgfjmghcaaWalD
namespace Go.Proofs.Ytjigbmgfjmghcaa
open Go Go.RowKit Go.Sort
set_option linter.unusedVariables false
set_option linter.unusedSimpArgs false

def termW (x : DWal) : Int := match x.fEntries.getLast? with
  | some e => e.fTerm
  | none => x.fBefore
theorem termW_some {x : DWal} (h : 0 < x.fEntries.length) : termW x = (x.fEntries[x.fEntries.length - 1]).fTerm := by
  unfold termW
  rw [List.getLast?_eq_getElem?, List.getElem?_eq_getElem (by omega)]
theorem termW_none {x : DWal} (h : x.fEntries.length = 0) : termW x = x.fBefore := by
  unfold termW
  rw [List.length_eq_zero_iff.1 h]
  rfl
set_option maxHeartbeats 4000000 in
set_option maxRecDepth 100000 in
theorem sTerm_calls (x : DWal) (v2 : Value) (w : World) (g2 : kEntry.S w x.fEntries v2) (hl : x.fEntries.length ≤ 1048576) : Calls Try.prog 17 #[.agg #[.int .i64 x.fFirst, .int .i64 x.fBefore, v2]] w
    fun e w' => e = .returned (.int .i64 (termW x)) ∧ Below w.heap.size w w' := by
  obtain ⟨A2, c2, rfl, _, hC⟩ := g2
  by_cases hz : x.fEntries.length = 0
  · have HT := Lib.hid (termW_none hz)
    have hz2 : (x.fEntries.length : Int) = 0 := by omega
    rw [hz]
    have HA := Lib.hid ((Below.refl w.heap.size w).alloc (Nat.le_refl _) (.cells #[.int .i64 x.fFirst, .int .i64 x.fBefore, .slice A2 0 c2] 25))
    go_enter Try.func17, Try.ntmps17
    go_wp2
    go_ret
    exact ⟨by rw [HT.out]; rfl, HA.out⟩
  · have HT := Lib.hid (termW_some (x := x) (by omega))
    obtain ⟨g, o, cs, rfl, k1, q1⟩ := Rp.C_get hC (x.fEntries.length - 1) (by omega)
    obtain rfl := kEntry_K k1
    have a0 : w.cell? ⟨g, o + (x.fEntries.length - 1) * 2, none⟩ = some (.int .i64 (x.fEntries[x.fEntries.length - 1]).fTerm) := by
      have := q1 0 _ rfl
      simpa [kEntry_sz] using this
    have ub := World.block_lt_of_cell? w _ a0
    generalize (x.fEntries[x.fEntries.length - 1]).fTerm = t at *
    obtain ⟨n, hn⟩ : ∃ n, x.fEntries.length = n + 1 := ⟨x.fEntries.length - 1, by omega⟩
    clear q1 hC
    rw [hn] at a0 hl ub ⊢
    rw [show n + 1 - 1 = n by omega] at a0 ub
    have HA := Lib.hid ((Below.refl w.heap.size w).alloc (Nat.le_refl _) (.cells #[.int .i64 x.fFirst, .int .i64 x.fBefore, .slice (some ⟨g, o, none⟩) (n + 1) c2] 25))
    have i1 : (0 : Int) < (n : Int) + 1 := by omega
    have i2 : (n : Int) ≤ 1048576 := by omega
    go_enter Try.func17, Try.ntmps17
    go_wp2
    go_ret
    exact ⟨by rw [HT.out]; rfl, HA.out⟩
end Go.Proofs.Ytjigbmgfjmghcaa
