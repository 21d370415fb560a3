/- The laws' own functions of some types, one by one. -/
import Derived.Test.YtjigbmgfjmghcaaTxt
namespace Go.Proofs.Ytjigbmgfjmghcaa
open Go Go.RowKit Go.Sort
set_option linter.unusedVariables false
set_option linter.unusedSimpArgs false

structure DEntry where
  fTerm : Int
  fData : ByteArray
def kEntry : Rp DEntry := Rp.iso (Rp.pair (Rp.int .i64) (Rp.str)) (fun x => (x.fTerm, x.fData))
theorem kEntry_sz : kEntry.sz = 2 := rfl
theorem kEntry_K {w : World} {x : DEntry} {cs : List Value} (h : kEntry.K w x cs) : cs = [.int .i64 x.fTerm, .string x.fData] := by
  obtain ⟨_, _, rfl, rfl, rfl⟩ := h
  rfl
theorem kEntry_M {w : World} {F : List Nat} {x : DEntry} {cs : List Value} (h : kEntry.M w F x cs) : F = [] ∧ cs = [.int .i64 x.fTerm, .string x.fData] := by
  obtain ⟨_, _, _, _, rfl, rfl, ⟨rfl, rfl⟩, ⟨rfl, rfl⟩⟩ := h
  exact ⟨rfl, rfl⟩
theorem kEntry_mk (w : World) (x : DEntry) : kEntry.M w [] x [.int .i64 x.fTerm, .string x.fData] := ⟨[.int .i64 x.fTerm], [.string x.fData], [], [], rfl, rfl, ⟨rfl, rfl⟩, ⟨rfl, rfl⟩⟩
theorem kEntry_mkK (w : World) (x : DEntry) : kEntry.K w x [.int .i64 x.fTerm, .string x.fData] := kEntry.M_K (kEntry_mk w x)

def szNEntry (x : DEntry) : Nat := x.fData.size

def wfEntry (x : DEntry) : Prop := x.fData.size ≤ 140737488355328

theorem infoEntry : (Try.prog.info? 27).map (fun i => (i.zero, i.size, i.bytes)) = some (some (.agg #[.int .i64 0, .string ⟨#[]⟩]), 2, 24) := by kernel_rfl
def zEntry : DEntry := ⟨0, ⟨#[]⟩⟩

def mkEntry (x : DEntry) (k : Int) : DEntry × Int := ((⟨k, (mtxt (k + 1))⟩ : DEntry), k + 2)
theorem mkEntry_le (x : DEntry) (k : Int) : k ≤ (mkEntry x k).2 := by simp only [mkEntry]; omega

theorem kEntry_flat : kEntry.Flat := ⟨fun h => (kEntry_M h).1, fun h => by obtain rfl := kEntry_K h; exact kEntry_mk _ _⟩
set_option maxHeartbeats 1000000 in
set_option maxRecDepth 100000 in
theorem cloneEntry_calls (xs : List DEntry) (v : Value) (w : World) (g : kEntry.S w xs v) (hl : xs.length ≤ 16777216) : Calls Try.prog 20 #[v] w
    fun e w' => ∃ v' F, e = .returned v' ∧ kEntry.Row 27 w' F xs v' ∧ (∀ b ∈ F, w.heap.size ≤ b) ∧ F.Nodup ∧ Below w.heap.size w w' := by
  have g0 := g
  obtain ⟨A, c, rfl, hc, h⟩ := g
  have H := Lib.hid g0; clear g0 h
  cases A with
  | none =>
    have e1 := hc.2 rfl
    subst e1
    have e2 : xs = [] := List.length_eq_zero_iff.1 (Nat.le_zero.1 hc.1)
    subst e2
    clear hc H
    have he := Lib.run_eql_slice_nil (P := Try.prog) w 23 27 none 0 0 0 0 Try.underlying23
    go_enter Try.func20, Try.ntmps20
    go_wp2
    go_ret
    exact ⟨_, [], rfl, Rp.Row_nil _ _ _, by simp, by simp, Below.refl _ _⟩
  | some a =>
    have he := Lib.run_eql_slice_nil (P := Try.prog) w 23 27 (some a) xs.length c 0 0 Try.underlying23
    go_enter Try.func20, Try.ntmps20
    go_wp2_with (at_builtin; refine wp_append (d := kEntry) rfl _ _ 23 27 rfl Try.underlying23 infoEntry rfl (by decide) rfl (by decide) kEntry_flat (xs := []) (ys := xs) rfl rfl (Rp.Row_made0 _ _ _ (by simp)) (Rp.S_below H.out ((Below.refl _ _).alloc (Nat.le_refl _) _)) (by simpa using hl) ?_; intro v1 w1 r1 r2 r3 _; have R1 := Lib.hid r1; have R2 := Lib.hid r2; have R3 := Lib.hid r3; clear r1 r2 r3)
    go_ret
    exact ⟨_, _, rfl, R1.out, fun b hb => by rcases R3.out b hb with h | h <;> simp at h <;> omega, ofOwn_nodup _, R2.out.newBelow (Nat.le_refl _)⟩

end Go.Proofs.Ytjigbmgfjmghcaa
