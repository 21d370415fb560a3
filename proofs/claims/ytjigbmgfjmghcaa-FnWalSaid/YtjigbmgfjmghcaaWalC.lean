/- Logs: what is put behind. -/
import Derived.Test.YtjigbmgfjmghcaaWalB
namespace Go.Proofs.Ytjigbmgfjmghcaa
open Go Go.RowKit Go.Sort
set_option linter.unusedVariables false
set_option linter.unusedSimpArgs false

def addW (x : DWal) (y : DEntry) : DWal := ⟨x.fFirst, x.fBefore, x.fEntries ++ [y]⟩
def appendB (x : DWal) (y : DEntry) : Bool := goodWal x && goodWal (addW x y)
def appendW (x : DWal) (y : DEntry) : DWal := if appendB x y then addW x y else zWal

set_option maxHeartbeats 4000000 in
set_option maxRecDepth 100000 in
theorem iAppendWal_calls (x : DWal) (y : DEntry) (v2 : Value) (w : World) (g2 : kEntry.S w x.fEntries v2) (hl : x.fEntries.length ≤ 2097152) : Calls Try.prog 5 #[.agg #[.int .i64 x.fFirst, .int .i64 x.fBefore, v2], .agg #[.int .i64 y.fTerm, .string y.fData]] w
    fun e w' => ∃ v, e = .returned (.tuple #[v, .bool (appendB x y)]) ∧ MadeW w w' (appendW x y) v := by
  have G := Lib.hid g2; clear g2
  by_cases hg : goodWal x = true
  · have HG := Lib.hid hg
    clear hg
    go_enter Try.func5, Try.ntmps5
    go_wp2_with fail
    (with_reducible refine (iGoodWal_calls x v2 _ (Rp.S_below G.out ((((Below.refl _ _).alloc (Nat.le_refl _) _).alloc (by simp) _).alloc (by simp <;> omega) _)) (by omega)).mono ?_)
    rintro e w1 ⟨rfl, hb⟩
    rw [HG.out]
    have B0 : Box w1 w.heap.size #[.int .i64 x.fFirst, .int .i64 x.fBefore, v2] 25 := Box.below (Box.alloc (Box.alloc (Box.new rfl))) hb
    have B1 : Box w1 (w.heap.size + 1) #[.int .i64 y.fTerm, .string y.fData] 27 := Box.below (Box.alloc (Box.new (by simp))) hb
    have B2 : Box w1 (w.heap.size + 1 + 1) #[.int .i64 0, .int .i64 0, .slice none 0 0] 25 := Box.below (Box.new (by simp)) hb
    have HB := Lib.hid (Below.trans ((((Below.refl w.heap.size w).alloc (Nat.le_refl _) _).alloc (by simp) _).alloc (by simp <;> omega) _) (hb.mono (by simp <;> omega)))
    have hs : w.heap.size + 1 + 1 + 1 ≤ w1.heap.size := by have := hb.size; simpa using this
    clear hb
    have c0_0 := B0.cell 0 (v := .int .i64 x.fFirst) rfl
    have c0_1 := B0.cell 1 (v := .int .i64 x.fBefore) rfl
    have c0_2 := B0.cell 2 (v := v2) rfl
    have c1_0 := B1.cell 0 (v := .int .i64 y.fTerm) rfl
    have c1_1 := B1.cell 1 (v := .string y.fData) rfl
    have X2 := Lib.hid B2
    clear B0 B1 B2
    go_wp2_with fail
    go_region_held3 (fun w' => w'.cell? ⟨w.heap.size, 0, none⟩ = some (.int .i64 x.fFirst) ∧ w'.cell? ⟨w.heap.size, 1, none⟩ = some (.int .i64 x.fBefore) ∧ w'.cell? ⟨w.heap.size, 2, none⟩ = some v2 ∧ w'.cell? ⟨w.heap.size + 1, 0, none⟩ = some (.int .i64 y.fTerm) ∧ w'.cell? ⟨w.heap.size + 1, 1, none⟩ = some (.string y.fData))
      (first | (go_split_ands; refine ⟨?_, ?_, ?_, ?_, ?_⟩ <;> (refine (World.cell?_of_block (Rp.setN_other [_, _, _] w4 (w.heap.size + 1 + 1) 0 _ (by simp <;> omega))).trans ?_; assumption)) | (go_split_ands; refine ⟨?_, ?_, ?_, ?_, ?_⟩ <;> (rw [World.cell?_of_block (hb4.block _ (by have := q2.size; have := hb.size; simp at *; omega))]; first | assumption | (simp [*]; done))) | (go_split_ands; refine ⟨?_, ?_, ?_, ?_, ?_⟩ <;> (rw [World.cell?_of_block (q2.block _ (by have := hb.size; simp at this ⊢; omega) (fun hm => by have := r2 _ hm; simp at this; omega))]; first | assumption | (simp; done) | (simp [*]; done))) | (go_split_ands; refine ⟨?_, ?_, ?_, ?_, ?_⟩ <;> (rw [World.cell?_of_block (hb.block _ (by simp <;> omega))]; first | assumption | (simp; done))) | go_keep)
      (first
        | (go_at_call 20; go_loud (refine (cloneEntry_calls x.fEntries v2 _ (Rp.S_below G.out (by repeat (first | with_reducible exact HB.out | with_reducible refine Below.drew ?_ | with_reducible refine Below.alloc ?_ (by have := HB.out.size; simp <;> omega) _))) (by omega)).mono ?_); rintro e w2 ⟨p, F, rfl, r1, r2, r3, hb⟩; obtain ⟨pa, pc, rfl, _, _⟩ := Rp.Row_K r1)
        | ((refine step_append (d := kEntry) rfl _ _ 23 27 rfl Try.underlying23 infoEntry rfl (by decide) rfl (by decide) kEntry_flat (xs := x.fEntries) (ys := [y]) (by rfl) (by rfl) (by first | exact r1 | exact Rp.Row_below r1 ((Below.refl _ _).alloc (Nat.le_refl _) _)) (by first | exact Rp.S_one (Box.new rfl) (kEntry_mkK _ y) | exact Rp.S_one (Box.below (Box.drew (Box.new rfl)) hb) (kEntry_mkK _ y)) (by simp <;> omega) ?_; intro v3 w3 q1 q2 q3 q4; obtain ⟨pa3, pc3, e3, _, _⟩ := Rp.Row_K q1; rw [List.length_append, List.length_singleton] at e3; subst e3))
        | (go_at_call 19; go_loud (refine (told_calls (addW x y) _ _ (Rp.Row_S q1) (by simp [addW] <;> omega)).mono ?_; rintro e w4 ⟨v5, rfl, v6, F6, rfl, t2, t3, t4, hb4⟩; obtain ⟨pa6, pc6, rfl, _, _⟩ := Rp.Row_K t2; have hF2 : ∀ b ∈ F, w.heap.size + 1 + 1 + 1 ≤ b := (fun b hm => by have := r2 b hm; simp at this; omega); have sz1 := hb.size; have sz2 := q2.size; have sz0 : w.heap.size + 1 + 1 + 1 ≤ w1.heap.size := hs; simp only [World.size_drew, World.size_alloc] at sz1 sz2; have B2 : Box w4 (w.heap.size + 1 + 1) #[.int .i64 0, .int .i64 0, .slice none 0 0] 25 := (by unfold Box; rw [hb4.block _ (by omega), q2.block _ (by first | omega | (simp; omega)) (fun hm => by have := hF2 _ hm; omega)]; (try rw [Below.heap_alloc _ _ _ (by first | omega | (simp; omega))]); rw [hb.block _ (by first | omega | (simp; omega))]; (first | exact X2.out | exact (Below.heap_alloc _ _ _ (by omega)).trans X2.out)); have c2_0 := B2.cell 0 (v := .int .i64 0) rfl; have c2_1 := B2.cell 1 (v := .int .i64 0) rfl; have c2_2 := B2.cell 2 (v := .slice none 0 0) rfl; have f2 := B2.fro)))
    all_goals go_wp2
    all_goals
      have HB4 : Below w.heap.size w1 w4 := by
        first
          | exact (Below.trans (Below.alloc (Below.trans (Below.refl _ _).drew (hb.mono (by simp; omega))) (by omega) _) (q2.toBelow (by simp; omega) (fun b hm => by have := hF2 b hm; omega))).trans (hb4.mono (by omega))
          | exact (Below.trans (Below.trans (Below.alloc (Below.refl _ _) (by omega) _).drew (hb.mono (by simp; omega))) (q2.toBelow (by omega) (fun b hm => by have := hF2 b hm; omega))).trans (hb4.mono (by omega))
      have hk : KeptF [w.heap.size + 1 + 1] w4 (Rp.setN w4 (w.heap.size + 1 + 1) 0 [.int .i64 (toldW (addW x y)).fFirst, .int .i64 (toldW (addW x y)).fBefore, .slice pa6 (toldW (addW x y)).fEntries.length pc6]) := Rp.setN_kept (by simp) _ _ _ (KeptF.refl _ _)
      have hf6 : ∀ b ∈ F6, w.heap.size + 1 + 1 + 1 ≤ b := fun b hm => by have := t3 b hm; omega
      have q := Rp.Row_kept t2 hk (fun b hm => by have := hf6 b hm; simp; omega)
      have bf := B2.setN [.int .i64 (toldW (addW x y)).fFirst, .int .i64 (toldW (addW x y)).fBefore, .slice pa6 (toldW (addW x y)).fEntries.length pc6] 0
      change bodyPost _ _ _ _ _ (Rp.setN w4 (w.heap.size + 1 + 1) 0 [.int .i64 (toldW (addW x y)).fFirst, .int .i64 (toldW (addW x y)).fBefore, .slice pa6 (toldW (addW x y)).fEntries.length pc6])
      clear c2_0 c2_1 c2_2 f2 B2 q1 q2 q3 q4 r1 r2 r3 hb t2
      generalize Rp.setN w4 (w.heap.size + 1 + 1) 0 [.int .i64 (toldW (addW x y)).fFirst, .int .i64 (toldW (addW x y)).fBefore, .slice pa6 (toldW (addW x y)).fEntries.length pc6] = wf at *
      have d0 := bf.cell 0 (v := .int .i64 (toldW (addW x y)).fFirst) rfl
      have d1 := bf.cell 1 (v := .int .i64 (toldW (addW x y)).fBefore) rfl
      have d2 := bf.cell 2 (v := .slice pa6 (toldW (addW x y)).fEntries.length pc6) rfl
      refine bodyPost_ret (v := .tuple #[.agg #[.int .i64 (toldW (addW x y)).fFirst, .int .i64 (toldW (addW x y)).fBefore, .slice pa6 (toldW (addW x y)).fEntries.length pc6], .bool (goodWal (addW x y))]) (by simp [results, Try.results5, go_sem, d0, d1, d2]) rfl ⟨_, by rw [appendB, HG.out, Bool.true_and], ?_⟩
      rw [show appendW x y = toldW (addW x y) by rw [appendW, toldW, appendB, HG.out, Bool.true_and]]
      exact ⟨_, F6, rfl, q, fun b hm => by have := hf6 b hm; omega, t4, (HB.out.trans HB4).trans (hk.toBelow (by have := HB.out.size; have := hb4.size; omega) (by simp; omega))⟩
  · have hg2 : goodWal x = false := by simpa using hg
    have HG := Lib.hid hg2
    clear hg hg2
    go_enter Try.func5, Try.ntmps5
    go_wp2_with fail
    (with_reducible refine (iGoodWal_calls x v2 _ (Rp.S_below G.out ((((Below.refl _ _).alloc (Nat.le_refl _) _).alloc (by simp) _).alloc (by simp <;> omega) _)) (by omega)).mono ?_)
    rintro e w1 ⟨rfl, hb⟩
    rw [HG.out]
    have B2 : Box w1 (w.heap.size + 1 + 1) #[.int .i64 0, .int .i64 0, .slice none 0 0] 25 := Box.below (Box.new (by simp)) hb
    have HB := Lib.hid (Below.trans ((((Below.refl w.heap.size w).alloc (Nat.le_refl _) _).alloc (by simp) _).alloc (by simp <;> omega) _) (hb.mono (by simp <;> omega)))
    have hs : w.heap.size + 1 + 1 + 1 ≤ w1.heap.size := by have := hb.size; simpa using this
    clear hb
    have c2_0 := B2.cell 0 (v := .int .i64 0) rfl
    have c2_1 := B2.cell 1 (v := .int .i64 0) rfl
    have c2_2 := B2.cell 2 (v := .slice none 0 0) rfl
    have f2 := B2.fro
    have X2 := Lib.hid B2
    clear B2
    go_wp2
    have hk : KeptF [w.heap.size + 1 + 1] w1 (Rp.setN w1 (w.heap.size + 1 + 1) 0 [.int .i64 0, .int .i64 0, .slice none 0 0]) := Rp.setN_kept (by simp) _ _ _ (KeptF.refl _ _)
    have bf := X2.out.setN [.int .i64 0, .int .i64 0, .slice none 0 0] 0
    change bodyPost _ _ _ _ _ (Rp.setN w1 (w.heap.size + 1 + 1) 0 [.int .i64 0, .int .i64 0, .slice none 0 0])
    generalize Rp.setN w1 (w.heap.size + 1 + 1) 0 [.int .i64 0, .int .i64 0, .slice none 0 0] = wf at *
    have d0 := bf.cell 0 (v := .int .i64 0) rfl
    have d1 := bf.cell 1 (v := .int .i64 0) rfl
    have d2 := bf.cell 2 (v := .slice none 0 0) rfl
    refine bodyPost_ret (v := .tuple #[.agg #[.int .i64 0, .int .i64 0, .slice none 0 0], .bool false]) (by simp [results, Try.results5, go_sem, d0, d1, d2]) rfl ⟨_, by rw [appendB, HG.out, Bool.false_and], ?_⟩
    rw [show appendW x y = zWal by rw [appendW, appendB, HG.out, Bool.false_and]; rfl]
    exact MadeW.zero _ _ (HB.out.trans (hk.toBelow (by omega) (by simp; omega)))
end Go.Proofs.Ytjigbmgfjmghcaa
