/- slices.Insert of one piece among pieces. -/
import Derived.Test.YtioelmhikablcaaInsA
import Derived.Test.YtioelmhikablcaaD1
namespace Go.Proofs.Ytioelmhikablcaa
open Go Go.RowKit
set_option linter.unusedVariables false
set_option linter.unusedSimpArgs false

def encC (x : DChunk) : List Value := [.int .i64 x.fFile, .int .i64 x.fAt, .string x.fData, .int .u32 x.fSum]
theorem kChunk_enc : kChunk.Enc 4 encC := ⟨fun _ => rfl, rfl, fun x u hu => by simp [encC] at hu; rcases hu with rfl | rfl | rfl | rfl <;> rfl, fun h => kChunk_M h, fun w x => kChunk_mk w x⟩
theorem infoCs : (Try.prog.info? 46).map (·.size) = some 4 := by kernel_rfl

theorem nmin_l {a b : Nat} (h : a ≤ b) : Nat.min a b = a := Nat.min_eq_left h
theorem nmin_r {a b : Nat} (h : b ≤ a) : Nat.min a b = b := Nat.min_eq_right h
theorem shape_of {w : World} {b : Nat} {cs : Array Value} {T : TypeId} (h : Box w b cs T) : w.shape? b = some (T, cs.size) := by
  unfold Box at h
  unfold World.shape?
  rw [h]
theorem setRow_kept {F : List Nat} {a w : World} {g : Nat} (h : KeptF F a w) (hg : g ∈ F) (cs : Array Value) : KeptF F a (w.setRow g cs) :=
  h.trans ⟨rfl, rfl, rfl, by simp, fun k hk hf => setRow_other w g k cs (fun e => hf (e ▸ hg))⟩
theorem ov_run (w : World) (b off gy lb cb : Nat) (hne : gy ≠ b) (cy cur : Array Value) (hy : Box w gy cy 46) (hb : Box w b cur 46) (h0 : cur.size ≠ 0) :
    (callFunc 223 #[.slice (some ⟨gy, 0, none⟩) 1 1, .slice (some ⟨b, off, none⟩) lb cb]).run Try.prog w = .ok (.value (.bool false)) w := by
  rw [run_callFunc_extern (fn := Try.f223) (by kernel_rfl) (by kernel_rfl) (by kernel_rfl) (by kernel_rfl) (e := Extern.SlicesOverlaps.overlaps #[31, 31] #[4]) (by kernel_rfl),
    Lib.run_overlaps_apart w 31 4 46 Try.underlying31 4 (fun w => by kernel_rfl) ⟨gy, 0, none⟩ ⟨b, off, none⟩ 1 1 lb cb hne 46 46 cy.size cur.size (shape_of hy) (shape_of hb) h0 (hy.fro 0) (hy.fro cy.size)]
  rfl

def InsP (xs : List DChunk) (i : Nat) (y : DChunk) (F : List Nat) (w : World) (e : Ending) (w' : World) : Prop := ∃ v' F', e = .returned v' ∧ kChunk.Row 46 w' F' (xs.take i ++ y :: xs.drop i) v' ∧ KeptF F w w' ∧ (∀ b ∈ F', b ∈ F ∨ w.heap.size ≤ b) ∧ F'.Nodup
set_option maxHeartbeats 4000000 in
set_option maxRecDepth 100000 in
theorem ins_calls (xs : List DChunk) (i : Nat) (y : DChunk) (F : List Nat) (v : Value) (gy : Nat) (w : World) (hR : kChunk.Row 46 w F xs v) (hi : i ≤ xs.length) (hl : xs.length ≤ 1048576)
    (hy : Box w gy #[.int .i64 y.fFile, .int .i64 y.fAt, .string y.fData, .int .u32 y.fSum] 46) (hne : gy ∉ F) :
    Calls Try.prog 178 #[v, .int .i64 i, .slice (some ⟨gy, 0, none⟩) 1 1] w
    fun e w' => InsP xs i y F w e w' := by
  have HY := Lib.hid hy; clear hy
  have HR := Lib.hid hR
  by_cases hin : i = xs.length
  · subst hin
    obtain ⟨A, c, rfl, hc, _⟩ := Rp.Row_K hR
    clear hR
    have hcc := hc.1
    go_enter Try.func178, Try.ntmps178
    go_wp2_with (at_builtin; refine wp_append (d := kChunk) rfl _ _ 31 46 rfl Try.underlying31 infoChunk rfl (by decide) rfl (by decide) kChunk_flat (xs := xs) (ys := [y]) rfl rfl HR.out (Rp.S_one HY.out (kChunk_mkK _ y)) (by simp; omega) ?_; intro v1 w1 r1 r2 r3 _; have R1 := Lib.hid r1; have R2 := Lib.hid r2; have R3 := Lib.hid r3; clear r1 r2 r3)
    all_goals (go_ret; exact ⟨_, _, rfl, by rw [List.take_length, List.drop_length]; exact R1.out, R2.out, R3.out, ofOwn_nodup _⟩)
  · have hlt : i < xs.length := by omega
    rcases kChunk_enc.Row_of hR with ⟨_, h0, _⟩ | ⟨b, cap, cur, rfl, rfl, hg, hnc, hcm, hcs, ht⟩
    · rw [h0] at hlt; exact absurd hlt (by simp)
    clear hR
    unfold maxLen at hcm
    generalize hn : xs.length = n at *
    have hgy : gy ≠ b := by simpa using hne
    by_cases hroom : n + 1 ≤ cap
    · have HG := Lib.hid hg
      have hb2 : ¬ (cap = i + 1) := by omega
      have hb4 : ¬ (cap = i) := by omega
      have h63 : ¬ (9223372036854775807 < (n : Int) + 1) := by omega
      have hov : ∀ off lb cb, (callFunc 223 #[.slice (some ⟨gy, 0, none⟩) 1 1, .slice (some ⟨b, off, none⟩) lb cb]).run Try.prog w = .ok (.value (.bool false)) w := fun off lb cb => ov_run w b off gy lb cb hgy _ _ HY.out HG.out (by omega)
      have hd := kChunk_enc.dropL i xs
      have hp := kChunk_enc.takeL i xs
      have hdl : (Rp.encL encC (xs.drop i)).length = (n - i) * 4 := by rw [kChunk_enc.lenL, List.length_drop, hn]
      have hpl : (Rp.encL encC (xs.take i)).length = i * 4 := by rw [kChunk_enc.lenL, List.length_take, hn, Nat.min_eq_left (by omega)]
      have hall : cur.toList.take (n * 4) = Rp.encL encC (xs.take i) ++ Rp.encL encC (xs.drop i) := by rw [ht, ← Rp.encL_append, List.take_append_drop]
      have h1c : ∀ u ∈ Rp.encL encC (xs.drop i), u.oneCell' = true := kChunk_enc.oneL _
      have hsrc : ∀ j u, (Rp.encL encC (xs.drop i))[j]? = some u → cur.toList[i * 4 + j]? = some u := fun j u hj => by
        have hjl := (List.getElem?_eq_some_iff.1 hj).1
        have h1 : (cur.toList.take (n * 4))[i * 4 + j]? = some u := by
          rw [hall, List.getElem?_append_right (by omega), hpl, Nat.add_sub_cancel_left]
          exact hj
        rwa [List.getElem?_take_of_lt (by omega)] at h1
      generalize hZ : Rp.encL encC (xs.drop i) = Z at *
      have hcsl : cur.toList.length = cap * 4 := by simpa using hcs
      have hcp1 : ∀ (W : World) (ty : TypeId) (o1 o2 l1 l2 d1 d2 : Nat), W.heap[b]? = some (.cells cur 46 (0, 0)) → o1 = (i + 1) * 4 → o2 = i * 4 → l1 = n - i → l2 = n + 1 - i →
          (Builtin.copy_ #[31, 31] ty #[.slice (some ⟨b, o1, none⟩) l1 d1, .slice (some ⟨b, o2, none⟩) l2 d2]).run Try.prog W = .ok (goInt (n - i : Nat)) (W.setRow b (splice cur.toList ((i + 1) * 4) Z).toArray) := fun W ty o1 o2 l1 l2 d1 d2 hW e1 e2 e3 e4 => by
        subst e1; subst e2; subst e3; subst e4
        have := run_copyK W 31 31 ty 46 4 b ((i + 1) * 4) (n - i) d1 ⟨b, i * 4, none⟩ (n + 1 - i) d2 cur 46 Z Try.underlying31 infoCs hW (by rw [hdl, nmin_r (by omega)]) (fun j u hj => by
          rw [Addr.add_lit]
          have := hsrc j u hj
          simp only [World.cell?, hW]
          simpa using this) (by omega) h1c
        rw [nmin_r (by omega)] at this
        exact this
      have hcp2 : ∀ (W : World) (ty : TypeId) (o1 l1 d1 d2 : Nat) (cu : Array Value), W.heap[b]? = some (.cells cu 46 (0, 0)) → W.heap[gy]? = some (.cells #[.int .i64 y.fFile, .int .i64 y.fAt, .string y.fData, .int .u32 y.fSum] 46 (0, 0)) → o1 = i * 4 → 1 ≤ l1 → i * 4 + 4 ≤ cu.size →
          (Builtin.copy_ #[31, 31] ty #[.slice (some ⟨b, o1, none⟩) l1 d1, .slice (some ⟨gy, 0, none⟩) 1 d2]).run Try.prog W = .ok (goInt (1 : Nat)) (W.setRow b (splice cu.toList (i * 4) (encC y)).toArray) := fun W ty o1 l1 d1 d2 cu hW hW2 e1 e2 e3 => by
        subst e1
        have := run_copyK W 31 31 ty 46 4 b (i * 4) l1 d1 ⟨gy, 0, none⟩ 1 d2 cu 46 (encC y) Try.underlying31 infoCs hW (by rw [nmin_l (by omega)]; rfl) (fun j u hj => by
          rw [Addr.add_lit]
          simp only [World.cell?, hW2]
          simpa [encC] using hj) (by simpa [encC] using e3) (fun u hu => kChunk_enc.one y u hu)
        rw [nmin_l (by omega)] at this
        exact this
      have hs1 : (splice cur.toList ((i + 1) * 4) Z).length = cap * 4 := by rw [length_splice _ _ _ (by omega), hcsl]
      have hend := splice_ins (k := 4) (n := n) (i := i) (L := cur.toList) (a := Rp.encL encC (xs.take i)) (z := Z) (y := encC y) rfl hall hpl hdl hi (by omega)
      have hs2 : (splice (splice cur.toList ((i + 1) * 4) Z) (i * 4) (encC y)).length = cap * 4 := by rw [length_splice _ _ _ (by rw [hs1]; show i * 4 + 4 ≤ _; omega), hs1]
      generalize hS1 : splice cur.toList ((i + 1) * 4) Z = S1 at *
      generalize hS2 : splice S1 (i * 4) (encC y) = S2 at *
      have hg1 : (w.drew.setRow b S1.toArray).heap[b]? = some (.cells S1.toArray 46 (0, 0)) := setRow_heap w.drew b cur _ _ _ HG.out
      have hy1 : (w.drew.setRow b S1.toArray).heap[gy]? = some (.cells #[.int .i64 y.fFile, .int .i64 y.fAt, .string y.fData, .int .u32 y.fSum] 46 (0, 0)) := (setRow_other w.drew b gy _ hgy).trans HY.out
      have hk1 : KeptF [b] w (w.drew.setRow b S1.toArray) := setRow_kept (KeptF.refl _ _).drew (by simp) _
      have HCP1 := Lib.hid (hcp1 w.drew)
      have HG1 := Lib.hid hg1; have HY1 := Lib.hid hy1; have HK1 := Lib.hid hk1; have HS1 := Lib.hid hs1; have HS2 := Lib.hid hs2; have HE := Lib.hid hend; have HHS2 := Lib.hid hS2; have HZ := Lib.hid hZ; have HN := Lib.hid hn; have HCP2 := Lib.hid hcp2
      clear hg hg1 hy1 hk1 hs1 hs2 hend hS2 hS1 hZ hall hsrc h1c hdl hpl hd hp hcp1 hcp2 ht hcs hcsl hn
      generalize w.drew.setRow b S1.toArray = w1 at *
      go_enter Try.func178, Try.ntmps178
      go_wp2_with (simp only [hov])
      have hw1 : IntKind.i64.wrap ((i : Int) + 1) = (i : Int) + 1 := IntWalk.i64_in _ (by omega)
      have hp1 : (0 : Int) ≤ (i : Int) + 1 := by omega
      have htn : ((i : Int) + 1).toNat = i + 1 := by omega
      have hp3 : (i : Int) ≤ (n : Int) + 1 := by omega
      have hp4 : (i : Int) + 1 ≤ (n : Int) + 1 := by omega
      have hp5 : (i : Int) ≤ (n : Int) := by omega
      have hcpr := HCP1.out 3 ((i + 1) * 4) (i * 4) (n - i) (n + 1 - i) (cap - (i + 1)) (cap - i) HG.out rfl rfl rfl rfl
      go_region
      have hcpr2 := HCP2.out w1 3 (i * 4) (n + 1 - i) (cap - i) 1 S1.toArray HG1.out HY1.out rfl (by omega) (by have := HS1.out; simp; omega)
      rw [show S1.toArray.toList = S1 from rfl, HHS2.out] at hcpr2
      have hg2 : (w1.setRow b S2.toArray).heap[b]? = some (.cells S2.toArray 46 (0, 0)) := setRow_heap w1 b S1.toArray _ _ _ HG1.out
      have hk2 : KeptF [b] w (w1.setRow b S2.toArray) := setRow_kept HK1.out (by simp) _
      have HG2 := Lib.hid hg2; have HK2 := Lib.hid hk2
      clear hg2 hk2 hcpr
      generalize w1.setRow b S2.toArray = w2 at *
      go_wp2
      go_ret
      have hlen : (xs.take i ++ y :: xs.drop i).length = n + 1 := by rw [List.length_append, List.length_cons, List.length_take, List.length_drop, HN.out, Nat.min_eq_left hi]; omega
      exact ⟨_, [b], rfl, kChunk_enc.Row_mk hlen.symm HG2.out (by rw [hlen]; exact hroom) (by unfold maxLen; exact hcm) (by simpa using HS2.out) (by rw [hlen]; show S2.take _ = _; rw [HE.out, Rp.encL_append, ← HZ.out]; rfl), HK2.out, fun b hb => .inl hb, by simp⟩
    · have HG := Lib.hid hg
      have hp := kChunk_enc.takeL i xs
      have hdl : (Rp.encL encC (xs.drop i)).length = (n - i) * 4 := by rw [kChunk_enc.lenL, List.length_drop, hn]
      have hpl : (Rp.encL encC (xs.take i)).length = i * 4 := by rw [kChunk_enc.lenL, List.length_take, hn, Nat.min_eq_left (by omega)]
      have hall : cur.toList.take (n * 4) = Rp.encL encC (xs.take i) ++ Rp.encL encC (xs.drop i) := by rw [ht, ← Rp.encL_append, List.take_append_drop]
      have h1c : ∀ u ∈ Rp.encL encC (xs.drop i), u.oneCell' = true := kChunk_enc.oneL _
      have hsrc : ∀ j u, (Rp.encL encC (xs.drop i))[j]? = some u → cur.toList[i * 4 + j]? = some u := fun j u hj => by
        have hjl := (List.getElem?_eq_some_iff.1 hj).1
        have h1 : (cur.toList.take (n * 4))[i * 4 + j]? = some u := by
          rw [hall, List.getElem?_append_right (by omega), hpl, Nat.add_sub_cancel_left]
          exact hj
        rwa [List.getElem?_take_of_lt (by omega)] at h1
      have hsrc0 : ∀ j u, (Rp.encL encC (xs.take i))[j]? = some u → cur.toList[j]? = some u := fun j u hj => by
        have hjl := (List.getElem?_eq_some_iff.1 hj).1
        have h1 : (cur.toList.take (n * 4))[j]? = some u := by
          rw [hall, List.getElem?_append_left (by omega)]
          exact hj
        rwa [List.getElem?_take_of_lt (by omega)] at h1
      generalize hZ : Rp.encL encC (xs.drop i) = Z at *
      generalize hA : Rp.encL encC (xs.take i) = A0 at *
      obtain ⟨W1, q, G, hG1, hG2, hap, hh1, hql, hb1⟩ := append_zeros w 31 3 31 46 Try.underlying31 Try.underlying3 infoChunk rfl (by decide) b i cap (n + 1 - i) A0 hpl (fun j u hj => by
        have := hsrc0 j u hj
        simp only [World.cell?, HG.out]
        simpa using this) (by omega) (by omega) (by omega) (by omega) (by omega)
      rw [show i + (n + 1 - i) = n + 1 by omega] at hap hG1
      rw [show ((n + 1 - i : Nat) : Int) = (n : Int) + 1 - (i : Int) by omega] at hap
      have hbl : b < w.heap.size := by
        have h := HG.out
        exact (Array.getElem?_eq_some_iff.1 h).1
      have hyl := HY.out.lt
      have hgN : W1.heap[gy]? = some (.cells #[.int .i64 y.fFile, .int .i64 y.fAt, .string y.fData, .int .u32 y.fSum] 46 (0, 0)) := (hb1.block gy hyl).trans HY.out
      have hbN : W1.heap[b]? = some (.cells cur 46 (0, 0)) := (hb1.block b hbl).trans HG.out
      have hrl : (A0 ++ q).length = G * 4 := by rw [List.length_append, hpl, hql, ← Nat.add_mul]; congr 1; omega
      have hcpA := run_copyK W1 31 31 3 46 4 w.heap.size (i * 4) (n + 1 - i) (G - i) ⟨gy, 0, none⟩ 1 1 (A0 ++ q).toArray 46 (encC y) Try.underlying31 infoCs hh1 (by rw [nmin_l (by omega)]; rfl) (fun j u hj => by
        rw [Addr.add_lit]
        simp only [World.cell?, hgN]
        simpa [encC] using hj) (by rw [show (A0 ++ q).toArray.size = (A0 ++ q).length from rfl, hrl]; show i * 4 + 4 ≤ _; omega) (fun u hu => kChunk_enc.one y u hu)
      rw [nmin_l (by omega), show (A0 ++ q).toArray.toList = A0 ++ q from rfl] at hcpA
      have hend := splice_fresh (k := 4) (n := n) (i := i) (a := A0) (z := Z) (y := encC y) (q := q) rfl hpl hdl (by rw [hql]; omega) hi
      have hs1 : (splice (A0 ++ q) (i * 4) (encC y)).length = G * 4 := by rw [length_splice _ _ _ (by rw [hrl]; show i * 4 + 4 ≤ _; omega), hrl]
      have hs2 : (splice (splice (A0 ++ q) (i * 4) (encC y)) ((i + 1) * 4) Z).length = G * 4 := by rw [length_splice _ _ _ (by rw [hs1, hdl]; omega), hs1]
      generalize hS1 : splice (A0 ++ q) (i * 4) (encC y) = S1 at *
      have hg2 : (W1.setRow w.heap.size S1.toArray).heap[w.heap.size]? = some (.cells S1.toArray 46 (0, 0)) := setRow_heap W1 w.heap.size _ _ _ _ hh1
      have hb2 : (W1.setRow w.heap.size S1.toArray).heap[b]? = some (.cells cur 46 (0, 0)) := (setRow_other W1 w.heap.size b _ (by omega)).trans hbN
      have hk2 : Below w.heap.size w (W1.setRow w.heap.size S1.toArray) := below_setRow hb1 (Nat.le_refl _) _
      generalize hW2 : W1.setRow w.heap.size S1.toArray = W2 at *
      have hcpB := run_copyK W2.drew 31 31 3 46 4 w.heap.size ((i + 1) * 4) (n - i) (G - (i + 1)) ⟨b, i * 4, none⟩ (n - i) (cap - i) S1.toArray 46 Z Try.underlying31 infoCs hg2 (by rw [nmin_l (Nat.le_refl _)]; exact hdl) (fun j u hj => by
        rw [Addr.add_lit]
        have := hsrc j u hj
        show W2.cell? _ = _
        simp only [World.cell?, hb2]
        simpa using this) (by rw [show S1.toArray.size = S1.length from rfl, hs1, hdl]; omega) h1c
      rw [nmin_l (Nat.le_refl _), show S1.toArray.toList = S1 from rfl] at hcpB
      generalize hS2 : splice S1 ((i + 1) * 4) Z = S2 at *
      have hg3 : (W2.drew.setRow w.heap.size S2.toArray).heap[w.heap.size]? = some (.cells S2.toArray 46 (0, 0)) := setRow_heap W2.drew w.heap.size _ _ _ _ hg2
      have hk3 : Below w.heap.size w (W2.drew.setRow w.heap.size S2.toArray) := below_setRow hk2.drew (Nat.le_refl _) _
      have HG3 := Lib.hid hg3; have HK3 := Lib.hid hk3; have HE := Lib.hid hend; have HS2 := Lib.hid hs2; have HZ := Lib.hid hZ; have HA := Lib.hid hA; have HN := Lib.hid hn
      have hb4 : ¬ (cap = i) := by omega
      have hb5 : ¬ (G = i) := by omega
      have hb6 : ¬ (G = i + 1) := by omega
      have hb7 : (cap : Int) < (n : Int) + 1 := by omega
      have hb8 : (i : Int) ≤ (n : Int) := by omega
      clear hg2 hb2 hk2 hW2 hS1 hS2 hs1 hs2 hg3 hk3 hend hZ hA hn hrl hbN hgN hh1 hql hb1 hsrc hsrc0 h1c hall hpl hdl hp ht hcs hg
      generalize W2.drew.setRow w.heap.size S2.toArray = W3 at *
      go_enter Try.func178, Try.ntmps178
      go_wp2_with (at_builtin; refine Lib.wpList_append_run _ rfl _ _ _ _ rfl _ _ rfl rfl _ _ hap ?_; clear hap)
      have hw1 : IntKind.i64.wrap ((i : Int) + 1) = (i : Int) + 1 := IntWalk.i64_in _ (by omega)
      have hp1 : (0 : Int) ≤ (i : Int) + 1 := by omega
      have htn : ((i : Int) + 1).toNat = i + 1 := by omega
      have hp4 : (i : Int) + 1 ≤ (n : Int) + 1 := by omega
      have hp5 : (i : Int) ≤ (n : Int) := by omega
      go_region
      go_wp2
      go_ret
      have hlen : (xs.take i ++ y :: xs.drop i).length = n + 1 := by rw [List.length_append, List.length_cons, List.length_take, List.length_drop, HN.out, Nat.min_eq_left hi]; omega
      exact ⟨_, [w.heap.size], rfl, kChunk_enc.Row_mk hlen.symm HG3.out (by rw [hlen]; exact hG1) (by unfold maxLen; exact hG2) (by simpa using HS2.out) (by rw [hlen]; show S2.take _ = _; rw [HE.out, Rp.encL_append, ← HZ.out, ← HA.out]; rfl), KeptF.of_below HK3.out, fun b hb => .inr (by simpa using Nat.le_of_eq (List.mem_singleton.1 hb).symm), by simp⟩
end Go.Proofs.Ytioelmhikablcaa
