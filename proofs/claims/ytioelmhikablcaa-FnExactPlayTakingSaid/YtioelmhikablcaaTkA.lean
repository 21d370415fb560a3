/- What is wanted: NewTaking. -/
import Derived.Test.YtioelmhikablcaaD2
import Derived.Test.YtioelmhikablcaaMade
namespace Go.Proofs.Ytioelmhikablcaa
open Go Go.RowKit Go.Sort
set_option linter.unusedVariables false
set_option linter.unusedSimpArgs false

theorem ret_bool {a b : Bool} (h : a = b) : Ending.returned (.bool a) = .returned (.bool b) := by rw [h]
def inR (n lo hi : Int) : Bool := decide (lo ≤ n) && decide (n ≤ hi)
def wantB (m : DWanted) : Bool := !inR m.fSize 0 4000
def wantOk (xs : List DWanted) : Bool := decide ((xs.length : Int) ≤ 12) && !xs.any wantB
def zTaking : DTaking := ⟨[], []⟩
def newT (xs : List DWanted) : DTaking := if wantOk xs then ⟨xs, []⟩ else zTaking
theorem any_take {α : Type} {p : α → Bool} {xs : List α} {k : Nat} (h : k < xs.length) : (xs.take (k + 1)).any p = ((xs.take k).any p || p xs[k]) := by
  rw [List.take_add_one, List.getElem?_eq_getElem h, List.any_append]
  simp
theorem any_at {α : Type} {p : α → Bool} {xs : List α} {k : Nat} (h : k < xs.length) (hp : p xs[k] = true) : xs.any p = true := by
  rw [List.any_eq_true]
  exact ⟨xs[k], List.getElem_mem h, hp⟩
/-- An element of a slice of wanted ones. -/
theorem want_at {w wr : World} {A : Option Addr} {xs : List DWanted} (h : kWanted.C w A xs) (hb : Below w.heap.size w wr) (k : Nat) (hk : k < xs.length) :
    ∃ b o, A = some ⟨b, o, none⟩ ∧ wr.cell? ⟨b, o + k * 2, none⟩ = some (.int .i64 xs[k].fSize) ∧ wr.cell? ⟨b, o + k * 2 + 1, none⟩ = some (.int .u32 xs[k].fSum) := by
  obtain ⟨b, o, cs, rfl, k1, q1⟩ := Rp.C_get h k hk
  obtain rfl := kWanted_K k1
  have a0 := (World.cell?_of_block (hb.block b (World.block_lt_of_cell? w _ (q1 0 _ rfl)))).trans (q1 0 _ rfl)
  have a1 := (World.cell?_of_block (hb.block b (World.block_lt_of_cell? w _ (q1 1 _ rfl)))).trans (q1 1 _ rfl)
  simp only [kWanted_sz, Nat.add_zero] at a0 a1
  exact ⟨b, o, rfl, a0, a1⟩
set_option maxHeartbeats 400000 in
theorem iInR_calls (n lo hi : Int) (w : World) : Calls Try.prog 103 #[.int .i64 n, .int .i64 lo, .int .i64 hi] w fun e w' => e = .returned (.bool (inR n lo hi)) ∧ w' = w := by
  go_enter Try.func103, Try.ntmps103
  go_wp2
  all_goals (go_ret; exact ⟨by congr 2; simp [inR]; omega, rfl⟩)
set_option maxHeartbeats 400000 in
theorem sInR_calls (n lo hi : Int) (w : World) : Calls Try.prog 100 #[.int .i64 n, .int .i64 lo, .int .i64 hi] w fun e w' => e = .returned (.bool (inR n lo hi)) ∧ w' = w := by
  go_enter Try.func100, Try.ntmps100
  go_wp2
  all_goals (go_ret; exact ⟨by congr 2; simp [inR]; omega, rfl⟩)
set_option maxHeartbeats 400000 in
theorem cloWant_calls (y : DWanted) (w : World) : Calls Try.prog 219 #[.agg #[.int .i64 y.fSize, .int .u32 y.fSum]] w fun e w' => e = .returned (.bool (wantB y)) ∧ Below w.heap.size w w' := by
  go_enter Try.func219, Try.ntmps219
  go_wp2_with ((with_reducible refine (iInR_calls _ _ _ _).mono ?_); rintro e wq ⟨rfl, rfl⟩)
  all_goals go_ret
  all_goals exact ⟨rfl, (Below.refl _ _).alloc (Nat.le_refl _) _⟩
set_option maxHeartbeats 2000000 in
set_option maxRecDepth 100000 in
theorem idxWant_calls (xs : List DWanted) (v : Value) (w : World) (g : kWanted.S w xs v) (hl : xs.length ≤ 140737488355328) :
    Calls Try.prog 243 #[v, .func (.func 219) #[] #[]] w fun e w' => ∃ r : Int, e = .returned (.int .i64 r) ∧ decide (0 ≤ r) = xs.any wantB ∧ Below w.heap.size w w' := by
  obtain ⟨A, c, rfl, hc, h⟩ := g
  have H := Lib.hid h; clear h
  go_enter Try.func243, Try.ntmps243
  go_wp2
  go_loopw [8] (fun i wr => ∃ k : Nat, k ≤ xs.length ∧ i = .int .i64 k ∧ Hid ((xs.take k).any wantB = false) ∧ Hid (Below w.heap.size w wr)) (fun i _ => xs.length - (intOf i).toNat)
  case atStart => exact ⟨0, Nat.zero_le _, rfl, rfl, Below.refl _ _⟩
  case round =>
    obtain ⟨k, hk, rfl, HE, HB⟩ := hrel
    by_cases hlt : k < xs.length
    · obtain ⟨bx, o, rfl, a0, a1⟩ := want_at H.out HB.out k hlt
      have hany := any_take (p := wantB) hlt
      have hsome := any_at (p := wantB) hlt
      rw [HE.out, Bool.false_or] at hany
      generalize he : xs[k] = y at *
      have HG := Lib.hid he; clear he
      have HA := Lib.hid hany; clear hany
      have HS := Lib.hid hsome; clear hsome HE
      have i1 : (0 : Int) ≤ (k : Int) := by omega
      have i2 : (k : Int) < (xs.length : Int) := by omega
      cases hm : wantB y
      · have HA2 := Lib.hid (HA.out.trans hm)
        clear HA HS
        go_wp2_with (first | (with_reducible refine (cloWant_calls y _).mono ?_; rintro e wq ⟨rfl, hb⟩; rw [hm]; have HB := Lib.hid (HB.out.trans (hb.mono HB.out.size)); clear hb))
        all_goals exact ⟨⟨k + 1, by omega, by go_num, HA2.out, HB.out⟩, by simp [intOf]; omega⟩
      · have HS2 := Lib.hid (HS.out hm)
        clear HA HS
        go_wp2_with (first | (with_reducible refine (cloWant_calls y _).mono ?_; rintro e wq ⟨rfl, hb⟩; rw [hm]; have HB := Lib.hid (HB.out.trans (hb.mono HB.out.size)); clear hb))
        all_goals go_ret
        all_goals exact ⟨k, rfl, by rw [HS2.out]; simp, HB.out⟩
    · go_wp2
      go_ret
      obtain rfl : k = xs.length := by omega
      have h1 := HE.out
      rw [List.take_length] at h1
      exact ⟨-1, rfl, by rw [h1]; rfl, HB.out⟩
set_option maxHeartbeats 1000000 in
theorem conWant_calls (xs : List DWanted) (v : Value) (w : World) (g : kWanted.S w xs v) (hl : xs.length ≤ 140737488355328) :
    Calls Try.prog 218 #[v, .func (.func 219) #[] #[]] w fun e w' => e = .returned (.bool (xs.any wantB)) ∧ Below w.heap.size w w' := by
  have G := Lib.hid g
  clear g
  go_enter Try.func218, Try.ntmps218
  go_wp2_with fail
  (with_reducible refine (idxWant_calls xs v _ G.out hl).mono ?_)
  rintro e w1 ⟨r, rfl, hr, hb⟩
  have HR := Lib.hid hr; have HB := Lib.hid hb
  clear hr hb
  go_wp2
  go_ret
  exact ⟨by rw [← HR.out]; rfl, HB.out⟩
set_option maxHeartbeats 1000000 in
theorem iWantOk_calls (xs : List DWanted) (v : Value) (w : World) (g : kWanted.S w xs v) (hl : xs.length ≤ 140737488355328) : Calls Try.prog 169 #[v] w fun e w' => e = .returned (.bool (wantOk xs)) ∧ Below w.heap.size w w' := by
  have G := Lib.hid g
  obtain ⟨A, c, rfl, hc, h⟩ := g
  clear h
  by_cases h12 : (xs.length : Int) ≤ 12
  · have HW := Lib.hid (show wantOk xs = !xs.any wantB by rw [wantOk, decide_eq_true h12, Bool.true_and])
    go_enter Try.func169, Try.ntmps169
    go_wp2_with ((with_reducible refine (conWant_calls xs _ _ G.out hl).mono ?_); rintro e wq ⟨rfl, hb⟩; have HB := Lib.hid hb; clear hb)
    go_ret
    exact ⟨by rw [HW.out]; rfl, HB.out⟩
  · have HW := Lib.hid (show wantOk xs = false by rw [wantOk, decide_eq_false h12]; rfl)
    go_enter Try.func169, Try.ntmps169
    go_wp2
    go_ret
    exact ⟨by rw [HW.out]; rfl, Below.refl _ _⟩
set_option maxHeartbeats 2000000 in
set_option maxRecDepth 100000 in
theorem sWantOk_calls (xs : List DWanted) (v : Value) (w : World) (g : kWanted.S w xs v) (hl : xs.length ≤ 140737488355328) : Calls Try.prog 163 #[v] w fun e w' => e = .returned (.bool (wantOk xs)) ∧ Below w.heap.size w w' := by
  obtain ⟨A, c, rfl, hc, h⟩ := g
  have H := Lib.hid h; clear h
  go_enter Try.func163, Try.ntmps163
  go_wp2
  go_loopw [7] (fun i wr => ∃ k : Nat, k ≤ xs.length ∧ i = .int .i64 k ∧ Hid ((xs.take k).any wantB = false) ∧ Hid (Below w.heap.size w wr)) (fun i _ => xs.length - (intOf i).toNat)
  case atStart => exact ⟨0, Nat.zero_le _, rfl, rfl, Below.refl _ _⟩
  case round =>
    obtain ⟨k, hk, rfl, HE, HB⟩ := hrel
    by_cases hlt : k < xs.length
    · obtain ⟨bx, o, rfl, a0, a1⟩ := want_at H.out HB.out k hlt
      have hany := any_take (p := wantB) hlt
      have hsome := any_at (p := wantB) hlt
      rw [HE.out, Bool.false_or] at hany
      generalize he : xs[k] = y at *
      have HG := Lib.hid he; clear he
      have HA := Lib.hid hany; clear hany
      have HS := Lib.hid hsome; clear hsome HE
      have i1 : (0 : Int) ≤ (k : Int) := by omega
      have i2 : (k : Int) < (xs.length : Int) := by omega
      cases hm : wantB y
      · have HA2 := Lib.hid (HA.out.trans hm)
        clear HA HS
        go_wp2_with (first | (with_reducible refine (sInR_calls y.fSize _ _ _).mono ?_; rintro e wq ⟨rfl, rfl⟩; rw [show inR y.fSize 0 4000 = !wantB y by rw [wantB, Bool.not_not], hm]))
        all_goals exact ⟨⟨k + 1, by omega, by go_num, HA2.out, HB.out.alloc HB.out.size _⟩, by simp [intOf]; omega⟩
      · have HS2 := Lib.hid (HS.out hm)
        clear HA HS
        go_wp2_with (first | (with_reducible refine (sInR_calls y.fSize _ _ _).mono ?_; rintro e wq ⟨rfl, rfl⟩; rw [show inR y.fSize 0 4000 = !wantB y by rw [wantB, Bool.not_not], hm]))
        all_goals go_ret
        all_goals exact ⟨by rw [wantOk, HS2.out]; simp, HB.out.alloc HB.out.size _⟩
    · go_wp2
      go_ret
      obtain rfl : k = xs.length := by omega
      have h1 := HE.out
      rw [List.take_length] at h1
      exact ⟨by rw [wantOk, h1]; simp, HB.out⟩
theorem Made.tak {x : DTaking} {w w' : World} {v : Value} {F : List Nat} {N : Nat} (hN : w.heap.size ≤ N) (r : kWanted.Row 136 w' F x.fWant v) (t : ∀ b ∈ F, N ≤ b) (n : F.Nodup) (hb : Below w.heap.size w w') (hg : x.fGot = [] := by rfl) : Made kTaking x w w' (.agg #[v, .slice none 0 0]) := by
  refine ⟨_, F ++ [], rfl, kTaking_make r (by rw [hg]; exact Rp.Row_nil _ _ _), fun b h => Nat.le_trans hN (t b (by simpa using h)), by simpa using n, hb⟩
set_option maxHeartbeats 4000000 in
set_option maxRecDepth 100000 in
theorem sNewT_calls (xs : List DWanted) (v : Value) (w : World) (g : kWanted.S w xs v) (hl : xs.length ≤ 1048576) : Calls Try.prog 99 #[v] w
    fun e w' => ∃ v, e = .returned (.tuple #[v, .bool (wantOk xs)]) ∧ Made kTaking (newT xs) w w' v := by
  have G := Lib.hid g
  obtain ⟨A, c, rfl, _, _⟩ := g
  go_enter Try.func99, Try.ntmps99
  go_upto_region 1 with fail
  have HC := Lib.hid (show Below w.heap.size w (w.alloc (.cells #[.slice none 0 0, .slice none 0 0] 33)) from Below.alloc (Below.refl w.heap.size w) (by first | exact Nat.le_refl _ | (simp; done) | (simp; omega)) (.cells #[.slice none 0 0, .slice none 0 0] 33))
  have Xr := Lib.hid (show Box (w.alloc (.cells #[.slice none 0 0, .slice none 0 0] 33)) (w.heap.size) #[.slice none 0 0, .slice none 0 0] 33 from Box.new rfl)
  have hsz : w.heap.size + 1 ≤ (w.alloc (.cells #[.slice none 0 0, .slice none 0 0] 33)).heap.size := by simp
  generalize w.alloc (.cells #[.slice none 0 0, .slice none 0 0] 33) = w1 at *
  have cr_0 := Xr.out.cell 0 (v := .slice none 0 0) rfl; have cr_1 := Xr.out.cell 1 (v := .slice none 0 0) rfl
  go_wp2_with fail
  (with_reducible refine (sWantOk_calls xs _ _ (Rp.S_below G.out HC.out) (by omega)).mono ?_)
  rintro e w2 ⟨rfl, hb⟩
  have HC := Lib.hid (HC.out.trans (hb.mono (by first | exact HC.out.size | (have := HC.out.size; omega)))); have hsz := Nat.le_trans hsz hb.size; have Xr := Lib.hid (Xr.out.below hb); clear cr_0 cr_1; clear hb; have cr_0 := Xr.out.cell 0 (v := .slice none 0 0) rfl; have cr_1 := Xr.out.cell 1 (v := .slice none 0 0) rfl
  cases hg : wantOk xs
  case false =>
    have fr_ := Xr.out.fro
    go_wp2
    obtain ⟨hk, bf⟩ := Xr.out.stored [.slice none 0 0, .slice none 0 0] 0
    rw [setA_all (by rfl)] at bf
    change bodyPost _ _ _ _ _ (Rp.setN w2 (w.heap.size) 0 [.slice none 0 0, .slice none 0 0])
    clear fr_ cr_0 cr_1
    have HK := Lib.hid hk; clear hk
    generalize Rp.setN w2 (w.heap.size) 0 [.slice none 0 0, .slice none 0 0] = wf at *
    have df0 := bf.cell 0 (v := .slice none 0 0) rfl; have df1 := bf.cell 1 (v := .slice none 0 0) rfl
    refine bodyPost_ret (v := .tuple #[.agg #[.slice none 0 0, .slice none 0 0], .bool false]) (by simp [results, Try.results99, go_sem, df0, df1]) rfl ⟨_, by rw [hg], by rw [newT, hg]; exact Made.tak (x := zTaking) (Nat.le_refl _) (Rp.Row_nil _ _ _) (by simp) (by simp) (HC.out.trans (HK.out.toBelow HC.out.size (by simp)))⟩
  case true =>
    have s0 : w.heap.size < w2.heap.size := by omega
    obtain ⟨ka, kb⟩ := acell w2
    have fr0 := Xr.out.fro
    have hsz0 := hsz
    go_wp2_with (at_builtin; go_loud (refine wp_append (d := kWanted) rfl _ _ 30 136 rfl Try.underlying30 infoWanted rfl (by decide) rfl (by decide) kWanted_flat (xs := []) (ys := xs) rfl rfl (Rp.Row_made0 _ _ _ (by simp)) (Rp.S_below G.out (HC.out.alloc HC.out.size _)) (by simp; omega) ?_; intro va wa r1 r2 r3 _; rw [List.nil_append] at r1; obtain ⟨P, C, e1, _, _⟩ := Rp.Row_K r1; subst e1; have hb := r2.newBelow (Nat.le_refl _); have T := Lib.hid (fun b h => by rcases r3 b h with h | h <;> simp at h <;> omega : ∀ b ∈ Rp.ofOwn (.slice P xs.length C), w.heap.size + 1 ≤ b); have R := Lib.hid r1; have N := Lib.hid (ofOwn_nodup (.slice P xs.length C)); clear r1 r2 r3 fr0; (have HC := Lib.hid (HC.out.trans (hb.mono (by first | exact HC.out.size | (have := HC.out.size; omega)))); have hsz := Nat.le_trans hsz hb.size; have Xr := Lib.hid (Xr.out.below hb); clear cr_0 cr_1; clear hb; have cr_0 := Xr.out.cell 0 (v := .slice none 0 0) rfl; have cr_1 := Xr.out.cell 1 (v := .slice none 0 0) rfl); have fr_ := Xr.out.fro))
    obtain ⟨hk, bf⟩ := Xr.out.stored [.slice P xs.length C, .slice none 0 0] 0
    rw [setA_all (by rfl)] at bf
    have q1 := Row_ne R.out hk (fun h => by have h_0 := T.out _ h; omega)
    change bodyPost _ _ _ _ _ (Rp.setN wa (w.heap.size) 0 [.slice P xs.length C, .slice none 0 0])
    clear fr_ cr_0 cr_1
    have HK := Lib.hid hk; clear hk
    generalize Rp.setN wa (w.heap.size) 0 [.slice P xs.length C, .slice none 0 0] = wf at *
    have df0 := bf.cell 0 (v := .slice P xs.length C) rfl; have df1 := bf.cell 1 (v := .slice none 0 0) rfl
    refine bodyPost_ret (v := .tuple #[.agg #[.slice P xs.length C, .slice none 0 0], .bool true]) (by simp [results, Try.results99, go_sem, df0, df1]) rfl ⟨_, by rw [hg], by rw [newT, hg]; exact Made.tak (x := ⟨xs, []⟩) (N := w.heap.size + 1) (by omega) q1 T.out N.out (HC.out.trans (HK.out.toBelow HC.out.size (by simp)))⟩
theorem sNewTaking_k {x : List DWanted} {v : Value} {w : World} (k0 : kWantedS.K w x [v]) (h0 : wfWantedS x) (s0 : smWantedS 1048576 x) : Calls Try.prog 99 #[v] w
    fun e w' => ∃ cs F, e = .returned (.tuple #[.agg cs.toArray, .bool (wantOk x)]) ∧ kTaking.M w' F (newT x) cs ∧ (∀ b ∈ F, w.heap.size ≤ b) ∧ F.Nodup ∧ Below w.heap.size w w' := by
  obtain ⟨_, h, g⟩ := kWantedS_read k0
  obtain rfl := (List.cons.inj h).1
  refine (sNewT_calls x v w g s0).mono ?_
  rintro e w' ⟨v, rfl, cs, F, rfl, h1, h2, h3, h4⟩
  exact ⟨cs, F, rfl, h1, h2, h3, h4⟩
theorem newT_sm {xs : List DWanted} {n m : Nat} (h : smWantedS n xs) (hn : n ≤ m) : smTaking m (newT xs) := by
  unfold smWantedS at h
  unfold smTaking newT zTaking
  split <;> simp <;> omega
end Go.Proofs.Ytioelmhikablcaa
