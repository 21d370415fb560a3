/- Nodes and messages: plain facts. -/
import Derived.Test.YtcimnhpgackciaaN3
import Derived.Laws.Cover1
namespace Go.Proofs.Ytcimnhpgackciaa
open Go Go.RowKit Go.Sort
set_option linter.unusedVariables false
set_option linter.unusedSimpArgs false

def inR (n lo hi : Int) : Bool := decide (lo ≤ n) && decide (n ≤ hi)
def goodE (e : DEntry) : Bool := inR e.fTerm 1 1000000 && decide ((e.fData.size : Int) ≤ 100)
def overLe : Option Int → Int → Bool
  | none, _ => true
  | some k, n => decide (k ≤ n)
def entFrom (tm : Int) : Option Int → List DEntry → Bool
  | _, [] => true
  | o, p :: ps => goodE p && decide (p.fTerm ≤ tm) && overLe o p.fTerm && entFrom tm (some p.fTerm) ps
def prevE (xs : List DEntry) (k : Nat) : Option Int := if k = 0 then none else (xs[k - 1]?).map (·.fTerm)
theorem prevE_succ {xs : List DEntry} {k : Nat} (h : k < xs.length) : prevE xs (k + 1) = some xs[k].fTerm := by
  rw [prevE, if_neg (by omega), Nat.add_sub_cancel, List.getElem?_eq_getElem h]; rfl
theorem prevE_pos {xs : List DEntry} {k : Nat} (h : k - 1 < xs.length) (hk : k ≠ 0) : prevE xs k = some xs[k - 1].fTerm := by
  rw [prevE, if_neg hk, List.getElem?_eq_getElem h]; rfl
/-- The reference's way. -/
def entS (tm : Int) : Int → List DEntry → Bool
  | _, [] => true
  | f, p :: ps => goodE p && inR p.fTerm f tm && entS tm p.fTerm ps
theorem entS_some (tm : Int) : ∀ (f : Int) (es : List DEntry), entFrom tm (some f) es = entS tm f es
  | _, [] => rfl
  | f, p :: ps => by
    rw [entFrom, entS, entS_some tm p.fTerm ps, overLe, inR, Bool.and_assoc (goodE p), Bool.and_comm (decide (p.fTerm ≤ tm))]
theorem entS_none (tm : Int) : ∀ es : List DEntry, entFrom tm none es = entS tm 1 es
  | [] => rfl
  | p :: ps => by
    rw [entFrom, entS, entS_some tm p.fTerm ps, overLe, inR, Bool.and_true, Bool.and_assoc (goodE p)]
    cases hg : goodE p
    · simp
    · have h1 : (1 : Int) ≤ p.fTerm := by
        simp only [goodE, inR, Bool.and_eq_true, decide_eq_true_eq] at hg
        exact hg.1.1
      rw [decide_eq_true h1]
      simp
def nodeB (id peers : Int) : Bool := inR peers 1 7 && inR id 0 (peers - 1)
def zRaftNode : DRaftNode := ⟨0, 0, 0, 0, [], 0, 0, [], []⟩
def nodeV (id peers : Int) : DRaftNode := if nodeB id peers then ⟨id, peers, 0, -1, [], 0, 0, [], []⟩ else zRaftNode
end Go.Proofs.Ytcimnhpgackciaa
