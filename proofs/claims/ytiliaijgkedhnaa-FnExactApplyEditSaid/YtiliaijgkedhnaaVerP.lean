/- Versions of files: plain facts. -/
import Derived.Test.YtiliaijgkedhnaaV2
import Derived.Laws.Cover1
namespace Go.Proofs.Ytiliaijgkedhnaa
open Go Go.RowKit Go.Sort
set_option linter.unusedVariables false
set_option linter.unusedSimpArgs false

def inR (n lo hi : Int) : Bool := decide (lo ≤ n) && decide (n ≤ hi)
def goodKey (s : ByteArray) : Bool := inR s.size 1 16
def goodVal (s : ByteArray) : Bool := decide ((s.size : Int) ≤ 40)
def leS (a b : ByteArray) : Bool := Op.bytesLess a.toList b.toList || a.toList == b.toList
def goodMeta (m : DMeta) : Bool := inR m.fNumber 1 100000 && inR m.fLevel 0 3 && goodKey m.fLeast && goodKey m.fMost && leS m.fLeast m.fMost
def overI : Option Int → Int → Bool
  | none, _ => true
  | some k, n => decide (k < n)
def metasFrom : Option Int → List DMeta → Bool
  | _, [] => true
  | o, p :: ps => goodMeta p && overI o p.fNumber && metasFrom (some p.fNumber) ps
def prevM (xs : List DMeta) (k : Nat) : Option Int := if k = 0 then none else (xs[k - 1]?).map (·.fNumber)
theorem prevM_succ {xs : List DMeta} {k : Nat} (h : k < xs.length) : prevM xs (k + 1) = some xs[k].fNumber := by
  rw [prevM, if_neg (by omega), Nat.add_sub_cancel, List.getElem?_eq_getElem h]; rfl
theorem prevM_pos {xs : List DMeta} {k : Nat} (h : k - 1 < xs.length) (hk : k ≠ 0) : prevM xs k = some xs[k - 1].fNumber := by
  rw [prevM, if_neg hk, List.getElem?_eq_getElem h]; rfl
def metasOk (xs : List DMeta) : Bool := metasFrom none xs && decide (xs.length ≤ 30)
def meetB (m n : DMeta) : Bool := decide (n.fLevel = m.fLevel) && leS n.fLeast m.fMost && leS m.fLeast n.fMost
def verFrom (next : Int) : List DMeta → List DMeta → Bool
  | _, [] => true
  | pre, m :: rest => decide (m.fNumber < next) && !(decide (0 < m.fLevel) && pre.any (meetB m)) && verFrom next (pre ++ [m]) rest
def cntOk (next seq : Int) : Bool := inR next 1 100001 && inR seq 0 1000000000
def goodVer (v : DVersion) : Bool := cntOk v.fNext v.fSeq && metasOk v.fMetas && verFrom v.fNext [] v.fMetas
theorem verFrom_step {next : Int} {xs : List DMeta} {k : Nat} (h : k < xs.length) : verFrom next (xs.take k) (xs.drop k) = (decide (xs[k].fNumber < next) && !(decide (0 < xs[k].fLevel) && (xs.take k).any (meetB xs[k])) && verFrom next (xs.take (k + 1)) (xs.drop (k + 1))) := by
  rw [List.drop_eq_getElem_cons h, verFrom]
  congr 2
  rw [List.take_add_one, List.getElem?_eq_getElem h]
  rfl
end Go.Proofs.Ytiliaijgkedhnaa
