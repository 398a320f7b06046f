/- Plain laws: a row of bytes that is changed byte by byte. -/
import Derived.Test.YtfdfkhpoblembaaDoorMapS
namespace Go.Proofs.YtfdfkhpoblembaaDoor
open Go.RowKit Go.Proofs.YtfdfkhpoblembaaDoorW.PrintWords

/-- The first k bytes are changed. -/
def mapTo (f : Int → Int) (l : List Int) (k : Nat) : List Int := (l.take k).map f ++ l.drop k
theorem mapTo_zero (f : Int → Int) (l : List Int) : mapTo f l 0 = l := by simp [mapTo]
theorem mapTo_all (f : Int → Int) (l : List Int) : mapTo f l l.length = l.map f := by simp [mapTo]
theorem mapTo_length (f : Int → Int) (l : List Int) (k : Nat) : (mapTo f l k).length = l.length := by simp [mapTo]; omega
theorem mapTo_at (f : Int → Int) (l : List Int) (k : Nat) (h : k < l.length) : (mapTo f l k).getD k 0 = l.getD k 0 := by
  simp [mapTo, List.getD_eq_getElem?_getD, List.getElem?_append, Nat.min_eq_left (Nat.le_of_lt h)]
theorem mapTo_step (f : Int → Int) (l : List Int) (k : Nat) (h : k < l.length) : (mapTo f l k).set k (f (l.getD k 0)) = mapTo f l (k + 1) := by
  simp only [mapTo]
  rw [List.set_append_right _ _ (by simp; omega)]
  have e : k - ((l.take k).map f).length = 0 := by simp; omega
  rw [e, List.drop_eq_getElem_cons h, List.set_cons_zero, List.take_succ_eq_append_getElem h, List.map_append, List.append_assoc]
  simp only [List.getD_eq_getElem?_getD, List.getElem?_eq_getElem h, Option.getD_some, List.map_cons, List.map_nil, List.singleton_append]
theorem mapTo_same (f : Int → Int) (l : List Int) (k : Nat) (h : k < l.length) (e : f (l.getD k 0) = l.getD k 0) : mapTo f l (k + 1) = mapTo f l k := by
  rw [← mapTo_step f l k h, e, ← mapTo_at f l k h]
  apply List.ext_getElem?
  intro i
  by_cases hi : k = i
  · subst hi; simp [mapTo_length, h, List.getD_eq_getElem?_getD]
  · simp [hi]
end Go.Proofs.YtfdfkhpoblembaaDoor
