/- Parts of one proof, one behind the other: An element as a tree, and as the cells of a value. -/
import Derived.Test.YtmnajffpmbidiaaGreatDoorMcj
/- An element as a tree, and as the cells of a value. -/
namespace Go.Proofs.YtmnajffpmbidiaaGreatDoor.Ev
set_option linter.all false
inductive El where
  | mk (sp nm tx : List UInt8) (ats : List (List UInt8 × List UInt8 × List UInt8)) (kids : List El)
def atC (a : List UInt8 × List UInt8 × List UInt8) : List AV := [.str a.1, .str a.2.1, .str a.2.2]
mutual
def eC : El → List AV
  | .mk sp nm tx ats kids => [.str sp, .str nm, .str tx, .lst ats.length (ats.flatMap atC), .lst kids.length (kC kids)]
def kC : List El → List AV
  | [] => []
  | k :: ks => eC k ++ kC ks
end
def El.sp : El → List UInt8 | .mk sp _ _ _ _ => sp
def El.nm : El → List UInt8 | .mk _ nm _ _ _ => nm
def El.tx : El → List UInt8 | .mk _ _ tx _ _ => tx
def El.ats : El → List (List UInt8 × List UInt8 × List UInt8) | .mk _ _ _ a _ => a
def El.kids : El → List El | .mk _ _ _ _ ks => ks
theorem eC_eq (x : El) : eC x = [.str x.sp, .str x.nm, .str x.tx, .lst x.ats.length (x.ats.flatMap atC), .lst x.kids.length (kC x.kids)] := by cases x; rfl
theorem eC_len (e : El) : (eC e).length = 5 := by rw [eC_eq]; rfl
theorem kC_len : ∀ l : List El, (kC l).length = l.length * 5
  | [] => rfl
  | k :: ks => by simp [kC, eC_len, kC_len ks]; omega
theorem kC_drop : ∀ (l : List El) (k : Nat), (kC l).drop (k * 5) = kC (l.drop k)
  | l, 0 => by simp
  | [], k + 1 => by simp [kC]
  | x :: l, k + 1 => by
    rw [kC, show (k + 1) * 5 = 5 + k * 5 by omega, ← List.drop_drop, List.drop_left' (eC_len x), kC_drop l k]; rfl
theorem atC_low (a : List UInt8 × List UInt8 × List UInt8) (n : Nat) : lowL n (atC a) = true := rfl
theorem atsC_low (n : Nat) : ∀ l : List (List UInt8 × List UInt8 × List UInt8), lowL n (l.flatMap atC) = true
  | [] => rfl
  | a :: l => by simp [List.flatMap_cons, lowL_app, atC_low, atsC_low n l]
theorem atsC_len : ∀ l : List (List UInt8 × List UInt8 × List UInt8), (l.flatMap atC).length = l.length * 3
  | [] => rfl
  | a :: l => by rw [List.flatMap_cons, List.length_append, atsC_len l]; simp [atC]; omega
theorem atsC_drop : ∀ (l : List (List UInt8 × List UInt8 × List UInt8)) (k : Nat), (l.flatMap atC).drop (k * 3) = (l.drop k).flatMap atC
  | l, 0 => by simp
  | [], k + 1 => by simp
  | x :: l, k + 1 => by
    rw [List.flatMap_cons, show (k + 1) * 3 = 3 + k * 3 by omega, ← List.drop_drop, List.drop_left' (show (atC x).length = 3 from rfl), atsC_drop l k]; rfl
mutual
theorem eC_low (n : Nat) : ∀ e : El, lowL n (eC e) = true
  | .mk sp nm tx ats kids => by simp [eC, lowL, low, atsC_low, kC_low n kids]
theorem kC_low (n : Nat) : ∀ l : List El, lowL n (kC l) = true
  | [] => rfl
  | k :: ks => by simp [kC, lowL_app, eC_low n k, kC_low n ks]
end
def zEl : El := .mk [] [] [] [] []
theorem eC_take (e : El) : (eC e).take 5 = eC e := by rw [eC_eq]; rfl
theorem eC_one (e : El) : (eC e).all AV.one = true := by rw [eC_eq]; rfl
theorem eC_le (e : El) (k : Nat) (h : k ≤ 5) : k ≤ (eC e).length := by rw [eC_len]; exact h
theorem eC_0 (e : El) : (eC e).take 1 = [.str e.sp] := by rw [eC_eq]; rfl
theorem eC_1 (e : El) : ((eC e).drop 1).take 1 = [.str e.nm] := by rw [eC_eq]; rfl
theorem eC_2 (e : El) : ((eC e).drop 2).take 1 = [.str e.tx] := by rw [eC_eq]; rfl
theorem eC_3 (e : El) : ((eC e).drop 3).take 1 = [.lst e.ats.length (e.ats.flatMap atC)] := by rw [eC_eq]; rfl
theorem eC_4 (e : El) : ((eC e).drop 4).take 1 = [.lst e.kids.length (kC e.kids)] := by rw [eC_eq]; rfl
theorem eCr (e : El) (r : List AV) : (eC e ++ r).take 5 = eC e := by rw [eC_eq]; rfl
theorem eCr_0 (e : El) (r : List AV) : (eC e ++ r).take 1 = [.str e.sp] := by rw [eC_eq]; rfl
theorem eCr_1 (e : El) (r : List AV) : ((eC e ++ r).drop 1).take 1 = [.str e.nm] := by rw [eC_eq]; rfl
theorem eCr_2 (e : El) (r : List AV) : ((eC e ++ r).drop 2).take 1 = [.str e.tx] := by rw [eC_eq]; rfl
theorem eCr_3 (e : El) (r : List AV) : ((eC e ++ r).drop 3).take 1 = [.lst e.ats.length (e.ats.flatMap atC)] := by rw [eC_eq]; rfl
theorem eCr_4 (e : El) (r : List AV) : ((eC e ++ r).drop 4).take 1 = [.lst e.kids.length (kC e.kids)] := by rw [eC_eq]; rfl
theorem eC_drop5 (e : El) (l : List AV) (h : l.length = 5) : l.drop (eC e).length = [] := by rw [eC_len]; exact List.drop_eq_nil_of_le (by omega)
theorem zEl_eq : [AV.str [], .str [], .str [], .lst 0 [], .lst 0 []] = eC zEl := rfl
theorem len_drop (k m : Nat) (l : List AV) : (k ≤ (l.drop m).length) = (k + m ≤ l.length ∨ k = 0) := by
  rw [List.length_drop]; apply propext; omega
theorem atr (a : List UInt8 × List UInt8 × List UInt8) : atC a = [.str a.1, .str a.2.1, .str a.2.2] := rfl
theorem all_drop {α : Type} {all : List α} {k : Nat} (h : k < all.length) : ∃ x, all.drop k = x :: all.drop (k + 1) := ⟨all[k], by simp⟩
theorem natOf_nat (k : Nat) (t : IntKind) : natOf (.int t (k : Int)) = some k := by simp [natOf]
theorem wrap_next {k n : Nat} (h : k < n) (hn : n ≤ 9223372036854775807) : IntKind.wrap .i64 ((k : Int) + 1) = ((k + 1 : Nat) : Int) := by rw [wrap64] <;> omega
/-- A found child, or nothing. -/
def findIn (s n : List UInt8) : List El → Option El
  | [] => none
  | k :: ks => if k.sp == s && k.nm == n then some k else findIn s n ks
end Go.Proofs.YtmnajffpmbidiaaGreatDoor.Ev
