/- Parts of one proof. -/
import Derived.Test.YtmnajffpmbidiaaGreatDoorMda
set_option linter.all false
namespace Go.Proofs.YtmnajffpmbidiaaGreatDoor.Ev
inductive El where
  | mk (sp nm tx : List UInt8) (ats : List (List UInt8 × List UInt8 × List UInt8)) (kids : List El)
def atC (a : List UInt8 × List UInt8 × List UInt8) : List AV := [.str a.1, .str a.2.1, .str a.2.2]
mutual
def eC : El → List AV
  | .mk sp nm tx ats kids => [.str sp, .str nm, .str tx, .lst ats.length (ats.flatMap atC), .lst kids.length (kC kids)]
def kC : List El → List AV
  | [] => []
  | k :: ks => eC k ++ kC ks
end
def El.sp : El → List UInt8 | .mk sp _ _ _ _ => sp
def El.nm : El → List UInt8 | .mk _ nm _ _ _ => nm
def El.tx : El → List UInt8 | .mk _ _ tx _ _ => tx
def El.ats : El → List (List UInt8 × List UInt8 × List UInt8) | .mk _ _ _ a _ => a
def El.kids : El → List El | .mk _ _ _ _ ks => ks
theorem eC_eq (x : El) : eC x = [.str x.sp, .str x.nm, .str x.tx, .lst x.ats.length (x.ats.flatMap atC), .lst x.kids.length (kC x.kids)] := by cases x; rfl
theorem eC_len (e : El) : (eC e).length = 5 := by rw [eC_eq]; rfl
theorem atC_low (a : List UInt8 × List UInt8 × List UInt8) (n : Nat) : lowL n (atC a) = true := rfl
theorem atsC_low (n : Nat) : ∀ l : List (List UInt8 × List UInt8 × List UInt8), lowL n (l.flatMap atC) = true
  | [] => rfl
  | a :: l => by simp [List.flatMap_cons, lowL_app, atC_low, atsC_low n l]
mutual
theorem eC_low (n : Nat) : ∀ e : El, lowL n (eC e) = true
  | .mk sp nm tx ats kids => by simp [eC, lowL, low, atsC_low, kC_low n kids]
theorem kC_low (n : Nat) : ∀ l : List El, lowL n (kC l) = true
  | [] => rfl
  | k :: ks => by simp [kC, lowL_app, eC_low n k, kC_low n ks]
end
theorem eC_take (e : El) : (eC e).take 5 = eC e := by rw [eC_eq]; rfl
theorem eC_one (e : El) : (eC e).all AV.one = true := by rw [eC_eq]; rfl
theorem eC_0 (e : El) : (eC e).take 1 = [.str e.sp] := by rw [eC_eq]; rfl
theorem eC_1 (e : El) : ((eC e).drop 1).take 1 = [.str e.nm] := by rw [eC_eq]; rfl
theorem eC_2 (e : El) : ((eC e).drop 2).take 1 = [.str e.tx] := by rw [eC_eq]; rfl
theorem eC_3 (e : El) : ((eC e).drop 3).take 1 = [.lst e.ats.length (e.ats.flatMap atC)] := by rw [eC_eq]; rfl
theorem eC_4 (e : El) : ((eC e).drop 4).take 1 = [.lst e.kids.length (kC e.kids)] := by rw [eC_eq]; rfl
theorem eCr (e : El) (r : List AV) : (eC e ++ r).take 5 = eC e := by rw [eC_eq]; rfl
theorem eCr_0 (e : El) (r : List AV) : (eC e ++ r).take 1 = [.str e.sp] := by rw [eC_eq]; rfl
theorem eCr_1 (e : El) (r : List AV) : ((eC e ++ r).drop 1).take 1 = [.str e.nm] := by rw [eC_eq]; rfl
theorem eCr_2 (e : El) (r : List AV) : ((eC e ++ r).drop 2).take 1 = [.str e.tx] := by rw [eC_eq]; rfl
theorem eCr_3 (e : El) (r : List AV) : ((eC e ++ r).drop 3).take 1 = [.lst e.ats.length (e.ats.flatMap atC)] := by rw [eC_eq]; rfl
theorem eCr_4 (e : El) (r : List AV) : ((eC e ++ r).drop 4).take 1 = [.lst e.kids.length (kC e.kids)] := by rw [eC_eq]; rfl
theorem atr (a : List UInt8 × List UInt8 × List UInt8) : atC a = [.str a.1, .str a.2.1, .str a.2.2] := rfl
theorem all_drop {α : Type} {all : List α} {k : Nat} (h : k < all.length) : ∃ x, all.drop k = x :: all.drop (k + 1) := ⟨all[k], by simp⟩
theorem natOf_nat (k : Nat) (t : IntKind) : natOf (.int t (k : Int)) = some k := by simp [natOf]
theorem wrap_next {k n : Nat} (h : k < n) (hn : n ≤ 9223372036854775807) : IntKind.wrap .i64 ((k : Int) + 1) = ((k + 1 : Nat) : Int) := by rw [wrap64] <;> omega
end Go.Proofs.YtmnajffpmbidiaaGreatDoor.Ev
