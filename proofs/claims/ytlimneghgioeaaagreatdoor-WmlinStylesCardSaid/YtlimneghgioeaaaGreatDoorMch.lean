/- Parts of one proof. -/
import Derived.Test.YtlimneghgioeaaaGreatDoorMaa
set_option linter.all false
namespace Go.Proofs.YtlimneghgioeaaaGreatDoor.Ev
def digL (c : UInt8) : Bool := decide (48 ≤ c.toNat) && decide (c.toNat ≤ 57)
def digs (l : List UInt8) : Int := l.foldl (fun n c => n * 10 + (c.toNat : Int) - 48) 0
def numL (s : List UInt8) : Int := if 1 ≤ s.length ∧ s.length ≤ 9 ∧ s.all digL = true then digs s else -1
theorem digs_snoc (l : List UInt8) (c : UInt8) : digs (l ++ [c]) = digs l * 10 + (c.toNat : Int) - 48 := by simp [digs]
theorem digs_range : ∀ (n : Nat) (l : List UInt8), l.length = n → l.all digL = true → 0 ≤ digs l ∧ digs l < 10 ^ n
  | 0, l, hl, _ => by
    have : l = [] := List.eq_nil_of_length_eq_zero hl
    subst this
    simp [digs]
  | n + 1, l, hl, h => by
    have hne : l ≠ [] := by intro e; subst e; simp at hl
    have e := (List.dropLast_concat_getLast hne).symm
    have ih := digs_range n l.dropLast (by simp [hl]) (by
      rw [e, List.all_append, Bool.and_eq_true] at h
      exact h.1)
    have hc : digL (l.getLast hne) = true := by
      rw [e, List.all_append, Bool.and_eq_true] at h
      simpa using h.2
    rw [e, digs_snoc]
    simp only [digL,Bool.and_eq_true,decide_eq_true_eq] at hc
    have hp : (10 : Int) ^ (n + 1) = 10 ^ n * 10 := Int.pow_succ ..
    rw [hp]
    omega
theorem pow_le8 : ∀ k : Nat, k ≤ 8 → (10 : Int) ^ k ≤ 100000000
  | 0, _ => by decide
  | 1, _ => by decide
  | 2, _ => by decide
  | 3, _ => by decide
  | 4, _ => by decide
  | 5, _ => by decide
  | 6, _ => by decide
  | 7, _ => by decide
  | 8, _ => by decide
  | n + 9, h => by omega
theorem numL_range (s : List UInt8) : -1 ≤ numL s ∧ numL s < 1000000000 := by
  unfold numL
  split
  · rename_i h
    have := digs_range s.length s rfl h.2.2
    have hp : (10 : Int) ^ s.length ≤ 1000000000 := by
      rcases Nat.lt_or_ge s.length 9 with h9 | h9
      · have := pow_le8 s.length (by omega); omega
      · have : s.length = 9 := by omega
        rw [this]; decide
    omega
  · omega
def numZ (s : List UInt8) : Int := if numL s = -1 then 0 else numL s
def isNum (s : List UInt8) : Bool := numL s != -1
def numLib : List AV → Mem → Option (AV × Mem)
  | [.str s], H => if s.length ≤ 9223372036854775807 then some (.tup [.int .i64 (numZ s), .bool (isNum s)], H) else none
  | _, _ => none
def trueLib : List AV → Mem → Option (AV × Mem)
  | [], H => some (.bool true, H)
  | _, _ => none
end Go.Proofs.YtlimneghgioeaaaGreatDoor.Ev
