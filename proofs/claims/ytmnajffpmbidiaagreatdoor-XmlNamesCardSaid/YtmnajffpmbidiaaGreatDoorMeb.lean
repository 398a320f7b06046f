/- Parts of one proof, one behind the other: The fast path's test: eight bytes below 128. -/
import Derived.Test.YtmnajffpmbidiaaGreatDoorMea
/- The fast path's test: eight bytes below 128. -/
namespace Go.Proofs.YtmnajffpmbidiaaGreatDoor.Ev
set_option linter.all false
theorem maskU {w : Nat} (hw : w < 18446744073709551616) : IntKind.wrap .u64 ((BitVec.ofInt (IntKind.bits .u64) (w : Int) &&& BitVec.ofInt (IntKind.bits .u64) 9259542123273814144).toNat : Int) = ((w &&& 9259542123273814144 : Nat) : Int) := by
  have e : (BitVec.ofInt (IntKind.bits .u64) (w : Int) &&& BitVec.ofInt (IntKind.bits .u64) 9259542123273814144).toNat = w &&& 9259542123273814144 := by
    have : (9259542123273814144 : Int) = ((9259542123273814144 : Nat) : Int) := rfl
    rw [this, BitVec.ofInt_natCast, BitVec.ofInt_natCast, BitVec.toNat_and, BitVec.toNat_ofNat, BitVec.toNat_ofNat]
    have e1 : w % 2 ^ (IntKind.bits .u64) = w := Nat.mod_eq_of_lt (by simp [IntKind.bits]; omega)
    have e2 : 9259542123273814144 % 2 ^ (IntKind.bits .u64) = 9259542123273814144 := by decide
    rw [e1, e2]
  rw [e, wrapU]
  exact Nat.lt_of_le_of_lt Nat.and_le_left hw
theorem orU {a b : Nat} (ha : a < 18446744073709551616) (hb : b < 18446744073709551616) : IntKind.wrap .u64 ((BitVec.ofInt (IntKind.bits .u64) (a : Int) ||| BitVec.ofInt (IntKind.bits .u64) (b : Int)).toNat : Int) = ((a ||| b : Nat) : Int) := by
  have hlt : a ||| b < 2 ^ 64 := Nat.or_lt_two_pow (by omega) (by omega)
  have e : (BitVec.ofInt (IntKind.bits .u64) (a : Int) ||| BitVec.ofInt (IntKind.bits .u64) (b : Int)).toNat = a ||| b := by
    rw [BitVec.ofInt_natCast, BitVec.ofInt_natCast, BitVec.toNat_or, BitVec.toNat_ofNat, BitVec.toNat_ofNat]
    have e1 : a % 2 ^ (IntKind.bits .u64) = a := Nat.mod_eq_of_lt (by simp [IntKind.bits]; omega)
    have e2 : b % 2 ^ (IntKind.bits .u64) = b := Nat.mod_eq_of_lt (by simp [IntKind.bits]; omega)
    rw [e1, e2]
  rw [e, wrapU]
  omega
/-- Eight bytes below 128 are skipped. -/
theorem skip8 {l r : List UInt8} {b0 b1 b2 b3 b4 b5 b6 b7 : UInt8} (h : l = b0 :: b1 :: b2 :: b3 :: b4 :: b5 :: b6 :: b7 :: r) (hw : Lib.leNat [b0, b1, b2, b3, b4, b5, b6, b7] &&& 9259542123273814144 = 0) : Lib.validD l = Lib.validD r := by
  have h8 := (Lib.leNat_mask [b0, b1, b2, b3, b4, b5, b6, b7]).1 (by rw [show [b0, b1, b2, b3, b4, b5, b6, b7].length = 8 from rfl, Lib.maskN8]; exact hw)
  subst h
  exact Lib.validD_ascii 8 _ h8
theorem word_lt8 (b0 b1 b2 b3 b4 b5 b6 b7 : UInt8) : Lib.leNat [b0, b1, b2, b3, b4, b5, b6, b7] < 18446744073709551616 := by
  have h := Lib.leNat_lt [b0, b1, b2, b3, b4, b5, b6, b7]
  have e : 256 ^ [b0, b1, b2, b3, b4, b5, b6, b7].length = 18446744073709551616 := by
    show 256 ^ 8 = _
    decide +kernel
  rw [e] at h
  exact h
theorem eight {l : List UInt8} (h : 8 ≤ l.length) : ∃ b0 b1 b2 b3 b4 b5 b6 b7, l = b0 :: b1 :: b2 :: b3 :: b4 :: b5 :: b6 :: b7 :: l.drop 8 := by
  match l, h with
  | b0 :: b1 :: b2 :: b3 :: b4 :: b5 :: b6 :: b7 :: r, _ => exact ⟨b0, b1, b2, b3, b4, b5, b6, b7, rfl⟩
end Go.Proofs.YtmnajffpmbidiaaGreatDoor.Ev
