/- Parts of one proof, one behind the other: The reference's Rune is the model's decoding. -/
import Derived.Test.YtmnajffpmbidiaaGreatDoorMde
/- The reference's Rune is the model's decoding. -/
namespace Go.Proofs.YtmnajffpmbidiaaGreatDoor.Ev
set_option linter.all false
set_option maxRecDepth 100000
set_option maxHeartbeats 8000000
set_option linter.unusedSimpArgs false
theorem get_at (s : List UInt8) (k : Nat) : (ByteArray.get! ⟨s.toArray⟩ k) = s.getD k 0 := by
  simp only [ByteArray.get!, List.getElem!_toArray, List.getD_eq_getElem?_getD]
  rw [List.getElem!_eq_getElem?_getD]; rfl
theorem size_at (s : List UInt8) : (ByteArray.mk s.toArray).size = s.length := by simp [ByteArray.size]
theorem dec_eq (s : List UInt8) (i : Nat) : dec s i = Lib.decodeN (s.length - i) (s.getD i 0).toNat (s.getD (i + 1) 0).toNat (s.getD (i + 2) 0).toNat (s.getD (i + 3) 0).toNat := by
  unfold dec
  rw [Lib.decode_at]
  simp only [get_at, size_at]
theorem getD_drop (s : List UInt8) (i k : Nat) : (s.drop i).getD k 0 = s.getD (i + k) 0 := by
  simp only [List.getD_eq_getElem?_getD, List.getElem?_drop]
theorem dec_drop (s : List UInt8) (i : Nat) : dec (s.drop i) 0 = dec s i := by
  rw [dec_eq, dec_eq]
  simp only [getD_drop, List.length_drop, Nat.sub_zero, Nat.zero_add, Nat.add_zero]
def outR (b0 : Nat) (x : Nat × Nat) : Nat × Nat × Bool := (x.1, x.2, decide (b0 < 128 ∨ 1 < x.2))
theorem out_err {b0 : Nat} (h : 128 ≤ b0) : outR b0 (65533, 1) = (65533, 1, false) := by
  unfold outR; simp only [Prod.mk.injEq, true_and, decide_eq_false_iff_not]; omega
theorem out_ok {b0 r n : Nat} (h : 1 < n) : outR b0 (r, n) = (r, n, true) := by
  unfold outR; simp only [Prod.mk.injEq, true_and, decide_eq_true_eq]; omega
theorem go7_two (n b0 b1 b2 b3 : Nat) (c : UInt8) (hn : 2 ≤ n) (h1 : b1 = c.toNat) (hb : 194 ≤ b0 ∧ b0 < 224) :
    (match contF [c] (b0 % 32) with
    | none => (65533, 1, false)
    | some w => if 2 = 3 ∧ w < 2048 ∨ 2 = 4 ∧ w < 65536 ∨ 1114111 < w ∨ 55296 ≤ w ∧ w ≤ 57343 then (65533, 1, false) else (w, 2, true)) = outR b0 (Lib.decodeN n b0 b1 b2 b3) := by
  subst h1
  have hc := c.toNat_lt
  unfold Lib.decodeN
  rw [if_neg (by omega)]
  by_cases h : c.toNat / 64 = 2
  · rw [if_pos (by omega), if_pos (by omega), out_ok (by omega)]
    simp only [contF, h, beq_self_eq_true, if_true]
    rw [if_neg (by omega)]
  · rw [if_neg (by omega), if_neg (by omega), if_neg (by omega), out_err (by omega)]
    simp only [contF, beq_false_of_ne h, Bool.false_eq_true, if_false]
theorem go7_three (n b0 b1 b2 b3 : Nat) (c d : UInt8) (hn : 3 ≤ n) (h1 : b1 = c.toNat) (h2 : b2 = d.toNat) (hb : 224 ≤ b0 ∧ b0 < 240) :
    (match contF [c, d] (b0 % 16) with
    | none => (65533, 1, false)
    | some w => if 3 = 3 ∧ w < 2048 ∨ 3 = 4 ∧ w < 65536 ∨ 1114111 < w ∨ 55296 ≤ w ∧ w ≤ 57343 then (65533, 1, false) else (w, 3, true)) = outR b0 (Lib.decodeN n b0 b1 b2 b3) := by
  subst h1 h2
  have hc := c.toNat_lt
  have hd := d.toNat_lt
  unfold Lib.decodeN
  rw [if_neg (by omega), if_neg (by omega)]
  by_cases h : c.toNat / 64 = 2
  · by_cases h' : d.toNat / 64 = 2
    · rw [if_pos (by omega)]
      simp only [contF, h, h', beq_self_eq_true, if_true]
      have e : (b0 % 16 * 64 + c.toNat % 64) * 64 + d.toNat % 64 = b0 % 16 * 4096 + c.toNat % 64 * 64 + d.toNat % 64 := by omega
      rw [e]
      generalize b0 % 16 * 4096 + c.toNat % 64 * 64 + d.toNat % 64 = w
      by_cases hw : w ≥ 2048 ∧ (w < 55296 ∨ (57344 ≤ w ∧ w ≤ 1114111))
      · rw [if_pos hw, if_neg (by omega), out_ok (by omega)]
      · have hb2 : True ∧ w < 2048 ∨ 3 = 4 ∧ w < 65536 ∨ 1114111 < w ∨ 55296 ≤ w ∧ w ≤ 57343 := by
          rcases Nat.lt_or_ge w 2048 with y | y
          · exact .inl ⟨trivial, y⟩
          rcases Nat.lt_or_ge 1114111 w with y2 | y2
          · exact .inr (.inr (.inl y2))
          exact .inr (.inr (.inr (by omega)))
        rw [if_neg hw, if_pos hb2, out_err (by omega)]
    · rw [if_neg (by omega), if_neg (by omega), out_err (by omega)]
      simp only [contF, h, beq_self_eq_true, if_true, beq_false_of_ne h', Bool.false_eq_true, if_false]
  · rw [if_neg (by omega), if_neg (by omega), out_err (by omega)]
    simp only [contF, beq_false_of_ne h, Bool.false_eq_true, if_false]
theorem go7_four (n b0 b1 b2 b3 : Nat) (c d e : UInt8) (hn : 4 ≤ n) (h1 : b1 = c.toNat) (h2 : b2 = d.toNat) (h3 : b3 = e.toNat) (hb : 240 ≤ b0 ∧ b0 < 245) :
    (match contF [c, d, e] (b0 % 8) with
    | none => (65533, 1, false)
    | some w => if 4 = 3 ∧ w < 2048 ∨ 4 = 4 ∧ w < 65536 ∨ 1114111 < w ∨ 55296 ≤ w ∧ w ≤ 57343 then (65533, 1, false) else (w, 4, true)) = outR b0 (Lib.decodeN n b0 b1 b2 b3) := by
  subst h1 h2 h3
  unfold Lib.decodeN
  rw [if_neg (by omega), if_neg (by omega), if_neg (by omega)]
  by_cases h : c.toNat / 64 = 2
  · by_cases h' : d.toNat / 64 = 2
    · by_cases h'' : e.toNat / 64 = 2
      · rw [if_pos (by omega)]
        simp only [contF, h, h', h'', beq_self_eq_true, if_true]
        have ee : ((b0 % 8 * 64 + c.toNat % 64) * 64 + d.toNat % 64) * 64 + e.toNat % 64 = b0 % 8 * 262144 + c.toNat % 64 * 4096 + d.toNat % 64 * 64 + e.toNat % 64 := by omega
        rw [ee]
        generalize b0 % 8 * 262144 + c.toNat % 64 * 4096 + d.toNat % 64 * 64 + e.toNat % 64 = w
        by_cases hw : w ≥ 65536 ∧ (w < 55296 ∨ (57344 ≤ w ∧ w ≤ 1114111))
        · rw [if_pos hw, if_neg (by omega), out_ok (by omega)]
        · have hb2 : 4 = 3 ∧ w < 2048 ∨ True ∧ w < 65536 ∨ 1114111 < w ∨ 55296 ≤ w ∧ w ≤ 57343 := by
            rcases Nat.lt_or_ge w 65536 with y | y
            · exact .inr (.inl ⟨trivial, y⟩)
            rcases Nat.lt_or_ge 1114111 w with y2 | y2
            · exact .inr (.inr (.inl y2))
            exact .inr (.inr (.inr (by omega)))
          rw [if_neg hw, if_pos hb2, out_err (by omega)]
      · rw [if_neg (by omega), out_err (by omega)]
        simp only [contF, h, h', beq_self_eq_true, if_true, beq_false_of_ne h'', Bool.false_eq_true, if_false]
    · rw [if_neg (by omega), out_err (by omega)]
      simp only [contF, h, beq_self_eq_true, if_true, beq_false_of_ne h', Bool.false_eq_true, if_false]
  · rw [if_neg (by omega), out_err (by omega)]
    simp only [contF, beq_false_of_ne h, Bool.false_eq_true, if_false]
theorem dec_err {n b0 b1 b2 b3 : Nat} (hb : 128 ≤ b0 ∧ b0 < 194 ∨ 245 ≤ b0) (h0 : b0 < 256) : Lib.decodeN n b0 b1 b2 b3 = (65533, 1) := by
  unfold Lib.decodeN
  repeat' split
  all_goals first | rfl | (exfalso; omega)
theorem dec_short {n b0 b1 b2 b3 m : Nat} (hm : n < m) (hb : m = 2 ∧ 194 ≤ b0 ∧ b0 < 224 ∨ m = 3 ∧ 224 ≤ b0 ∧ b0 < 240 ∨ m = 4 ∧ 240 ≤ b0 ∧ b0 < 245) : Lib.decodeN n b0 b1 b2 b3 = (65533, 1) := by
  unfold Lib.decodeN
  repeat' split
  all_goals first | rfl | (exfalso; omega)
theorem rune7_dec (b : UInt8) (bs : List UInt8) : rune7 b.toNat (b :: bs) = outR b.toNat (dec (b :: bs) 0) := by
  have hb := b.toNat_lt
  rw [dec_eq]
  simp only [Nat.sub_zero, Nat.zero_add]
  have g0 : ((b :: bs).getD 0 0) = b := rfl
  rw [g0]
  unfold rune7
  by_cases h0 : b.toNat < 128
  · rw [if_pos h0]
    unfold Lib.decodeN
    rw [if_pos h0]
    simp [outR, h0]
  rw [if_neg h0]
  by_cases h2 : 194 ≤ b.toNat ∧ b.toNat < 224
  · rw [if_pos h2]
    unfold go7
    match bs with
    | [] => rw [if_pos (by simp), dec_short (m := 2) (by simp) (by omega), out_err (by omega)]
    | c :: cs =>
      rw [if_neg (by simp)]
      exact go7_two _ _ _ _ _ c (by simp) rfl h2
  rw [if_neg h2]
  by_cases h3 : 224 ≤ b.toNat ∧ b.toNat < 240
  · rw [if_pos h3]
    unfold go7
    match bs with
    | [] => rw [if_pos (by simp), dec_short (m := 3) (by simp) (by omega), out_err (by omega)]
    | [_] => rw [if_pos (by simp), dec_short (m := 3) (by simp) (by omega), out_err (by omega)]
    | c :: d :: cs =>
      rw [if_neg (by simp)]
      exact go7_three _ _ _ _ _ c d (by simp) rfl rfl h3
  rw [if_neg h3]
  by_cases h4 : 240 ≤ b.toNat ∧ b.toNat < 245
  · rw [if_pos h4]
    unfold go7
    match bs with
    | [] => rw [if_pos (by simp), dec_short (m := 4) (by simp) (by omega), out_err (by omega)]
    | [_] => rw [if_pos (by simp), dec_short (m := 4) (by simp) (by omega), out_err (by omega)]
    | [_, _] => rw [if_pos (by simp), dec_short (m := 4) (by simp) (by omega), out_err (by omega)]
    | c :: d :: e :: cs =>
      rw [if_neg (by simp)]
      exact go7_four _ _ _ _ _ c d e (by simp) rfl rfl rfl h4
  rw [if_neg h4, dec_err (by omega) (by omega), out_err (by omega)]
end Go.Proofs.YtmnajffpmbidiaaGreatDoor.Ev
