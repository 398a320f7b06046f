/- Parts of one proof, one behind the other: xml.IsText's loop over the runes: reckoned with letters. -/
import Derived.Test.YtmnajffpmbidiaaGreatDoorMdc
import Derived.Lib.DecodeN
/- xml.IsText's loop over the runes: reckoned with letters. -/
namespace Go.Proofs.YtmnajffpmbidiaaGreatDoor.Ev
set_option linter.all false
variable {ml : Int}
open Go.Proofs.YtmnajffpmbidiaaGreatDoor.Ic
set_option maxRecDepth 100000
set_option maxHeartbeats 2000000
set_option linter.unusedSimpArgs false
def dec (s : List UInt8) (pos : Nat) : Nat × Nat := Utf8.decode ⟨s.toArray⟩ pos
theorem dec_pos (s : List UInt8) (pos : Nat) : 1 ≤ (dec s pos).2 := by
  unfold dec
  rw [Lib.decode_at]
  unfold Lib.decodeN
  repeat' split
  all_goals simp
/-- Are all runes from a place on such as may stand in a text? -/
def runesFrom (s : List UInt8) : Nat → Nat → Bool
  | 0, _ => true
  | f + 1, pos => if pos < s.length then runeOk ((dec s pos).1 : Int) && runesFrom s f (pos + (dec s pos).2) else true
theorem runesFrom_more (s : List UInt8) : ∀ (f g pos : Nat), s.length - pos < f → s.length - pos < g → runesFrom s f pos = runesFrom s g pos
  | 0, _, _, h, _ => by omega
  | _, 0, _, _, h => by omega
  | f + 1, g + 1, pos, h, k => by
    simp only [runesFrom]
    by_cases hp : pos < s.length
    · have := dec_pos s pos
      rw [if_pos hp, if_pos hp, runesFrom_more s f g _ (by omega) (by omega)]
    · rw [if_neg hp, if_neg hp]
noncomputable def loopPT : IC := (I19.c.loops).getD 0 .bad
theorem ptext_loop (P : Program) (N n : Nat) (s : List UInt8) (H : Mem) : ∀ (fuel pos : Nat), s.length - pos < fuel →
    ∃ t p, loopA (fun a H => evI P (cfg ml) (evFI P (cfg ml) T N (n + 1)) N loopPT a H) (some [0, 6]) fuel ⟨16, [(0, .str s), (6, .ptr H.length 0 0)], []⟩ (H ++ [.siter s pos]) =
      (if runesFrom s fuel pos = true then some (.exit 0, ⟨16, t, []⟩, H ++ [.siter s p]) else some (.ret, ⟨16, (2, .bool false) :: t, []⟩, H ++ [.siter s p])) ∧ look t 0 = .str s
  | 0, _, h => by omega
  | fuel + 1, pos, hf => by
    rcases Nat.lt_or_ge pos s.length with hlt | hge
    · have hR := fun H => isRune_eq (ml := ml) P N n ((dec s pos).1 : Int) H
      have hw := dec_pos s pos
      obtain ⟨t, p, ht, h0⟩ := ptext_loop P N n s H fuel (pos + (dec s pos).2) (by omega)
      simp only [runesFrom, if_pos hlt]
      have hd : Utf8.decode ⟨s.toArray⟩ pos = dec s pos := rfl
      cases hc : runeOk ((dec s pos).1 : Int)
      · rw [hc] at hR
        simp only [Bool.false_and, Bool.false_eq_true, if_false]
        exact ⟨_, _, loopA_ret (by simp only [loopPT, I19, IC.loops, nextA, hd, hlt, hR, eC_len, eC_take, eC_one, eC_0, eC_1, eC_2, eC_3, eC_4, eCr, eCr_0, eCr_1, eCr_2, eCr_3, eCr_4, List.length_drop, Nat.reduceSub, Nat.add_sub_cancel_left, atr, List.append_nil, List.nil_append, List.cons_append, List.getD_cons_zero, List.getD_cons_succ, evI, opsI, stepI, wantI, opI, AAct.evI, look, AAct.put, mkVal, mkVM, intOpA, intA, shiftA, unA, decide_true, decide_false, Option.map_some, Option.map_none, reduceIte, Nat.reduceEqDiff, Nat.reduceLT, Option.bind_some, Option.bind_none, true_and, and_true, and_self, Nat.zero_lt_succ, cellsAt, List.length_append, Nat.le_add_right, List.length_cons, List.length_nil, Nat.zero_add, Nat.add_zero, Nat.reduceAdd, Nat.reduceMul, Nat.zero_mul, AV.cells, AV.one, known, List.append_assoc, getE_0, getE_k, setE_0, setE_k, List.getElem?_cons_zero, List.getElem?_cons_succ, List.set_cons_zero, List.set_cons_succ, List.take_succ_cons, List.take_zero, List.drop_zero, List.drop_succ_cons, List.drop_nil, List.all_cons, List.all_nil, Bool.and_self, Bool.and_true, Bool.true_and, Bool.and_false, Bool.false_and, splice, fillI, Nat.reduceLeDiff, strA, Nat.add_assoc, beq_self_eq_true, Bool.false_eq_true, bq_ft, bq_tf, Bool.not_true, Bool.not_false, Nat.le_refl, List.map_cons, List.map_nil, isNilA, nilPtr, nilSl, nilIf, nilFn, nilMap, nilCheckA, if_true, if_false, lt_lit, le_lit, lt_lit2, le_lit2, le_sub1, le_sub2]; rfl), rfl⟩
      · rw [hc] at hR
        refine ⟨t, p, ?_, h0⟩
        simp only [Bool.true_and]
        refine loopA_go (by simp only [loopPT, I19, IC.loops, nextA, hd, hlt, hR, eC_len, eC_take, eC_one, eC_0, eC_1, eC_2, eC_3, eC_4, eCr, eCr_0, eCr_1, eCr_2, eCr_3, eCr_4, List.length_drop, Nat.reduceSub, Nat.add_sub_cancel_left, atr, List.append_nil, List.nil_append, List.cons_append, List.getD_cons_zero, List.getD_cons_succ, evI, opsI, stepI, wantI, opI, AAct.evI, look, AAct.put, mkVal, mkVM, intOpA, intA, shiftA, unA, decide_true, decide_false, Option.map_some, Option.map_none, reduceIte, Nat.reduceEqDiff, Nat.reduceLT, Option.bind_some, Option.bind_none, true_and, and_true, and_self, Nat.zero_lt_succ, cellsAt, List.length_append, Nat.le_add_right, List.length_cons, List.length_nil, Nat.zero_add, Nat.add_zero, Nat.reduceAdd, Nat.reduceMul, Nat.zero_mul, AV.cells, AV.one, known, List.append_assoc, getE_0, getE_k, setE_0, setE_k, List.getElem?_cons_zero, List.getElem?_cons_succ, List.set_cons_zero, List.set_cons_succ, List.take_succ_cons, List.take_zero, List.drop_zero, List.drop_succ_cons, List.drop_nil, List.all_cons, List.all_nil, Bool.and_self, Bool.and_true, Bool.true_and, Bool.and_false, Bool.false_and, splice, fillI, Nat.reduceLeDiff, strA, Nat.add_assoc, beq_self_eq_true, Bool.false_eq_true, bq_ft, bq_tf, Bool.not_true, Bool.not_false, Nat.le_refl, List.map_cons, List.map_nil, isNilA, nilPtr, nilSl, nilIf, nilFn, nilMap, nilCheckA, if_true, if_false, lt_lit, le_lit, lt_lit2, le_lit2, le_sub1, le_sub2]; rfl) ?_
        simp only [ite_self, roundEnd, AAct.keepT, List.map_cons, List.map_nil, look, reduceIte, Nat.reduceEqDiff, lowT, List.all_cons, List.all_nil, low, lowL, lowD, mayCut, List.length_append, List.length_cons, List.length_nil, Nat.zero_add, Nat.reduceAdd, takeS, takeE_0, takeE_k, List.take_succ_cons, List.take_zero, eqM_app, eqM_refl, Bool.true_or, Bool.and_self, Bool.and_true, Bool.true_and, decide_true, Nat.lt_succ_self, Nat.lt_add_right_iff_pos, Nat.add_lt_add_iff_left, Nat.reduceLT, if_true, lt_k, List.append_assoc, List.cons_append, List.nil_append]
        exact ht
    · simp only [runesFrom, if_neg (show ¬ pos < s.length by omega), if_true]
      exact ⟨_, _, loopA_exit (by simp only [loopPT, I19, IC.loops, nextA, if_neg (show ¬ pos < s.length by omega), eC_len, eC_take, eC_one, eC_0, eC_1, eC_2, eC_3, eC_4, eCr, eCr_0, eCr_1, eCr_2, eCr_3, eCr_4, List.length_drop, Nat.reduceSub, Nat.add_sub_cancel_left, atr, List.append_nil, List.nil_append, List.cons_append, List.getD_cons_zero, List.getD_cons_succ, evI, opsI, stepI, wantI, opI, AAct.evI, look, AAct.put, mkVal, mkVM, intOpA, intA, shiftA, unA, decide_true, decide_false, Option.map_some, Option.map_none, reduceIte, Nat.reduceEqDiff, Nat.reduceLT, Option.bind_some, Option.bind_none, true_and, and_true, and_self, Nat.zero_lt_succ, cellsAt, List.length_append, Nat.le_add_right, List.length_cons, List.length_nil, Nat.zero_add, Nat.add_zero, Nat.reduceAdd, Nat.reduceMul, Nat.zero_mul, AV.cells, AV.one, known, List.append_assoc, getE_0, getE_k, setE_0, setE_k, List.getElem?_cons_zero, List.getElem?_cons_succ, List.set_cons_zero, List.set_cons_succ, List.take_succ_cons, List.take_zero, List.drop_zero, List.drop_succ_cons, List.drop_nil, List.all_cons, List.all_nil, Bool.and_self, Bool.and_true, Bool.true_and, Bool.and_false, Bool.false_and, splice, fillI, Nat.reduceLeDiff, strA, Nat.add_assoc, beq_self_eq_true, Bool.false_eq_true, bq_ft, bq_tf, Bool.not_true, Bool.not_false, Nat.le_refl, List.map_cons, List.map_nil, isNilA, nilPtr, nilSl, nilIf, nilFn, nilMap, nilCheckA, if_true, if_false, lt_lit, le_lit, lt_lit2, le_lit2, le_sub1, le_sub2]; rfl), rfl⟩
end Go.Proofs.YtmnajffpmbidiaaGreatDoor.Ev
/- Bits of a byte, by all its values; a rune's bytes put together. -/
namespace Go.Proofs.YtmnajffpmbidiaaGreatDoor.Ev
set_option linter.all false
open Go.Proofs.YtmnajffpmbidiaaGreatDoor.Ic
set_option maxRecDepth 100000
theorem byte_all {p : Nat → Prop} (h : ∀ n : Fin 256, p n.val) (b : UInt8) : p b.toNat := h ⟨b.toNat, b.toNat_lt⟩
theorem and31 (b : UInt8) : IntKind.wrap .u8 ((BitVec.ofInt (IntKind.bits .u8) (b.toNat : Int) &&& BitVec.ofInt (IntKind.bits .u8) 31).toNat : Int) = ((b.toNat % 32 : Nat) : Int) :=
  byte_all (p := fun n => IntKind.wrap .u8 ((BitVec.ofInt (IntKind.bits .u8) (n : Int) &&& BitVec.ofInt (IntKind.bits .u8) 31).toNat : Int) = ((n % 32 : Nat) : Int)) (by decide +kernel) b
theorem and15 (b : UInt8) : IntKind.wrap .u8 ((BitVec.ofInt (IntKind.bits .u8) (b.toNat : Int) &&& BitVec.ofInt (IntKind.bits .u8) 15).toNat : Int) = ((b.toNat % 16 : Nat) : Int) :=
  byte_all (p := fun n => IntKind.wrap .u8 ((BitVec.ofInt (IntKind.bits .u8) (n : Int) &&& BitVec.ofInt (IntKind.bits .u8) 15).toNat : Int) = ((n % 16 : Nat) : Int)) (by decide +kernel) b
theorem and7 (b : UInt8) : IntKind.wrap .u8 ((BitVec.ofInt (IntKind.bits .u8) (b.toNat : Int) &&& BitVec.ofInt (IntKind.bits .u8) 7).toNat : Int) = ((b.toNat % 8 : Nat) : Int) :=
  byte_all (p := fun n => IntKind.wrap .u8 ((BitVec.ofInt (IntKind.bits .u8) (n : Int) &&& BitVec.ofInt (IntKind.bits .u8) 7).toNat : Int) = ((n % 8 : Nat) : Int)) (by decide +kernel) b
theorem and63 (b : UInt8) : IntKind.wrap .u8 ((BitVec.ofInt (IntKind.bits .u8) (b.toNat : Int) &&& BitVec.ofInt (IntKind.bits .u8) 63).toNat : Int) = ((b.toNat % 64 : Nat) : Int) :=
  byte_all (p := fun n => IntKind.wrap .u8 ((BitVec.ofInt (IntKind.bits .u8) (n : Int) &&& BitVec.ofInt (IntKind.bits .u8) 63).toNat : Int) = ((n % 64 : Nat) : Int)) (by decide +kernel) b
theorem and192 (b : UInt8) : (IntKind.wrap .u8 ((BitVec.ofInt (IntKind.bits .u8) (b.toNat : Int) &&& BitVec.ofInt (IntKind.bits .u8) 192).toNat : Int) != 128) = !(b.toNat / 64 == 2) :=
  byte_all (p := fun n => (IntKind.wrap .u8 ((BitVec.ofInt (IntKind.bits .u8) (n : Int) &&& BitVec.ofInt (IntKind.bits .u8) 192).toNat : Int) != 128) = !(n / 64 == 2)) (by decide +kernel) b
theorem wrap32 {n : Int} (h : -2147483648 ≤ n) (h' : n ≤ 2147483647) : IntKind.wrap .i32 n = n := by
  simp [IntKind.wrap, IntKind.bits, IntKind.signed]
  omega
theorem or32 {v x : Nat} (hv : v * 64 + x < 2147483648) (hx : x < 64) : IntKind.wrap .i32 ((BitVec.ofInt (IntKind.bits .i32) ((v * 64 : Nat) : Int) ||| BitVec.ofInt (IntKind.bits .i32) (x : Int)).toNat : Int) = ((v * 64 + x : Nat) : Int) := by
  have e : (BitVec.ofInt (IntKind.bits .i32) ((v * 64 : Nat) : Int) ||| BitVec.ofInt (IntKind.bits .i32) (x : Int)).toNat = v * 64 + x := by
    rw [BitVec.ofInt_natCast, BitVec.ofInt_natCast, BitVec.toNat_or, BitVec.toNat_ofNat, BitVec.toNat_ofNat]
    have e1 : v * 64 % 2 ^ (IntKind.bits .i32) = v * 64 := Nat.mod_eq_of_lt (by simp [IntKind.bits]; omega)
    have e2 : x % 2 ^ (IntKind.bits .i32) = x := Nat.mod_eq_of_lt (by simp [IntKind.bits]; omega)
    rw [e1, e2, Nat.mul_comm]
    exact (Nat.two_pow_add_eq_or_of_lt (i := 6) (by omega) v).symm
  rw [e, wrap32] <;> omega
/-- The bytes behind the first, put together. -/
def contF : List UInt8 → Nat → Option Nat
  | [], v => some v
  | b :: bs, v => if (b.toNat / 64 == 2) = true then contF bs (v * 64 + b.toNat % 64) else none
theorem contF_lt : ∀ (l : List UInt8) (v w : Nat), contF l v = some w → w < (v + 1) * 64 ^ l.length
  | [], v, w, h => by simp only [contF] at h; injection h with h; subst h; simp
  | b :: bs, v, w, h => by
    simp only [contF] at h
    split at h
    · have := contF_lt bs _ _ h
      have h2 : (v * 64 + b.toNat % 64 + 1) * 64 ^ bs.length ≤ ((v + 1) * 64) * 64 ^ bs.length := Nat.mul_le_mul_right _ (by omega)
      rw [List.length_cons, Nat.pow_succ, Nat.mul_comm (64 ^ _) 64, ← Nat.mul_assoc]
      omega
    · cases h
end Go.Proofs.YtmnajffpmbidiaaGreatDoor.Ev
/- The reference's Rune: its loop, reckoned with letters. -/
namespace Go.Proofs.YtmnajffpmbidiaaGreatDoor.Ev
set_option linter.all false
variable {ml : Int}
open Go.Proofs.YtmnajffpmbidiaaGreatDoor.Ic
set_option maxRecDepth 100000
set_option maxHeartbeats 2000000
set_option linter.unusedSimpArgs false
noncomputable def loopR7 : IC := (I44.c.loops).getD 0 .bad
theorem shl6 (v : Nat) (hv : v * 64 < 2147483648) : IntKind.wrap .i32 ((v : Int) * 2 ^ min (Int.toNat 6) (IntKind.bits .i32)) = ((v * 64 : Nat) : Int) := by
  have e : ((v : Int) * 2 ^ min (Int.toNat 6) (IntKind.bits .i32)) = ((v * 64 : Nat) : Int) := by
    have : min (Int.toNat 6) (IntKind.bits .i32) = 6 := rfl
    rw [this]; omega
  rw [e, wrap32] <;> omega
theorem not_neg6 : ((6 : Int) < 0) = False := by simp
theorem r7_loop (P : Program) (F : FSem) (N : Nat) (s : List UInt8) (m : Nat) (hm : m ≤ s.length) (hm4 : m ≤ 4) (H : Mem) : ∀ (fuel k v : Nat), k ≤ m → m - k < fuel → (v + 1) * 64 ^ (m - k) ≤ 2097152 →
    ∃ t, loopA (fun a H => evI P (cfg ml) F N loopR7 a H) (some [0, 6, 7, 8]) fuel ⟨96, [(0, .str s), (6, .int .i64 m), (7, .int .i32 v), (8, .int .i64 k)], []⟩ H =
      (match contF ((s.drop k).take (m - k)) v with
      | some w => some (.exit 1, ⟨96, t, []⟩, H)
      | none => some (.ret, ⟨96, t, []⟩, H)) ∧
      (match contF ((s.drop k).take (m - k)) v with
      | some w => look t 6 = .int .i64 m ∧ look t 7 = .int .i32 w
      | none => look t 2 = .int .i32 65533 ∧ look t 3 = .int .i64 1 ∧ look t 4 = .bool false)
  | 0, k, _, _, h, _ => by omega
  | fuel + 1, k, v, hk, hf, hv => by
    rcases Nat.lt_or_ge k m with hlt | hge
    · obtain ⟨b, hb⟩ := all_drop (show k < s.length by omega)
      have hget : s[k]? = some b := by
        have := congrArg (·[0]?) hb
        simpa using this
      have hi : (k : Int) < (m : Int) := by omega
      have hw : IntKind.wrap .i64 ((k : Int) + 1) = ((k + 1 : Nat) : Int) := by rw [wrap64] <;> omega
      have hn := natOf_nat k .i64
      have he : m - k = (m - (k + 1)) + 1 := by omega
      have ht : (s.drop k).take (m - k) = b :: (s.drop (k + 1)).take (m - (k + 1)) := by rw [hb, he]; rfl
      have hpow : 64 * (v + 1) * 64 ^ (m - (k + 1)) ≤ 2097152 := by
        rw [he, Nat.pow_succ] at hv
        rw [Nat.mul_comm 64 (v + 1), Nat.mul_assoc, Nat.mul_comm 64]; exact hv
      have hv1 : 64 * (v + 1) ≤ 2097152 := Nat.le_trans (Nat.le_mul_of_pos_right _ (Nat.pow_pos (by omega))) hpow
      have h63 := and63 b
      have h192 := and192 b
      have hs := shl6 v (by omega)
      have hc32 : IntKind.wrap .i32 ((b.toNat % 64 : Nat) : Int) = ((b.toNat % 64 : Nat) : Int) := wrap32 (by omega) (by omega)
      have ho := or32 (v := v) (x := b.toNat % 64) (by omega) (by omega)
      have hb63 : 64 * (v + 1) ≥ (v * 64 + b.toNat % 64) + 1 := by omega
      rw [ht]
      cases hc : b.toNat / 64 == 2
      · rw [hc] at h192
        simp only [contF, hc, Bool.false_eq_true, if_false]
        exact ⟨_, loopA_ret (by simp only [loopR7, I44, IC.loops, hi, hget, hn, hw, h192, List.append_nil, List.nil_append, List.cons_append, List.getD_cons_zero, List.getD_cons_succ, evI, opsI, stepI, wantI, opI, AAct.evI, look, AAct.put, mkVal, mkVM, intOpA, intA, shiftA, unA, decide_true, decide_false, Option.map_some, Option.map_none, reduceIte, Nat.reduceEqDiff, Nat.reduceLT, Option.bind_some, Option.bind_none, true_and, and_true, and_self, Nat.zero_lt_succ, cellsAt, List.length_append, Nat.le_add_right, List.length_cons, List.length_nil, Nat.zero_add, Nat.add_zero, Nat.reduceAdd, Nat.reduceMul, Nat.zero_mul, AV.cells, AV.one, known, List.append_assoc, getE_0, getE_k, setE_0, setE_k, List.getElem?_cons_zero, List.getElem?_cons_succ, List.set_cons_zero, List.set_cons_succ, List.take_succ_cons, List.take_zero, List.drop_zero, List.drop_succ_cons, List.drop_nil, List.all_cons, List.all_nil, Bool.and_self, Bool.and_true, Bool.true_and, Bool.and_false, Bool.false_and, splice, fillI, Nat.reduceLeDiff, strA, Nat.add_assoc, beq_self_eq_true, Bool.false_eq_true, bq_ft, bq_tf, Bool.not_true, Bool.not_false, Nat.le_refl, List.map_cons, List.map_nil, isNilA, nilPtr, nilSl, nilIf, nilFn, nilMap, nilCheckA, if_true, if_false, lt_lit, le_lit, lt_lit2, le_lit2, le_sub1, le_sub2]; rfl), rfl, rfl, rfl⟩
      · rw [hc] at h192
        obtain ⟨t, hr, hq⟩ := r7_loop P F N s m hm hm4 H fuel (k + 1) (v * 64 + b.toNat % 64) (by omega) (by omega) (Nat.le_trans (Nat.mul_le_mul_right _ hb63) hpow)
        refine ⟨t, ?_, ?_⟩
        · simp only [contF, hc, if_true]
          refine loopA_go (by simp only [loopR7, I44, IC.loops, hi, hget, hn, hw, h192, h63, hc32, hs, ho, not_neg6, List.append_nil, List.nil_append, List.cons_append, List.getD_cons_zero, List.getD_cons_succ, evI, opsI, stepI, wantI, opI, AAct.evI, look, AAct.put, mkVal, mkVM, intOpA, intA, shiftA, unA, decide_true, decide_false, Option.map_some, Option.map_none, reduceIte, Nat.reduceEqDiff, Nat.reduceLT, Option.bind_some, Option.bind_none, true_and, and_true, and_self, Nat.zero_lt_succ, cellsAt, List.length_append, Nat.le_add_right, List.length_cons, List.length_nil, Nat.zero_add, Nat.add_zero, Nat.reduceAdd, Nat.reduceMul, Nat.zero_mul, AV.cells, AV.one, known, List.append_assoc, getE_0, getE_k, setE_0, setE_k, List.getElem?_cons_zero, List.getElem?_cons_succ, List.set_cons_zero, List.set_cons_succ, List.take_succ_cons, List.take_zero, List.drop_zero, List.drop_succ_cons, List.drop_nil, List.all_cons, List.all_nil, Bool.and_self, Bool.and_true, Bool.true_and, Bool.and_false, Bool.false_and, splice, fillI, Nat.reduceLeDiff, strA, Nat.add_assoc, beq_self_eq_true, Bool.false_eq_true, bq_ft, bq_tf, Bool.not_true, Bool.not_false, Nat.le_refl, List.map_cons, List.map_nil, isNilA, nilPtr, nilSl, nilIf, nilFn, nilMap, nilCheckA, if_true, if_false, lt_lit, le_lit, lt_lit2, le_lit2, le_sub1, le_sub2]; rfl) ?_
          simp only [roundEnd, AAct.keepT, List.map_cons, List.map_nil, look, reduceIte, Nat.reduceEqDiff, lowT, List.all_cons, List.all_nil, low, lowL, lowD, mayCut, List.length_append, List.length_cons, List.length_nil, Nat.zero_add, Nat.reduceAdd, takeS, takeE_0, takeE_k, List.take_succ_cons, List.take_zero, eqM_app, eqM_refl, Bool.true_or, Bool.and_self, Bool.and_true, Bool.true_and, decide_true, Nat.lt_succ_self, Nat.lt_add_right_iff_pos, Nat.add_lt_add_iff_left, Nat.reduceLT, if_true, lt_k, List.append_assoc, List.cons_append, List.nil_append]
          exact hr
        · simp only [contF, hc, if_true]
          exact hq
    · have hk' : k = m := by omega
      subst hk'
      simp only [Nat.sub_self, List.take_zero, contF]
      exact ⟨_, loopA_exit (by simp only [loopR7, I44, IC.loops, Int.lt_irrefl, List.append_nil, List.nil_append, List.cons_append, List.getD_cons_zero, List.getD_cons_succ, evI, opsI, stepI, wantI, opI, AAct.evI, look, AAct.put, mkVal, mkVM, intOpA, intA, shiftA, unA, decide_true, decide_false, Option.map_some, Option.map_none, reduceIte, Nat.reduceEqDiff, Nat.reduceLT, Option.bind_some, Option.bind_none, true_and, and_true, and_self, Nat.zero_lt_succ, cellsAt, List.length_append, Nat.le_add_right, List.length_cons, List.length_nil, Nat.zero_add, Nat.add_zero, Nat.reduceAdd, Nat.reduceMul, Nat.zero_mul, AV.cells, AV.one, known, List.append_assoc, getE_0, getE_k, setE_0, setE_k, List.getElem?_cons_zero, List.getElem?_cons_succ, List.set_cons_zero, List.set_cons_succ, List.take_succ_cons, List.take_zero, List.drop_zero, List.drop_succ_cons, List.drop_nil, List.all_cons, List.all_nil, Bool.and_self, Bool.and_true, Bool.true_and, Bool.and_false, Bool.false_and, splice, fillI, Nat.reduceLeDiff, strA, Nat.add_assoc, beq_self_eq_true, Bool.false_eq_true, bq_ft, bq_tf, Bool.not_true, Bool.not_false, Nat.le_refl, List.map_cons, List.map_nil, isNilA, nilPtr, nilSl, nilIf, nilFn, nilMap, nilCheckA, if_true, if_false, lt_lit, le_lit, lt_lit2, le_lit2, le_sub1, le_sub2]; rfl), rfl, rfl⟩
end Go.Proofs.YtmnajffpmbidiaaGreatDoor.Ev
