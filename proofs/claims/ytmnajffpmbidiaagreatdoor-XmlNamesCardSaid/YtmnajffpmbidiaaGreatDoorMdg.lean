/- Parts of one proof, one behind the other: The reference's IsText: reckoned with letters. -/
import Derived.Test.YtmnajffpmbidiaaGreatDoorMdf
/- The reference's IsText: reckoned with letters. -/
namespace Go.Proofs.YtmnajffpmbidiaaGreatDoor.Ev
set_option linter.all false
variable {ml : Int}
open Go.Proofs.YtmnajffpmbidiaaGreatDoor.Ic
set_option maxRecDepth 100000
set_option maxHeartbeats 2000000
set_option linter.unusedSimpArgs false
def okAt (s : List UInt8) (pos : Nat) : Bool := decide ((s.getD pos 0).toNat < 128 ∨ 1 < (dec s pos).2)
/-- Are all runes from a place on good ones that may stand in a text? -/
def textFrom (s : List UInt8) : Nat → Nat → Bool
  | 0, _ => true
  | f + 1, pos => if pos < s.length then okAt s pos && (runeOk ((dec s pos).1 : Int) && textFrom s f (pos + (dec s pos).2)) else true
theorem textFrom_more (s : List UInt8) : ∀ (f g pos : Nat), s.length - pos < f → s.length - pos < g → textFrom s f pos = textFrom s g pos
  | 0, _, _, h, _ => by omega
  | _, 0, _, _, h => by omega
  | f + 1, g + 1, pos, h, k => by
    simp only [textFrom]
    by_cases hp : pos < s.length
    · have := dec_pos s pos
      rw [if_pos hp, if_pos hp, textFrom_more s f g _ (by omega) (by omega)]
    · rw [if_neg hp, if_neg hp]
theorem dec_le (s : List UInt8) (pos : Nat) : (dec s pos).2 ≤ 4 := by
  rw [dec_eq]
  unfold Lib.decodeN
  repeat' split
  all_goals simp
theorem rune7_at (s : List UInt8) (pos : Nat) (b : UInt8) (hb : s.drop pos = b :: s.drop (pos + 1)) : rune7 b.toNat (b :: s.drop (pos + 1)) = ((dec s pos).1, (dec s pos).2, okAt s pos) := by
  rw [rune7_dec, ← hb, dec_drop]
  have : s.getD pos 0 = b := by
    have := congrArg (·[0]?) hb
    simp only [List.getElem?_drop, Nat.add_zero, List.getElem?_cons_zero] at this
    rw [List.getD_eq_getElem?_getD, this]; rfl
  unfold outR okAt
  rw [this]
noncomputable def loopRT : IC := (I18.c.loops).getD 0 .bad
theorem rtext_loop (P : Program) (N n : Nat) (hN : 9223372036854775808 ≤ N) (s : List UInt8) (hl : s.length ≤ 1152921504606846976) (H : Mem) : ∀ (fuel pos : Nat), s.length - pos < fuel →
    ∃ t, loopA (fun a H => evI P (cfg ml) (evFI P (cfg ml) T N (n + 1)) N loopRT a H) (some [0, 3]) fuel ⟨29, [(0, .str s), (3, .int .i64 pos)], []⟩ H =
      (if textFrom s fuel pos = true then some (.exit 0, ⟨29, t, []⟩, H) else some (.ret, ⟨29, (2, .bool false) :: t, []⟩, H))
  | 0, _, h => by omega
  | fuel + 1, pos, hf => by
    rcases Nat.lt_or_ge pos s.length with hlt | hge
    · obtain ⟨b, hb⟩ := all_drop hlt
      have hi : (pos : Int) < (s.length : Int) := by omega
      have hw0 := dec_pos s pos
      have hw4 := dec_le s pos
      have hw : IntKind.wrap .i64 ((pos : Int) + ((dec s pos).2 : Int)) = ((pos + (dec s pos).2 : Nat) : Int) := by rw [wrap64] <;> omega
      have hn := natOf_nat pos .i64
      have hle : pos ≤ s.length := by omega
      have h7 := fun H => r7_eq (ml := ml) P N n hN b (s.drop (pos + 1)) H
      rw [rune7_at s pos b hb, ← hb] at h7
      simp only [r7C] at h7
      have hR := fun H => Rune_eq (ml := ml) P N n ((dec s pos).1 : Int) H
      have hcut : (s.drop pos).take (s.length - pos) = s.drop pos := List.take_of_length_le (by simp)
      obtain ⟨t, ht⟩ := rtext_loop P N n hN s hl H fuel (pos + (dec s pos).2) (by omega)
      simp only [textFrom, if_pos hlt]
      cases hc : okAt s pos
      · rw [hc] at h7
        simp only [Bool.false_and, Bool.false_eq_true, if_false]
        exact ⟨_, loopA_ret (by simp only [loopRT, I18, IC.loops, bound, hcut, hi, hlt, hle, hn, hw, h7, eC_len, eC_take, eC_one, eC_0, eC_1, eC_2, eC_3, eC_4, eCr, eCr_0, eCr_1, eCr_2, eCr_3, eCr_4, List.length_drop, Nat.reduceSub, Nat.add_sub_cancel_left, atr, List.append_nil, List.nil_append, List.cons_append, List.getD_cons_zero, List.getD_cons_succ, evI, opsI, stepI, wantI, opI, AAct.evI, look, AAct.put, mkVal, mkVM, intOpA, intA, shiftA, unA, decide_true, decide_false, Option.map_some, Option.map_none, reduceIte, Nat.reduceEqDiff, Nat.reduceLT, Option.bind_some, Option.bind_none, true_and, and_true, and_self, Nat.zero_lt_succ, cellsAt, List.length_append, Nat.le_add_right, List.length_cons, List.length_nil, Nat.zero_add, Nat.add_zero, Nat.reduceAdd, Nat.reduceMul, Nat.zero_mul, AV.cells, AV.one, known, List.append_assoc, getE_0, getE_k, setE_0, setE_k, List.getElem?_cons_zero, List.getElem?_cons_succ, List.set_cons_zero, List.set_cons_succ, List.take_succ_cons, List.take_zero, List.drop_zero, List.drop_succ_cons, List.drop_nil, List.all_cons, List.all_nil, Bool.and_self, Bool.and_true, Bool.true_and, Bool.and_false, Bool.false_and, splice, fillI, Nat.reduceLeDiff, strA, Nat.add_assoc, beq_self_eq_true, Bool.false_eq_true, bq_ft, bq_tf, Bool.not_true, Bool.not_false, Nat.le_refl, List.map_cons, List.map_nil, isNilA, nilPtr, nilSl, nilIf, nilFn, nilMap, nilCheckA, if_true, if_false, lt_lit, le_lit, lt_lit2, le_lit2, le_sub1, le_sub2]; rfl)⟩
      rw [hc] at h7
      cases hd : runeOk ((dec s pos).1 : Int)
      · rw [hd] at hR
        simp only [Bool.true_and, Bool.false_and, Bool.false_eq_true, if_false]
        exact ⟨_, loopA_ret (by simp only [loopRT, I18, IC.loops, bound, hcut, hi, hlt, hle, hn, hw, h7, hR, eC_len, eC_take, eC_one, eC_0, eC_1, eC_2, eC_3, eC_4, eCr, eCr_0, eCr_1, eCr_2, eCr_3, eCr_4, List.length_drop, Nat.reduceSub, Nat.add_sub_cancel_left, atr, List.append_nil, List.nil_append, List.cons_append, List.getD_cons_zero, List.getD_cons_succ, evI, opsI, stepI, wantI, opI, AAct.evI, look, AAct.put, mkVal, mkVM, intOpA, intA, shiftA, unA, decide_true, decide_false, Option.map_some, Option.map_none, reduceIte, Nat.reduceEqDiff, Nat.reduceLT, Option.bind_some, Option.bind_none, true_and, and_true, and_self, Nat.zero_lt_succ, cellsAt, List.length_append, Nat.le_add_right, List.length_cons, List.length_nil, Nat.zero_add, Nat.add_zero, Nat.reduceAdd, Nat.reduceMul, Nat.zero_mul, AV.cells, AV.one, known, List.append_assoc, getE_0, getE_k, setE_0, setE_k, List.getElem?_cons_zero, List.getElem?_cons_succ, List.set_cons_zero, List.set_cons_succ, List.take_succ_cons, List.take_zero, List.drop_zero, List.drop_succ_cons, List.drop_nil, List.all_cons, List.all_nil, Bool.and_self, Bool.and_true, Bool.true_and, Bool.and_false, Bool.false_and, splice, fillI, Nat.reduceLeDiff, strA, Nat.add_assoc, beq_self_eq_true, Bool.false_eq_true, bq_ft, bq_tf, Bool.not_true, Bool.not_false, Nat.le_refl, List.map_cons, List.map_nil, isNilA, nilPtr, nilSl, nilIf, nilFn, nilMap, nilCheckA, if_true, if_false, lt_lit, le_lit, lt_lit2, le_lit2, le_sub1, le_sub2]; rfl)⟩
      · rw [hd] at hR
        refine ⟨t, ?_⟩
        simp only [Bool.true_and]
        refine loopA_go (by simp only [loopRT, I18, IC.loops, bound, hcut, hi, hlt, hle, hn, hw, h7, hR, eC_len, eC_take, eC_one, eC_0, eC_1, eC_2, eC_3, eC_4, eCr, eCr_0, eCr_1, eCr_2, eCr_3, eCr_4, List.length_drop, Nat.reduceSub, Nat.add_sub_cancel_left, atr, List.append_nil, List.nil_append, List.cons_append, List.getD_cons_zero, List.getD_cons_succ, evI, opsI, stepI, wantI, opI, AAct.evI, look, AAct.put, mkVal, mkVM, intOpA, intA, shiftA, unA, decide_true, decide_false, Option.map_some, Option.map_none, reduceIte, Nat.reduceEqDiff, Nat.reduceLT, Option.bind_some, Option.bind_none, true_and, and_true, and_self, Nat.zero_lt_succ, cellsAt, List.length_append, Nat.le_add_right, List.length_cons, List.length_nil, Nat.zero_add, Nat.add_zero, Nat.reduceAdd, Nat.reduceMul, Nat.zero_mul, AV.cells, AV.one, known, List.append_assoc, getE_0, getE_k, setE_0, setE_k, List.getElem?_cons_zero, List.getElem?_cons_succ, List.set_cons_zero, List.set_cons_succ, List.take_succ_cons, List.take_zero, List.drop_zero, List.drop_succ_cons, List.drop_nil, List.all_cons, List.all_nil, Bool.and_self, Bool.and_true, Bool.true_and, Bool.and_false, Bool.false_and, splice, fillI, Nat.reduceLeDiff, strA, Nat.add_assoc, beq_self_eq_true, Bool.false_eq_true, bq_ft, bq_tf, Bool.not_true, Bool.not_false, Nat.le_refl, List.map_cons, List.map_nil, isNilA, nilPtr, nilSl, nilIf, nilFn, nilMap, nilCheckA, if_true, if_false, lt_lit, le_lit, lt_lit2, le_lit2, le_sub1, le_sub2]; rfl) ?_
        simp only [roundEnd, AAct.keepT, List.map_cons, List.map_nil, look, reduceIte, Nat.reduceEqDiff, lowT, List.all_cons, List.all_nil, low, lowL, lowD, mayCut, List.length_append, List.length_cons, List.length_nil, Nat.zero_add, Nat.reduceAdd, takeS, takeE_0, takeE_k, List.take_succ_cons, List.take_zero, eqM_app, eqM_refl, Bool.true_or, Bool.and_self, Bool.and_true, Bool.true_and, decide_true, Nat.lt_succ_self, Nat.lt_add_right_iff_pos, Nat.add_lt_add_iff_left, Nat.reduceLT, if_true, lt_k, List.append_assoc, List.cons_append, List.nil_append]
        exact ht
    · have hi : ((pos : Int) < (s.length : Int)) = False := eq_false (by omega)
      simp only [textFrom, if_neg (show ¬ pos < s.length by omega), if_true]
      exact ⟨_, loopA_exit (by simp only [loopRT, I18, IC.loops, hi, eC_len, eC_take, eC_one, eC_0, eC_1, eC_2, eC_3, eC_4, eCr, eCr_0, eCr_1, eCr_2, eCr_3, eCr_4, List.length_drop, Nat.reduceSub, Nat.add_sub_cancel_left, atr, List.append_nil, List.nil_append, List.cons_append, List.getD_cons_zero, List.getD_cons_succ, evI, opsI, stepI, wantI, opI, AAct.evI, look, AAct.put, mkVal, mkVM, intOpA, intA, shiftA, unA, decide_true, decide_false, Option.map_some, Option.map_none, reduceIte, Nat.reduceEqDiff, Nat.reduceLT, Option.bind_some, Option.bind_none, true_and, and_true, and_self, Nat.zero_lt_succ, cellsAt, List.length_append, Nat.le_add_right, List.length_cons, List.length_nil, Nat.zero_add, Nat.add_zero, Nat.reduceAdd, Nat.reduceMul, Nat.zero_mul, AV.cells, AV.one, known, List.append_assoc, getE_0, getE_k, setE_0, setE_k, List.getElem?_cons_zero, List.getElem?_cons_succ, List.set_cons_zero, List.set_cons_succ, List.take_succ_cons, List.take_zero, List.drop_zero, List.drop_succ_cons, List.drop_nil, List.all_cons, List.all_nil, Bool.and_self, Bool.and_true, Bool.true_and, Bool.and_false, Bool.false_and, splice, fillI, Nat.reduceLeDiff, strA, Nat.add_assoc, beq_self_eq_true, Bool.false_eq_true, bq_ft, bq_tf, Bool.not_true, Bool.not_false, Nat.le_refl, List.map_cons, List.map_nil, isNilA, nilPtr, nilSl, nilIf, nilFn, nilMap, nilCheckA, if_true, if_false, lt_lit, le_lit, lt_lit2, le_lit2, le_sub1, le_sub2]; rfl)⟩
theorem rtext_eq (P : Program) (N n : Nat) (hN : 9223372036854775808 ≤ N) (s : List UInt8) (hl : s.length ≤ 1152921504606846976) (H : Mem) :
    evFI P (cfg ml) T N (n + 2) 18 [.str s] H = some (.ret (.bool (textFrom s (s.length + 1) 0)), H) := by
  obtain ⟨t, ht⟩ := rtext_loop (ml := ml) P N n hN s hl H N 0 (by omega)
  rw [textFrom_more s N (s.length + 1) 0 (by omega) (by omega)] at ht
  cases hc : textFrom s (s.length + 1) 0
  · simp only [hc, Bool.false_eq_true, if_false] at ht
    refine evF_ret (m := 29) (v := .bool false) (a := ?aa) (H1 := ?Ha) rfl t18 rfl ?hb ?hd ?hr ?hz
    case hb =>
      apply evI_seq
      · simp only [List.length_cons, List.length_nil, idx, I18, eC_len, eC_take, eC_one, eC_0, eC_1, eC_2, eC_3, eC_4, eCr, eCr_0, eCr_1, eCr_2, eCr_3, eCr_4, List.length_drop, Nat.reduceSub, Nat.add_sub_cancel_left, atr, List.append_nil, List.nil_append, List.cons_append, List.getD_cons_zero, List.getD_cons_succ, evI, opsI, stepI, wantI, opI, AAct.evI, look, AAct.put, mkVal, mkVM, intOpA, intA, shiftA, unA, decide_true, decide_false, Option.map_some, Option.map_none, reduceIte, Nat.reduceEqDiff, Nat.reduceLT, Option.bind_some, Option.bind_none, true_and, and_true, and_self, Nat.zero_lt_succ, cellsAt, List.length_append, Nat.le_add_right, List.length_cons, List.length_nil, Nat.zero_add, Nat.add_zero, Nat.reduceAdd, Nat.reduceMul, Nat.zero_mul, AV.cells, AV.one, known, List.append_assoc, getE_0, getE_k, setE_0, setE_k, List.getElem?_cons_zero, List.getElem?_cons_succ, List.set_cons_zero, List.set_cons_succ, List.take_succ_cons, List.take_zero, List.drop_zero, List.drop_succ_cons, List.drop_nil, List.all_cons, List.all_nil, Bool.and_self, Bool.and_true, Bool.true_and, Bool.and_false, Bool.false_and, splice, fillI, Nat.reduceLeDiff, strA, Nat.add_assoc, beq_self_eq_true, Bool.false_eq_true, bq_ft, bq_tf, Bool.not_true, Bool.not_false, Nat.le_refl, List.map_cons, List.map_nil, isNilA, nilPtr, nilSl, nilIf, nilFn, nilMap, nilCheckA, if_true, if_false, lt_lit, le_lit, lt_lit2, le_lit2, le_sub1, le_sub2]; rfl
      apply evI_seq_ret
      apply evI_seq
      · simp only [eC_len, eC_take, eC_one, eC_0, eC_1, eC_2, eC_3, eC_4, eCr, eCr_0, eCr_1, eCr_2, eCr_3, eCr_4, List.length_drop, Nat.reduceSub, Nat.add_sub_cancel_left, atr, List.append_nil, List.nil_append, List.cons_append, List.getD_cons_zero, List.getD_cons_succ, evI, opsI, stepI, wantI, opI, AAct.evI, look, AAct.put, mkVal, mkVM, intOpA, intA, shiftA, unA, decide_true, decide_false, Option.map_some, Option.map_none, reduceIte, Nat.reduceEqDiff, Nat.reduceLT, Option.bind_some, Option.bind_none, true_and, and_true, and_self, Nat.zero_lt_succ, cellsAt, List.length_append, Nat.le_add_right, List.length_cons, List.length_nil, Nat.zero_add, Nat.add_zero, Nat.reduceAdd, Nat.reduceMul, Nat.zero_mul, AV.cells, AV.one, known, List.append_assoc, getE_0, getE_k, setE_0, setE_k, List.getElem?_cons_zero, List.getElem?_cons_succ, List.set_cons_zero, List.set_cons_succ, List.take_succ_cons, List.take_zero, List.drop_zero, List.drop_succ_cons, List.drop_nil, List.all_cons, List.all_nil, Bool.and_self, Bool.and_true, Bool.true_and, Bool.and_false, Bool.false_and, splice, fillI, Nat.reduceLeDiff, strA, Nat.add_assoc, beq_self_eq_true, Bool.false_eq_true, bq_ft, bq_tf, Bool.not_true, Bool.not_false, Nat.le_refl, List.map_cons, List.map_nil, isNilA, nilPtr, nilSl, nilIf, nilFn, nilMap, nilCheckA, if_true, if_false, lt_lit, le_lit, lt_lit2, le_lit2, le_sub1, le_sub2]; rfl
      apply evI_block_ret
      apply evI_loop
      exact ht
    case hd => rfl
    case hr => simp only [I18, resI, resLI, List.append_nil, List.nil_append, List.cons_append, List.getD_cons_zero, List.getD_cons_succ, evI, opsI, stepI, wantI, opI, AAct.evI, look, AAct.put, mkVal, mkVM, intOpA, intA, shiftA, unA, decide_true, decide_false, Option.map_some, Option.map_none, reduceIte, Nat.reduceEqDiff, Nat.reduceLT, Option.bind_some, Option.bind_none, true_and, and_true, and_self, Nat.zero_lt_succ, cellsAt, List.length_append, Nat.le_add_right, List.length_cons, List.length_nil, Nat.zero_add, Nat.add_zero, Nat.reduceAdd, Nat.reduceMul, Nat.zero_mul, AV.cells, AV.one, known, List.append_assoc, getE_0, getE_k, setE_0, setE_k, List.getElem?_cons_zero, List.getElem?_cons_succ, List.set_cons_zero, List.set_cons_succ, List.take_succ_cons, List.take_zero, List.drop_zero, List.drop_succ_cons, List.drop_nil, List.all_cons, List.all_nil, Bool.and_self, Bool.and_true, Bool.true_and, Bool.and_false, Bool.false_and, splice, fillI, Nat.reduceLeDiff, strA, Nat.add_assoc, beq_self_eq_true, Bool.false_eq_true, bq_ft, bq_tf, Bool.not_true, Bool.not_false, Nat.le_refl, List.map_cons, List.map_nil, isNilA, nilPtr, nilSl, nilIf, nilFn, nilMap, nilCheckA, if_true, if_false, lt_lit, le_lit, lt_lit2, le_lit2, le_sub1, le_sub2]
    case hz => simp only [finish, finish, cfg, keep, Bool.false_eq_true, if_false, frz, frzL, eC_low, kC_low, atsC_low, low, lowL, decide_true, Option.map_some, roundEnd, AAct.keepT, List.map_cons, List.map_nil, look, reduceIte, Nat.reduceEqDiff, lowT, List.all_cons, List.all_nil, low, lowL, lowD, mayCut, List.length_append, List.length_cons, List.length_nil, Nat.zero_add, Nat.reduceAdd, takeS, takeE_0, takeE_k, List.take_succ_cons, List.take_zero, eqM_app, eqM_refl, Bool.true_or, Bool.and_self, Bool.and_true, Bool.true_and, decide_true, Nat.lt_succ_self, Nat.lt_add_right_iff_pos, Nat.add_lt_add_iff_left, Nat.reduceLT, if_true, lt_k, List.append_assoc, List.cons_append, List.nil_append]
  · simp only [hc, if_true] at ht
    refine evF_ret (m := 29) (v := .bool true) (a := ?ab) (H1 := ?Hb) rfl t18 rfl ?hb ?hd ?hr ?hz
    case hb =>
      apply evI_seq
      · simp only [List.length_cons, List.length_nil, idx, I18, eC_len, eC_take, eC_one, eC_0, eC_1, eC_2, eC_3, eC_4, eCr, eCr_0, eCr_1, eCr_2, eCr_3, eCr_4, List.length_drop, Nat.reduceSub, Nat.add_sub_cancel_left, atr, List.append_nil, List.nil_append, List.cons_append, List.getD_cons_zero, List.getD_cons_succ, evI, opsI, stepI, wantI, opI, AAct.evI, look, AAct.put, mkVal, mkVM, intOpA, intA, shiftA, unA, decide_true, decide_false, Option.map_some, Option.map_none, reduceIte, Nat.reduceEqDiff, Nat.reduceLT, Option.bind_some, Option.bind_none, true_and, and_true, and_self, Nat.zero_lt_succ, cellsAt, List.length_append, Nat.le_add_right, List.length_cons, List.length_nil, Nat.zero_add, Nat.add_zero, Nat.reduceAdd, Nat.reduceMul, Nat.zero_mul, AV.cells, AV.one, known, List.append_assoc, getE_0, getE_k, setE_0, setE_k, List.getElem?_cons_zero, List.getElem?_cons_succ, List.set_cons_zero, List.set_cons_succ, List.take_succ_cons, List.take_zero, List.drop_zero, List.drop_succ_cons, List.drop_nil, List.all_cons, List.all_nil, Bool.and_self, Bool.and_true, Bool.true_and, Bool.and_false, Bool.false_and, splice, fillI, Nat.reduceLeDiff, strA, Nat.add_assoc, beq_self_eq_true, Bool.false_eq_true, bq_ft, bq_tf, Bool.not_true, Bool.not_false, Nat.le_refl, List.map_cons, List.map_nil, isNilA, nilPtr, nilSl, nilIf, nilFn, nilMap, nilCheckA, if_true, if_false, lt_lit, le_lit, lt_lit2, le_lit2, le_sub1, le_sub2]; rfl
      apply evI_seq
      · apply evI_seq
        · simp only [eC_len, eC_take, eC_one, eC_0, eC_1, eC_2, eC_3, eC_4, eCr, eCr_0, eCr_1, eCr_2, eCr_3, eCr_4, List.length_drop, Nat.reduceSub, Nat.add_sub_cancel_left, atr, List.append_nil, List.nil_append, List.cons_append, List.getD_cons_zero, List.getD_cons_succ, evI, opsI, stepI, wantI, opI, AAct.evI, look, AAct.put, mkVal, mkVM, intOpA, intA, shiftA, unA, decide_true, decide_false, Option.map_some, Option.map_none, reduceIte, Nat.reduceEqDiff, Nat.reduceLT, Option.bind_some, Option.bind_none, true_and, and_true, and_self, Nat.zero_lt_succ, cellsAt, List.length_append, Nat.le_add_right, List.length_cons, List.length_nil, Nat.zero_add, Nat.add_zero, Nat.reduceAdd, Nat.reduceMul, Nat.zero_mul, AV.cells, AV.one, known, List.append_assoc, getE_0, getE_k, setE_0, setE_k, List.getElem?_cons_zero, List.getElem?_cons_succ, List.set_cons_zero, List.set_cons_succ, List.take_succ_cons, List.take_zero, List.drop_zero, List.drop_succ_cons, List.drop_nil, List.all_cons, List.all_nil, Bool.and_self, Bool.and_true, Bool.true_and, Bool.and_false, Bool.false_and, splice, fillI, Nat.reduceLeDiff, strA, Nat.add_assoc, beq_self_eq_true, Bool.false_eq_true, bq_ft, bq_tf, Bool.not_true, Bool.not_false, Nat.le_refl, List.map_cons, List.map_nil, isNilA, nilPtr, nilSl, nilIf, nilFn, nilMap, nilCheckA, if_true, if_false, lt_lit, le_lit, lt_lit2, le_lit2, le_sub1, le_sub2]; rfl
        apply evI_block_exit
        apply evI_loop
        exact ht
      apply evI_seq
      · simp only [eC_len, eC_take, eC_one, eC_0, eC_1, eC_2, eC_3, eC_4, eCr, eCr_0, eCr_1, eCr_2, eCr_3, eCr_4, List.length_drop, Nat.reduceSub, Nat.add_sub_cancel_left, atr, List.append_nil, List.nil_append, List.cons_append, List.getD_cons_zero, List.getD_cons_succ, evI, opsI, stepI, wantI, opI, AAct.evI, look, AAct.put, mkVal, mkVM, intOpA, intA, shiftA, unA, decide_true, decide_false, Option.map_some, Option.map_none, reduceIte, Nat.reduceEqDiff, Nat.reduceLT, Option.bind_some, Option.bind_none, true_and, and_true, and_self, Nat.zero_lt_succ, cellsAt, List.length_append, Nat.le_add_right, List.length_cons, List.length_nil, Nat.zero_add, Nat.add_zero, Nat.reduceAdd, Nat.reduceMul, Nat.zero_mul, AV.cells, AV.one, known, List.append_assoc, getE_0, getE_k, setE_0, setE_k, List.getElem?_cons_zero, List.getElem?_cons_succ, List.set_cons_zero, List.set_cons_succ, List.take_succ_cons, List.take_zero, List.drop_zero, List.drop_succ_cons, List.drop_nil, List.all_cons, List.all_nil, Bool.and_self, Bool.and_true, Bool.true_and, Bool.and_false, Bool.false_and, splice, fillI, Nat.reduceLeDiff, strA, Nat.add_assoc, beq_self_eq_true, Bool.false_eq_true, bq_ft, bq_tf, Bool.not_true, Bool.not_false, Nat.le_refl, List.map_cons, List.map_nil, isNilA, nilPtr, nilSl, nilIf, nilFn, nilMap, nilCheckA, if_true, if_false, lt_lit, le_lit, lt_lit2, le_lit2, le_sub1, le_sub2]; rfl
      rfl
    case hd => rfl
    case hr => simp only [I18, resI, resLI, List.append_nil, List.nil_append, List.cons_append, List.getD_cons_zero, List.getD_cons_succ, evI, opsI, stepI, wantI, opI, AAct.evI, look, AAct.put, mkVal, mkVM, intOpA, intA, shiftA, unA, decide_true, decide_false, Option.map_some, Option.map_none, reduceIte, Nat.reduceEqDiff, Nat.reduceLT, Option.bind_some, Option.bind_none, true_and, and_true, and_self, Nat.zero_lt_succ, cellsAt, List.length_append, Nat.le_add_right, List.length_cons, List.length_nil, Nat.zero_add, Nat.add_zero, Nat.reduceAdd, Nat.reduceMul, Nat.zero_mul, AV.cells, AV.one, known, List.append_assoc, getE_0, getE_k, setE_0, setE_k, List.getElem?_cons_zero, List.getElem?_cons_succ, List.set_cons_zero, List.set_cons_succ, List.take_succ_cons, List.take_zero, List.drop_zero, List.drop_succ_cons, List.drop_nil, List.all_cons, List.all_nil, Bool.and_self, Bool.and_true, Bool.true_and, Bool.and_false, Bool.false_and, splice, fillI, Nat.reduceLeDiff, strA, Nat.add_assoc, beq_self_eq_true, Bool.false_eq_true, bq_ft, bq_tf, Bool.not_true, Bool.not_false, Nat.le_refl, List.map_cons, List.map_nil, isNilA, nilPtr, nilSl, nilIf, nilFn, nilMap, nilCheckA, if_true, if_false, lt_lit, le_lit, lt_lit2, le_lit2, le_sub1, le_sub2]
    case hz => simp only [finish, finish, cfg, keep, Bool.false_eq_true, if_false, frz, frzL, eC_low, kC_low, atsC_low, low, lowL, decide_true, Option.map_some, roundEnd, AAct.keepT, List.map_cons, List.map_nil, look, reduceIte, Nat.reduceEqDiff, lowT, List.all_cons, List.all_nil, low, lowL, lowD, mayCut, List.length_append, List.length_cons, List.length_nil, Nat.zero_add, Nat.reduceAdd, takeS, takeE_0, takeE_k, List.take_succ_cons, List.take_zero, eqM_app, eqM_refl, Bool.true_or, Bool.and_self, Bool.and_true, Bool.true_and, decide_true, Nat.lt_succ_self, Nat.lt_add_right_iff_pos, Nat.add_lt_add_iff_left, Nat.reduceLT, if_true, lt_k, List.append_assoc, List.cons_append, List.nil_append]
end Go.Proofs.YtmnajffpmbidiaaGreatDoor.Ev
