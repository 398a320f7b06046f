/- Parts of one proof, one behind the other: The reference's abstract: reckoned with letters. -/
import Derived.Test.YtlimneghgioeaaaGreatDoorMdg
/- The reference's abstract: reckoned with letters. -/
namespace Go.Proofs.YtlimneghgioeaaaGreatDoor.Ev
set_option linter.all false
open Go.Proofs.YtlimneghgioeaaaGreatDoor.Ic
set_option maxRecDepth 100000
set_option maxHeartbeats 2000000
set_option linter.unusedSimpArgs false
def rStart (y : El) : Int := if hasStart y then numL (startT y) else 1
def geq0 (z : Int) : Bool := decide (z ≥ 0)
def absGood (y : El) : Bool := hasLvl y && (geq0 (numL (ilvlT y)) && (decide (numL (ilvlT y) ≤ 8) && geq0 (rStart y)))
def absC (y : El) : List AV := nC 0 (ordOf y) (rStart y) (numL (ilvlT y))
noncomputable def loopAbs : IC := (I29.c.loops).getD 0 .bad
theorem abs_loop (P : Program) (N n : Nat) (hN : 9223372036854775808 ≤ N) (id : List UInt8) (e : El) (he : Fits e) (H : Mem) : ∀ (fuel k : Nat), k ≤ e.kids.length → e.kids.length - k < fuel →
    ∃ t M, loopA (fun a H => evI P cfg (evFI P cfg T N (n + 3)) N loopAbs a H) (some [1, 2, 4, 6]) fuel ⟨91, [(1, .str id), (2, .ptr H.length 0 0), (4, .ptr (H.length + 1) 0 0), (6, .int .i64 k)], []⟩ (H ++ [.row (eC e) 0 (25 + 1), .row [.int .i64 0, .bool false, .int .i64 0, .int .i64 0] 0 (63 + 1)]) =
      (match absIn id (e.kids.drop k) with
      | some x => some (.ret, ⟨91, (5, .bool (absGood x)) :: t, []⟩, H ++ .row (eC e) 0 (25 + 1) :: .row (absC x) 0 (63 + 1) :: M)
      | none => some (.exit 0, ⟨91, t, []⟩, H ++ [.row (eC e) 0 (25 + 1), .row [.int .i64 0, .bool false, .int .i64 0, .int .i64 0] 0 (63 + 1)])) ∧ look t 4 = .ptr (H.length + 1) 0 0
  | 0, k, _, h => by omega
  | fuel + 1, k, hk, hf => by
    rcases Nat.lt_or_ge k e.kids.length with hlt | hge
    · obtain ⟨x, hx⟩ := all_drop hlt
      have hxm : x ∈ e.kids := List.mem_of_mem_drop (i := k) (by rw [hx]; exact List.mem_cons_self)
      have hfx := he.kid hxm
      have hget : (kC e.kids).drop (k * 5) = eC x ++ kC (e.kids.drop (k + 1)) := by rw [kC_drop, hx]; rfl
      have hlen : k * 5 + 5 ≤ (kC e.kids).length := by rw [kC_len]; omega
      have hi : (k : Int) < (e.kids.length : Int) := by omega
      have hw := wrap_next hlt he.len
      have hn := natOf_nat k .i64
      obtain ⟨t, M, ht, hl⟩ := abs_loop P N n hN id e he H fuel (k + 1) (by omega) (by omega)
      have hA := fun H => rget_eq P N (n + 2) hN wNs absIdS x hfx.ats H
      have hAv : (getIn wNs absIdS x.ats).getD [] = attrOf x absIdS := rfl
      rw [hAv] at hA
      rw [hx]
      simp only [absIn]
      generalize attrOf x absIdS = av at hA ⊢
      simp only [absIdS, wNs] at hA
      cases h1 : (x.sp == wNs)
      · refine ⟨t, M, ?_, hl⟩
        simp only [Bool.false_and, Bool.false_eq_true, if_false]
        simp only [wNs] at h1
        refine loopA_go (by simp only [loopAbs, I29, IC.loops, hi, hlt, hlen, hget, hn, hw, h1, hA, eC_len, eC_take, eC_one, eC_0, eC_1, eC_2, eC_3, eC_4, eCr, eCr_0, eCr_1, eCr_2, eCr_3, eCr_4, List.length_drop, Nat.reduceSub, Nat.add_sub_cancel_left, atr, List.append_nil, List.nil_append, List.cons_append, List.getD_cons_zero, List.getD_cons_succ, evI, opsI, stepI, wantI, opI, AAct.evI, look, AAct.put, mkVal, mkVM, intOpA, intA, shiftA, unA, decide_true, decide_false, Option.map_some, Option.map_none, reduceIte, Nat.reduceEqDiff, Nat.reduceLT, Option.bind_some, Option.bind_none, true_and, and_true, and_self, Nat.zero_lt_succ, cellsAt, List.length_append, Nat.le_add_right, List.length_cons, List.length_nil, Nat.zero_add, Nat.add_zero, Nat.reduceAdd, Nat.reduceMul, Nat.zero_mul, AV.cells, AV.one, known, List.append_assoc, getE_0, getE_k, setE_0, setE_k, List.getElem?_cons_zero, List.getElem?_cons_succ, List.set_cons_zero, List.set_cons_succ, List.take_succ_cons, List.take_zero, List.drop_zero, List.drop_succ_cons, List.drop_nil, List.all_cons, List.all_nil, Bool.and_self, Bool.and_true, Bool.true_and, Bool.and_false, Bool.false_and, splice, fillI, Nat.reduceLeDiff, strA, Nat.add_assoc, beq_self_eq_true, Bool.false_eq_true, bq_ft, bq_tf, Bool.not_true, Bool.not_false, Nat.le_refl, List.map_cons, List.map_nil, isNilA, nilPtr, nilSl, nilIf, nilFn, nilMap, nilCheckA, if_true, if_false, lt_lit, le_lit, lt_lit2, le_lit2, le_sub1, le_sub2]; rfl) ?_
        simp only [eC_low, kC_low, roundEnd, AAct.keepT, List.map_cons, List.map_nil, look, reduceIte, Nat.reduceEqDiff, lowT, List.all_cons, List.all_nil, low, lowL, lowD, mayCut, List.length_append, List.length_cons, List.length_nil, Nat.zero_add, Nat.reduceAdd, takeS, takeE_0, takeE_k, List.take_succ_cons, List.take_zero, eqM_app, eqM_refl, Bool.true_or, Bool.and_self, Bool.and_true, Bool.true_and, decide_true, Nat.lt_succ_self, Nat.lt_add_right_iff_pos, Nat.add_lt_add_iff_left, Nat.reduceLT, if_true, lt_k, List.append_assoc, List.cons_append, List.nil_append]
        exact ht
      cases h2 : (x.nm == absS)
      · refine ⟨t, M, ?_, hl⟩
        simp only [Bool.true_and, Bool.false_and, Bool.false_eq_true, if_false]
        simp only [wNs] at h1
        simp only [absS] at h2
        refine loopA_go (by simp only [loopAbs, I29, IC.loops, hi, hlt, hlen, hget, hn, hw, h1, h2, hA, eC_len, eC_take, eC_one, eC_0, eC_1, eC_2, eC_3, eC_4, eCr, eCr_0, eCr_1, eCr_2, eCr_3, eCr_4, List.length_drop, Nat.reduceSub, Nat.add_sub_cancel_left, atr, List.append_nil, List.nil_append, List.cons_append, List.getD_cons_zero, List.getD_cons_succ, evI, opsI, stepI, wantI, opI, AAct.evI, look, AAct.put, mkVal, mkVM, intOpA, intA, shiftA, unA, decide_true, decide_false, Option.map_some, Option.map_none, reduceIte, Nat.reduceEqDiff, Nat.reduceLT, Option.bind_some, Option.bind_none, true_and, and_true, and_self, Nat.zero_lt_succ, cellsAt, List.length_append, Nat.le_add_right, List.length_cons, List.length_nil, Nat.zero_add, Nat.add_zero, Nat.reduceAdd, Nat.reduceMul, Nat.zero_mul, AV.cells, AV.one, known, List.append_assoc, getE_0, getE_k, setE_0, setE_k, List.getElem?_cons_zero, List.getElem?_cons_succ, List.set_cons_zero, List.set_cons_succ, List.take_succ_cons, List.take_zero, List.drop_zero, List.drop_succ_cons, List.drop_nil, List.all_cons, List.all_nil, Bool.and_self, Bool.and_true, Bool.true_and, Bool.and_false, Bool.false_and, splice, fillI, Nat.reduceLeDiff, strA, Nat.add_assoc, beq_self_eq_true, Bool.false_eq_true, bq_ft, bq_tf, Bool.not_true, Bool.not_false, Nat.le_refl, List.map_cons, List.map_nil, isNilA, nilPtr, nilSl, nilIf, nilFn, nilMap, nilCheckA, if_true, if_false, lt_lit, le_lit, lt_lit2, le_lit2, le_sub1, le_sub2]; rfl) ?_
        simp only [eC_low, kC_low, roundEnd, AAct.keepT, List.map_cons, List.map_nil, look, reduceIte, Nat.reduceEqDiff, lowT, List.all_cons, List.all_nil, low, lowL, lowD, mayCut, List.length_append, List.length_cons, List.length_nil, Nat.zero_add, Nat.reduceAdd, takeS, takeE_0, takeE_k, List.take_succ_cons, List.take_zero, eqM_app, eqM_refl, Bool.true_or, Bool.and_self, Bool.and_true, Bool.true_and, decide_true, Nat.lt_succ_self, Nat.lt_add_right_iff_pos, Nat.add_lt_add_iff_left, Nat.reduceLT, if_true, lt_k, List.append_assoc, List.cons_append, List.nil_append]
        exact ht
      cases h3 : (av == id)
      · refine ⟨t, M, ?_, hl⟩
        simp only [Bool.true_and, Bool.and_false, Bool.false_eq_true, if_false]
        simp only [wNs] at h1
        simp only [absS] at h2
        refine loopA_go (by simp only [loopAbs, I29, IC.loops, hi, hlt, hlen, hget, hn, hw, h1, h2, h3, hA, eC_len, eC_take, eC_one, eC_0, eC_1, eC_2, eC_3, eC_4, eCr, eCr_0, eCr_1, eCr_2, eCr_3, eCr_4, List.length_drop, Nat.reduceSub, Nat.add_sub_cancel_left, atr, List.append_nil, List.nil_append, List.cons_append, List.getD_cons_zero, List.getD_cons_succ, evI, opsI, stepI, wantI, opI, AAct.evI, look, AAct.put, mkVal, mkVM, intOpA, intA, shiftA, unA, decide_true, decide_false, Option.map_some, Option.map_none, reduceIte, Nat.reduceEqDiff, Nat.reduceLT, Option.bind_some, Option.bind_none, true_and, and_true, and_self, Nat.zero_lt_succ, cellsAt, List.length_append, Nat.le_add_right, List.length_cons, List.length_nil, Nat.zero_add, Nat.add_zero, Nat.reduceAdd, Nat.reduceMul, Nat.zero_mul, AV.cells, AV.one, known, List.append_assoc, getE_0, getE_k, setE_0, setE_k, List.getElem?_cons_zero, List.getElem?_cons_succ, List.set_cons_zero, List.set_cons_succ, List.take_succ_cons, List.take_zero, List.drop_zero, List.drop_succ_cons, List.drop_nil, List.all_cons, List.all_nil, Bool.and_self, Bool.and_true, Bool.true_and, Bool.and_false, Bool.false_and, splice, fillI, Nat.reduceLeDiff, strA, Nat.add_assoc, beq_self_eq_true, Bool.false_eq_true, bq_ft, bq_tf, Bool.not_true, Bool.not_false, Nat.le_refl, List.map_cons, List.map_nil, isNilA, nilPtr, nilSl, nilIf, nilFn, nilMap, nilCheckA, if_true, if_false, lt_lit, le_lit, lt_lit2, le_lit2, le_sub1, le_sub2]; rfl) ?_
        simp only [eC_low, kC_low, roundEnd, AAct.keepT, List.map_cons, List.map_nil, look, reduceIte, Nat.reduceEqDiff, lowT, List.all_cons, List.all_nil, low, lowL, lowD, mayCut, List.length_append, List.length_cons, List.length_nil, Nat.zero_add, Nat.reduceAdd, takeS, takeE_0, takeE_k, List.take_succ_cons, List.take_zero, eqM_app, eqM_refl, Bool.true_or, Bool.and_self, Bool.and_true, Bool.true_and, decide_true, Nat.lt_succ_self, Nat.lt_add_right_iff_pos, Nat.add_lt_add_iff_left, Nat.reduceLT, if_true, lt_k, List.append_assoc, List.cons_append, List.nil_append]
        exact ht
      · simp only [Bool.and_self, if_true]
        have hL := fun H => child_eq P N (n + 1) hN lvlS x hfx H
        have hV1 := fun H => rval_eq P N n hN fmtS (kidOf x lvlS) (hfx.kidOf _) H
        have hA2 := fun H => rget_eq P N (n + 2) hN wNs ilvlS (kidOf x lvlS) (hfx.kidOf _).ats H
        have hN1 := fun H => rnumber_eq P N (n + 2) hN (ilvlT x) H
        have hF2 := fun H => child_eq P N (n + 1) hN startS (kidOf x lvlS) (hfx.kidOf _) H
        have hV2 := fun H => rval_eq P N n hN startS (kidOf x lvlS) (hfx.kidOf _) H
        have hN2 := fun H => rnumber_eq P N (n + 2) hN (startT x) H
        have e1 : (getIn wNs ilvlS (kidOf x lvlS).ats).getD [] = ilvlT x := rfl
        have e2 : valOf (kidOf x lvlS) startS = startT x := rfl
        have e3 : (!(valOf (kidOf x lvlS) fmtS == bulS)) = ordOf x := rfl
        have e4 : (findIn wNs lvlS x.kids).isSome = hasLvl x := rfl
        have e5 : (findIn wNs startS (kidOf x lvlS).kids).isSome = hasStart x := rfl
        rw [e1] at hA2
        rw [e2] at hV2
        rw [e4] at hL
        rw [e5] at hF2
        simp only [absGood, absC, rStart, nC]
        generalize (getIn wNs ilvlS (kidOf x lvlS).ats).isSome = gs at hA2
        generalize kidOf (kidOf x lvlS) startS = ls at hF2
        generalize kidOf x lvlS = l at hL hV1 hA2 hF2 hV2 e3
        simp only [wNs] at h1 hA2
        simp only [absS] at h2
        simp only [lvlS] at hL
        simp only [fmtS] at hV1 e3
        simp only [bulS] at e3
        simp only [ilvlS] at hA2
        simp only [startS] at hF2 hV2
        generalize valOf l [110, 117, 109, 70, 109, 116] = vf at hV1 e3
        generalize hasLvl x = ok at hL ⊢
        generalize hasStart x = hs at hF2 ⊢
        generalize ilvlT x = ti at hA2 hN1 ⊢
        generalize startT x = ts at hV2 hN2 ⊢
        generalize numL ti = z1 at hN1 ⊢
        generalize numL ts = z2 at hN2 ⊢
        clear ht hl he hfx hxm e1 e2 e4 e5
        cases ok
        · cases hs <;> exact ⟨_, _, loopA_ret (by simp only [loopAbs, I29, IC.loops, hi, hlt, hlen, hget, hn, hw, h1, h2, h3, hA, hL, hV1, hA2, hN1, hF2, hV2, hN2, e3, geq0, eC_len, eC_take, eC_one, eC_0, eC_1, eC_2, eC_3, eC_4, eCr, eCr_0, eCr_1, eCr_2, eCr_3, eCr_4, List.length_drop, Nat.reduceSub, Nat.add_sub_cancel_left, atr, List.append_nil, List.nil_append, List.cons_append, List.getD_cons_zero, List.getD_cons_succ, evI, opsI, stepI, wantI, opI, AAct.evI, look, AAct.put, mkVal, mkVM, intOpA, intA, shiftA, unA, decide_true, decide_false, Option.map_some, Option.map_none, reduceIte, Nat.reduceEqDiff, Nat.reduceLT, Option.bind_some, Option.bind_none, true_and, and_true, and_self, Nat.zero_lt_succ, cellsAt, List.length_append, Nat.le_add_right, List.length_cons, List.length_nil, Nat.zero_add, Nat.add_zero, Nat.reduceAdd, Nat.reduceMul, Nat.zero_mul, AV.cells, AV.one, known, List.append_assoc, getE_0, getE_k, setE_0, setE_k, List.getElem?_cons_zero, List.getElem?_cons_succ, List.set_cons_zero, List.set_cons_succ, List.take_succ_cons, List.take_zero, List.drop_zero, List.drop_succ_cons, List.drop_nil, List.all_cons, List.all_nil, Bool.and_self, Bool.and_true, Bool.true_and, Bool.and_false, Bool.false_and, splice, fillI, Nat.reduceLeDiff, strA, Nat.add_assoc, beq_self_eq_true, Bool.false_eq_true, bq_ft, bq_tf, Bool.not_true, Bool.not_false, Nat.le_refl, List.map_cons, List.map_nil, isNilA, nilPtr, nilSl, nilIf, nilFn, nilMap, nilCheckA, if_true, if_false, lt_lit, le_lit, lt_lit2, le_lit2, le_sub1, le_sub2, drawI, lexD, valD, valI, putD, okD, roD, memAt, lastM, wantI, eqv_refl, eqM_refl, eqM_app, eqB, eqvL, eqv, List.getLast?_cons_cons, List.getLast?_singleton, Option.getD_some, Bool.or_true, Bool.true_or, beq_self_eq_true]; rfl), rfl⟩
        cases hd : decide (z1 ≥ 0)
        · cases hs <;> exact ⟨_, _, loopA_ret (by simp only [loopAbs, I29, IC.loops, hi, hlt, hlen, hget, hn, hw, h1, h2, h3, hA, hL, hV1, hA2, hN1, hF2, hV2, hN2, e3, hd, geq0, eC_len, eC_take, eC_one, eC_0, eC_1, eC_2, eC_3, eC_4, eCr, eCr_0, eCr_1, eCr_2, eCr_3, eCr_4, List.length_drop, Nat.reduceSub, Nat.add_sub_cancel_left, atr, List.append_nil, List.nil_append, List.cons_append, List.getD_cons_zero, List.getD_cons_succ, evI, opsI, stepI, wantI, opI, AAct.evI, look, AAct.put, mkVal, mkVM, intOpA, intA, shiftA, unA, decide_true, decide_false, Option.map_some, Option.map_none, reduceIte, Nat.reduceEqDiff, Nat.reduceLT, Option.bind_some, Option.bind_none, true_and, and_true, and_self, Nat.zero_lt_succ, cellsAt, List.length_append, Nat.le_add_right, List.length_cons, List.length_nil, Nat.zero_add, Nat.add_zero, Nat.reduceAdd, Nat.reduceMul, Nat.zero_mul, AV.cells, AV.one, known, List.append_assoc, getE_0, getE_k, setE_0, setE_k, List.getElem?_cons_zero, List.getElem?_cons_succ, List.set_cons_zero, List.set_cons_succ, List.take_succ_cons, List.take_zero, List.drop_zero, List.drop_succ_cons, List.drop_nil, List.all_cons, List.all_nil, Bool.and_self, Bool.and_true, Bool.true_and, Bool.and_false, Bool.false_and, splice, fillI, Nat.reduceLeDiff, strA, Nat.add_assoc, beq_self_eq_true, Bool.false_eq_true, bq_ft, bq_tf, Bool.not_true, Bool.not_false, Nat.le_refl, List.map_cons, List.map_nil, isNilA, nilPtr, nilSl, nilIf, nilFn, nilMap, nilCheckA, if_true, if_false, lt_lit, le_lit, lt_lit2, le_lit2, le_sub1, le_sub2, drawI, lexD, valD, valI, putD, okD, roD, memAt, lastM, wantI, eqv_refl, eqM_refl, eqM_app, eqB, eqvL, eqv, List.getLast?_cons_cons, List.getLast?_singleton, Option.getD_some, Bool.or_true, Bool.true_or, beq_self_eq_true]; rfl), rfl⟩
        cases hd2 : decide (z1 ≤ 8)
        · cases hs <;> exact ⟨_, _, loopA_ret (by simp only [loopAbs, I29, IC.loops, hi, hlt, hlen, hget, hn, hw, h1, h2, h3, hA, hL, hV1, hA2, hN1, hF2, hV2, hN2, e3, hd, hd2, geq0, eC_len, eC_take, eC_one, eC_0, eC_1, eC_2, eC_3, eC_4, eCr, eCr_0, eCr_1, eCr_2, eCr_3, eCr_4, List.length_drop, Nat.reduceSub, Nat.add_sub_cancel_left, atr, List.append_nil, List.nil_append, List.cons_append, List.getD_cons_zero, List.getD_cons_succ, evI, opsI, stepI, wantI, opI, AAct.evI, look, AAct.put, mkVal, mkVM, intOpA, intA, shiftA, unA, decide_true, decide_false, Option.map_some, Option.map_none, reduceIte, Nat.reduceEqDiff, Nat.reduceLT, Option.bind_some, Option.bind_none, true_and, and_true, and_self, Nat.zero_lt_succ, cellsAt, List.length_append, Nat.le_add_right, List.length_cons, List.length_nil, Nat.zero_add, Nat.add_zero, Nat.reduceAdd, Nat.reduceMul, Nat.zero_mul, AV.cells, AV.one, known, List.append_assoc, getE_0, getE_k, setE_0, setE_k, List.getElem?_cons_zero, List.getElem?_cons_succ, List.set_cons_zero, List.set_cons_succ, List.take_succ_cons, List.take_zero, List.drop_zero, List.drop_succ_cons, List.drop_nil, List.all_cons, List.all_nil, Bool.and_self, Bool.and_true, Bool.true_and, Bool.and_false, Bool.false_and, splice, fillI, Nat.reduceLeDiff, strA, Nat.add_assoc, beq_self_eq_true, Bool.false_eq_true, bq_ft, bq_tf, Bool.not_true, Bool.not_false, Nat.le_refl, List.map_cons, List.map_nil, isNilA, nilPtr, nilSl, nilIf, nilFn, nilMap, nilCheckA, if_true, if_false, lt_lit, le_lit, lt_lit2, le_lit2, le_sub1, le_sub2, drawI, lexD, valD, valI, putD, okD, roD, memAt, lastM, wantI, eqv_refl, eqM_refl, eqM_app, eqB, eqvL, eqv, List.getLast?_cons_cons, List.getLast?_singleton, Option.getD_some, Bool.or_true, Bool.true_or, beq_self_eq_true]; rfl), rfl⟩
        · cases hs <;> exact ⟨_, _, loopA_ret (by simp only [loopAbs, I29, IC.loops, hi, hlt, hlen, hget, hn, hw, h1, h2, h3, hA, hL, hV1, hA2, hN1, hF2, hV2, hN2, e3, hd, hd2, geq0, eC_len, eC_take, eC_one, eC_0, eC_1, eC_2, eC_3, eC_4, eCr, eCr_0, eCr_1, eCr_2, eCr_3, eCr_4, List.length_drop, Nat.reduceSub, Nat.add_sub_cancel_left, atr, List.append_nil, List.nil_append, List.cons_append, List.getD_cons_zero, List.getD_cons_succ, evI, opsI, stepI, wantI, opI, AAct.evI, look, AAct.put, mkVal, mkVM, intOpA, intA, shiftA, unA, decide_true, decide_false, Option.map_some, Option.map_none, reduceIte, Nat.reduceEqDiff, Nat.reduceLT, Option.bind_some, Option.bind_none, true_and, and_true, and_self, Nat.zero_lt_succ, cellsAt, List.length_append, Nat.le_add_right, List.length_cons, List.length_nil, Nat.zero_add, Nat.add_zero, Nat.reduceAdd, Nat.reduceMul, Nat.zero_mul, AV.cells, AV.one, known, List.append_assoc, getE_0, getE_k, setE_0, setE_k, List.getElem?_cons_zero, List.getElem?_cons_succ, List.set_cons_zero, List.set_cons_succ, List.take_succ_cons, List.take_zero, List.drop_zero, List.drop_succ_cons, List.drop_nil, List.all_cons, List.all_nil, Bool.and_self, Bool.and_true, Bool.true_and, Bool.and_false, Bool.false_and, splice, fillI, Nat.reduceLeDiff, strA, Nat.add_assoc, beq_self_eq_true, Bool.false_eq_true, bq_ft, bq_tf, Bool.not_true, Bool.not_false, Nat.le_refl, List.map_cons, List.map_nil, isNilA, nilPtr, nilSl, nilIf, nilFn, nilMap, nilCheckA, if_true, if_false, lt_lit, le_lit, lt_lit2, le_lit2, le_sub1, le_sub2, drawI, lexD, valD, valI, putD, okD, roD, memAt, lastM, wantI, eqv_refl, eqM_refl, eqM_app, eqB, eqvL, eqv, List.getLast?_cons_cons, List.getLast?_singleton, Option.getD_some, Bool.or_true, Bool.true_or, beq_self_eq_true]; rfl), rfl⟩
    · have hk' : k = e.kids.length := by omega
      subst hk'
      simp only [List.drop_length, absIn]
      exact ⟨_, [], loopA_exit (by simp only [loopAbs, I29, IC.loops, Int.lt_irrefl, eC_len, eC_take, eC_one, eC_0, eC_1, eC_2, eC_3, eC_4, eCr, eCr_0, eCr_1, eCr_2, eCr_3, eCr_4, List.length_drop, Nat.reduceSub, Nat.add_sub_cancel_left, atr, List.append_nil, List.nil_append, List.cons_append, List.getD_cons_zero, List.getD_cons_succ, evI, opsI, stepI, wantI, opI, AAct.evI, look, AAct.put, mkVal, mkVM, intOpA, intA, shiftA, unA, decide_true, decide_false, Option.map_some, Option.map_none, reduceIte, Nat.reduceEqDiff, Nat.reduceLT, Option.bind_some, Option.bind_none, true_and, and_true, and_self, Nat.zero_lt_succ, cellsAt, List.length_append, Nat.le_add_right, List.length_cons, List.length_nil, Nat.zero_add, Nat.add_zero, Nat.reduceAdd, Nat.reduceMul, Nat.zero_mul, AV.cells, AV.one, known, List.append_assoc, getE_0, getE_k, setE_0, setE_k, List.getElem?_cons_zero, List.getElem?_cons_succ, List.set_cons_zero, List.set_cons_succ, List.take_succ_cons, List.take_zero, List.drop_zero, List.drop_succ_cons, List.drop_nil, List.all_cons, List.all_nil, Bool.and_self, Bool.and_true, Bool.true_and, Bool.and_false, Bool.false_and, splice, fillI, Nat.reduceLeDiff, strA, Nat.add_assoc, beq_self_eq_true, Bool.false_eq_true, bq_ft, bq_tf, Bool.not_true, Bool.not_false, Nat.le_refl, List.map_cons, List.map_nil, isNilA, nilPtr, nilSl, nilIf, nilFn, nilMap, nilCheckA, if_true, if_false, lt_lit, le_lit, lt_lit2, le_lit2, le_sub1, le_sub2]; rfl), rfl⟩
end Go.Proofs.YtlimneghgioeaaaGreatDoor.Ev
