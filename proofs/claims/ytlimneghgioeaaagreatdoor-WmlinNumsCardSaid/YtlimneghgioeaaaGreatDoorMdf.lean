/- Parts of one proof, one behind the other: wmlin.how: reckoned with letters. -/
import Derived.Test.YtlimneghgioeaaaGreatDoorMde
/- wmlin.how: reckoned with letters. -/
namespace Go.Proofs.YtlimneghgioeaaaGreatDoor.Ev
set_option linter.all false
open Go.Proofs.YtlimneghgioeaaaGreatDoor.Ic
set_option maxRecDepth 100000
set_option maxHeartbeats 2000000
set_option linter.unusedSimpArgs false
def absS : List UInt8 := [97, 98, 115, 116, 114, 97, 99, 116, 78, 117, 109]
def absIdS : List UInt8 := [97, 98, 115, 116, 114, 97, 99, 116, 78, 117, 109, 73, 100]
def lvlS : List UInt8 := [108, 118, 108]
def fmtS : List UInt8 := [110, 117, 109, 70, 109, 116]
def bulS : List UInt8 := [98, 117, 108, 108, 101, 116]
def ilvlS : List UInt8 := [105, 108, 118, 108]
def startS : List UInt8 := [115, 116, 97, 114, 116]
/-- The abstractNum of an id. -/
def absIn (id : List UInt8) : List El → Option El
  | [] => none
  | y :: l => if y.sp == wNs && y.nm == absS && attrOf y absIdS == id then some y else absIn id l
theorem absIn_mem {id : List UInt8} {x : El} : ∀ {l : List El}, absIn id l = some x → x ∈ l
  | [], h => by simp [absIn] at h
  | k :: ks, h => by
    simp only [absIn] at h
    split at h
    · injection h with h; subst h; exact List.mem_cons_self
    · exact List.mem_cons_of_mem _ (absIn_mem h)
def hasLvl (y : El) : Bool := (findIn wNs lvlS y.kids).isSome
def hasStart (y : El) : Bool := (findIn wNs startS (kidOf y lvlS).kids).isSome
def ilvlT (y : El) : List UInt8 := attrOf (kidOf y lvlS) ilvlS
def startT (y : El) : List UInt8 := valOf (kidOf y lvlS) startS
def ordOf (y : El) : Bool := !(valOf (kidOf y lvlS) fmtS == bulS)
def goodLvl (y : El) : Bool := hasLvl y && (isNum (ilvlT y) && decide (numZ (ilvlT y) ≤ 8))
def howGood (y : El) : Bool := goodLvl y && (!hasStart y || isNum (startT y))
def howStart (y : El) : Int := if hasStart y then numZ (startT y) else 1
/-- A numbering's cells. -/
def nC (id : Int) (ord : Bool) (start level : Int) : List AV := [.int .i64 id, .bool ord, .int .i64 start, .int .i64 level]
def howC (y : El) : List AV := nC 0 (ordOf y) (howStart y) (numZ (ilvlT y))
noncomputable def loopHow : IC := (I26.c.loops).getD 0 .bad
theorem how_loop (P : Program) (N n : Nat) (hN : 9223372036854775808 ≤ N) (id : List UInt8) (e : El) (he : Fits e) (H : Mem) (R0 : Blk) : ∀ (fuel k : Nat), k ≤ e.kids.length → e.kids.length - k < fuel →
    ∃ t M, loopA (fun a H => evI P cfg (evFI P cfg T N (n + 3)) N loopHow a H) (some [1, 4, 17, 18, 19]) fuel ⟨83, [(1, .str id), (4, .ptr (H.length + 1) 0 0), (17, .lst e.kids.length (kC e.kids)), (18, .int .i64 e.kids.length), (19, .int .i64 k)], []⟩ (H ++ [R0, .row [.int .i64 0, .bool false, .int .i64 0, .int .i64 0] 0 (63 + 1)]) =
      (match absIn id (e.kids.drop k) with
      | some x => some (.ret, ⟨83, (5, .bool (howGood x)) :: t, []⟩, H ++ R0 :: .row (howC x) 0 (63 + 1) :: M)
      | none => some (.exit 0, ⟨83, t, []⟩, H ++ [R0, .row [.int .i64 0, .bool false, .int .i64 0, .int .i64 0] 0 (63 + 1)])) ∧ look t 4 = .ptr (H.length + 1) 0 0
  | 0, k, _, h => by omega
  | fuel + 1, k, hk, hf => by
    rcases Nat.lt_or_ge k e.kids.length with hlt | hge
    · obtain ⟨x, hx⟩ := all_drop hlt
      have hxm : x ∈ e.kids := List.mem_of_mem_drop (i := k) (by rw [hx]; exact List.mem_cons_self)
      have hfx := he.kid hxm
      have hget : (kC e.kids).drop (k * 5) = eC x ++ kC (e.kids.drop (k + 1)) := by rw [kC_drop, hx]; rfl
      have hlen : k * 5 + 5 ≤ (kC e.kids).length := by rw [kC_len]; omega
      have hi : (k : Int) < (e.kids.length : Int) := by omega
      have hw := wrap_next hlt he.len
      have hn := natOf_nat k .i64
      obtain ⟨t, M, ht, hl⟩ := how_loop P N n hN id e he H R0 fuel (k + 1) (by omega) (by omega)
      have hA := fun H => attr_eq P N (n + 1) hN absIdS x hfx H
      rw [hx]
      cases h1 : (x.sp == wNs)
      · refine ⟨t, M, ?_, hl⟩
        simp only [absIn, h1, Bool.false_and, Bool.false_eq_true, if_false]
        simp only [wNs] at h1
        refine loopA_go (by simp only [loopHow, I26, IC.loops, hi, hlt, hlen, hget, hn, hw, h1, eC_len, eC_take, eC_one, eC_0, eC_1, eC_2, eC_3, eC_4, eCr, eCr_0, eCr_1, eCr_2, eCr_3, eCr_4, List.length_drop, Nat.reduceSub, Nat.add_sub_cancel_left, atr, List.append_nil, List.nil_append, List.cons_append, List.getD_cons_zero, List.getD_cons_succ, evI, opsI, stepI, wantI, opI, AAct.evI, look, AAct.put, mkVal, mkVM, intOpA, intA, shiftA, unA, decide_true, decide_false, Option.map_some, Option.map_none, reduceIte, Nat.reduceEqDiff, Nat.reduceLT, Option.bind_some, Option.bind_none, true_and, and_true, and_self, Nat.zero_lt_succ, cellsAt, List.length_append, Nat.le_add_right, List.length_cons, List.length_nil, Nat.zero_add, Nat.add_zero, Nat.reduceAdd, Nat.reduceMul, Nat.zero_mul, AV.cells, AV.one, known, List.append_assoc, getE_0, getE_k, setE_0, setE_k, List.getElem?_cons_zero, List.getElem?_cons_succ, List.set_cons_zero, List.set_cons_succ, List.take_succ_cons, List.take_zero, List.drop_zero, List.drop_succ_cons, List.drop_nil, List.all_cons, List.all_nil, Bool.and_self, Bool.and_true, Bool.true_and, Bool.and_false, Bool.false_and, splice, fillI, Nat.reduceLeDiff, strA, Nat.add_assoc, beq_self_eq_true, Bool.false_eq_true, bq_ft, bq_tf, Bool.not_true, Bool.not_false, Nat.le_refl, List.map_cons, List.map_nil, isNilA, nilPtr, nilSl, nilIf, nilFn, nilMap, nilCheckA, if_true, if_false, lt_lit, le_lit, lt_lit2, le_lit2, le_sub1, le_sub2]; rfl) ?_
        simp only [eC_low, kC_low, roundEnd, AAct.keepT, List.map_cons, List.map_nil, look, reduceIte, Nat.reduceEqDiff, lowT, List.all_cons, List.all_nil, low, lowL, lowD, mayCut, List.length_append, List.length_cons, List.length_nil, Nat.zero_add, Nat.reduceAdd, takeS, takeE_0, takeE_k, List.take_succ_cons, List.take_zero, eqM_app, eqM_refl, Bool.true_or, Bool.and_self, Bool.and_true, Bool.true_and, decide_true, Nat.lt_succ_self, Nat.lt_add_right_iff_pos, Nat.add_lt_add_iff_left, Nat.reduceLT, if_true, lt_k, List.append_assoc, List.cons_append, List.nil_append]
        exact ht
      cases h2 : (x.nm == absS)
      · refine ⟨t, M, ?_, hl⟩
        simp only [absIn, h1, h2, Bool.true_and, Bool.false_and, Bool.false_eq_true, if_false]
        simp only [wNs] at h1
        simp only [absS] at h2
        refine loopA_go (by simp only [loopHow, I26, IC.loops, hi, hlt, hlen, hget, hn, hw, h1, h2, eC_len, eC_take, eC_one, eC_0, eC_1, eC_2, eC_3, eC_4, eCr, eCr_0, eCr_1, eCr_2, eCr_3, eCr_4, List.length_drop, Nat.reduceSub, Nat.add_sub_cancel_left, atr, List.append_nil, List.nil_append, List.cons_append, List.getD_cons_zero, List.getD_cons_succ, evI, opsI, stepI, wantI, opI, AAct.evI, look, AAct.put, mkVal, mkVM, intOpA, intA, shiftA, unA, decide_true, decide_false, Option.map_some, Option.map_none, reduceIte, Nat.reduceEqDiff, Nat.reduceLT, Option.bind_some, Option.bind_none, true_and, and_true, and_self, Nat.zero_lt_succ, cellsAt, List.length_append, Nat.le_add_right, List.length_cons, List.length_nil, Nat.zero_add, Nat.add_zero, Nat.reduceAdd, Nat.reduceMul, Nat.zero_mul, AV.cells, AV.one, known, List.append_assoc, getE_0, getE_k, setE_0, setE_k, List.getElem?_cons_zero, List.getElem?_cons_succ, List.set_cons_zero, List.set_cons_succ, List.take_succ_cons, List.take_zero, List.drop_zero, List.drop_succ_cons, List.drop_nil, List.all_cons, List.all_nil, Bool.and_self, Bool.and_true, Bool.true_and, Bool.and_false, Bool.false_and, splice, fillI, Nat.reduceLeDiff, strA, Nat.add_assoc, beq_self_eq_true, Bool.false_eq_true, bq_ft, bq_tf, Bool.not_true, Bool.not_false, Nat.le_refl, List.map_cons, List.map_nil, isNilA, nilPtr, nilSl, nilIf, nilFn, nilMap, nilCheckA, if_true, if_false, lt_lit, le_lit, lt_lit2, le_lit2, le_sub1, le_sub2]; rfl) ?_
        simp only [eC_low, kC_low, roundEnd, AAct.keepT, List.map_cons, List.map_nil, look, reduceIte, Nat.reduceEqDiff, lowT, List.all_cons, List.all_nil, low, lowL, lowD, mayCut, List.length_append, List.length_cons, List.length_nil, Nat.zero_add, Nat.reduceAdd, takeS, takeE_0, takeE_k, List.take_succ_cons, List.take_zero, eqM_app, eqM_refl, Bool.true_or, Bool.and_self, Bool.and_true, Bool.true_and, decide_true, Nat.lt_succ_self, Nat.lt_add_right_iff_pos, Nat.add_lt_add_iff_left, Nat.reduceLT, if_true, lt_k, List.append_assoc, List.cons_append, List.nil_append]
        exact ht
      simp only [absIdS] at hA
      cases h3 : (attrOf x [97, 98, 115, 116, 114, 97, 99, 116, 78, 117, 109, 73, 100] == id)
      · refine ⟨t, M, ?_, hl⟩
        simp only [absIn, absIdS, h1, h2, h3, Bool.true_and, Bool.and_false, Bool.false_eq_true, if_false]
        simp only [wNs] at h1
        simp only [absS] at h2
        refine loopA_go (by simp only [loopHow, I26, IC.loops, hi, hlt, hlen, hget, hn, hw, h1, h2, h3, hA, eC_len, eC_take, eC_one, eC_0, eC_1, eC_2, eC_3, eC_4, eCr, eCr_0, eCr_1, eCr_2, eCr_3, eCr_4, List.length_drop, Nat.reduceSub, Nat.add_sub_cancel_left, atr, List.append_nil, List.nil_append, List.cons_append, List.getD_cons_zero, List.getD_cons_succ, evI, opsI, stepI, wantI, opI, AAct.evI, look, AAct.put, mkVal, mkVM, intOpA, intA, shiftA, unA, decide_true, decide_false, Option.map_some, Option.map_none, reduceIte, Nat.reduceEqDiff, Nat.reduceLT, Option.bind_some, Option.bind_none, true_and, and_true, and_self, Nat.zero_lt_succ, cellsAt, List.length_append, Nat.le_add_right, List.length_cons, List.length_nil, Nat.zero_add, Nat.add_zero, Nat.reduceAdd, Nat.reduceMul, Nat.zero_mul, AV.cells, AV.one, known, List.append_assoc, getE_0, getE_k, setE_0, setE_k, List.getElem?_cons_zero, List.getElem?_cons_succ, List.set_cons_zero, List.set_cons_succ, List.take_succ_cons, List.take_zero, List.drop_zero, List.drop_succ_cons, List.drop_nil, List.all_cons, List.all_nil, Bool.and_self, Bool.and_true, Bool.true_and, Bool.and_false, Bool.false_and, splice, fillI, Nat.reduceLeDiff, strA, Nat.add_assoc, beq_self_eq_true, Bool.false_eq_true, bq_ft, bq_tf, Bool.not_true, Bool.not_false, Nat.le_refl, List.map_cons, List.map_nil, isNilA, nilPtr, nilSl, nilIf, nilFn, nilMap, nilCheckA, if_true, if_false, lt_lit, le_lit, lt_lit2, le_lit2, le_sub1, le_sub2]; rfl) ?_
        simp only [eC_low, kC_low, roundEnd, AAct.keepT, List.map_cons, List.map_nil, look, reduceIte, Nat.reduceEqDiff, lowT, List.all_cons, List.all_nil, low, lowL, lowD, mayCut, List.length_append, List.length_cons, List.length_nil, Nat.zero_add, Nat.reduceAdd, takeS, takeE_0, takeE_k, List.take_succ_cons, List.take_zero, eqM_app, eqM_refl, Bool.true_or, Bool.and_self, Bool.and_true, Bool.true_and, decide_true, Nat.lt_succ_self, Nat.lt_add_right_iff_pos, Nat.add_lt_add_iff_left, Nat.reduceLT, if_true, lt_k, List.append_assoc, List.cons_append, List.nil_append]
        exact ht
      · simp only [absIn, absIdS, h1, h2, h3, Bool.and_self, if_true]
        have hL := fun H => find_eq P N (n + 2) hN wNs lvlS x hfx.len H
        have hV1 := fun H => val_eq P N n hN fmtS (kidOf x lvlS) (hfx.kidOf _) H
        have hA2 := fun H => attr_eq P N (n + 1) hN ilvlS (kidOf x lvlS) (hfx.kidOf _) H
        have hN1 := fun H => number_eq P N (n + 2) (ilvlT x) ((hfx.kidOf lvlS).attr _) H
        have hF2 := fun H => find_eq P N (n + 2) hN wNs startS (kidOf x lvlS) (hfx.kidOf _).len H
        have hV2 := fun H => val_eq P N n hN startS (kidOf x lvlS) (hfx.kidOf _) H
        have hN2 := fun H => number_eq P N (n + 2) (startT x) ((hfx.kidOf lvlS).val _) H
        have hLk : (findIn wNs lvlS x.kids).getD zEl = kidOf x lvlS := rfl
        rw [hLk] at hL
        generalize hlv : kidOf x lvlS = l at hL hV1 hA2 hF2 hV2
        have e1 : attrOf l ilvlS = ilvlT x := by rw [ilvlT, hlv]
        have e2 : valOf l startS = startT x := by rw [startT, hlv]
        have e3 : (!(valOf l fmtS == bulS)) = ordOf x := by rw [ordOf, hlv]
        have e4 : (findIn wNs lvlS x.kids).isSome = hasLvl x := rfl
        have e5 : (findIn wNs startS l.kids).isSome = hasStart x := by rw [hasStart, hlv]
        rw [e1] at hA2
        rw [e2] at hV2
        rw [e4] at hL
        rw [e5] at hF2
        simp only [howGood, howC, howStart, goodLvl, nC]
        generalize (findIn wNs startS l.kids).getD zEl = ls at hF2
        simp only [wNs] at h1 hL hF2
        simp only [absS] at h2
        simp only [lvlS] at hL
        simp only [fmtS] at hV1 e3
        simp only [bulS] at e3
        simp only [ilvlS] at hA2
        simp only [startS] at hF2 hV2
        generalize valOf l [110, 117, 109, 70, 109, 116] = vf at hV1 e3
        generalize hasLvl x = ok at hL ⊢
        generalize hasStart x = hs at hF2 ⊢
        generalize ilvlT x = ti at hA2 hN1 ⊢
        generalize startT x = ts at hV2 hN2 ⊢
        generalize isNum ti = is1 at hN1 ⊢
        generalize isNum ts = is2 at hN2 ⊢
        generalize numZ ti = z1 at hN1 ⊢
        generalize numZ ts = z2 at hN2 ⊢
        clear ht hl he hfx hxm
        cases ok <;> cases is1 <;> cases hd : decide (z1 ≤ 8) <;> cases hs <;> cases is2 <;>
          exact ⟨_, _, loopA_ret (by simp only [loopHow, I26, IC.loops, hi, hlt, hlen, hget, hn, hw, h1, h2, h3, hA, hL, hV1, hA2, hN1, hF2, hV2, hN2, e3, hd, eC_len, eC_take, eC_one, eC_0, eC_1, eC_2, eC_3, eC_4, eCr, eCr_0, eCr_1, eCr_2, eCr_3, eCr_4, List.length_drop, Nat.reduceSub, Nat.add_sub_cancel_left, atr, List.append_nil, List.nil_append, List.cons_append, List.getD_cons_zero, List.getD_cons_succ, evI, opsI, stepI, wantI, opI, AAct.evI, look, AAct.put, mkVal, mkVM, intOpA, intA, shiftA, unA, decide_true, decide_false, Option.map_some, Option.map_none, reduceIte, Nat.reduceEqDiff, Nat.reduceLT, Option.bind_some, Option.bind_none, true_and, and_true, and_self, Nat.zero_lt_succ, cellsAt, List.length_append, Nat.le_add_right, List.length_cons, List.length_nil, Nat.zero_add, Nat.add_zero, Nat.reduceAdd, Nat.reduceMul, Nat.zero_mul, AV.cells, AV.one, known, List.append_assoc, getE_0, getE_k, setE_0, setE_k, List.getElem?_cons_zero, List.getElem?_cons_succ, List.set_cons_zero, List.set_cons_succ, List.take_succ_cons, List.take_zero, List.drop_zero, List.drop_succ_cons, List.drop_nil, List.all_cons, List.all_nil, Bool.and_self, Bool.and_true, Bool.true_and, Bool.and_false, Bool.false_and, splice, fillI, Nat.reduceLeDiff, strA, Nat.add_assoc, beq_self_eq_true, Bool.false_eq_true, bq_ft, bq_tf, Bool.not_true, Bool.not_false, Nat.le_refl, List.map_cons, List.map_nil, isNilA, nilPtr, nilSl, nilIf, nilFn, nilMap, nilCheckA, if_true, if_false, lt_lit, le_lit, lt_lit2, le_lit2, le_sub1, le_sub2]; rfl), rfl⟩
    · have hk' : k = e.kids.length := by omega
      subst hk'
      simp only [List.drop_length, absIn]
      exact ⟨_, [], loopA_exit (by simp only [loopHow, I26, IC.loops, Int.lt_irrefl, List.append_nil, List.nil_append, List.cons_append, List.getD_cons_zero, List.getD_cons_succ, evI, opsI, stepI, wantI, opI, AAct.evI, look, AAct.put, mkVal, mkVM, intOpA, intA, shiftA, unA, decide_true, decide_false, Option.map_some, Option.map_none, reduceIte, Nat.reduceEqDiff, Nat.reduceLT, Option.bind_some, Option.bind_none, true_and, and_true, and_self, Nat.zero_lt_succ, cellsAt, List.length_append, Nat.le_add_right, List.length_cons, List.length_nil, Nat.zero_add, Nat.add_zero, Nat.reduceAdd, Nat.reduceMul, Nat.zero_mul, AV.cells, AV.one, known, List.append_assoc, getE_0, getE_k, setE_0, setE_k, List.getElem?_cons_zero, List.getElem?_cons_succ, List.set_cons_zero, List.set_cons_succ, List.take_succ_cons, List.take_zero, List.drop_zero, List.drop_succ_cons, List.drop_nil, List.all_cons, List.all_nil, Bool.and_self, Bool.and_true, Bool.true_and, Bool.and_false, Bool.false_and, splice, fillI, Nat.reduceLeDiff, strA, Nat.add_assoc, beq_self_eq_true, Bool.false_eq_true, bq_ft, bq_tf, Bool.not_true, Bool.not_false, Nat.le_refl, List.map_cons, List.map_nil, isNilA, nilPtr, nilSl, nilIf, nilFn, nilMap, nilCheckA, if_true, if_false, lt_lit, le_lit, lt_lit2, le_lit2, le_sub1, le_sub2]; rfl), rfl⟩
end Go.Proofs.YtlimneghgioeaaaGreatDoor.Ev
