/- Parts of one proof, one behind the other: Two elements alike: the plain law, and the reference's Same, reckoned with letters. -/
import Derived.Test.YtmnajffpmbidiaaGreatDoorMdd
import Derived.Test.YtmnajffpmbidiaaGreatDoorMde
/- Two elements alike: the plain law, and the reference's Same, reckoned with letters. -/
namespace Go.Proofs.YtmnajffpmbidiaaGreatDoor.Ev
set_option linter.all false
variable {ml : Int}
open Go.Proofs.YtmnajffpmbidiaaGreatDoor.Ic
set_option maxRecDepth 100000
set_option maxHeartbeats 2000000
set_option linter.unusedSimpArgs false
def atEq (x y : List UInt8 × List UInt8 × List UInt8) : Bool := x.1 == y.1 && (x.2.1 == y.2.1 && x.2.2 == y.2.2)
/-- Attributes alike, as far as both go. -/
def eqAts : List (List UInt8 × List UInt8 × List UInt8) → List (List UInt8 × List UInt8 × List UInt8) → Bool
  | x :: xs, y :: ys => atEq x y && eqAts xs ys
  | _, _ => true
mutual
def sameE : El → El → Bool
  | .mk s1 n1 t1 a1 k1, .mk s2 n2 t2 a2 k2 => s1 == s2 && (n1 == n2 && (t1 == t2 && (!((a1.length : Int) != (a2.length : Int)) && (!((k1.length : Int) != (k2.length : Int)) && (eqAts a1 a2 && eqKids k1 k2)))))
def eqKids : List El → List El → Bool
  | x :: xs, y :: ys => sameE x y && eqKids xs ys
  | [], _ => true
  | _, [] => true
end
theorem sameE_eq (x y : El) : sameE x y = (x.sp == y.sp && (x.nm == y.nm && (x.tx == y.tx && (!((x.ats.length : Int) != (y.ats.length : Int)) && (!((x.kids.length : Int) != (y.kids.length : Int)) && (eqAts x.ats y.ats && eqKids x.kids y.kids)))))) := by
  cases x; cases y; simp only [sameE, El.sp, El.nm, El.tx, El.ats, El.kids]
theorem eqAts_refl : ∀ l, eqAts l l = true
  | [] => rfl
  | x :: xs => by simp [eqAts, atEq, eqAts_refl xs]
mutual
theorem sameE_refl : ∀ x, sameE x x = true
  | .mk _ _ _ a k => by simp [sameE, eqAts_refl a, eqKids_refl k]
theorem eqKids_refl : ∀ l, eqKids l l = true
  | [] => by simp [eqKids]
  | x :: xs => by simp [eqKids, sameE_refl x, eqKids_refl xs]
end
theorem eqCells_at (x y : List UInt8 × List UInt8 × List UInt8) : eqCells [(0, 2), (1, 2), (2, 2)] [.str x.1, .str x.2.1, .str x.2.2] [.str y.1, .str y.2.1, .str y.2.2] = some (atEq x y) := by
  simp only [eqCells, eqCell, atEq, List.getElem?_cons_zero, List.getElem?_cons_succ]
  cases x.1 == y.1 <;> cases x.2.1 == y.2.1 <;> cases x.2.2 == y.2.2 <;> rfl
theorem bne_len {a b : Nat} (h : ((a : Int) != (b : Int)) = false) : a = b := by
  have := of_decide_eq_true (p := (a : Int) = (b : Int)) (by simpa [bne] using h)
  omega
noncomputable def loopRS1 : IC := (I15.c.loops).getD 0 .bad
noncomputable def loopRS2 : IC := (I15.c.loops).getD 1 .bad
def pairM (x y : El) : Mem := [.row (eC x) 0 (27 + 1), .row (eC y) 0 (27 + 1)]
theorem rs1_loop (P : Program) (F : FSem) (N : Nat) (x y : El) (hall : x.ats.length ≤ 9223372036854775807) (hl : x.ats.length = y.ats.length) (H : Mem) : ∀ (fuel k : Nat), k ≤ x.ats.length → x.ats.length - k < fuel →
    ∃ t, loopA (fun a H => evI P (cfg ml) F N loopRS1 a H) (some [2, 3, 5]) fuel ⟨81, [(2, .ptr H.length 0 0), (3, .ptr (H.length + 1) 0 0), (5, .int .i64 k)], []⟩ (H ++ [.row (eC x) 0 (27 + 1), .row (eC y) 0 (27 + 1)]) =
      (if eqAts (x.ats.drop k) (y.ats.drop k) = true then some (.exit 0, ⟨81, t, []⟩, H ++ [.row (eC x) 0 (27 + 1), .row (eC y) 0 (27 + 1)])
      else some (.ret, ⟨81, (4, .bool false) :: t, []⟩, H ++ [.row (eC x) 0 (27 + 1), .row (eC y) 0 (27 + 1)])) ∧ look t 2 = .ptr H.length 0 0 ∧ look t 3 = .ptr (H.length + 1) 0 0
  | 0, k, _, h => by omega
  | fuel + 1, k, hk, hf => by
    rcases Nat.lt_or_ge k x.ats.length with hlt | hge
    · obtain ⟨a, ha⟩ := all_drop hlt
      obtain ⟨b, hb⟩ := all_drop (show k < y.ats.length by omega)
      have hget : (x.ats.flatMap atC).drop (k * 3) = atC a ++ (x.ats.drop (k + 1)).flatMap atC := by rw [atsC_drop, ha]; rfl
      have hget2 : (y.ats.flatMap atC).drop (k * 3) = atC b ++ (y.ats.drop (k + 1)).flatMap atC := by rw [atsC_drop, hb]; rfl
      have hlen : k * 3 + 3 ≤ (x.ats.flatMap atC).length := by rw [atsC_len]; omega
      have hlen2 : k * 3 + 3 ≤ (y.ats.flatMap atC).length := by rw [atsC_len]; omega
      have hlt2 : k < y.ats.length := by omega
      have hi : (k : Int) < (x.ats.length : Int) := by omega
      have hw := wrap_next hlt hall
      have hn := natOf_nat k .i64
      obtain ⟨t, ht, h2, h3⟩ := rs1_loop P F N x y hall hl H fuel (k + 1) (by omega) (by omega)
      rw [ha, hb]
      cases hc : atEq a b
      · simp only [eqAts, hc, Bool.false_and, Bool.false_eq_true, if_false]
        exact ⟨_, loopA_ret (by simp only [loopRS1, I15, IC.loops, hi, hlt, hlt2, hlen, hlen2, hget, hget2, hn, hw, eqCells_at, hc, eC_len, eC_take, eC_one, eC_0, eC_1, eC_2, eC_3, eC_4, eCr, eCr_0, eCr_1, eCr_2, eCr_3, eCr_4, List.length_drop, Nat.reduceSub, Nat.add_sub_cancel_left, atr, List.append_nil, List.nil_append, List.cons_append, List.getD_cons_zero, List.getD_cons_succ, evI, opsI, stepI, wantI, opI, AAct.evI, look, AAct.put, mkVal, mkVM, intOpA, intA, shiftA, unA, decide_true, decide_false, Option.map_some, Option.map_none, reduceIte, Nat.reduceEqDiff, Nat.reduceLT, Option.bind_some, Option.bind_none, true_and, and_true, and_self, Nat.zero_lt_succ, cellsAt, List.length_append, Nat.le_add_right, List.length_cons, List.length_nil, Nat.zero_add, Nat.add_zero, Nat.reduceAdd, Nat.reduceMul, Nat.zero_mul, AV.cells, AV.one, known, List.append_assoc, getE_0, getE_k, setE_0, setE_k, List.getElem?_cons_zero, List.getElem?_cons_succ, List.set_cons_zero, List.set_cons_succ, List.take_succ_cons, List.take_zero, List.drop_zero, List.drop_succ_cons, List.drop_nil, List.all_cons, List.all_nil, Bool.and_self, Bool.and_true, Bool.true_and, Bool.and_false, Bool.false_and, splice, fillI, Nat.reduceLeDiff, strA, Nat.add_assoc, beq_self_eq_true, Bool.false_eq_true, bq_ft, bq_tf, Bool.not_true, Bool.not_false, Nat.le_refl, List.map_cons, List.map_nil, isNilA, nilPtr, nilSl, nilIf, nilFn, nilMap, nilCheckA, if_true, if_false, lt_lit, le_lit, lt_lit2, le_lit2, le_sub1, le_sub2, drawI, drawI2, lexD, valD, valI, putD, okD, roD, memAt, lastM, wantI, eqv_refl, eqM_refl, eqM_app, eqB, eqvL, eqv, List.getLast?_cons_cons, List.getLast?_singleton, Option.getD_some, Bool.or_true, Bool.true_or, beq_self_eq_true, resvV]; rfl), rfl, rfl⟩
      · refine ⟨t, ?_, h2, h3⟩
        simp only [eqAts, hc, Bool.true_and]
        refine loopA_go (by simp only [loopRS1, I15, IC.loops, hi, hlt, hlt2, hlen, hlen2, hget, hget2, hn, hw, eqCells_at, hc, eC_len, eC_take, eC_one, eC_0, eC_1, eC_2, eC_3, eC_4, eCr, eCr_0, eCr_1, eCr_2, eCr_3, eCr_4, List.length_drop, Nat.reduceSub, Nat.add_sub_cancel_left, atr, List.append_nil, List.nil_append, List.cons_append, List.getD_cons_zero, List.getD_cons_succ, evI, opsI, stepI, wantI, opI, AAct.evI, look, AAct.put, mkVal, mkVM, intOpA, intA, shiftA, unA, decide_true, decide_false, Option.map_some, Option.map_none, reduceIte, Nat.reduceEqDiff, Nat.reduceLT, Option.bind_some, Option.bind_none, true_and, and_true, and_self, Nat.zero_lt_succ, cellsAt, List.length_append, Nat.le_add_right, List.length_cons, List.length_nil, Nat.zero_add, Nat.add_zero, Nat.reduceAdd, Nat.reduceMul, Nat.zero_mul, AV.cells, AV.one, known, List.append_assoc, getE_0, getE_k, setE_0, setE_k, List.getElem?_cons_zero, List.getElem?_cons_succ, List.set_cons_zero, List.set_cons_succ, List.take_succ_cons, List.take_zero, List.drop_zero, List.drop_succ_cons, List.drop_nil, List.all_cons, List.all_nil, Bool.and_self, Bool.and_true, Bool.true_and, Bool.and_false, Bool.false_and, splice, fillI, Nat.reduceLeDiff, strA, Nat.add_assoc, beq_self_eq_true, Bool.false_eq_true, bq_ft, bq_tf, Bool.not_true, Bool.not_false, Nat.le_refl, List.map_cons, List.map_nil, isNilA, nilPtr, nilSl, nilIf, nilFn, nilMap, nilCheckA, if_true, if_false, lt_lit, le_lit, lt_lit2, le_lit2, le_sub1, le_sub2, drawI, drawI2, lexD, valD, valI, putD, okD, roD, memAt, lastM, wantI, eqv_refl, eqM_refl, eqM_app, eqB, eqvL, eqv, List.getLast?_cons_cons, List.getLast?_singleton, Option.getD_some, Bool.or_true, Bool.true_or, beq_self_eq_true, resvV]; rfl) ?_
        simp only [eC_low, roundEnd, AAct.keepT, List.map_cons, List.map_nil, look, reduceIte, Nat.reduceEqDiff, lowT, List.all_cons, List.all_nil, low, lowL, lowD, mayCut, List.length_append, List.length_cons, List.length_nil, Nat.zero_add, Nat.reduceAdd, takeS, takeE_0, takeE_k, List.take_succ_cons, List.take_zero, eqM_app, eqM_refl, Bool.true_or, Bool.and_self, Bool.and_true, Bool.true_and, decide_true, Nat.lt_succ_self, Nat.lt_add_right_iff_pos, Nat.add_lt_add_iff_left, Nat.reduceLT, if_true, lt_k, List.append_assoc, List.cons_append, List.nil_append]
        exact ht
    · have hk' : k = x.ats.length := by omega
      subst hk'
      simp only [List.drop_length, eqAts, if_true]
      exact ⟨_, loopA_exit (by simp only [loopRS1, I15, IC.loops, Int.lt_irrefl, eC_len, eC_take, eC_one, eC_0, eC_1, eC_2, eC_3, eC_4, eCr, eCr_0, eCr_1, eCr_2, eCr_3, eCr_4, List.length_drop, Nat.reduceSub, Nat.add_sub_cancel_left, atr, List.append_nil, List.nil_append, List.cons_append, List.getD_cons_zero, List.getD_cons_succ, evI, opsI, stepI, wantI, opI, AAct.evI, look, AAct.put, mkVal, mkVM, intOpA, intA, shiftA, unA, decide_true, decide_false, Option.map_some, Option.map_none, reduceIte, Nat.reduceEqDiff, Nat.reduceLT, Option.bind_some, Option.bind_none, true_and, and_true, and_self, Nat.zero_lt_succ, cellsAt, List.length_append, Nat.le_add_right, List.length_cons, List.length_nil, Nat.zero_add, Nat.add_zero, Nat.reduceAdd, Nat.reduceMul, Nat.zero_mul, AV.cells, AV.one, known, List.append_assoc, getE_0, getE_k, setE_0, setE_k, List.getElem?_cons_zero, List.getElem?_cons_succ, List.set_cons_zero, List.set_cons_succ, List.take_succ_cons, List.take_zero, List.drop_zero, List.drop_succ_cons, List.drop_nil, List.all_cons, List.all_nil, Bool.and_self, Bool.and_true, Bool.true_and, Bool.and_false, Bool.false_and, splice, fillI, Nat.reduceLeDiff, strA, Nat.add_assoc, beq_self_eq_true, Bool.false_eq_true, bq_ft, bq_tf, Bool.not_true, Bool.not_false, Nat.le_refl, List.map_cons, List.map_nil, isNilA, nilPtr, nilSl, nilIf, nilFn, nilMap, nilCheckA, if_true, if_false, lt_lit, le_lit, lt_lit2, le_lit2, le_sub1, le_sub2]; rfl), rfl, rfl⟩
theorem rs2_loop (P : Program) (F : FSem) (N : Nat) (x y : El) (hall : x.kids.length ≤ 9223372036854775807) (hl : x.kids.length = y.kids.length) (hF : ∀ a ∈ x.kids, ∀ b H, F 15 [.agg (eC a), .agg (eC b)] H = some (.ret (.bool (sameE a b)), H)) (H : Mem) : ∀ (fuel k : Nat), k ≤ x.kids.length → x.kids.length - k < fuel →
    ∃ t, loopA (fun a H => evI P (cfg ml) F N loopRS2 a H) (some [2, 3, 6]) fuel ⟨81, [(2, .ptr H.length 0 0), (3, .ptr (H.length + 1) 0 0), (6, .int .i64 k)], []⟩ (H ++ [.row (eC x) 0 (27 + 1), .row (eC y) 0 (27 + 1)]) =
      (if eqKids (x.kids.drop k) (y.kids.drop k) = true then some (.exit 2, ⟨81, t, []⟩, H ++ [.row (eC x) 0 (27 + 1), .row (eC y) 0 (27 + 1)])
      else some (.ret, ⟨81, (4, .bool false) :: t, []⟩, H ++ [.row (eC x) 0 (27 + 1), .row (eC y) 0 (27 + 1)]))
  | 0, k, _, h => by omega
  | fuel + 1, k, hk, hf => by
    rcases Nat.lt_or_ge k x.kids.length with hlt | hge
    · obtain ⟨a, ha⟩ := all_drop hlt
      obtain ⟨b, hb⟩ := all_drop (show k < y.kids.length by omega)
      have ham : a ∈ x.kids := List.mem_of_mem_drop (i := k) (by rw [ha]; exact List.mem_cons_self)
      have hget : (kC x.kids).drop (k * 5) = eC a ++ kC (x.kids.drop (k + 1)) := by rw [kC_drop, ha]; rfl
      have hget2 : (kC y.kids).drop (k * 5) = eC b ++ kC (y.kids.drop (k + 1)) := by rw [kC_drop, hb]; rfl
      have hlen : k * 5 + 5 ≤ (kC x.kids).length := by rw [kC_len]; omega
      have hlen2 : k * 5 + 5 ≤ (kC y.kids).length := by rw [kC_len]; omega
      have hlt2 : k < y.kids.length := by omega
      have hi : (k : Int) < (x.kids.length : Int) := by omega
      have hw := wrap_next hlt hall
      have hn := natOf_nat k .i64
      have hFa := hF a ham b
      obtain ⟨t, ht⟩ := rs2_loop P F N x y hall hl hF H fuel (k + 1) (by omega) (by omega)
      rw [ha, hb]
      cases hc : sameE a b
      · rw [hc] at hFa
        simp only [eqKids, hc, Bool.false_and, Bool.false_eq_true, if_false]
        exact ⟨_, loopA_ret (by simp only [loopRS2, I15, IC.loops, hi, hlt, hlt2, hlen, hlen2, hget, hget2, hn, hw, hFa, eC_len, eC_take, eC_one, eC_0, eC_1, eC_2, eC_3, eC_4, eCr, eCr_0, eCr_1, eCr_2, eCr_3, eCr_4, List.length_drop, Nat.reduceSub, Nat.add_sub_cancel_left, atr, List.append_nil, List.nil_append, List.cons_append, List.getD_cons_zero, List.getD_cons_succ, evI, opsI, stepI, wantI, opI, AAct.evI, look, AAct.put, mkVal, mkVM, intOpA, intA, shiftA, unA, decide_true, decide_false, Option.map_some, Option.map_none, reduceIte, Nat.reduceEqDiff, Nat.reduceLT, Option.bind_some, Option.bind_none, true_and, and_true, and_self, Nat.zero_lt_succ, cellsAt, List.length_append, Nat.le_add_right, List.length_cons, List.length_nil, Nat.zero_add, Nat.add_zero, Nat.reduceAdd, Nat.reduceMul, Nat.zero_mul, AV.cells, AV.one, known, List.append_assoc, getE_0, getE_k, setE_0, setE_k, List.getElem?_cons_zero, List.getElem?_cons_succ, List.set_cons_zero, List.set_cons_succ, List.take_succ_cons, List.take_zero, List.drop_zero, List.drop_succ_cons, List.drop_nil, List.all_cons, List.all_nil, Bool.and_self, Bool.and_true, Bool.true_and, Bool.and_false, Bool.false_and, splice, fillI, Nat.reduceLeDiff, strA, Nat.add_assoc, beq_self_eq_true, Bool.false_eq_true, bq_ft, bq_tf, Bool.not_true, Bool.not_false, Nat.le_refl, List.map_cons, List.map_nil, isNilA, nilPtr, nilSl, nilIf, nilFn, nilMap, nilCheckA, if_true, if_false, lt_lit, le_lit, lt_lit2, le_lit2, le_sub1, le_sub2, drawI, drawI2, lexD, valD, valI, putD, okD, roD, memAt, lastM, wantI, eqv_refl, eqM_refl, eqM_app, eqB, eqvL, eqv, List.getLast?_cons_cons, List.getLast?_singleton, Option.getD_some, Bool.or_true, Bool.true_or, beq_self_eq_true, resvV]; rfl)⟩
      · rw [hc] at hFa
        refine ⟨t, ?_⟩
        simp only [eqKids, hc, Bool.true_and]
        refine loopA_go (by simp only [loopRS2, I15, IC.loops, hi, hlt, hlt2, hlen, hlen2, hget, hget2, hn, hw, hFa, eC_len, eC_take, eC_one, eC_0, eC_1, eC_2, eC_3, eC_4, eCr, eCr_0, eCr_1, eCr_2, eCr_3, eCr_4, List.length_drop, Nat.reduceSub, Nat.add_sub_cancel_left, atr, List.append_nil, List.nil_append, List.cons_append, List.getD_cons_zero, List.getD_cons_succ, evI, opsI, stepI, wantI, opI, AAct.evI, look, AAct.put, mkVal, mkVM, intOpA, intA, shiftA, unA, decide_true, decide_false, Option.map_some, Option.map_none, reduceIte, Nat.reduceEqDiff, Nat.reduceLT, Option.bind_some, Option.bind_none, true_and, and_true, and_self, Nat.zero_lt_succ, cellsAt, List.length_append, Nat.le_add_right, List.length_cons, List.length_nil, Nat.zero_add, Nat.add_zero, Nat.reduceAdd, Nat.reduceMul, Nat.zero_mul, AV.cells, AV.one, known, List.append_assoc, getE_0, getE_k, setE_0, setE_k, List.getElem?_cons_zero, List.getElem?_cons_succ, List.set_cons_zero, List.set_cons_succ, List.take_succ_cons, List.take_zero, List.drop_zero, List.drop_succ_cons, List.drop_nil, List.all_cons, List.all_nil, Bool.and_self, Bool.and_true, Bool.true_and, Bool.and_false, Bool.false_and, splice, fillI, Nat.reduceLeDiff, strA, Nat.add_assoc, beq_self_eq_true, Bool.false_eq_true, bq_ft, bq_tf, Bool.not_true, Bool.not_false, Nat.le_refl, List.map_cons, List.map_nil, isNilA, nilPtr, nilSl, nilIf, nilFn, nilMap, nilCheckA, if_true, if_false, lt_lit, le_lit, lt_lit2, le_lit2, le_sub1, le_sub2, drawI, drawI2, lexD, valD, valI, putD, okD, roD, memAt, lastM, wantI, eqv_refl, eqM_refl, eqM_app, eqB, eqvL, eqv, List.getLast?_cons_cons, List.getLast?_singleton, Option.getD_some, Bool.or_true, Bool.true_or, beq_self_eq_true, resvV]; rfl) ?_
        simp only [eC_low, roundEnd, AAct.keepT, List.map_cons, List.map_nil, look, reduceIte, Nat.reduceEqDiff, lowT, List.all_cons, List.all_nil, low, lowL, lowD, mayCut, List.length_append, List.length_cons, List.length_nil, Nat.zero_add, Nat.reduceAdd, takeS, takeE_0, takeE_k, List.take_succ_cons, List.take_zero, eqM_app, eqM_refl, Bool.true_or, Bool.and_self, Bool.and_true, Bool.true_and, decide_true, Nat.lt_succ_self, Nat.lt_add_right_iff_pos, Nat.add_lt_add_iff_left, Nat.reduceLT, if_true, lt_k, List.append_assoc, List.cons_append, List.nil_append]
        exact ht
    · have hk' : k = x.kids.length := by omega
      subst hk'
      simp only [List.drop_length, eqKids, if_true]
      exact ⟨_, loopA_exit (by simp only [loopRS2, I15, IC.loops, Int.lt_irrefl, eC_len, eC_take, eC_one, eC_0, eC_1, eC_2, eC_3, eC_4, eCr, eCr_0, eCr_1, eCr_2, eCr_3, eCr_4, List.length_drop, Nat.reduceSub, Nat.add_sub_cancel_left, atr, List.append_nil, List.nil_append, List.cons_append, List.getD_cons_zero, List.getD_cons_succ, evI, opsI, stepI, wantI, opI, AAct.evI, look, AAct.put, mkVal, mkVM, intOpA, intA, shiftA, unA, decide_true, decide_false, Option.map_some, Option.map_none, reduceIte, Nat.reduceEqDiff, Nat.reduceLT, Option.bind_some, Option.bind_none, true_and, and_true, and_self, Nat.zero_lt_succ, cellsAt, List.length_append, Nat.le_add_right, List.length_cons, List.length_nil, Nat.zero_add, Nat.add_zero, Nat.reduceAdd, Nat.reduceMul, Nat.zero_mul, AV.cells, AV.one, known, List.append_assoc, getE_0, getE_k, setE_0, setE_k, List.getElem?_cons_zero, List.getElem?_cons_succ, List.set_cons_zero, List.set_cons_succ, List.take_succ_cons, List.take_zero, List.drop_zero, List.drop_succ_cons, List.drop_nil, List.all_cons, List.all_nil, Bool.and_self, Bool.and_true, Bool.true_and, Bool.and_false, Bool.false_and, splice, fillI, Nat.reduceLeDiff, strA, Nat.add_assoc, beq_self_eq_true, Bool.false_eq_true, bq_ft, bq_tf, Bool.not_true, Bool.not_false, Nat.le_refl, List.map_cons, List.map_nil, isNilA, nilPtr, nilSl, nilIf, nilFn, nilMap, nilCheckA, if_true, if_false, lt_lit, le_lit, lt_lit2, le_lit2, le_sub1, le_sub2]; rfl)⟩
end Go.Proofs.YtmnajffpmbidiaaGreatDoor.Ev
