/- Parts of one proof, one behind the other: Is a number among those of a row? slices.ContainsFunc, IndexFunc, the closure of wmlin.Nums: reckoned with letters. -/
import Derived.Test.YtlimneghgioeaaaGreatDoorMdi
/- Is a number among those of a row? slices.ContainsFunc, IndexFunc, the closure of wmlin.Nums: reckoned with letters. -/
namespace Go.Proofs.YtlimneghgioeaaaGreatDoor.Ev
set_option linter.all false
open Go.Proofs.YtlimneghgioeaaaGreatDoor.Ic
set_option maxRecDepth 100000
set_option linter.unusedSimpArgs false
/-- A numbering: its number, whether it is ordered, where it begins, its level. -/
abbrev Nu := Int × Bool × Int × Int
def nuC (x : Nu) : List AV := nC x.1 x.2.1 x.2.2.1 x.2.2.2
def nusC (l : List Nu) : List AV := l.flatMap nuC
theorem nusC_len : ∀ l : List Nu, (nusC l).length = l.length * 4
  | [] => rfl
  | x :: l => by
    have := nusC_len l
    simp only [nusC, List.flatMap_cons, List.length_append, nuC, nC, List.length_cons, List.length_nil] at *
    omega
theorem nusC_drop : ∀ (l : List Nu) (k : Nat), (nusC l).drop (k * 4) = nusC (l.drop k)
  | l, 0 => by simp
  | [], k + 1 => by simp [nusC]
  | x :: l, k + 1 => by
    rw [nusC, List.flatMap_cons, show (k + 1) * 4 = 4 + k * 4 by omega, ← List.drop_drop, List.drop_left' (show (nuC x).length = 4 from rfl)]
    exact nusC_drop l k
theorem nums1_eq (P : Program) (N n : Nat) (x : Nu) (id : Int) (p ty : Nat) (H : Mem) (hp : H[p]? = some (.row [.int .i64 id] 0 ty)) :
    evFI P cfg T N (n + 1) 28 [.agg (nuC x), .ptr p 0 0] H = some (.ret (.bool (x.1 == id)), H) := by
  have hlt : p < List.length H := (List.getElem?_eq_some_iff.1 hp).1
  have hpp : ∀ L : List Blk, (H ++ L)[p]? = some (.row [.int .i64 id] 0 ty) := fun L => by rw [List.getElem?_append_left hlt]; exact hp
  refine evF_ret (m := 8) (v := .bool (x.1 == id)) (a := ?a) (H1 := ?H1) rfl t28 rfl ?hb ?hd ?hr ?hz
  case hb => simp only [List.length_cons, List.length_nil, idx, I28, nuC, nC, hpp, eC_len, eC_take, eC_one, eC_0, eC_1, eC_2, eC_3, eC_4, eCr, eCr_0, eCr_1, eCr_2, eCr_3, eCr_4, List.length_drop, Nat.reduceSub, Nat.add_sub_cancel_left, atr, List.append_nil, List.nil_append, List.cons_append, List.getD_cons_zero, List.getD_cons_succ, evI, opsI, stepI, wantI, opI, AAct.evI, look, AAct.put, mkVal, mkVM, intOpA, intA, shiftA, unA, decide_true, decide_false, Option.map_some, Option.map_none, reduceIte, Nat.reduceEqDiff, Nat.reduceLT, Option.bind_some, Option.bind_none, true_and, and_true, and_self, Nat.zero_lt_succ, cellsAt, List.length_append, Nat.le_add_right, List.length_cons, List.length_nil, Nat.zero_add, Nat.add_zero, Nat.reduceAdd, Nat.reduceMul, Nat.zero_mul, AV.cells, AV.one, known, List.append_assoc, getE_0, getE_k, setE_0, setE_k, List.getElem?_cons_zero, List.getElem?_cons_succ, List.set_cons_zero, List.set_cons_succ, List.take_succ_cons, List.take_zero, List.drop_zero, List.drop_succ_cons, List.drop_nil, List.all_cons, List.all_nil, Bool.and_self, Bool.and_true, Bool.true_and, Bool.and_false, Bool.false_and, splice, fillI, Nat.reduceLeDiff, strA, Nat.add_assoc, beq_self_eq_true, Bool.false_eq_true, bq_ft, bq_tf, Bool.not_true, Bool.not_false, Nat.le_refl, List.map_cons, List.map_nil, isNilA, nilPtr, nilSl, nilIf, nilFn, nilMap, nilCheckA, if_true, if_false, lt_lit, le_lit, lt_lit2, le_lit2, le_sub1, le_sub2]; rfl
  case hd => rfl
  case hr => simp only [I28, resI, resLI, List.append_nil, List.nil_append, List.cons_append, List.getD_cons_zero, List.getD_cons_succ, evI, opsI, stepI, wantI, opI, AAct.evI, look, AAct.put, mkVal, mkVM, intOpA, intA, shiftA, unA, decide_true, decide_false, Option.map_some, Option.map_none, reduceIte, Nat.reduceEqDiff, Nat.reduceLT, Option.bind_some, Option.bind_none, true_and, and_true, and_self, Nat.zero_lt_succ, cellsAt, List.length_append, Nat.le_add_right, List.length_cons, List.length_nil, Nat.zero_add, Nat.add_zero, Nat.reduceAdd, Nat.reduceMul, Nat.zero_mul, AV.cells, AV.one, known, List.append_assoc, getE_0, getE_k, setE_0, setE_k, List.getElem?_cons_zero, List.getElem?_cons_succ, List.set_cons_zero, List.set_cons_succ, List.take_succ_cons, List.take_zero, List.drop_zero, List.drop_succ_cons, List.drop_nil, List.all_cons, List.all_nil, Bool.and_self, Bool.and_true, Bool.true_and, Bool.and_false, Bool.false_and, splice, fillI, Nat.reduceLeDiff, strA, Nat.add_assoc, beq_self_eq_true, Bool.false_eq_true, bq_ft, bq_tf, Bool.not_true, Bool.not_false, Nat.le_refl, List.map_cons, List.map_nil, isNilA, nilPtr, nilSl, nilIf, nilFn, nilMap, nilCheckA, if_true, if_false, lt_lit, le_lit, lt_lit2, le_lit2, le_sub1, le_sub2]
  case hz => simp only [finish, finish, cfg, keep, Bool.false_eq_true, if_false, frz, frzL, eC_low, kC_low, atsC_low, low, lowL, decide_true, Option.map_some, roundEnd, AAct.keepT, List.map_cons, List.map_nil, look, reduceIte, Nat.reduceEqDiff, lowT, List.all_cons, List.all_nil, low, lowL, lowD, mayCut, List.length_append, List.length_cons, List.length_nil, Nat.zero_add, Nat.reduceAdd, takeS, takeE_0, takeE_k, List.take_succ_cons, List.take_zero, eqM_app, eqM_refl, Bool.true_or, Bool.and_self, Bool.and_true, Bool.true_and, decide_true, Nat.lt_succ_self, Nat.lt_add_right_iff_pos, Nat.add_lt_add_iff_left, Nat.reduceLT, if_true, lt_k, List.append_assoc, List.cons_append, List.nil_append]
end Go.Proofs.YtlimneghgioeaaaGreatDoor.Ev
/- slices.IndexFunc, ContainsFunc with the closure of wmlin.Nums: reckoned with letters. -/
namespace Go.Proofs.YtlimneghgioeaaaGreatDoor.Ev
set_option linter.all false
open Go.Proofs.YtlimneghgioeaaaGreatDoor.Ic
set_option maxRecDepth 100000
set_option linter.unusedSimpArgs false
def idxN (id : Int) : Nat → List Nu → Int
  | _, [] => -1
  | k, x :: l => if x.1 == id then (k : Int) else idxN id (k + 1) l
theorem idxN_any (id : Int) : ∀ (l : List Nu) (k : Nat), decide (idxN id k l ≥ 0) = l.any (·.1 == id)
  | [], k => rfl
  | x :: l, k => by
    have ih := idxN_any id l (k + 1)
    by_cases h : (x.1 == id) = true
    · simp [idxN, h]
    · have h' : (x.1 == id) = false := by simpa using h
      simp only [List.any_cons, h', Bool.false_or, ← ih]
      simp [idxN, h']
noncomputable def loopIdx : IC := (I42.c.loops).getD 0 .bad
theorem idx_loop (P : Program) (hcl : callable P 28 = true) (N n : Nat) (id : Int) (p ty q st ty2 : Nat) (l : List Nu) (hll : l.length ≤ 9223372036854775807) (H : Mem) (hp : H[p]? = some (.row [.int .i64 id] 0 ty)) (hq : H[q]? = some (.row (nusC l) st ty2)) : ∀ (fuel k : Nat), k ≤ l.length → l.length - k < fuel →
    ∃ t, loopA (fun a H => evI P cfg (evFI P cfg T N (n + 1)) N loopIdx a H) (some [0, 1, 7, 8]) fuel ⟨19, [(0, .slc q 0 l.length 4 st), (1, .fn (.func 28) [.ptr p 0 0]), (7, .int .i64 l.length), (8, .int .i64 k)], []⟩ H =
      (if (l.drop k).any (·.1 == id) then some (.ret, ⟨19, (4, .int .i64 (idxN id k (l.drop k))) :: t, []⟩, H) else some (.exit 0, ⟨19, t, []⟩, H))
  | 0, k, _, h => by omega
  | fuel + 1, k, hk, hf => by
    rcases Nat.lt_or_ge k l.length with hlt | hge
    · obtain ⟨x, hx⟩ := all_drop hlt
      have hget : ((nusC l).drop (k * 4)).take 4 = nuC x := by
        rw [nusC_drop, hx]; rfl
      have hlen : k * 4 + 4 ≤ (nusC l).length := by rw [nusC_len]; omega
      have hi : (k : Int) < (l.length : Int) := by omega
      have hw := wrap_next hlt hll
      have hn := natOf_nat k .i64
      obtain ⟨t, ht⟩ := idx_loop P hcl N n id p ty q st ty2 l hll H hp hq fuel (k + 1) (by omega) (by omega)
      have hC := nums1_eq P N n x id p ty H hp
      have hpl : p < List.length H := (List.getElem?_eq_some_iff.1 hp).1
      have hql : q < List.length H := (List.getElem?_eq_some_iff.1 hq).1
      rw [hx]
      cases h1 : (x.1 == id)
      · refine ⟨t, ?_⟩
        simp only [List.any_cons, idxN, h1, Bool.false_or, Bool.false_eq_true, if_false]
        simp only [h1] at hC
        refine loopA_go (by simp only [loopIdx, I42, IC.loops, hi, hlt, hlen, hget, hn, hw, hq, hC, hcl, List.append_nil, List.nil_append, List.cons_append, List.getD_cons_zero, List.getD_cons_succ, evI, opsI, stepI, wantI, opI, AAct.evI, look, AAct.put, mkVal, mkVM, intOpA, intA, shiftA, unA, decide_true, decide_false, Option.map_some, Option.map_none, reduceIte, Nat.reduceEqDiff, Nat.reduceLT, Option.bind_some, Option.bind_none, true_and, and_true, and_self, Nat.zero_lt_succ, cellsAt, List.length_append, Nat.le_add_right, List.length_cons, List.length_nil, Nat.zero_add, Nat.add_zero, Nat.reduceAdd, Nat.reduceMul, Nat.zero_mul, AV.cells, AV.one, known, List.append_assoc, getE_0, getE_k, setE_0, setE_k, List.getElem?_cons_zero, List.getElem?_cons_succ, List.set_cons_zero, List.set_cons_succ, List.take_succ_cons, List.take_zero, List.drop_zero, List.drop_succ_cons, List.drop_nil, List.all_cons, List.all_nil, Bool.and_self, Bool.and_true, Bool.true_and, Bool.and_false, Bool.false_and, splice, fillI, Nat.reduceLeDiff, strA, Nat.add_assoc, beq_self_eq_true, Bool.false_eq_true, bq_ft, bq_tf, Bool.not_true, Bool.not_false, Nat.le_refl, List.map_cons, List.map_nil, isNilA, nilPtr, nilSl, nilIf, nilFn, nilMap, nilCheckA, if_true, if_false, lt_lit, le_lit, lt_lit2, le_lit2, le_sub1, le_sub2]; rfl) ?_
        simp only [hpl, hql, roundEnd, AAct.keepT, List.map_cons, List.map_nil, look, reduceIte, Nat.reduceEqDiff, lowT, List.all_cons, List.all_nil, low, lowL, lowD, mayCut, List.length_append, List.length_cons, List.length_nil, Nat.zero_add, Nat.reduceAdd, takeS, takeE_0, takeE_k, List.take_succ_cons, List.take_zero, eqM_app, eqM_refl, Bool.true_or, Bool.and_self, Bool.and_true, Bool.true_and, decide_true, Nat.lt_succ_self, Nat.lt_add_right_iff_pos, Nat.add_lt_add_iff_left, Nat.reduceLT, if_true, lt_k, List.append_assoc, List.cons_append, List.nil_append]
        exact ht
      · simp only [List.any_cons, idxN, h1, Bool.true_or, if_true]
        simp only [h1] at hC
        exact ⟨_, loopA_ret (by simp only [loopIdx, I42, IC.loops, hi, hlt, hlen, hget, hn, hw, hq, hC, hcl, List.append_nil, List.nil_append, List.cons_append, List.getD_cons_zero, List.getD_cons_succ, evI, opsI, stepI, wantI, opI, AAct.evI, look, AAct.put, mkVal, mkVM, intOpA, intA, shiftA, unA, decide_true, decide_false, Option.map_some, Option.map_none, reduceIte, Nat.reduceEqDiff, Nat.reduceLT, Option.bind_some, Option.bind_none, true_and, and_true, and_self, Nat.zero_lt_succ, cellsAt, List.length_append, Nat.le_add_right, List.length_cons, List.length_nil, Nat.zero_add, Nat.add_zero, Nat.reduceAdd, Nat.reduceMul, Nat.zero_mul, AV.cells, AV.one, known, List.append_assoc, getE_0, getE_k, setE_0, setE_k, List.getElem?_cons_zero, List.getElem?_cons_succ, List.set_cons_zero, List.set_cons_succ, List.take_succ_cons, List.take_zero, List.drop_zero, List.drop_succ_cons, List.drop_nil, List.all_cons, List.all_nil, Bool.and_self, Bool.and_true, Bool.true_and, Bool.and_false, Bool.false_and, splice, fillI, Nat.reduceLeDiff, strA, Nat.add_assoc, beq_self_eq_true, Bool.false_eq_true, bq_ft, bq_tf, Bool.not_true, Bool.not_false, Nat.le_refl, List.map_cons, List.map_nil, isNilA, nilPtr, nilSl, nilIf, nilFn, nilMap, nilCheckA, if_true, if_false, lt_lit, le_lit, lt_lit2, le_lit2, le_sub1, le_sub2]; rfl)⟩
    · have hk' : k = l.length := by omega
      subst hk'
      simp only [List.drop_length, List.any_nil, Bool.false_eq_true, if_false]
      exact ⟨_, loopA_exit (by simp only [loopIdx, I42, IC.loops, Int.lt_irrefl, List.append_nil, List.nil_append, List.cons_append, List.getD_cons_zero, List.getD_cons_succ, evI, opsI, stepI, wantI, opI, AAct.evI, look, AAct.put, mkVal, mkVM, intOpA, intA, shiftA, unA, decide_true, decide_false, Option.map_some, Option.map_none, reduceIte, Nat.reduceEqDiff, Nat.reduceLT, Option.bind_some, Option.bind_none, true_and, and_true, and_self, Nat.zero_lt_succ, cellsAt, List.length_append, Nat.le_add_right, List.length_cons, List.length_nil, Nat.zero_add, Nat.add_zero, Nat.reduceAdd, Nat.reduceMul, Nat.zero_mul, AV.cells, AV.one, known, List.append_assoc, getE_0, getE_k, setE_0, setE_k, List.getElem?_cons_zero, List.getElem?_cons_succ, List.set_cons_zero, List.set_cons_succ, List.take_succ_cons, List.take_zero, List.drop_zero, List.drop_succ_cons, List.drop_nil, List.all_cons, List.all_nil, Bool.and_self, Bool.and_true, Bool.true_and, Bool.and_false, Bool.false_and, splice, fillI, Nat.reduceLeDiff, strA, Nat.add_assoc, beq_self_eq_true, Bool.false_eq_true, bq_ft, bq_tf, Bool.not_true, Bool.not_false, Nat.le_refl, List.map_cons, List.map_nil, isNilA, nilPtr, nilSl, nilIf, nilFn, nilMap, nilCheckA, if_true, if_false, lt_lit, le_lit, lt_lit2, le_lit2, le_sub1, le_sub2]; rfl)⟩
end Go.Proofs.YtlimneghgioeaaaGreatDoor.Ev
