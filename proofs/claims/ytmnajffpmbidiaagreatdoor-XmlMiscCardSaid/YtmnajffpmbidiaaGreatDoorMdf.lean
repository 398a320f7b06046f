/- Parts of one proof. -/
import Derived.Test.YtmnajffpmbidiaaGreatDoorMde
set_option linter.all false
namespace Go.Proofs.YtmnajffpmbidiaaGreatDoor.Ev
variable {ml : Int}
open Go.Proofs.YtmnajffpmbidiaaGreatDoor.Ic
set_option maxRecDepth 100000
set_option maxHeartbeats 4000000
def IC.a : IC → IC
  | .seq x _ => x
  | .cond _ x _ => x
  | .block _ c => c
  | .loop _ c => c
  | c => c
def IC.b : IC → IC
  | .seq _ y => y
  | .cond _ _ y => y
  | c => c
noncomputable def loopV1 : IC := (I79.c.loops).getD 0 .bad
noncomputable def leadV : IC := loopV1.b.a.b.b
noncomputable def sizeV : IC := leadV.b.b.b.b.a.b
noncomputable def chk2 : IC := sizeV.a
noncomputable def chk3 : IC := sizeV.b.b.a
noncomputable def chk4 : IC := sizeV.b.b.b.b.a
theorem chk2_eq (P : Program) (N n0 : Nat) (M : Mem) (q id ty ty2 : Nat) (s : List UInt8) (hq : M[q]? = some (.row (ofBytes s) 0 ty)) (off n : Nat) (l : List UInt8) (hl : s.drop off = l) (hn : l.length = n) (lo hi : Nat) (h6 : M[id]? = some (.row [.int .u8 (lo : Nat), .int .u8 (hi : Nat)] 0 ty2)) (t : List (Nat × AV)) (t0 : look t 0 = .slc q off n 1 0) (t6 : look t 6 = .ptr id 0 0) :
    match Lib.checkN l.length (l.getD 1 0).toNat (l.getD 2 0).toNat (l.getD 3 0).toNat 2 lo hi with
    | none => ∃ t', evI P (cfg ml) (evFI P (cfg ml) T N n0) N chk2 ⟨188, t, []⟩ M = some (.ret, ⟨188, t', []⟩, M) ∧ look t' 2 = .bool false
    | some j => ∃ t', evI P (cfg ml) (evFI P (cfg ml) T N n0) N chk2 ⟨188, t, []⟩ M = some (.normal, ⟨188, t', []⟩, M) ∧ look t' 0 = .slc q (off + j) (n - j) 1 0 ∧ j ≤ n ∧ 0 < j := by
  cases hi0 : decide ((n : Int) < 2)
  rotate_left
  · rw [show Lib.checkN l.length (l.getD 1 0).toNat (l.getD 2 0).toNat (l.getD 3 0).toNat 2 lo hi = none from by
      have := of_decide_eq_true hi0
      simp only [Lib.checkN]; rw [if_pos trivial, if_pos (by omega)]]
    exact ⟨_, by simp only [chk2, sizeV, leadV, loopV1, IC.a, IC.b, I79, IC.loops, List.getD_cons_zero, t0, t6, hq, h6, hi0, eC_len, eC_take, eC_one, eC_0, eC_1, eC_2, eC_3, eC_4, eCr, eCr_0, eCr_1, eCr_2, eCr_3, eCr_4, List.length_drop, Nat.reduceSub, Nat.add_sub_cancel_left, atr, List.append_nil, List.nil_append, List.cons_append, List.getD_cons_zero, List.getD_cons_succ, evI, opsI, stepI, wantI, opI, AAct.evI, look, AAct.put, mkVal, mkVM, intOpA, intA, shiftA, unA, decide_true, decide_false, Option.map_some, Option.map_none, reduceIte, Nat.reduceEqDiff, Nat.reduceLT, Option.bind_some, Option.bind_none, true_and, and_true, and_self, Nat.zero_lt_succ, cellsAt, List.length_append, Nat.le_add_right, List.length_cons, List.length_nil, Nat.zero_add, Nat.add_zero, Nat.reduceAdd, Nat.reduceMul, Nat.zero_mul, AV.cells, AV.one, known, List.append_assoc, getE_0, getE_k, setE_0, setE_k, List.getElem?_cons_zero, List.getElem?_cons_succ, List.set_cons_zero, List.set_cons_succ, List.take_succ_cons, List.take_zero, List.drop_zero, List.drop_succ_cons, List.drop_nil, List.all_cons, List.all_nil, Bool.and_self, Bool.and_true, Bool.true_and, Bool.and_false, Bool.false_and, splice, fillI, Nat.reduceLeDiff, strA, Nat.add_assoc, beq_self_eq_true, Bool.false_eq_true, bq_ft, bq_tf, Bool.not_true, Bool.not_false, Nat.le_refl, List.map_cons, List.map_nil, isNilA, nilPtr, nilSl, nilIf, nilFn, nilMap, nilCheckA, if_true, if_false, lt_lit, le_lit, lt_lit2, le_lit2, le_sub1, le_sub2, drawI, drawI2, drawI0, drawI20, lexD, valD, valI, putD, okD, roD, memAt, lastM, wantI, eqv_refl, eqM_refl, eqM_app, eqB, eqvL, eqv, List.getLast?_cons_cons, List.getLast?_singleton, Option.getD_some, Bool.or_true, Bool.true_or, beq_self_eq_true, resvV]; rfl, rfl⟩
  have hn2 : 2 ≤ n := by have := of_decide_eq_false hi0; omega
  obtain ⟨b0, b1, r, rfl⟩ : ∃ b0 b1 r, l = b0 :: b1 :: r := by
    match l, (show 2 ≤ l.length by omega) with
    | b0 :: b1 :: r, _ => exact ⟨b0, b1, r, rfl⟩
  simp only [List.getD_cons_zero, List.getD_cons_succ]
  obtain ⟨d0, l0, z0⟩ := bytes_at hl
  obtain ⟨d1, l1, z1⟩ := bytes_at z0
  simp only [Nat.add_assoc, Nat.reduceAdd] at l1
  have i1 : 1 < n := by omega
  have n1 : natOf (.int .i64 1) = some 1 := rfl
  have nk : natOf (.int .i64 2) = some 2 := rfl
  have o0 : 0 < 2 := by decide
  generalize hb1 : Lib.checkN _ _ _ _ _ _ _ = ck
  cases c0 : decide ((b1.toNat : Int) < (lo : Int))
  rotate_left
  · have e : ck = none := by
      rw [← hb1]
      have := of_decide_eq_true c0
      simp only [Lib.checkN]; rw [if_pos trivial, if_pos (by omega)]
    subst e
    exact ⟨_, by simp only [chk2, sizeV, leadV, loopV1, IC.a, IC.b, I79, IC.loops, List.getD_cons_zero, t0, t6, hq, h6, hi0, d1, l1, i1, n1, c0, eC_len, eC_take, eC_one, eC_0, eC_1, eC_2, eC_3, eC_4, eCr, eCr_0, eCr_1, eCr_2, eCr_3, eCr_4, List.length_drop, Nat.reduceSub, Nat.add_sub_cancel_left, atr, List.append_nil, List.nil_append, List.cons_append, List.getD_cons_zero, List.getD_cons_succ, evI, opsI, stepI, wantI, opI, AAct.evI, look, AAct.put, mkVal, mkVM, intOpA, intA, shiftA, unA, decide_true, decide_false, Option.map_some, Option.map_none, reduceIte, Nat.reduceEqDiff, Nat.reduceLT, Option.bind_some, Option.bind_none, true_and, and_true, and_self, Nat.zero_lt_succ, cellsAt, List.length_append, Nat.le_add_right, List.length_cons, List.length_nil, Nat.zero_add, Nat.add_zero, Nat.reduceAdd, Nat.reduceMul, Nat.zero_mul, AV.cells, AV.one, known, List.append_assoc, getE_0, getE_k, setE_0, setE_k, List.getElem?_cons_zero, List.getElem?_cons_succ, List.set_cons_zero, List.set_cons_succ, List.take_succ_cons, List.take_zero, List.drop_zero, List.drop_succ_cons, List.drop_nil, List.all_cons, List.all_nil, Bool.and_self, Bool.and_true, Bool.true_and, Bool.and_false, Bool.false_and, splice, fillI, Nat.reduceLeDiff, strA, Nat.add_assoc, beq_self_eq_true, Bool.false_eq_true, bq_ft, bq_tf, Bool.not_true, Bool.not_false, Nat.le_refl, List.map_cons, List.map_nil, isNilA, nilPtr, nilSl, nilIf, nilFn, nilMap, nilCheckA, if_true, if_false, lt_lit, le_lit, lt_lit2, le_lit2, le_sub1, le_sub2, drawI, drawI2, drawI0, drawI20, lexD, valD, valI, putD, okD, roD, memAt, lastM, wantI, eqv_refl, eqM_refl, eqM_app, eqB, eqvL, eqv, List.getLast?_cons_cons, List.getLast?_singleton, Option.getD_some, Bool.or_true, Bool.true_or, beq_self_eq_true, resvV]; rfl, rfl⟩
  cases c1 : decide ((hi : Int) < (b1.toNat : Int))
  rotate_left
  · have e : ck = none := by
      rw [← hb1]
      have := of_decide_eq_true c1
      simp only [Lib.checkN]; rw [if_pos trivial, if_pos (by omega)]
    subst e
    exact ⟨_, by simp only [chk2, sizeV, leadV, loopV1, IC.a, IC.b, I79, IC.loops, List.getD_cons_zero, t0, t6, hq, h6, hi0, d1, l1, i1, n1, c0, c1, eC_len, eC_take, eC_one, eC_0, eC_1, eC_2, eC_3, eC_4, eCr, eCr_0, eCr_1, eCr_2, eCr_3, eCr_4, List.length_drop, Nat.reduceSub, Nat.add_sub_cancel_left, atr, List.append_nil, List.nil_append, List.cons_append, List.getD_cons_zero, List.getD_cons_succ, evI, opsI, stepI, wantI, opI, AAct.evI, look, AAct.put, mkVal, mkVM, intOpA, intA, shiftA, unA, decide_true, decide_false, Option.map_some, Option.map_none, reduceIte, Nat.reduceEqDiff, Nat.reduceLT, Option.bind_some, Option.bind_none, true_and, and_true, and_self, Nat.zero_lt_succ, cellsAt, List.length_append, Nat.le_add_right, List.length_cons, List.length_nil, Nat.zero_add, Nat.add_zero, Nat.reduceAdd, Nat.reduceMul, Nat.zero_mul, AV.cells, AV.one, known, List.append_assoc, getE_0, getE_k, setE_0, setE_k, List.getElem?_cons_zero, List.getElem?_cons_succ, List.set_cons_zero, List.set_cons_succ, List.take_succ_cons, List.take_zero, List.drop_zero, List.drop_succ_cons, List.drop_nil, List.all_cons, List.all_nil, Bool.and_self, Bool.and_true, Bool.true_and, Bool.and_false, Bool.false_and, splice, fillI, Nat.reduceLeDiff, strA, Nat.add_assoc, beq_self_eq_true, Bool.false_eq_true, bq_ft, bq_tf, Bool.not_true, Bool.not_false, Nat.le_refl, List.map_cons, List.map_nil, isNilA, nilPtr, nilSl, nilIf, nilFn, nilMap, nilCheckA, if_true, if_false, lt_lit, le_lit, lt_lit2, le_lit2, le_sub1, le_sub2, drawI, drawI2, drawI0, drawI20, lexD, valD, valI, putD, okD, roD, memAt, lastM, wantI, eqv_refl, eqM_refl, eqM_app, eqB, eqvL, eqv, List.getLast?_cons_cons, List.getLast?_singleton, Option.getD_some, Bool.or_true, Bool.true_or, beq_self_eq_true, resvV]; rfl, rfl⟩
  have e : ck = some 2 := by
    rw [← hb1]
    have g0 := of_decide_eq_false c0
    have g1 := of_decide_eq_false c1
    simp only [Lib.checkN]; rw [if_pos trivial, if_neg (by simp only [List.length_cons] at hn ⊢; omega)]
  subst e
  exact ⟨_, by simp only [chk2, sizeV, leadV, loopV1, IC.a, IC.b, I79, IC.loops, List.getD_cons_zero, t0, t6, hq, h6, hi0, d1, l1, i1, n1, c0, c1, nk, bound, cutSD, hn2, Nat.le_refl, eC_len, eC_take, eC_one, eC_0, eC_1, eC_2, eC_3, eC_4, eCr, eCr_0, eCr_1, eCr_2, eCr_3, eCr_4, List.length_drop, Nat.reduceSub, Nat.add_sub_cancel_left, atr, List.append_nil, List.nil_append, List.cons_append, List.getD_cons_zero, List.getD_cons_succ, evI, opsI, stepI, wantI, opI, AAct.evI, look, AAct.put, mkVal, mkVM, intOpA, intA, shiftA, unA, decide_true, decide_false, Option.map_some, Option.map_none, reduceIte, Nat.reduceEqDiff, Nat.reduceLT, Option.bind_some, Option.bind_none, true_and, and_true, and_self, Nat.zero_lt_succ, cellsAt, List.length_append, Nat.le_add_right, List.length_cons, List.length_nil, Nat.zero_add, Nat.add_zero, Nat.reduceAdd, Nat.reduceMul, Nat.zero_mul, AV.cells, AV.one, known, List.append_assoc, getE_0, getE_k, setE_0, setE_k, List.getElem?_cons_zero, List.getElem?_cons_succ, List.set_cons_zero, List.set_cons_succ, List.take_succ_cons, List.take_zero, List.drop_zero, List.drop_succ_cons, List.drop_nil, List.all_cons, List.all_nil, Bool.and_self, Bool.and_true, Bool.true_and, Bool.and_false, Bool.false_and, splice, fillI, Nat.reduceLeDiff, strA, Nat.add_assoc, beq_self_eq_true, Bool.false_eq_true, bq_ft, bq_tf, Bool.not_true, Bool.not_false, Nat.le_refl, List.map_cons, List.map_nil, isNilA, nilPtr, nilSl, nilIf, nilFn, nilMap, nilCheckA, if_true, if_false, lt_lit, le_lit, lt_lit2, le_lit2, le_sub1, le_sub2, drawI, drawI2, drawI0, drawI20, lexD, valD, valI, putD, okD, roD, memAt, lastM, wantI, eqv_refl, eqM_refl, eqM_app, eqB, eqvL, eqv, List.getLast?_cons_cons, List.getLast?_singleton, Option.getD_some, Bool.or_true, Bool.true_or, beq_self_eq_true, resvV]; rfl, rfl, hn2, by decide⟩
theorem chk3_eq (P : Program) (N n0 : Nat) (M : Mem) (q id ty ty2 : Nat) (s : List UInt8) (hq : M[q]? = some (.row (ofBytes s) 0 ty)) (off n : Nat) (l : List UInt8) (hl : s.drop off = l) (hn : l.length = n) (lo hi : Nat) (h6 : M[id]? = some (.row [.int .u8 (lo : Nat), .int .u8 (hi : Nat)] 0 ty2)) (t : List (Nat × AV)) (t0 : look t 0 = .slc q off n 1 0) (t6 : look t 6 = .ptr id 0 0) :
    match Lib.checkN l.length (l.getD 1 0).toNat (l.getD 2 0).toNat (l.getD 3 0).toNat 3 lo hi with
    | none => ∃ t', evI P (cfg ml) (evFI P (cfg ml) T N n0) N chk3 ⟨188, t, []⟩ M = some (.ret, ⟨188, t', []⟩, M) ∧ look t' 2 = .bool false
    | some j => ∃ t', evI P (cfg ml) (evFI P (cfg ml) T N n0) N chk3 ⟨188, t, []⟩ M = some (.normal, ⟨188, t', []⟩, M) ∧ look t' 0 = .slc q (off + j) (n - j) 1 0 ∧ j ≤ n ∧ 0 < j := by
  cases hi0 : decide ((n : Int) < 3)
  rotate_left
  · rw [show Lib.checkN l.length (l.getD 1 0).toNat (l.getD 2 0).toNat (l.getD 3 0).toNat 3 lo hi = none from by
      have := of_decide_eq_true hi0
      simp only [Lib.checkN]; rw [if_neg (by decide), if_pos trivial, if_pos (by omega)]]
    exact ⟨_, by simp only [chk3, sizeV, leadV, loopV1, IC.a, IC.b, I79, IC.loops, List.getD_cons_zero, t0, t6, hq, h6, hi0, eC_len, eC_take, eC_one, eC_0, eC_1, eC_2, eC_3, eC_4, eCr, eCr_0, eCr_1, eCr_2, eCr_3, eCr_4, List.length_drop, Nat.reduceSub, Nat.add_sub_cancel_left, atr, List.append_nil, List.nil_append, List.cons_append, List.getD_cons_zero, List.getD_cons_succ, evI, opsI, stepI, wantI, opI, AAct.evI, look, AAct.put, mkVal, mkVM, intOpA, intA, shiftA, unA, decide_true, decide_false, Option.map_some, Option.map_none, reduceIte, Nat.reduceEqDiff, Nat.reduceLT, Option.bind_some, Option.bind_none, true_and, and_true, and_self, Nat.zero_lt_succ, cellsAt, List.length_append, Nat.le_add_right, List.length_cons, List.length_nil, Nat.zero_add, Nat.add_zero, Nat.reduceAdd, Nat.reduceMul, Nat.zero_mul, AV.cells, AV.one, known, List.append_assoc, getE_0, getE_k, setE_0, setE_k, List.getElem?_cons_zero, List.getElem?_cons_succ, List.set_cons_zero, List.set_cons_succ, List.take_succ_cons, List.take_zero, List.drop_zero, List.drop_succ_cons, List.drop_nil, List.all_cons, List.all_nil, Bool.and_self, Bool.and_true, Bool.true_and, Bool.and_false, Bool.false_and, splice, fillI, Nat.reduceLeDiff, strA, Nat.add_assoc, beq_self_eq_true, Bool.false_eq_true, bq_ft, bq_tf, Bool.not_true, Bool.not_false, Nat.le_refl, List.map_cons, List.map_nil, isNilA, nilPtr, nilSl, nilIf, nilFn, nilMap, nilCheckA, if_true, if_false, lt_lit, le_lit, lt_lit2, le_lit2, le_sub1, le_sub2, drawI, drawI2, drawI0, drawI20, lexD, valD, valI, putD, okD, roD, memAt, lastM, wantI, eqv_refl, eqM_refl, eqM_app, eqB, eqvL, eqv, List.getLast?_cons_cons, List.getLast?_singleton, Option.getD_some, Bool.or_true, Bool.true_or, beq_self_eq_true, resvV]; rfl, rfl⟩
  have hn3 : 3 ≤ n := by have := of_decide_eq_false hi0; omega
  obtain ⟨b0, b1, b2, r, rfl⟩ : ∃ b0 b1 b2 r, l = b0 :: b1 :: b2 :: r := by
    match l, (show 3 ≤ l.length by omega) with
    | b0 :: b1 :: b2 :: r, _ => exact ⟨b0, b1, b2, r, rfl⟩
  simp only [List.getD_cons_zero, List.getD_cons_succ]
  obtain ⟨d0, l0, z0⟩ := bytes_at hl
  obtain ⟨d1, l1, z1⟩ := bytes_at z0
  obtain ⟨d2, l2, z2⟩ := bytes_at z1
  simp only [Nat.add_assoc, Nat.reduceAdd] at d2 l2
  simp only [Nat.add_assoc, Nat.reduceAdd] at l1
  have i1 : 1 < n := by omega
  have n1 : natOf (.int .i64 1) = some 1 := rfl
  have i2 : 2 < n := by omega
  have n2 : natOf (.int .i64 2) = some 2 := rfl
  have nk : natOf (.int .i64 3) = some 3 := rfl
  have o0 : 0 < 2 := by decide
  generalize hb1 : Lib.checkN _ _ _ _ _ _ _ = ck
  cases c0 : decide ((b1.toNat : Int) < (lo : Int))
  rotate_left
  · have e : ck = none := by
      rw [← hb1]
      have := of_decide_eq_true c0
      simp only [Lib.checkN]; rw [if_neg (by decide), if_pos trivial, if_pos (by omega)]
    subst e
    exact ⟨_, by simp only [chk3, sizeV, leadV, loopV1, IC.a, IC.b, I79, IC.loops, List.getD_cons_zero, t0, t6, hq, h6, hi0, d1, l1, i1, n1, d2, l2, i2, n2, c0, eC_len, eC_take, eC_one, eC_0, eC_1, eC_2, eC_3, eC_4, eCr, eCr_0, eCr_1, eCr_2, eCr_3, eCr_4, List.length_drop, Nat.reduceSub, Nat.add_sub_cancel_left, atr, List.append_nil, List.nil_append, List.cons_append, List.getD_cons_zero, List.getD_cons_succ, evI, opsI, stepI, wantI, opI, AAct.evI, look, AAct.put, mkVal, mkVM, intOpA, intA, shiftA, unA, decide_true, decide_false, Option.map_some, Option.map_none, reduceIte, Nat.reduceEqDiff, Nat.reduceLT, Option.bind_some, Option.bind_none, true_and, and_true, and_self, Nat.zero_lt_succ, cellsAt, List.length_append, Nat.le_add_right, List.length_cons, List.length_nil, Nat.zero_add, Nat.add_zero, Nat.reduceAdd, Nat.reduceMul, Nat.zero_mul, AV.cells, AV.one, known, List.append_assoc, getE_0, getE_k, setE_0, setE_k, List.getElem?_cons_zero, List.getElem?_cons_succ, List.set_cons_zero, List.set_cons_succ, List.take_succ_cons, List.take_zero, List.drop_zero, List.drop_succ_cons, List.drop_nil, List.all_cons, List.all_nil, Bool.and_self, Bool.and_true, Bool.true_and, Bool.and_false, Bool.false_and, splice, fillI, Nat.reduceLeDiff, strA, Nat.add_assoc, beq_self_eq_true, Bool.false_eq_true, bq_ft, bq_tf, Bool.not_true, Bool.not_false, Nat.le_refl, List.map_cons, List.map_nil, isNilA, nilPtr, nilSl, nilIf, nilFn, nilMap, nilCheckA, if_true, if_false, lt_lit, le_lit, lt_lit2, le_lit2, le_sub1, le_sub2, drawI, drawI2, drawI0, drawI20, lexD, valD, valI, putD, okD, roD, memAt, lastM, wantI, eqv_refl, eqM_refl, eqM_app, eqB, eqvL, eqv, List.getLast?_cons_cons, List.getLast?_singleton, Option.getD_some, Bool.or_true, Bool.true_or, beq_self_eq_true, resvV]; rfl, rfl⟩
  cases c1 : decide ((hi : Int) < (b1.toNat : Int))
  rotate_left
  · have e : ck = none := by
      rw [← hb1]
      have := of_decide_eq_true c1
      simp only [Lib.checkN]; rw [if_neg (by decide), if_pos trivial, if_pos (by omega)]
    subst e
    exact ⟨_, by simp only [chk3, sizeV, leadV, loopV1, IC.a, IC.b, I79, IC.loops, List.getD_cons_zero, t0, t6, hq, h6, hi0, d1, l1, i1, n1, d2, l2, i2, n2, c0, c1, eC_len, eC_take, eC_one, eC_0, eC_1, eC_2, eC_3, eC_4, eCr, eCr_0, eCr_1, eCr_2, eCr_3, eCr_4, List.length_drop, Nat.reduceSub, Nat.add_sub_cancel_left, atr, List.append_nil, List.nil_append, List.cons_append, List.getD_cons_zero, List.getD_cons_succ, evI, opsI, stepI, wantI, opI, AAct.evI, look, AAct.put, mkVal, mkVM, intOpA, intA, shiftA, unA, decide_true, decide_false, Option.map_some, Option.map_none, reduceIte, Nat.reduceEqDiff, Nat.reduceLT, Option.bind_some, Option.bind_none, true_and, and_true, and_self, Nat.zero_lt_succ, cellsAt, List.length_append, Nat.le_add_right, List.length_cons, List.length_nil, Nat.zero_add, Nat.add_zero, Nat.reduceAdd, Nat.reduceMul, Nat.zero_mul, AV.cells, AV.one, known, List.append_assoc, getE_0, getE_k, setE_0, setE_k, List.getElem?_cons_zero, List.getElem?_cons_succ, List.set_cons_zero, List.set_cons_succ, List.take_succ_cons, List.take_zero, List.drop_zero, List.drop_succ_cons, List.drop_nil, List.all_cons, List.all_nil, Bool.and_self, Bool.and_true, Bool.true_and, Bool.and_false, Bool.false_and, splice, fillI, Nat.reduceLeDiff, strA, Nat.add_assoc, beq_self_eq_true, Bool.false_eq_true, bq_ft, bq_tf, Bool.not_true, Bool.not_false, Nat.le_refl, List.map_cons, List.map_nil, isNilA, nilPtr, nilSl, nilIf, nilFn, nilMap, nilCheckA, if_true, if_false, lt_lit, le_lit, lt_lit2, le_lit2, le_sub1, le_sub2, drawI, drawI2, drawI0, drawI20, lexD, valD, valI, putD, okD, roD, memAt, lastM, wantI, eqv_refl, eqM_refl, eqM_app, eqB, eqvL, eqv, List.getLast?_cons_cons, List.getLast?_singleton, Option.getD_some, Bool.or_true, Bool.true_or, beq_self_eq_true, resvV]; rfl, rfl⟩
  cases c2 : decide ((b2.toNat : Int) < 128)
  rotate_left
  · have e : ck = none := by
      rw [← hb1]
      have := of_decide_eq_true c2
      simp only [Lib.checkN]; rw [if_neg (by decide), if_pos trivial, if_pos (by omega)]
    subst e
    exact ⟨_, by simp only [chk3, sizeV, leadV, loopV1, IC.a, IC.b, I79, IC.loops, List.getD_cons_zero, t0, t6, hq, h6, hi0, d1, l1, i1, n1, d2, l2, i2, n2, c0, c1, c2, eC_len, eC_take, eC_one, eC_0, eC_1, eC_2, eC_3, eC_4, eCr, eCr_0, eCr_1, eCr_2, eCr_3, eCr_4, List.length_drop, Nat.reduceSub, Nat.add_sub_cancel_left, atr, List.append_nil, List.nil_append, List.cons_append, List.getD_cons_zero, List.getD_cons_succ, evI, opsI, stepI, wantI, opI, AAct.evI, look, AAct.put, mkVal, mkVM, intOpA, intA, shiftA, unA, decide_true, decide_false, Option.map_some, Option.map_none, reduceIte, Nat.reduceEqDiff, Nat.reduceLT, Option.bind_some, Option.bind_none, true_and, and_true, and_self, Nat.zero_lt_succ, cellsAt, List.length_append, Nat.le_add_right, List.length_cons, List.length_nil, Nat.zero_add, Nat.add_zero, Nat.reduceAdd, Nat.reduceMul, Nat.zero_mul, AV.cells, AV.one, known, List.append_assoc, getE_0, getE_k, setE_0, setE_k, List.getElem?_cons_zero, List.getElem?_cons_succ, List.set_cons_zero, List.set_cons_succ, List.take_succ_cons, List.take_zero, List.drop_zero, List.drop_succ_cons, List.drop_nil, List.all_cons, List.all_nil, Bool.and_self, Bool.and_true, Bool.true_and, Bool.and_false, Bool.false_and, splice, fillI, Nat.reduceLeDiff, strA, Nat.add_assoc, beq_self_eq_true, Bool.false_eq_true, bq_ft, bq_tf, Bool.not_true, Bool.not_false, Nat.le_refl, List.map_cons, List.map_nil, isNilA, nilPtr, nilSl, nilIf, nilFn, nilMap, nilCheckA, if_true, if_false, lt_lit, le_lit, lt_lit2, le_lit2, le_sub1, le_sub2, drawI, drawI2, drawI0, drawI20, lexD, valD, valI, putD, okD, roD, memAt, lastM, wantI, eqv_refl, eqM_refl, eqM_app, eqB, eqvL, eqv, List.getLast?_cons_cons, List.getLast?_singleton, Option.getD_some, Bool.or_true, Bool.true_or, beq_self_eq_true, resvV]; rfl, rfl⟩
  cases c3 : decide ((191 : Int) < (b2.toNat : Int))
  rotate_left
  · have e : ck = none := by
      rw [← hb1]
      have := of_decide_eq_true c3
      simp only [Lib.checkN]; rw [if_neg (by decide), if_pos trivial, if_pos (by omega)]
    subst e
    exact ⟨_, by simp only [chk3, sizeV, leadV, loopV1, IC.a, IC.b, I79, IC.loops, List.getD_cons_zero, t0, t6, hq, h6, hi0, d1, l1, i1, n1, d2, l2, i2, n2, c0, c1, c2, c3, eC_len, eC_take, eC_one, eC_0, eC_1, eC_2, eC_3, eC_4, eCr, eCr_0, eCr_1, eCr_2, eCr_3, eCr_4, List.length_drop, Nat.reduceSub, Nat.add_sub_cancel_left, atr, List.append_nil, List.nil_append, List.cons_append, List.getD_cons_zero, List.getD_cons_succ, evI, opsI, stepI, wantI, opI, AAct.evI, look, AAct.put, mkVal, mkVM, intOpA, intA, shiftA, unA, decide_true, decide_false, Option.map_some, Option.map_none, reduceIte, Nat.reduceEqDiff, Nat.reduceLT, Option.bind_some, Option.bind_none, true_and, and_true, and_self, Nat.zero_lt_succ, cellsAt, List.length_append, Nat.le_add_right, List.length_cons, List.length_nil, Nat.zero_add, Nat.add_zero, Nat.reduceAdd, Nat.reduceMul, Nat.zero_mul, AV.cells, AV.one, known, List.append_assoc, getE_0, getE_k, setE_0, setE_k, List.getElem?_cons_zero, List.getElem?_cons_succ, List.set_cons_zero, List.set_cons_succ, List.take_succ_cons, List.take_zero, List.drop_zero, List.drop_succ_cons, List.drop_nil, List.all_cons, List.all_nil, Bool.and_self, Bool.and_true, Bool.true_and, Bool.and_false, Bool.false_and, splice, fillI, Nat.reduceLeDiff, strA, Nat.add_assoc, beq_self_eq_true, Bool.false_eq_true, bq_ft, bq_tf, Bool.not_true, Bool.not_false, Nat.le_refl, List.map_cons, List.map_nil, isNilA, nilPtr, nilSl, nilIf, nilFn, nilMap, nilCheckA, if_true, if_false, lt_lit, le_lit, lt_lit2, le_lit2, le_sub1, le_sub2, drawI, drawI2, drawI0, drawI20, lexD, valD, valI, putD, okD, roD, memAt, lastM, wantI, eqv_refl, eqM_refl, eqM_app, eqB, eqvL, eqv, List.getLast?_cons_cons, List.getLast?_singleton, Option.getD_some, Bool.or_true, Bool.true_or, beq_self_eq_true, resvV]; rfl, rfl⟩
  have e : ck = some 3 := by
    rw [← hb1]
    have g0 := of_decide_eq_false c0
    have g1 := of_decide_eq_false c1
    have g2 := of_decide_eq_false c2
    have g3 := of_decide_eq_false c3
    simp only [Lib.checkN]; rw [if_neg (by decide), if_pos trivial, if_neg (by simp only [List.length_cons] at hn ⊢; omega)]
  subst e
  exact ⟨_, by simp only [chk3, sizeV, leadV, loopV1, IC.a, IC.b, I79, IC.loops, List.getD_cons_zero, t0, t6, hq, h6, hi0, d1, l1, i1, n1, d2, l2, i2, n2, c0, c1, c2, c3, nk, bound, cutSD, hn3, Nat.le_refl, eC_len, eC_take, eC_one, eC_0, eC_1, eC_2, eC_3, eC_4, eCr, eCr_0, eCr_1, eCr_2, eCr_3, eCr_4, List.length_drop, Nat.reduceSub, Nat.add_sub_cancel_left, atr, List.append_nil, List.nil_append, List.cons_append, List.getD_cons_zero, List.getD_cons_succ, evI, opsI, stepI, wantI, opI, AAct.evI, look, AAct.put, mkVal, mkVM, intOpA, intA, shiftA, unA, decide_true, decide_false, Option.map_some, Option.map_none, reduceIte, Nat.reduceEqDiff, Nat.reduceLT, Option.bind_some, Option.bind_none, true_and, and_true, and_self, Nat.zero_lt_succ, cellsAt, List.length_append, Nat.le_add_right, List.length_cons, List.length_nil, Nat.zero_add, Nat.add_zero, Nat.reduceAdd, Nat.reduceMul, Nat.zero_mul, AV.cells, AV.one, known, List.append_assoc, getE_0, getE_k, setE_0, setE_k, List.getElem?_cons_zero, List.getElem?_cons_succ, List.set_cons_zero, List.set_cons_succ, List.take_succ_cons, List.take_zero, List.drop_zero, List.drop_succ_cons, List.drop_nil, List.all_cons, List.all_nil, Bool.and_self, Bool.and_true, Bool.true_and, Bool.and_false, Bool.false_and, splice, fillI, Nat.reduceLeDiff, strA, Nat.add_assoc, beq_self_eq_true, Bool.false_eq_true, bq_ft, bq_tf, Bool.not_true, Bool.not_false, Nat.le_refl, List.map_cons, List.map_nil, isNilA, nilPtr, nilSl, nilIf, nilFn, nilMap, nilCheckA, if_true, if_false, lt_lit, le_lit, lt_lit2, le_lit2, le_sub1, le_sub2, drawI, drawI2, drawI0, drawI20, lexD, valD, valI, putD, okD, roD, memAt, lastM, wantI, eqv_refl, eqM_refl, eqM_app, eqB, eqvL, eqv, List.getLast?_cons_cons, List.getLast?_singleton, Option.getD_some, Bool.or_true, Bool.true_or, beq_self_eq_true, resvV]; rfl, rfl, hn3, by decide⟩
theorem chk4_eq (P : Program) (N n0 : Nat) (M : Mem) (q id ty ty2 : Nat) (s : List UInt8) (hq : M[q]? = some (.row (ofBytes s) 0 ty)) (off n : Nat) (l : List UInt8) (hl : s.drop off = l) (hn : l.length = n) (lo hi : Nat) (h6 : M[id]? = some (.row [.int .u8 (lo : Nat), .int .u8 (hi : Nat)] 0 ty2)) (t : List (Nat × AV)) (t0 : look t 0 = .slc q off n 1 0) (t6 : look t 6 = .ptr id 0 0) :
    match Lib.checkN l.length (l.getD 1 0).toNat (l.getD 2 0).toNat (l.getD 3 0).toNat 4 lo hi with
    | none => ∃ t', evI P (cfg ml) (evFI P (cfg ml) T N n0) N chk4 ⟨188, t, []⟩ M = some (.ret, ⟨188, t', []⟩, M) ∧ look t' 2 = .bool false
    | some j => ∃ t', evI P (cfg ml) (evFI P (cfg ml) T N n0) N chk4 ⟨188, t, []⟩ M = some (.normal, ⟨188, t', []⟩, M) ∧ look t' 0 = .slc q (off + j) (n - j) 1 0 ∧ j ≤ n ∧ 0 < j := by
  cases hi0 : decide ((n : Int) < 4)
  rotate_left
  · rw [show Lib.checkN l.length (l.getD 1 0).toNat (l.getD 2 0).toNat (l.getD 3 0).toNat 4 lo hi = none from by
      have := of_decide_eq_true hi0
      simp only [Lib.checkN]; rw [if_neg (by decide), if_neg (by decide), if_pos trivial, if_pos (by omega)]]
    exact ⟨_, by simp only [chk4, sizeV, leadV, loopV1, IC.a, IC.b, I79, IC.loops, List.getD_cons_zero, t0, t6, hq, h6, hi0, eC_len, eC_take, eC_one, eC_0, eC_1, eC_2, eC_3, eC_4, eCr, eCr_0, eCr_1, eCr_2, eCr_3, eCr_4, List.length_drop, Nat.reduceSub, Nat.add_sub_cancel_left, atr, List.append_nil, List.nil_append, List.cons_append, List.getD_cons_zero, List.getD_cons_succ, evI, opsI, stepI, wantI, opI, AAct.evI, look, AAct.put, mkVal, mkVM, intOpA, intA, shiftA, unA, decide_true, decide_false, Option.map_some, Option.map_none, reduceIte, Nat.reduceEqDiff, Nat.reduceLT, Option.bind_some, Option.bind_none, true_and, and_true, and_self, Nat.zero_lt_succ, cellsAt, List.length_append, Nat.le_add_right, List.length_cons, List.length_nil, Nat.zero_add, Nat.add_zero, Nat.reduceAdd, Nat.reduceMul, Nat.zero_mul, AV.cells, AV.one, known, List.append_assoc, getE_0, getE_k, setE_0, setE_k, List.getElem?_cons_zero, List.getElem?_cons_succ, List.set_cons_zero, List.set_cons_succ, List.take_succ_cons, List.take_zero, List.drop_zero, List.drop_succ_cons, List.drop_nil, List.all_cons, List.all_nil, Bool.and_self, Bool.and_true, Bool.true_and, Bool.and_false, Bool.false_and, splice, fillI, Nat.reduceLeDiff, strA, Nat.add_assoc, beq_self_eq_true, Bool.false_eq_true, bq_ft, bq_tf, Bool.not_true, Bool.not_false, Nat.le_refl, List.map_cons, List.map_nil, isNilA, nilPtr, nilSl, nilIf, nilFn, nilMap, nilCheckA, if_true, if_false, lt_lit, le_lit, lt_lit2, le_lit2, le_sub1, le_sub2, drawI, drawI2, drawI0, drawI20, lexD, valD, valI, putD, okD, roD, memAt, lastM, wantI, eqv_refl, eqM_refl, eqM_app, eqB, eqvL, eqv, List.getLast?_cons_cons, List.getLast?_singleton, Option.getD_some, Bool.or_true, Bool.true_or, beq_self_eq_true, resvV]; rfl, rfl⟩
  have hn4 : 4 ≤ n := by have := of_decide_eq_false hi0; omega
  obtain ⟨b0, b1, b2, b3, r, rfl⟩ : ∃ b0 b1 b2 b3 r, l = b0 :: b1 :: b2 :: b3 :: r := by
    match l, (show 4 ≤ l.length by omega) with
    | b0 :: b1 :: b2 :: b3 :: r, _ => exact ⟨b0, b1, b2, b3, r, rfl⟩
  simp only [List.getD_cons_zero, List.getD_cons_succ]
  obtain ⟨d0, l0, z0⟩ := bytes_at hl
  obtain ⟨d1, l1, z1⟩ := bytes_at z0
  obtain ⟨d2, l2, z2⟩ := bytes_at z1
  obtain ⟨d3, l3, z3⟩ := bytes_at z2
  simp only [Nat.add_assoc, Nat.reduceAdd] at d2 l2
  simp only [Nat.add_assoc, Nat.reduceAdd] at d3 l3
  simp only [Nat.add_assoc, Nat.reduceAdd] at l1
  have i1 : 1 < n := by omega
  have n1 : natOf (.int .i64 1) = some 1 := rfl
  have i2 : 2 < n := by omega
  have n2 : natOf (.int .i64 2) = some 2 := rfl
  have i3 : 3 < n := by omega
  have n3 : natOf (.int .i64 3) = some 3 := rfl
  have nk : natOf (.int .i64 4) = some 4 := rfl
  have o0 : 0 < 2 := by decide
  generalize hb1 : Lib.checkN _ _ _ _ _ _ _ = ck
  cases c0 : decide ((b1.toNat : Int) < (lo : Int))
  rotate_left
  · have e : ck = none := by
      rw [← hb1]
      have := of_decide_eq_true c0
      simp only [Lib.checkN]; rw [if_neg (by decide), if_neg (by decide), if_pos trivial, if_pos (by omega)]
    subst e
    exact ⟨_, by simp only [chk4, sizeV, leadV, loopV1, IC.a, IC.b, I79, IC.loops, List.getD_cons_zero, t0, t6, hq, h6, hi0, d1, l1, i1, n1, d2, l2, i2, n2, d3, l3, i3, n3, c0, eC_len, eC_take, eC_one, eC_0, eC_1, eC_2, eC_3, eC_4, eCr, eCr_0, eCr_1, eCr_2, eCr_3, eCr_4, List.length_drop, Nat.reduceSub, Nat.add_sub_cancel_left, atr, List.append_nil, List.nil_append, List.cons_append, List.getD_cons_zero, List.getD_cons_succ, evI, opsI, stepI, wantI, opI, AAct.evI, look, AAct.put, mkVal, mkVM, intOpA, intA, shiftA, unA, decide_true, decide_false, Option.map_some, Option.map_none, reduceIte, Nat.reduceEqDiff, Nat.reduceLT, Option.bind_some, Option.bind_none, true_and, and_true, and_self, Nat.zero_lt_succ, cellsAt, List.length_append, Nat.le_add_right, List.length_cons, List.length_nil, Nat.zero_add, Nat.add_zero, Nat.reduceAdd, Nat.reduceMul, Nat.zero_mul, AV.cells, AV.one, known, List.append_assoc, getE_0, getE_k, setE_0, setE_k, List.getElem?_cons_zero, List.getElem?_cons_succ, List.set_cons_zero, List.set_cons_succ, List.take_succ_cons, List.take_zero, List.drop_zero, List.drop_succ_cons, List.drop_nil, List.all_cons, List.all_nil, Bool.and_self, Bool.and_true, Bool.true_and, Bool.and_false, Bool.false_and, splice, fillI, Nat.reduceLeDiff, strA, Nat.add_assoc, beq_self_eq_true, Bool.false_eq_true, bq_ft, bq_tf, Bool.not_true, Bool.not_false, Nat.le_refl, List.map_cons, List.map_nil, isNilA, nilPtr, nilSl, nilIf, nilFn, nilMap, nilCheckA, if_true, if_false, lt_lit, le_lit, lt_lit2, le_lit2, le_sub1, le_sub2, drawI, drawI2, drawI0, drawI20, lexD, valD, valI, putD, okD, roD, memAt, lastM, wantI, eqv_refl, eqM_refl, eqM_app, eqB, eqvL, eqv, List.getLast?_cons_cons, List.getLast?_singleton, Option.getD_some, Bool.or_true, Bool.true_or, beq_self_eq_true, resvV]; rfl, rfl⟩
  cases c1 : decide ((hi : Int) < (b1.toNat : Int))
  rotate_left
  · have e : ck = none := by
      rw [← hb1]
      have := of_decide_eq_true c1
      simp only [Lib.checkN]; rw [if_neg (by decide), if_neg (by decide), if_pos trivial, if_pos (by omega)]
    subst e
    exact ⟨_, by simp only [chk4, sizeV, leadV, loopV1, IC.a, IC.b, I79, IC.loops, List.getD_cons_zero, t0, t6, hq, h6, hi0, d1, l1, i1, n1, d2, l2, i2, n2, d3, l3, i3, n3, c0, c1, eC_len, eC_take, eC_one, eC_0, eC_1, eC_2, eC_3, eC_4, eCr, eCr_0, eCr_1, eCr_2, eCr_3, eCr_4, List.length_drop, Nat.reduceSub, Nat.add_sub_cancel_left, atr, List.append_nil, List.nil_append, List.cons_append, List.getD_cons_zero, List.getD_cons_succ, evI, opsI, stepI, wantI, opI, AAct.evI, look, AAct.put, mkVal, mkVM, intOpA, intA, shiftA, unA, decide_true, decide_false, Option.map_some, Option.map_none, reduceIte, Nat.reduceEqDiff, Nat.reduceLT, Option.bind_some, Option.bind_none, true_and, and_true, and_self, Nat.zero_lt_succ, cellsAt, List.length_append, Nat.le_add_right, List.length_cons, List.length_nil, Nat.zero_add, Nat.add_zero, Nat.reduceAdd, Nat.reduceMul, Nat.zero_mul, AV.cells, AV.one, known, List.append_assoc, getE_0, getE_k, setE_0, setE_k, List.getElem?_cons_zero, List.getElem?_cons_succ, List.set_cons_zero, List.set_cons_succ, List.take_succ_cons, List.take_zero, List.drop_zero, List.drop_succ_cons, List.drop_nil, List.all_cons, List.all_nil, Bool.and_self, Bool.and_true, Bool.true_and, Bool.and_false, Bool.false_and, splice, fillI, Nat.reduceLeDiff, strA, Nat.add_assoc, beq_self_eq_true, Bool.false_eq_true, bq_ft, bq_tf, Bool.not_true, Bool.not_false, Nat.le_refl, List.map_cons, List.map_nil, isNilA, nilPtr, nilSl, nilIf, nilFn, nilMap, nilCheckA, if_true, if_false, lt_lit, le_lit, lt_lit2, le_lit2, le_sub1, le_sub2, drawI, drawI2, drawI0, drawI20, lexD, valD, valI, putD, okD, roD, memAt, lastM, wantI, eqv_refl, eqM_refl, eqM_app, eqB, eqvL, eqv, List.getLast?_cons_cons, List.getLast?_singleton, Option.getD_some, Bool.or_true, Bool.true_or, beq_self_eq_true, resvV]; rfl, rfl⟩
  cases c2 : decide ((b2.toNat : Int) < 128)
  rotate_left
  · have e : ck = none := by
      rw [← hb1]
      have := of_decide_eq_true c2
      simp only [Lib.checkN]; rw [if_neg (by decide), if_neg (by decide), if_pos trivial, if_pos (by omega)]
    subst e
    exact ⟨_, by simp only [chk4, sizeV, leadV, loopV1, IC.a, IC.b, I79, IC.loops, List.getD_cons_zero, t0, t6, hq, h6, hi0, d1, l1, i1, n1, d2, l2, i2, n2, d3, l3, i3, n3, c0, c1, c2, eC_len, eC_take, eC_one, eC_0, eC_1, eC_2, eC_3, eC_4, eCr, eCr_0, eCr_1, eCr_2, eCr_3, eCr_4, List.length_drop, Nat.reduceSub, Nat.add_sub_cancel_left, atr, List.append_nil, List.nil_append, List.cons_append, List.getD_cons_zero, List.getD_cons_succ, evI, opsI, stepI, wantI, opI, AAct.evI, look, AAct.put, mkVal, mkVM, intOpA, intA, shiftA, unA, decide_true, decide_false, Option.map_some, Option.map_none, reduceIte, Nat.reduceEqDiff, Nat.reduceLT, Option.bind_some, Option.bind_none, true_and, and_true, and_self, Nat.zero_lt_succ, cellsAt, List.length_append, Nat.le_add_right, List.length_cons, List.length_nil, Nat.zero_add, Nat.add_zero, Nat.reduceAdd, Nat.reduceMul, Nat.zero_mul, AV.cells, AV.one, known, List.append_assoc, getE_0, getE_k, setE_0, setE_k, List.getElem?_cons_zero, List.getElem?_cons_succ, List.set_cons_zero, List.set_cons_succ, List.take_succ_cons, List.take_zero, List.drop_zero, List.drop_succ_cons, List.drop_nil, List.all_cons, List.all_nil, Bool.and_self, Bool.and_true, Bool.true_and, Bool.and_false, Bool.false_and, splice, fillI, Nat.reduceLeDiff, strA, Nat.add_assoc, beq_self_eq_true, Bool.false_eq_true, bq_ft, bq_tf, Bool.not_true, Bool.not_false, Nat.le_refl, List.map_cons, List.map_nil, isNilA, nilPtr, nilSl, nilIf, nilFn, nilMap, nilCheckA, if_true, if_false, lt_lit, le_lit, lt_lit2, le_lit2, le_sub1, le_sub2, drawI, drawI2, drawI0, drawI20, lexD, valD, valI, putD, okD, roD, memAt, lastM, wantI, eqv_refl, eqM_refl, eqM_app, eqB, eqvL, eqv, List.getLast?_cons_cons, List.getLast?_singleton, Option.getD_some, Bool.or_true, Bool.true_or, beq_self_eq_true, resvV]; rfl, rfl⟩
  cases c3 : decide ((191 : Int) < (b2.toNat : Int))
  rotate_left
  · have e : ck = none := by
      rw [← hb1]
      have := of_decide_eq_true c3
      simp only [Lib.checkN]; rw [if_neg (by decide), if_neg (by decide), if_pos trivial, if_pos (by omega)]
    subst e
    exact ⟨_, by simp only [chk4, sizeV, leadV, loopV1, IC.a, IC.b, I79, IC.loops, List.getD_cons_zero, t0, t6, hq, h6, hi0, d1, l1, i1, n1, d2, l2, i2, n2, d3, l3, i3, n3, c0, c1, c2, c3, eC_len, eC_take, eC_one, eC_0, eC_1, eC_2, eC_3, eC_4, eCr, eCr_0, eCr_1, eCr_2, eCr_3, eCr_4, List.length_drop, Nat.reduceSub, Nat.add_sub_cancel_left, atr, List.append_nil, List.nil_append, List.cons_append, List.getD_cons_zero, List.getD_cons_succ, evI, opsI, stepI, wantI, opI, AAct.evI, look, AAct.put, mkVal, mkVM, intOpA, intA, shiftA, unA, decide_true, decide_false, Option.map_some, Option.map_none, reduceIte, Nat.reduceEqDiff, Nat.reduceLT, Option.bind_some, Option.bind_none, true_and, and_true, and_self, Nat.zero_lt_succ, cellsAt, List.length_append, Nat.le_add_right, List.length_cons, List.length_nil, Nat.zero_add, Nat.add_zero, Nat.reduceAdd, Nat.reduceMul, Nat.zero_mul, AV.cells, AV.one, known, List.append_assoc, getE_0, getE_k, setE_0, setE_k, List.getElem?_cons_zero, List.getElem?_cons_succ, List.set_cons_zero, List.set_cons_succ, List.take_succ_cons, List.take_zero, List.drop_zero, List.drop_succ_cons, List.drop_nil, List.all_cons, List.all_nil, Bool.and_self, Bool.and_true, Bool.true_and, Bool.and_false, Bool.false_and, splice, fillI, Nat.reduceLeDiff, strA, Nat.add_assoc, beq_self_eq_true, Bool.false_eq_true, bq_ft, bq_tf, Bool.not_true, Bool.not_false, Nat.le_refl, List.map_cons, List.map_nil, isNilA, nilPtr, nilSl, nilIf, nilFn, nilMap, nilCheckA, if_true, if_false, lt_lit, le_lit, lt_lit2, le_lit2, le_sub1, le_sub2, drawI, drawI2, drawI0, drawI20, lexD, valD, valI, putD, okD, roD, memAt, lastM, wantI, eqv_refl, eqM_refl, eqM_app, eqB, eqvL, eqv, List.getLast?_cons_cons, List.getLast?_singleton, Option.getD_some, Bool.or_true, Bool.true_or, beq_self_eq_true, resvV]; rfl, rfl⟩
  cases c4 : decide ((b3.toNat : Int) < 128)
  rotate_left
  · have e : ck = none := by
      rw [← hb1]
      have := of_decide_eq_true c4
      simp only [Lib.checkN]; rw [if_neg (by decide), if_neg (by decide), if_pos trivial, if_pos (by omega)]
    subst e
    exact ⟨_, by simp only [chk4, sizeV, leadV, loopV1, IC.a, IC.b, I79, IC.loops, List.getD_cons_zero, t0, t6, hq, h6, hi0, d1, l1, i1, n1, d2, l2, i2, n2, d3, l3, i3, n3, c0, c1, c2, c3, c4, eC_len, eC_take, eC_one, eC_0, eC_1, eC_2, eC_3, eC_4, eCr, eCr_0, eCr_1, eCr_2, eCr_3, eCr_4, List.length_drop, Nat.reduceSub, Nat.add_sub_cancel_left, atr, List.append_nil, List.nil_append, List.cons_append, List.getD_cons_zero, List.getD_cons_succ, evI, opsI, stepI, wantI, opI, AAct.evI, look, AAct.put, mkVal, mkVM, intOpA, intA, shiftA, unA, decide_true, decide_false, Option.map_some, Option.map_none, reduceIte, Nat.reduceEqDiff, Nat.reduceLT, Option.bind_some, Option.bind_none, true_and, and_true, and_self, Nat.zero_lt_succ, cellsAt, List.length_append, Nat.le_add_right, List.length_cons, List.length_nil, Nat.zero_add, Nat.add_zero, Nat.reduceAdd, Nat.reduceMul, Nat.zero_mul, AV.cells, AV.one, known, List.append_assoc, getE_0, getE_k, setE_0, setE_k, List.getElem?_cons_zero, List.getElem?_cons_succ, List.set_cons_zero, List.set_cons_succ, List.take_succ_cons, List.take_zero, List.drop_zero, List.drop_succ_cons, List.drop_nil, List.all_cons, List.all_nil, Bool.and_self, Bool.and_true, Bool.true_and, Bool.and_false, Bool.false_and, splice, fillI, Nat.reduceLeDiff, strA, Nat.add_assoc, beq_self_eq_true, Bool.false_eq_true, bq_ft, bq_tf, Bool.not_true, Bool.not_false, Nat.le_refl, List.map_cons, List.map_nil, isNilA, nilPtr, nilSl, nilIf, nilFn, nilMap, nilCheckA, if_true, if_false, lt_lit, le_lit, lt_lit2, le_lit2, le_sub1, le_sub2, drawI, drawI2, drawI0, drawI20, lexD, valD, valI, putD, okD, roD, memAt, lastM, wantI, eqv_refl, eqM_refl, eqM_app, eqB, eqvL, eqv, List.getLast?_cons_cons, List.getLast?_singleton, Option.getD_some, Bool.or_true, Bool.true_or, beq_self_eq_true, resvV]; rfl, rfl⟩
  cases c5 : decide ((191 : Int) < (b3.toNat : Int))
  rotate_left
  · have e : ck = none := by
      rw [← hb1]
      have := of_decide_eq_true c5
      simp only [Lib.checkN]; rw [if_neg (by decide), if_neg (by decide), if_pos trivial, if_pos (by omega)]
    subst e
    exact ⟨_, by simp only [chk4, sizeV, leadV, loopV1, IC.a, IC.b, I79, IC.loops, List.getD_cons_zero, t0, t6, hq, h6, hi0, d1, l1, i1, n1, d2, l2, i2, n2, d3, l3, i3, n3, c0, c1, c2, c3, c4, c5, eC_len, eC_take, eC_one, eC_0, eC_1, eC_2, eC_3, eC_4, eCr, eCr_0, eCr_1, eCr_2, eCr_3, eCr_4, List.length_drop, Nat.reduceSub, Nat.add_sub_cancel_left, atr, List.append_nil, List.nil_append, List.cons_append, List.getD_cons_zero, List.getD_cons_succ, evI, opsI, stepI, wantI, opI, AAct.evI, look, AAct.put, mkVal, mkVM, intOpA, intA, shiftA, unA, decide_true, decide_false, Option.map_some, Option.map_none, reduceIte, Nat.reduceEqDiff, Nat.reduceLT, Option.bind_some, Option.bind_none, true_and, and_true, and_self, Nat.zero_lt_succ, cellsAt, List.length_append, Nat.le_add_right, List.length_cons, List.length_nil, Nat.zero_add, Nat.add_zero, Nat.reduceAdd, Nat.reduceMul, Nat.zero_mul, AV.cells, AV.one, known, List.append_assoc, getE_0, getE_k, setE_0, setE_k, List.getElem?_cons_zero, List.getElem?_cons_succ, List.set_cons_zero, List.set_cons_succ, List.take_succ_cons, List.take_zero, List.drop_zero, List.drop_succ_cons, List.drop_nil, List.all_cons, List.all_nil, Bool.and_self, Bool.and_true, Bool.true_and, Bool.and_false, Bool.false_and, splice, fillI, Nat.reduceLeDiff, strA, Nat.add_assoc, beq_self_eq_true, Bool.false_eq_true, bq_ft, bq_tf, Bool.not_true, Bool.not_false, Nat.le_refl, List.map_cons, List.map_nil, isNilA, nilPtr, nilSl, nilIf, nilFn, nilMap, nilCheckA, if_true, if_false, lt_lit, le_lit, lt_lit2, le_lit2, le_sub1, le_sub2, drawI, drawI2, drawI0, drawI20, lexD, valD, valI, putD, okD, roD, memAt, lastM, wantI, eqv_refl, eqM_refl, eqM_app, eqB, eqvL, eqv, List.getLast?_cons_cons, List.getLast?_singleton, Option.getD_some, Bool.or_true, Bool.true_or, beq_self_eq_true, resvV]; rfl, rfl⟩
  have e : ck = some 4 := by
    rw [← hb1]
    have g0 := of_decide_eq_false c0
    have g1 := of_decide_eq_false c1
    have g2 := of_decide_eq_false c2
    have g3 := of_decide_eq_false c3
    have g4 := of_decide_eq_false c4
    have g5 := of_decide_eq_false c5
    simp only [Lib.checkN]; rw [if_neg (by decide), if_neg (by decide), if_pos trivial, if_neg (by simp only [List.length_cons] at hn ⊢; omega)]
  subst e
  exact ⟨_, by simp only [chk4, sizeV, leadV, loopV1, IC.a, IC.b, I79, IC.loops, List.getD_cons_zero, t0, t6, hq, h6, hi0, d1, l1, i1, n1, d2, l2, i2, n2, d3, l3, i3, n3, c0, c1, c2, c3, c4, c5, nk, bound, cutSD, hn4, Nat.le_refl, eC_len, eC_take, eC_one, eC_0, eC_1, eC_2, eC_3, eC_4, eCr, eCr_0, eCr_1, eCr_2, eCr_3, eCr_4, List.length_drop, Nat.reduceSub, Nat.add_sub_cancel_left, atr, List.append_nil, List.nil_append, List.cons_append, List.getD_cons_zero, List.getD_cons_succ, evI, opsI, stepI, wantI, opI, AAct.evI, look, AAct.put, mkVal, mkVM, intOpA, intA, shiftA, unA, decide_true, decide_false, Option.map_some, Option.map_none, reduceIte, Nat.reduceEqDiff, Nat.reduceLT, Option.bind_some, Option.bind_none, true_and, and_true, and_self, Nat.zero_lt_succ, cellsAt, List.length_append, Nat.le_add_right, List.length_cons, List.length_nil, Nat.zero_add, Nat.add_zero, Nat.reduceAdd, Nat.reduceMul, Nat.zero_mul, AV.cells, AV.one, known, List.append_assoc, getE_0, getE_k, setE_0, setE_k, List.getElem?_cons_zero, List.getElem?_cons_succ, List.set_cons_zero, List.set_cons_succ, List.take_succ_cons, List.take_zero, List.drop_zero, List.drop_succ_cons, List.drop_nil, List.all_cons, List.all_nil, Bool.and_self, Bool.and_true, Bool.true_and, Bool.and_false, Bool.false_and, splice, fillI, Nat.reduceLeDiff, strA, Nat.add_assoc, beq_self_eq_true, Bool.false_eq_true, bq_ft, bq_tf, Bool.not_true, Bool.not_false, Nat.le_refl, List.map_cons, List.map_nil, isNilA, nilPtr, nilSl, nilIf, nilFn, nilMap, nilCheckA, if_true, if_false, lt_lit, le_lit, lt_lit2, le_lit2, le_sub1, le_sub2, drawI, drawI2, drawI0, drawI20, lexD, valD, valI, putD, okD, roD, memAt, lastM, wantI, eqv_refl, eqM_refl, eqM_app, eqB, eqvL, eqv, List.getLast?_cons_cons, List.getLast?_singleton, Option.getD_some, Bool.or_true, Bool.true_or, beq_self_eq_true, resvV]; rfl, rfl, hn4, by decide⟩
end Go.Proofs.YtmnajffpmbidiaaGreatDoor.Ev
