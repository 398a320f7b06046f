/- Parts of one proof. -/
import Derived.Test.YtmnajffpmbidiaaGreatDoorMdg
set_option linter.all false
namespace Go.Proofs.YtmnajffpmbidiaaGreatDoor.Ev
variable {ml : Int}
open Go.Proofs.YtmnajffpmbidiaaGreatDoor.Ic
set_option maxRecDepth 100000
set_option maxHeartbeats 4000000
noncomputable def l73 : IC := leadV.a
noncomputable def l75 : IC := leadV.b.a
noncomputable def l78 : IC := leadV.b.b.a
noncomputable def l82 : IC := leadV.b.b.b.a
noncomputable def c4V : IC := leadV.b.b.b.b.a
noncomputable def l107 : IC := sizeV.b.a
noncomputable def l142 : IC := sizeV.b.b.b.a
noncomputable def lbad : IC := sizeV.b.b.b.b.b
theorem lead_split : leadV = .seq l73 (.seq l75 (.seq l78 (.seq l82 (.block 4 c4V)))) := rfl
theorem c4_split : c4V = .seq c4V.a (.cond (.tmp 83) chk2 (.seq l107 (.cond (.tmp 106) chk3 (.seq l142 (.cond (.tmp 141) chk4 lbad))))) := rfl
theorem and7v : ∀ x : Fin 256, IntKind.wrap .u8 ((BitVec.ofInt (IntKind.bits .u8) ((x.val : Nat) : Int) &&& BitVec.ofInt (IntKind.bits .u8) 7).toNat : Int) = ((x.val % 8 : Nat) : Int) := by decide +kernel
theorem shr4 : ∀ x : Fin 256, IntKind.wrap .u8 (((x.val : Nat) : Int).fdiv (2 ^ min (Int.toNat 4) (IntKind.bits .u8))) = ((x.val / 16 : Nat) : Int) ∧ ((x.val : Nat) : Int).fdiv (2 ^ min (Int.toNat 4) (IntKind.bits .u8)) = ((x.val / 16 : Nat) : Int) := by decide +kernel
theorem conv8 : ∀ x : Fin 8, IntKind.wrap .i64 ((x.val : Nat) : Int) = ((x.val : Nat) : Int) := by decide +kernel
theorem firstT_lt (b : Nat) : Lib.firstT b < 256 := by
  unfold Lib.firstT
  repeat' split
  all_goals omega
theorem firstRow_len : firstRow.length = 256 := by simp [firstRow]
theorem accRow_len : accRow.length = 32 := by decide +kernel
theorem accRow_at : ∀ i : Fin 16, (accRow.drop (i.val * 2)).take 2 = [.int .u8 (Lib.accLo i.val), .int .u8 (Lib.accHi i.val)] := fun i => by
  obtain ⟨i, hi⟩ := i
  have h : ∀ i, i < 16 → (accRow.drop (i * 2)).take 2 = [.int .u8 (Lib.accLo i), .int .u8 (Lib.accHi i)] := by
    intro i hi
    match i, hi with
    | 0, _ => rfl
    | 1, _ => rfl
    | 2, _ => rfl
    | 3, _ => rfl
    | 4, _ => rfl
    | 5, _ => rfl
    | 6, _ => rfl
    | 7, _ => rfl
    | 8, _ => rfl
    | 9, _ => rfl
    | 10, _ => rfl
    | 11, _ => rfl
    | 12, _ => rfl
    | 13, _ => rfl
    | 14, _ => rfl
    | 15, _ => rfl
    | k + 16, h => exact absurd h (by omega)
  exact h i hi
theorem lead_pre (P : Program) (N n0 : Nat) (M : Mem) (q ty : Nat) (s : List UInt8) (hq : M[q]? = some (.row (ofBytes s) 0 ty)) (off n : Nat) (ho : off + n = s.length) (b0 : UInt8) (r : List UInt8) (hd : s.drop off = b0 :: r) (hb : 128 ≤ b0.toNat) :
    ∃ t, look t 0 = .slc q off n 1 0 ∧ look t 6 = .ptr M.length 0 0 ∧ look t 82 = .int .i64 ((Lib.firstT b0.toNat % 8 : Nat) : Int) ∧
      ∃ t1, evI P (cfg ml) (evFI P (cfg ml) T N n0) N testV ⟨188, [(0, .slc q off n 1 0)], []⟩ M = some (.normal, ⟨188, t1, []⟩, M) ∧
      evI P (cfg ml) (evFI P (cfg ml) T N n0) N (.seq p0V (.seq (.seq lsV.a (.cond (.tmp 20) fastV .skip)) leadV)) ⟨188, t1, []⟩ M = evI P (cfg ml) (evFI P (cfg ml) T N n0) N (.block 4 c4V) ⟨188, t, []⟩ (M ++ [.row [.int .u8 (Lib.accLo (Lib.firstT b0.toNat / 16) : Nat), .int .u8 (Lib.accHi (Lib.firstT b0.toNat / 16) : Nat)] 0 126]) := by
  obtain ⟨d0, l0, z0⟩ := bytes_at hd
  have hlen := congrArg List.length hd
  simp only [List.length_drop, List.length_cons] at hlen
  have c0 : decide ((n : Int) > 0) = true := decide_eq_true (by omega)
  have c1 : decide ((b0.toNat : Int) < 128) = false := decide_eq_false (by omega)
  have i0 : 0 < n := by omega
  have n0' : natOf (.int .i64 0) = some 0 := rfl
  have hb2 := b0.toNat_lt
  have hfl := firstRow_len
  have hx := firstT_lt b0.toNat
  have hg0 : (cfg ml).glob 0 = some firstRow := rfl
  have hg1 : (cfg ml).glob 1 = some accRow := rfl
  have nb := natOf_nat b0.toNat .u8
  have fr : (firstRow.drop b0.toNat).take 1 = [.int .u8 (Lib.firstT b0.toNat : Nat)] := by
    have h1 := firstRow_at (n := b0.toNat) (by omega)
    have h2 : b0.toNat < firstRow.length := by omega
    rw [List.drop_eq_getElem_cons h2]
    rw [List.getElem?_eq_getElem h2] at h1
    injection h1 with h1
    rw [h1]; rfl
  have fl : 1 ≤ firstRow.length - b0.toNat := by omega
  have f256 : b0.toNat < 256 := hb2
  have f257 : b0.toNat + 1 ≤ firstRow.length := by omega
  have a7 := and7v ⟨Lib.firstT b0.toNat, hx⟩
  have s4 := shr4 ⟨Lib.firstT b0.toNat, hx⟩
  have c8 := conv8 ⟨Lib.firstT b0.toNat % 8, Nat.mod_lt _ (by decide)⟩
  have s42 := s4.2
  simp only [] at a7 s42 c8
  have hi16 : Lib.firstT b0.toNat / 16 < 16 := by omega
  have ac := accRow_at ⟨Lib.firstT b0.toNat / 16, hi16⟩
  simp only [] at ac
  have acl : 2 ≤ accRow.length - Lib.firstT b0.toNat / 16 * 2 := by rw [accRow_len]; omega
  have acl2 : Lib.firstT b0.toNat / 16 * 2 + 2 ≤ accRow.length := by rw [accRow_len]; omega
  have ni := natOf_nat (Lib.firstT b0.toNat / 16) .u8
  have w4 : ((4 : Int) < 0) = False := by simp
  have h01 : 0 < 1 := by decide
  have h02 : 0 < 2 := by decide
  have hm1 : ∀ x : Nat, x * 1 = x := Nat.mul_one
  generalize Lib.firstT b0.toNat = x at *
  refine ⟨?t, ?h0, ?h6, ?h82, ?t1, ?he1, ?he⟩
  case he1 => simp only [testV, loopV1, IC.a, I79, IC.loops, List.getD_cons_zero, c0, eC_len, eC_take, eC_one, eC_0, eC_1, eC_2, eC_3, eC_4, eCr, eCr_0, eCr_1, eCr_2, eCr_3, eCr_4, List.length_drop, Nat.reduceSub, Nat.add_sub_cancel_left, atr, List.append_nil, List.nil_append, List.cons_append, List.getD_cons_zero, List.getD_cons_succ, evI, opsI, stepI, wantI, opI, AAct.evI, look, AAct.put, mkVal, mkVM, intOpA, intA, shiftA, unA, decide_true, decide_false, Option.map_some, Option.map_none, reduceIte, Nat.reduceEqDiff, Nat.reduceLT, Option.bind_some, Option.bind_none, true_and, and_true, and_self, Nat.zero_lt_succ, cellsAt, List.length_append, Nat.le_add_right, List.length_cons, List.length_nil, Nat.zero_add, Nat.add_zero, Nat.reduceAdd, Nat.reduceMul, Nat.zero_mul, AV.cells, AV.one, known, List.append_assoc, getE_0, getE_k, setE_0, setE_k, List.getElem?_cons_zero, List.getElem?_cons_succ, List.set_cons_zero, List.set_cons_succ, List.take_succ_cons, List.take_zero, List.drop_zero, List.drop_succ_cons, List.drop_nil, List.all_cons, List.all_nil, Bool.and_self, Bool.and_true, Bool.true_and, Bool.and_false, Bool.false_and, splice, fillI, Nat.reduceLeDiff, strA, Nat.add_assoc, beq_self_eq_true, Bool.false_eq_true, bq_ft, bq_tf, Bool.not_true, Bool.not_false, Nat.le_refl, List.map_cons, List.map_nil, isNilA, nilPtr, nilSl, nilIf, nilFn, nilMap, nilCheckA, if_true, if_false, lt_lit, le_lit, lt_lit2, le_lit2, le_sub1, le_sub2]; rfl
  case he =>
    apply evI_seq
    · simp only [p0V, loopV1, IC.a, IC.b, I79, IC.loops, List.getD_cons_zero, n0', i0, hq, d0, l0, eC_len, eC_take, eC_one, eC_0, eC_1, eC_2, eC_3, eC_4, eCr, eCr_0, eCr_1, eCr_2, eCr_3, eCr_4, List.length_drop, Nat.reduceSub, Nat.add_sub_cancel_left, atr, List.append_nil, List.nil_append, List.cons_append, List.getD_cons_zero, List.getD_cons_succ, evI, opsI, stepI, wantI, opI, AAct.evI, look, AAct.put, mkVal, mkVM, intOpA, intA, shiftA, unA, decide_true, decide_false, Option.map_some, Option.map_none, reduceIte, Nat.reduceEqDiff, Nat.reduceLT, Option.bind_some, Option.bind_none, true_and, and_true, and_self, Nat.zero_lt_succ, cellsAt, List.length_append, Nat.le_add_right, List.length_cons, List.length_nil, Nat.zero_add, Nat.add_zero, Nat.reduceAdd, Nat.reduceMul, Nat.zero_mul, AV.cells, AV.one, known, List.append_assoc, getE_0, getE_k, setE_0, setE_k, List.getElem?_cons_zero, List.getElem?_cons_succ, List.set_cons_zero, List.set_cons_succ, List.take_succ_cons, List.take_zero, List.drop_zero, List.drop_succ_cons, List.drop_nil, List.all_cons, List.all_nil, Bool.and_self, Bool.and_true, Bool.true_and, Bool.and_false, Bool.false_and, splice, fillI, Nat.reduceLeDiff, strA, Nat.add_assoc, beq_self_eq_true, Bool.false_eq_true, bq_ft, bq_tf, Bool.not_true, Bool.not_false, Nat.le_refl, List.map_cons, List.map_nil, isNilA, nilPtr, nilSl, nilIf, nilFn, nilMap, nilCheckA, if_true, if_false, lt_lit, le_lit, lt_lit2, le_lit2, le_sub1, le_sub2]; rfl
    apply evI_seq
    · apply evI_seq
      · simp only [lsV, loopV1, IC.a, IC.b, I79, IC.loops, List.getD_cons_zero, c1, eC_len, eC_take, eC_one, eC_0, eC_1, eC_2, eC_3, eC_4, eCr, eCr_0, eCr_1, eCr_2, eCr_3, eCr_4, List.length_drop, Nat.reduceSub, Nat.add_sub_cancel_left, atr, List.append_nil, List.nil_append, List.cons_append, List.getD_cons_zero, List.getD_cons_succ, evI, opsI, stepI, wantI, opI, AAct.evI, look, AAct.put, mkVal, mkVM, intOpA, intA, shiftA, unA, decide_true, decide_false, Option.map_some, Option.map_none, reduceIte, Nat.reduceEqDiff, Nat.reduceLT, Option.bind_some, Option.bind_none, true_and, and_true, and_self, Nat.zero_lt_succ, cellsAt, List.length_append, Nat.le_add_right, List.length_cons, List.length_nil, Nat.zero_add, Nat.add_zero, Nat.reduceAdd, Nat.reduceMul, Nat.zero_mul, AV.cells, AV.one, known, List.append_assoc, getE_0, getE_k, setE_0, setE_k, List.getElem?_cons_zero, List.getElem?_cons_succ, List.set_cons_zero, List.set_cons_succ, List.take_succ_cons, List.take_zero, List.drop_zero, List.drop_succ_cons, List.drop_nil, List.all_cons, List.all_nil, Bool.and_self, Bool.and_true, Bool.true_and, Bool.and_false, Bool.false_and, splice, fillI, Nat.reduceLeDiff, strA, Nat.add_assoc, beq_self_eq_true, Bool.false_eq_true, bq_ft, bq_tf, Bool.not_true, Bool.not_false, Nat.le_refl, List.map_cons, List.map_nil, isNilA, nilPtr, nilSl, nilIf, nilFn, nilMap, nilCheckA, if_true, if_false, lt_lit, le_lit, lt_lit2, le_lit2, le_sub1, le_sub2]; rfl
      apply evI_false rfl
      exact evI_skip
    rw [lead_split]
    apply evI_seq
    · simp only [l73, leadV, loopV1, IC.a, IC.b, I79, IC.loops, List.getD_cons_zero, hg0, nb, hm1, f256, f257, h01, fr, fl, eC_len, eC_take, eC_one, eC_0, eC_1, eC_2, eC_3, eC_4, eCr, eCr_0, eCr_1, eCr_2, eCr_3, eCr_4, List.length_drop, Nat.reduceSub, Nat.add_sub_cancel_left, atr, List.append_nil, List.nil_append, List.cons_append, List.getD_cons_zero, List.getD_cons_succ, evI, opsI, stepI, wantI, opI, AAct.evI, look, AAct.put, mkVal, mkVM, intOpA, intA, shiftA, unA, decide_true, decide_false, Option.map_some, Option.map_none, reduceIte, Nat.reduceEqDiff, Nat.reduceLT, Option.bind_some, Option.bind_none, true_and, and_true, and_self, Nat.zero_lt_succ, cellsAt, List.length_append, Nat.le_add_right, List.length_cons, List.length_nil, Nat.zero_add, Nat.add_zero, Nat.reduceAdd, Nat.reduceMul, Nat.zero_mul, AV.cells, AV.one, known, List.append_assoc, getE_0, getE_k, setE_0, setE_k, List.getElem?_cons_zero, List.getElem?_cons_succ, List.set_cons_zero, List.set_cons_succ, List.take_succ_cons, List.take_zero, List.drop_zero, List.drop_succ_cons, List.drop_nil, List.all_cons, List.all_nil, Bool.and_self, Bool.and_true, Bool.true_and, Bool.and_false, Bool.false_and, splice, fillI, Nat.reduceLeDiff, strA, Nat.add_assoc, beq_self_eq_true, Bool.false_eq_true, bq_ft, bq_tf, Bool.not_true, Bool.not_false, Nat.le_refl, List.map_cons, List.map_nil, isNilA, nilPtr, nilSl, nilIf, nilFn, nilMap, nilCheckA, if_true, if_false, lt_lit, le_lit, lt_lit2, le_lit2, le_sub1, le_sub2]; rfl
    apply evI_seq
    · simp only [l75, leadV, loopV1, IC.a, IC.b, I79, IC.loops, List.getD_cons_zero, a7, c8, eC_len, eC_take, eC_one, eC_0, eC_1, eC_2, eC_3, eC_4, eCr, eCr_0, eCr_1, eCr_2, eCr_3, eCr_4, List.length_drop, Nat.reduceSub, Nat.add_sub_cancel_left, atr, List.append_nil, List.nil_append, List.cons_append, List.getD_cons_zero, List.getD_cons_succ, evI, opsI, stepI, wantI, opI, AAct.evI, look, AAct.put, mkVal, mkVM, intOpA, intA, shiftA, unA, decide_true, decide_false, Option.map_some, Option.map_none, reduceIte, Nat.reduceEqDiff, Nat.reduceLT, Option.bind_some, Option.bind_none, true_and, and_true, and_self, Nat.zero_lt_succ, cellsAt, List.length_append, Nat.le_add_right, List.length_cons, List.length_nil, Nat.zero_add, Nat.add_zero, Nat.reduceAdd, Nat.reduceMul, Nat.zero_mul, AV.cells, AV.one, known, List.append_assoc, getE_0, getE_k, setE_0, setE_k, List.getElem?_cons_zero, List.getElem?_cons_succ, List.set_cons_zero, List.set_cons_succ, List.take_succ_cons, List.take_zero, List.drop_zero, List.drop_succ_cons, List.drop_nil, List.all_cons, List.all_nil, Bool.and_self, Bool.and_true, Bool.true_and, Bool.and_false, Bool.false_and, splice, fillI, Nat.reduceLeDiff, strA, Nat.add_assoc, beq_self_eq_true, Bool.false_eq_true, bq_ft, bq_tf, Bool.not_true, Bool.not_false, Nat.le_refl, List.map_cons, List.map_nil, isNilA, nilPtr, nilSl, nilIf, nilFn, nilMap, nilCheckA, if_true, if_false, lt_lit, le_lit, lt_lit2, le_lit2, le_sub1, le_sub2]; rfl
    apply evI_seq
    · simp only [l78, leadV, loopV1, IC.a, IC.b, I79, IC.loops, List.getD_cons_zero, hg1, w4, s42, ni, hi16, h02, ac, acl, acl2, eC_len, eC_take, eC_one, eC_0, eC_1, eC_2, eC_3, eC_4, eCr, eCr_0, eCr_1, eCr_2, eCr_3, eCr_4, List.length_drop, Nat.reduceSub, Nat.add_sub_cancel_left, atr, List.append_nil, List.nil_append, List.cons_append, List.getD_cons_zero, List.getD_cons_succ, evI, opsI, stepI, wantI, opI, AAct.evI, look, AAct.put, mkVal, mkVM, intOpA, intA, shiftA, unA, decide_true, decide_false, Option.map_some, Option.map_none, reduceIte, Nat.reduceEqDiff, Nat.reduceLT, Option.bind_some, Option.bind_none, true_and, and_true, and_self, Nat.zero_lt_succ, cellsAt, List.length_append, Nat.le_add_right, List.length_cons, List.length_nil, Nat.zero_add, Nat.add_zero, Nat.reduceAdd, Nat.reduceMul, Nat.zero_mul, AV.cells, AV.one, known, List.append_assoc, getE_0, getE_k, setE_0, setE_k, List.getElem?_cons_zero, List.getElem?_cons_succ, List.set_cons_zero, List.set_cons_succ, List.take_succ_cons, List.take_zero, List.drop_zero, List.drop_succ_cons, List.drop_nil, List.all_cons, List.all_nil, Bool.and_self, Bool.and_true, Bool.true_and, Bool.and_false, Bool.false_and, splice, fillI, Nat.reduceLeDiff, strA, Nat.add_assoc, beq_self_eq_true, Bool.false_eq_true, bq_ft, bq_tf, Bool.not_true, Bool.not_false, Nat.le_refl, List.map_cons, List.map_nil, isNilA, nilPtr, nilSl, nilIf, nilFn, nilMap, nilCheckA, if_true, if_false, lt_lit, le_lit, lt_lit2, le_lit2, le_sub1, le_sub2]; rfl
    apply evI_seq
    · simp only [l82, leadV, loopV1, IC.a, IC.b, I79, IC.loops, List.getD_cons_zero, eC_len, eC_take, eC_one, eC_0, eC_1, eC_2, eC_3, eC_4, eCr, eCr_0, eCr_1, eCr_2, eCr_3, eCr_4, List.length_drop, Nat.reduceSub, Nat.add_sub_cancel_left, atr, List.append_nil, List.nil_append, List.cons_append, List.getD_cons_zero, List.getD_cons_succ, evI, opsI, stepI, wantI, opI, AAct.evI, look, AAct.put, mkVal, mkVM, intOpA, intA, shiftA, unA, decide_true, decide_false, Option.map_some, Option.map_none, reduceIte, Nat.reduceEqDiff, Nat.reduceLT, Option.bind_some, Option.bind_none, true_and, and_true, and_self, Nat.zero_lt_succ, cellsAt, List.length_append, Nat.le_add_right, List.length_cons, List.length_nil, Nat.zero_add, Nat.add_zero, Nat.reduceAdd, Nat.reduceMul, Nat.zero_mul, AV.cells, AV.one, known, List.append_assoc, getE_0, getE_k, setE_0, setE_k, List.getElem?_cons_zero, List.getElem?_cons_succ, List.set_cons_zero, List.set_cons_succ, List.take_succ_cons, List.take_zero, List.drop_zero, List.drop_succ_cons, List.drop_nil, List.all_cons, List.all_nil, Bool.and_self, Bool.and_true, Bool.true_and, Bool.and_false, Bool.false_and, splice, fillI, Nat.reduceLeDiff, strA, Nat.add_assoc, beq_self_eq_true, Bool.false_eq_true, bq_ft, bq_tf, Bool.not_true, Bool.not_false, Nat.le_refl, List.map_cons, List.map_nil, isNilA, nilPtr, nilSl, nilIf, nilFn, nilMap, nilCheckA, if_true, if_false, lt_lit, le_lit, lt_lit2, le_lit2, le_sub1, le_sub2]; rfl
    rfl
  case h0 => rfl
  case h6 => rfl
  case h82 => rfl
theorem v1_lead (P : Program) (N n0 : Nat) (M : Mem) (q ty : Nat) (s : List UInt8) (hq : M[q]? = some (.row (ofBytes s) 0 ty)) (off n : Nat) (ho : off + n = s.length) (b0 : UInt8) (r : List UInt8) (hd : s.drop off = b0 :: r) (hb : 128 ≤ b0.toNat) :
    ∃ bk, (∃ t off' n', evI P (cfg ml) (evFI P (cfg ml) T N n0) N loopV1 ⟨188, [(0, .slc q off n 1 0)], []⟩ M = some (.normal, ⟨188, t, []⟩, M ++ [bk]) ∧ look t 0 = .slc q off' n' 1 0 ∧ off' + n' = s.length ∧ n' < n ∧ Lib.validD (s.drop off) = Lib.validD (s.drop off')) ∨
      (∃ t, evI P (cfg ml) (evFI P (cfg ml) T N n0) N loopV1 ⟨188, [(0, .slc q off n 1 0)], []⟩ M = some (.ret, ⟨188, t, []⟩, M ++ [bk]) ∧ look t 2 = .bool false ∧ Lib.validD (s.drop off) = false) := by
  obtain ⟨t, h0, h6, h82, t1, e1, e2⟩ := lead_pre (ml := ml) P N n0 M q ty s hq off n ho b0 r hd hb
  have hlen := congrArg List.length hd
  simp only [List.length_drop, List.length_cons] at hlen
  have hqlt : q < M.length := (List.getElem?_eq_some_iff.1 hq).1
  refine ⟨.row [.int .u8 (Lib.accLo (Lib.firstT b0.toNat / 16) : Nat), .int .u8 (Lib.accHi (Lib.firstT b0.toNat / 16) : Nat)] 0 126, ?_⟩
  have hV := Lib.validD_lead (s.drop off) (by rw [hd]; simp) (by rw [hd]; exact hb)
  have hg : (s.drop off).getD 0 0 = b0 := by rw [hd]; rfl
  rw [hg] at hV
  generalize hsz : Lib.firstT b0.toNat % 8 = sz at *
  generalize Lib.accLo (Lib.firstT b0.toNat / 16) = lo at *
  generalize Lib.accHi (Lib.firstT b0.toNat / 16) = hi at *
  have hq2 : (M ++ [Blk.row [.int .u8 (lo : Nat), .int .u8 (hi : Nat)] 0 126])[q]? = some (.row (ofBytes s) 0 ty) := by rw [List.getElem?_append_left hqlt]; exact hq
  have hid : (M ++ [Blk.row [.int .u8 (lo : Nat), .int .u8 (hi : Nat)] 0 126])[M.length]? = some (Blk.row [.int .u8 (lo : Nat), .int .u8 (hi : Nat)] 0 126) := by simp
  have hln : (s.drop off).length = n := by rw [List.length_drop]; omega
  have whole : ∀ (o : Out) (a : AAct) (H : Mem), evI P (cfg ml) (evFI P (cfg ml) T N n0) N (.block 4 c4V) ⟨188, t, []⟩ (M ++ [Blk.row [.int .u8 (lo : Nat), .int .u8 (hi : Nat)] 0 126]) = some (o, a, H) → (o = .normal ∨ o = .ret) → evI P (cfg ml) (evFI P (cfg ml) T N n0) N loopV1 ⟨188, [(0, .slc q off n 1 0)], []⟩ M = some (o, a, H) := by
    intro o a H h ho
    rw [v1_split]
    apply evI_seq e1
    rcases ho with rfl | rfl
    · exact evI_block (e2.trans h)
    · exact evI_block_ret (e2.trans h)
  have fin : ∀ (j : Nat) (t2 : List (Nat × AV)), look t2 0 = .slc q off n 1 0 → look t2 6 = .ptr M.length 0 0 → True := fun _ _ _ _ => trivial
  by_cases e : sz = 2
  · subst e
    have b2 : (((2 : Nat) : Int) == 2) = true := rfl
    have pre : ∃ t2, look t2 0 = .slc q off n 1 0 ∧ look t2 6 = .ptr M.length 0 0 ∧ look t2 83 = .bool true ∧ evI P (cfg ml) (evFI P (cfg ml) T N n0) N c4V.a ⟨188, t, []⟩ (M ++ [Blk.row [.int .u8 (lo : Nat), .int .u8 (hi : Nat)] 0 126]) = some (.normal, ⟨188, t2, []⟩, M ++ [Blk.row [.int .u8 (lo : Nat), .int .u8 (hi : Nat)] 0 126]) :=
      ⟨(83, .bool true) :: (84, .bool true) :: t, h0, h6, rfl, by simp only [c4V, leadV, loopV1, IC.a, IC.b, I79, IC.loops, List.getD_cons_zero, h82, b2, eC_len, eC_take, eC_one, eC_0, eC_1, eC_2, eC_3, eC_4, eCr, eCr_0, eCr_1, eCr_2, eCr_3, eCr_4, List.length_drop, Nat.reduceSub, Nat.add_sub_cancel_left, atr, List.append_nil, List.nil_append, List.cons_append, List.getD_cons_zero, List.getD_cons_succ, evI, opsI, stepI, wantI, opI, AAct.evI, look, AAct.put, mkVal, mkVM, intOpA, intA, shiftA, unA, decide_true, decide_false, Option.map_some, Option.map_none, reduceIte, Nat.reduceEqDiff, Nat.reduceLT, Option.bind_some, Option.bind_none, true_and, and_true, and_self, Nat.zero_lt_succ, cellsAt, List.length_append, Nat.le_add_right, List.length_cons, List.length_nil, Nat.zero_add, Nat.add_zero, Nat.reduceAdd, Nat.reduceMul, Nat.zero_mul, AV.cells, AV.one, known, List.append_assoc, getE_0, getE_k, setE_0, setE_k, List.getElem?_cons_zero, List.getElem?_cons_succ, List.set_cons_zero, List.set_cons_succ, List.take_succ_cons, List.take_zero, List.drop_zero, List.drop_succ_cons, List.drop_nil, List.all_cons, List.all_nil, Bool.and_self, Bool.and_true, Bool.true_and, Bool.and_false, Bool.false_and, splice, fillI, Nat.reduceLeDiff, strA, Nat.add_assoc, beq_self_eq_true, Bool.false_eq_true, bq_ft, bq_tf, Bool.not_true, Bool.not_false, Nat.le_refl, List.map_cons, List.map_nil, isNilA, nilPtr, nilSl, nilIf, nilFn, nilMap, nilCheckA, if_true, if_false, lt_lit, le_lit, lt_lit2, le_lit2, le_sub1, le_sub2]⟩
    obtain ⟨t2, h20, h26, h83, e3⟩ := pre
    have hc := chk2_eq (ml := ml) P N n0 _ q M.length ty 126 s hq2 off n _ rfl hln lo hi hid t2 h20 h26
    cases hk : Lib.checkN (s.drop off).length ((s.drop off).getD 1 0).toNat ((s.drop off).getD 2 0).toNat ((s.drop off).getD 3 0).toNat 2 lo hi with
    | none =>
      rw [hk] at hc hV
      obtain ⟨t', he, ht⟩ := hc
      exact .inr ⟨t', whole _ _ _ (evI_block_ret (by rw [c4_split]; exact evI_seq e3 (evI_true h83 he))) (.inr rfl), ht, hV⟩
    | some j =>
      rw [hk] at hc hV
      obtain ⟨t', he, ht, hj, hj0⟩ := hc
      exact .inl ⟨t', off + j, n - j, whole _ _ _ (evI_block (by rw [c4_split]; exact evI_seq e3 (evI_true h83 he))) (.inl rfl), ht, by omega, by omega, by rw [hV, ← List.drop_drop]⟩
  by_cases e' : sz = 3
  · subst e'
    have b2 : (((3 : Nat) : Int) == 2) = false := rfl
    have b3 : (((3 : Nat) : Int) == 3) = true := rfl
    have pre : ∃ t2, look t2 0 = .slc q off n 1 0 ∧ look t2 6 = .ptr M.length 0 0 ∧ look t2 106 = .bool true ∧ ∀ R, evI P (cfg ml) (evFI P (cfg ml) T N n0) N chk3 ⟨188, t2, []⟩ (M ++ [Blk.row [.int .u8 (lo : Nat), .int .u8 (hi : Nat)] 0 126]) = R → evI P (cfg ml) (evFI P (cfg ml) T N n0) N c4V ⟨188, t, []⟩ (M ++ [Blk.row [.int .u8 (lo : Nat), .int .u8 (hi : Nat)] 0 126]) = R :=
      ⟨(106, .bool true) :: (107, .bool true) :: (83, .bool false) :: (84, .bool false) :: t, h0, h6, rfl, fun R hR => by
        rw [c4_split]
        apply evI_seq
        · simp only [c4V, leadV, loopV1, IC.a, IC.b, I79, IC.loops, List.getD_cons_zero, h82, b2, eC_len, eC_take, eC_one, eC_0, eC_1, eC_2, eC_3, eC_4, eCr, eCr_0, eCr_1, eCr_2, eCr_3, eCr_4, List.length_drop, Nat.reduceSub, Nat.add_sub_cancel_left, atr, List.append_nil, List.nil_append, List.cons_append, List.getD_cons_zero, List.getD_cons_succ, evI, opsI, stepI, wantI, opI, AAct.evI, look, AAct.put, mkVal, mkVM, intOpA, intA, shiftA, unA, decide_true, decide_false, Option.map_some, Option.map_none, reduceIte, Nat.reduceEqDiff, Nat.reduceLT, Option.bind_some, Option.bind_none, true_and, and_true, and_self, Nat.zero_lt_succ, cellsAt, List.length_append, Nat.le_add_right, List.length_cons, List.length_nil, Nat.zero_add, Nat.add_zero, Nat.reduceAdd, Nat.reduceMul, Nat.zero_mul, AV.cells, AV.one, known, List.append_assoc, getE_0, getE_k, setE_0, setE_k, List.getElem?_cons_zero, List.getElem?_cons_succ, List.set_cons_zero, List.set_cons_succ, List.take_succ_cons, List.take_zero, List.drop_zero, List.drop_succ_cons, List.drop_nil, List.all_cons, List.all_nil, Bool.and_self, Bool.and_true, Bool.true_and, Bool.and_false, Bool.false_and, splice, fillI, Nat.reduceLeDiff, strA, Nat.add_assoc, beq_self_eq_true, Bool.false_eq_true, bq_ft, bq_tf, Bool.not_true, Bool.not_false, Nat.le_refl, List.map_cons, List.map_nil, isNilA, nilPtr, nilSl, nilIf, nilFn, nilMap, nilCheckA, if_true, if_false, lt_lit, le_lit, lt_lit2, le_lit2, le_sub1, le_sub2]; rfl
        apply evI_false rfl
        apply evI_seq
        · simp only [l107, sizeV, leadV, loopV1, IC.a, IC.b, I79, IC.loops, List.getD_cons_zero, h82, b3, eC_len, eC_take, eC_one, eC_0, eC_1, eC_2, eC_3, eC_4, eCr, eCr_0, eCr_1, eCr_2, eCr_3, eCr_4, List.length_drop, Nat.reduceSub, Nat.add_sub_cancel_left, atr, List.append_nil, List.nil_append, List.cons_append, List.getD_cons_zero, List.getD_cons_succ, evI, opsI, stepI, wantI, opI, AAct.evI, look, AAct.put, mkVal, mkVM, intOpA, intA, shiftA, unA, decide_true, decide_false, Option.map_some, Option.map_none, reduceIte, Nat.reduceEqDiff, Nat.reduceLT, Option.bind_some, Option.bind_none, true_and, and_true, and_self, Nat.zero_lt_succ, cellsAt, List.length_append, Nat.le_add_right, List.length_cons, List.length_nil, Nat.zero_add, Nat.add_zero, Nat.reduceAdd, Nat.reduceMul, Nat.zero_mul, AV.cells, AV.one, known, List.append_assoc, getE_0, getE_k, setE_0, setE_k, List.getElem?_cons_zero, List.getElem?_cons_succ, List.set_cons_zero, List.set_cons_succ, List.take_succ_cons, List.take_zero, List.drop_zero, List.drop_succ_cons, List.drop_nil, List.all_cons, List.all_nil, Bool.and_self, Bool.and_true, Bool.true_and, Bool.and_false, Bool.false_and, splice, fillI, Nat.reduceLeDiff, strA, Nat.add_assoc, beq_self_eq_true, Bool.false_eq_true, bq_ft, bq_tf, Bool.not_true, Bool.not_false, Nat.le_refl, List.map_cons, List.map_nil, isNilA, nilPtr, nilSl, nilIf, nilFn, nilMap, nilCheckA, if_true, if_false, lt_lit, le_lit, lt_lit2, le_lit2, le_sub1, le_sub2]; rfl
        exact evI_true rfl hR⟩
    obtain ⟨t2, h20, h26, h83, e3⟩ := pre
    have hc := chk3_eq (ml := ml) P N n0 _ q M.length ty 126 s hq2 off n _ rfl hln lo hi hid t2 h20 h26
    cases hk : Lib.checkN (s.drop off).length ((s.drop off).getD 1 0).toNat ((s.drop off).getD 2 0).toNat ((s.drop off).getD 3 0).toNat 3 lo hi with
    | none =>
      rw [hk] at hc hV
      obtain ⟨t', he, ht⟩ := hc
      exact .inr ⟨t', whole _ _ _ (evI_block_ret (e3 _ he)) (.inr rfl), ht, hV⟩
    | some j =>
      rw [hk] at hc hV
      obtain ⟨t', he, ht, hj, hj0⟩ := hc
      exact .inl ⟨t', off + j, n - j, whole _ _ _ (evI_block (e3 _ he)) (.inl rfl), ht, by omega, by omega, by rw [hV, ← List.drop_drop]⟩
  by_cases e'' : sz = 4
  · subst e''
    have b2 : (((4 : Nat) : Int) == 2) = false := rfl
    have b3 : (((4 : Nat) : Int) == 3) = false := rfl
    have b4 : (((4 : Nat) : Int) == 4) = true := rfl
    have pre : ∃ t2, look t2 0 = .slc q off n 1 0 ∧ look t2 6 = .ptr M.length 0 0 ∧ look t2 141 = .bool true ∧ ∀ R, evI P (cfg ml) (evFI P (cfg ml) T N n0) N chk4 ⟨188, t2, []⟩ (M ++ [Blk.row [.int .u8 (lo : Nat), .int .u8 (hi : Nat)] 0 126]) = R → evI P (cfg ml) (evFI P (cfg ml) T N n0) N c4V ⟨188, t, []⟩ (M ++ [Blk.row [.int .u8 (lo : Nat), .int .u8 (hi : Nat)] 0 126]) = R :=
      ⟨(141, .bool true) :: (142, .bool true) :: (106, .bool false) :: (107, .bool false) :: (83, .bool false) :: (84, .bool false) :: t, h0, h6, rfl, fun R hR => by
        rw [c4_split]
        apply evI_seq
        · simp only [c4V, leadV, loopV1, IC.a, IC.b, I79, IC.loops, List.getD_cons_zero, h82, b2, eC_len, eC_take, eC_one, eC_0, eC_1, eC_2, eC_3, eC_4, eCr, eCr_0, eCr_1, eCr_2, eCr_3, eCr_4, List.length_drop, Nat.reduceSub, Nat.add_sub_cancel_left, atr, List.append_nil, List.nil_append, List.cons_append, List.getD_cons_zero, List.getD_cons_succ, evI, opsI, stepI, wantI, opI, AAct.evI, look, AAct.put, mkVal, mkVM, intOpA, intA, shiftA, unA, decide_true, decide_false, Option.map_some, Option.map_none, reduceIte, Nat.reduceEqDiff, Nat.reduceLT, Option.bind_some, Option.bind_none, true_and, and_true, and_self, Nat.zero_lt_succ, cellsAt, List.length_append, Nat.le_add_right, List.length_cons, List.length_nil, Nat.zero_add, Nat.add_zero, Nat.reduceAdd, Nat.reduceMul, Nat.zero_mul, AV.cells, AV.one, known, List.append_assoc, getE_0, getE_k, setE_0, setE_k, List.getElem?_cons_zero, List.getElem?_cons_succ, List.set_cons_zero, List.set_cons_succ, List.take_succ_cons, List.take_zero, List.drop_zero, List.drop_succ_cons, List.drop_nil, List.all_cons, List.all_nil, Bool.and_self, Bool.and_true, Bool.true_and, Bool.and_false, Bool.false_and, splice, fillI, Nat.reduceLeDiff, strA, Nat.add_assoc, beq_self_eq_true, Bool.false_eq_true, bq_ft, bq_tf, Bool.not_true, Bool.not_false, Nat.le_refl, List.map_cons, List.map_nil, isNilA, nilPtr, nilSl, nilIf, nilFn, nilMap, nilCheckA, if_true, if_false, lt_lit, le_lit, lt_lit2, le_lit2, le_sub1, le_sub2]; rfl
        apply evI_false rfl
        apply evI_seq
        · simp only [l107, sizeV, leadV, loopV1, IC.a, IC.b, I79, IC.loops, List.getD_cons_zero, h82, b3, eC_len, eC_take, eC_one, eC_0, eC_1, eC_2, eC_3, eC_4, eCr, eCr_0, eCr_1, eCr_2, eCr_3, eCr_4, List.length_drop, Nat.reduceSub, Nat.add_sub_cancel_left, atr, List.append_nil, List.nil_append, List.cons_append, List.getD_cons_zero, List.getD_cons_succ, evI, opsI, stepI, wantI, opI, AAct.evI, look, AAct.put, mkVal, mkVM, intOpA, intA, shiftA, unA, decide_true, decide_false, Option.map_some, Option.map_none, reduceIte, Nat.reduceEqDiff, Nat.reduceLT, Option.bind_some, Option.bind_none, true_and, and_true, and_self, Nat.zero_lt_succ, cellsAt, List.length_append, Nat.le_add_right, List.length_cons, List.length_nil, Nat.zero_add, Nat.add_zero, Nat.reduceAdd, Nat.reduceMul, Nat.zero_mul, AV.cells, AV.one, known, List.append_assoc, getE_0, getE_k, setE_0, setE_k, List.getElem?_cons_zero, List.getElem?_cons_succ, List.set_cons_zero, List.set_cons_succ, List.take_succ_cons, List.take_zero, List.drop_zero, List.drop_succ_cons, List.drop_nil, List.all_cons, List.all_nil, Bool.and_self, Bool.and_true, Bool.true_and, Bool.and_false, Bool.false_and, splice, fillI, Nat.reduceLeDiff, strA, Nat.add_assoc, beq_self_eq_true, Bool.false_eq_true, bq_ft, bq_tf, Bool.not_true, Bool.not_false, Nat.le_refl, List.map_cons, List.map_nil, isNilA, nilPtr, nilSl, nilIf, nilFn, nilMap, nilCheckA, if_true, if_false, lt_lit, le_lit, lt_lit2, le_lit2, le_sub1, le_sub2]; rfl
        apply evI_false rfl
        apply evI_seq
        · simp only [l142, sizeV, leadV, loopV1, IC.a, IC.b, I79, IC.loops, List.getD_cons_zero, h82, b4, eC_len, eC_take, eC_one, eC_0, eC_1, eC_2, eC_3, eC_4, eCr, eCr_0, eCr_1, eCr_2, eCr_3, eCr_4, List.length_drop, Nat.reduceSub, Nat.add_sub_cancel_left, atr, List.append_nil, List.nil_append, List.cons_append, List.getD_cons_zero, List.getD_cons_succ, evI, opsI, stepI, wantI, opI, AAct.evI, look, AAct.put, mkVal, mkVM, intOpA, intA, shiftA, unA, decide_true, decide_false, Option.map_some, Option.map_none, reduceIte, Nat.reduceEqDiff, Nat.reduceLT, Option.bind_some, Option.bind_none, true_and, and_true, and_self, Nat.zero_lt_succ, cellsAt, List.length_append, Nat.le_add_right, List.length_cons, List.length_nil, Nat.zero_add, Nat.add_zero, Nat.reduceAdd, Nat.reduceMul, Nat.zero_mul, AV.cells, AV.one, known, List.append_assoc, getE_0, getE_k, setE_0, setE_k, List.getElem?_cons_zero, List.getElem?_cons_succ, List.set_cons_zero, List.set_cons_succ, List.take_succ_cons, List.take_zero, List.drop_zero, List.drop_succ_cons, List.drop_nil, List.all_cons, List.all_nil, Bool.and_self, Bool.and_true, Bool.true_and, Bool.and_false, Bool.false_and, splice, fillI, Nat.reduceLeDiff, strA, Nat.add_assoc, beq_self_eq_true, Bool.false_eq_true, bq_ft, bq_tf, Bool.not_true, Bool.not_false, Nat.le_refl, List.map_cons, List.map_nil, isNilA, nilPtr, nilSl, nilIf, nilFn, nilMap, nilCheckA, if_true, if_false, lt_lit, le_lit, lt_lit2, le_lit2, le_sub1, le_sub2]; rfl
        exact evI_true rfl hR⟩
    obtain ⟨t2, h20, h26, h83, e3⟩ := pre
    have hc := chk4_eq (ml := ml) P N n0 _ q M.length ty 126 s hq2 off n _ rfl hln lo hi hid t2 h20 h26
    cases hk : Lib.checkN (s.drop off).length ((s.drop off).getD 1 0).toNat ((s.drop off).getD 2 0).toNat ((s.drop off).getD 3 0).toNat 4 lo hi with
    | none =>
      rw [hk] at hc hV
      obtain ⟨t', he, ht⟩ := hc
      exact .inr ⟨t', whole _ _ _ (evI_block_ret (e3 _ he)) (.inr rfl), ht, hV⟩
    | some j =>
      rw [hk] at hc hV
      obtain ⟨t', he, ht, hj, hj0⟩ := hc
      exact .inl ⟨t', off + j, n - j, whole _ _ _ (evI_block (e3 _ he)) (.inl rfl), ht, by omega, by omega, by rw [hV, ← List.drop_drop]⟩
  · have b2 : ((sz : Int) == 2) = false := beq_false_of_ne (by omega)
    have b3 : ((sz : Int) == 3) = false := beq_false_of_ne (by omega)
    have b4 : ((sz : Int) == 4) = false := beq_false_of_ne (by omega)
    have hk : Lib.checkN (s.drop off).length ((s.drop off).getD 1 0).toNat ((s.drop off).getD 2 0).toNat ((s.drop off).getD 3 0).toNat sz lo hi = none := by
      simp only [Lib.checkN]; rw [if_neg e, if_neg e', if_neg e'']
    rw [hk] at hV
    refine .inr ⟨?t9, whole _ _ _ (evI_block_ret ?he9) (.inr rfl), ?ht9, hV⟩
    case he9 =>
      rw [c4_split]
      apply evI_seq
      · simp only [c4V, leadV, loopV1, IC.a, IC.b, I79, IC.loops, List.getD_cons_zero, h82, b2, eC_len, eC_take, eC_one, eC_0, eC_1, eC_2, eC_3, eC_4, eCr, eCr_0, eCr_1, eCr_2, eCr_3, eCr_4, List.length_drop, Nat.reduceSub, Nat.add_sub_cancel_left, atr, List.append_nil, List.nil_append, List.cons_append, List.getD_cons_zero, List.getD_cons_succ, evI, opsI, stepI, wantI, opI, AAct.evI, look, AAct.put, mkVal, mkVM, intOpA, intA, shiftA, unA, decide_true, decide_false, Option.map_some, Option.map_none, reduceIte, Nat.reduceEqDiff, Nat.reduceLT, Option.bind_some, Option.bind_none, true_and, and_true, and_self, Nat.zero_lt_succ, cellsAt, List.length_append, Nat.le_add_right, List.length_cons, List.length_nil, Nat.zero_add, Nat.add_zero, Nat.reduceAdd, Nat.reduceMul, Nat.zero_mul, AV.cells, AV.one, known, List.append_assoc, getE_0, getE_k, setE_0, setE_k, List.getElem?_cons_zero, List.getElem?_cons_succ, List.set_cons_zero, List.set_cons_succ, List.take_succ_cons, List.take_zero, List.drop_zero, List.drop_succ_cons, List.drop_nil, List.all_cons, List.all_nil, Bool.and_self, Bool.and_true, Bool.true_and, Bool.and_false, Bool.false_and, splice, fillI, Nat.reduceLeDiff, strA, Nat.add_assoc, beq_self_eq_true, Bool.false_eq_true, bq_ft, bq_tf, Bool.not_true, Bool.not_false, Nat.le_refl, List.map_cons, List.map_nil, isNilA, nilPtr, nilSl, nilIf, nilFn, nilMap, nilCheckA, if_true, if_false, lt_lit, le_lit, lt_lit2, le_lit2, le_sub1, le_sub2]; rfl
      apply evI_false rfl
      apply evI_seq
      · simp only [l107, sizeV, leadV, loopV1, IC.a, IC.b, I79, IC.loops, List.getD_cons_zero, h82, b3, eC_len, eC_take, eC_one, eC_0, eC_1, eC_2, eC_3, eC_4, eCr, eCr_0, eCr_1, eCr_2, eCr_3, eCr_4, List.length_drop, Nat.reduceSub, Nat.add_sub_cancel_left, atr, List.append_nil, List.nil_append, List.cons_append, List.getD_cons_zero, List.getD_cons_succ, evI, opsI, stepI, wantI, opI, AAct.evI, look, AAct.put, mkVal, mkVM, intOpA, intA, shiftA, unA, decide_true, decide_false, Option.map_some, Option.map_none, reduceIte, Nat.reduceEqDiff, Nat.reduceLT, Option.bind_some, Option.bind_none, true_and, and_true, and_self, Nat.zero_lt_succ, cellsAt, List.length_append, Nat.le_add_right, List.length_cons, List.length_nil, Nat.zero_add, Nat.add_zero, Nat.reduceAdd, Nat.reduceMul, Nat.zero_mul, AV.cells, AV.one, known, List.append_assoc, getE_0, getE_k, setE_0, setE_k, List.getElem?_cons_zero, List.getElem?_cons_succ, List.set_cons_zero, List.set_cons_succ, List.take_succ_cons, List.take_zero, List.drop_zero, List.drop_succ_cons, List.drop_nil, List.all_cons, List.all_nil, Bool.and_self, Bool.and_true, Bool.true_and, Bool.and_false, Bool.false_and, splice, fillI, Nat.reduceLeDiff, strA, Nat.add_assoc, beq_self_eq_true, Bool.false_eq_true, bq_ft, bq_tf, Bool.not_true, Bool.not_false, Nat.le_refl, List.map_cons, List.map_nil, isNilA, nilPtr, nilSl, nilIf, nilFn, nilMap, nilCheckA, if_true, if_false, lt_lit, le_lit, lt_lit2, le_lit2, le_sub1, le_sub2]; rfl
      apply evI_false rfl
      apply evI_seq
      · simp only [l142, sizeV, leadV, loopV1, IC.a, IC.b, I79, IC.loops, List.getD_cons_zero, h82, b4, eC_len, eC_take, eC_one, eC_0, eC_1, eC_2, eC_3, eC_4, eCr, eCr_0, eCr_1, eCr_2, eCr_3, eCr_4, List.length_drop, Nat.reduceSub, Nat.add_sub_cancel_left, atr, List.append_nil, List.nil_append, List.cons_append, List.getD_cons_zero, List.getD_cons_succ, evI, opsI, stepI, wantI, opI, AAct.evI, look, AAct.put, mkVal, mkVM, intOpA, intA, shiftA, unA, decide_true, decide_false, Option.map_some, Option.map_none, reduceIte, Nat.reduceEqDiff, Nat.reduceLT, Option.bind_some, Option.bind_none, true_and, and_true, and_self, Nat.zero_lt_succ, cellsAt, List.length_append, Nat.le_add_right, List.length_cons, List.length_nil, Nat.zero_add, Nat.add_zero, Nat.reduceAdd, Nat.reduceMul, Nat.zero_mul, AV.cells, AV.one, known, List.append_assoc, getE_0, getE_k, setE_0, setE_k, List.getElem?_cons_zero, List.getElem?_cons_succ, List.set_cons_zero, List.set_cons_succ, List.take_succ_cons, List.take_zero, List.drop_zero, List.drop_succ_cons, List.drop_nil, List.all_cons, List.all_nil, Bool.and_self, Bool.and_true, Bool.true_and, Bool.and_false, Bool.false_and, splice, fillI, Nat.reduceLeDiff, strA, Nat.add_assoc, beq_self_eq_true, Bool.false_eq_true, bq_ft, bq_tf, Bool.not_true, Bool.not_false, Nat.le_refl, List.map_cons, List.map_nil, isNilA, nilPtr, nilSl, nilIf, nilFn, nilMap, nilCheckA, if_true, if_false, lt_lit, le_lit, lt_lit2, le_lit2, le_sub1, le_sub2]; rfl
      apply evI_false rfl
      simp only [lbad, sizeV, leadV, loopV1, IC.a, IC.b, I79, IC.loops, List.getD_cons_zero, eC_len, eC_take, eC_one, eC_0, eC_1, eC_2, eC_3, eC_4, eCr, eCr_0, eCr_1, eCr_2, eCr_3, eCr_4, List.length_drop, Nat.reduceSub, Nat.add_sub_cancel_left, atr, List.append_nil, List.nil_append, List.cons_append, List.getD_cons_zero, List.getD_cons_succ, evI, opsI, stepI, wantI, opI, AAct.evI, look, AAct.put, mkVal, mkVM, intOpA, intA, shiftA, unA, decide_true, decide_false, Option.map_some, Option.map_none, reduceIte, Nat.reduceEqDiff, Nat.reduceLT, Option.bind_some, Option.bind_none, true_and, and_true, and_self, Nat.zero_lt_succ, cellsAt, List.length_append, Nat.le_add_right, List.length_cons, List.length_nil, Nat.zero_add, Nat.add_zero, Nat.reduceAdd, Nat.reduceMul, Nat.zero_mul, AV.cells, AV.one, known, List.append_assoc, getE_0, getE_k, setE_0, setE_k, List.getElem?_cons_zero, List.getElem?_cons_succ, List.set_cons_zero, List.set_cons_succ, List.take_succ_cons, List.take_zero, List.drop_zero, List.drop_succ_cons, List.drop_nil, List.all_cons, List.all_nil, Bool.and_self, Bool.and_true, Bool.true_and, Bool.and_false, Bool.false_and, splice, fillI, Nat.reduceLeDiff, strA, Nat.add_assoc, beq_self_eq_true, Bool.false_eq_true, bq_ft, bq_tf, Bool.not_true, Bool.not_false, Nat.le_refl, List.map_cons, List.map_nil, isNilA, nilPtr, nilSl, nilIf, nilFn, nilMap, nilCheckA, if_true, if_false, lt_lit, le_lit, lt_lit2, le_lit2, le_sub1, le_sub2]; rfl
    case ht9 => rfl
theorem v1_loop (P : Program) (N n0 : Nat) (M : Mem) (q ty : Nat) (s : List UInt8) (hN : s.length < N) (hl : s.length ≤ 1099511627776) (hq : M[q]? = some (.row (ofBytes s) 0 ty)) : ∀ (fuel off n : Nat), off + n = s.length → n < fuel →
    (Lib.validD (s.drop off) = true ∧ ∃ t, loopA (fun a H => evI P (cfg ml) (evFI P (cfg ml) T N (n0 + 1)) N loopV1 a H) (some [0]) fuel ⟨188, [(0, .slc q off n 1 0)], []⟩ M = some (.exit 0, ⟨188, t, []⟩, M)) ∨
    (Lib.validD (s.drop off) = false ∧ ∃ t bk, loopA (fun a H => evI P (cfg ml) (evFI P (cfg ml) T N (n0 + 1)) N loopV1 a H) (some [0]) fuel ⟨188, [(0, .slc q off n 1 0)], []⟩ M = some (.ret, ⟨188, t, []⟩, M ++ [bk]) ∧ look t 2 = .bool false)
  | 0, _, _, _, h => by omega
  | fuel + 1, off, n, ho, hf => by
    have hqlt : q < M.length := (List.getElem?_eq_some_iff.1 hq).1
    have re : ∀ (t : List (Nat × AV)) (off' n' : Nat) (bs : List Blk), look t 0 = .slc q off' n' 1 0 → roundEnd (some [0]) M ⟨188, t, []⟩ (M ++ bs) = (⟨188, [(0, .slc q off' n' 1 0)], []⟩, M) := by
      intro t off' n' bs ht
      simp only [roundEnd, keepT_one ht, lowT, List.all_cons, List.all_nil, low, hqlt, decide_true, lowD, mayCut, List.take_left', eqM_refl, Bool.true_or, Bool.and_true, Bool.and_self, if_true]
    cases hs : s.drop off with
    | nil =>
      have hn : n = 0 := by
        have := congrArg List.length hs
        simp only [List.length_drop, List.length_nil] at this
        omega
      subst hn
      have c0 : decide (((0 : Nat) : Int) > 0) = false := rfl
      have hx : ∃ t, evI P (cfg ml) (evFI P (cfg ml) T N (n0 + 1)) N testV ⟨188, [(0, .slc q off 0 1 0)], []⟩ M = some (.exit 0, ⟨188, t, []⟩, M) :=
        ⟨_, by simp only [testV, loopV1, IC.a, I79, IC.loops, List.getD_cons_zero, c0, eC_len, eC_take, eC_one, eC_0, eC_1, eC_2, eC_3, eC_4, eCr, eCr_0, eCr_1, eCr_2, eCr_3, eCr_4, List.length_drop, Nat.reduceSub, Nat.add_sub_cancel_left, atr, List.append_nil, List.nil_append, List.cons_append, List.getD_cons_zero, List.getD_cons_succ, evI, opsI, stepI, wantI, opI, AAct.evI, look, AAct.put, mkVal, mkVM, intOpA, intA, shiftA, unA, decide_true, decide_false, Option.map_some, Option.map_none, reduceIte, Nat.reduceEqDiff, Nat.reduceLT, Option.bind_some, Option.bind_none, true_and, and_true, and_self, Nat.zero_lt_succ, cellsAt, List.length_append, Nat.le_add_right, List.length_cons, List.length_nil, Nat.zero_add, Nat.add_zero, Nat.reduceAdd, Nat.reduceMul, Nat.zero_mul, AV.cells, AV.one, known, List.append_assoc, getE_0, getE_k, setE_0, setE_k, List.getElem?_cons_zero, List.getElem?_cons_succ, List.set_cons_zero, List.set_cons_succ, List.take_succ_cons, List.take_zero, List.drop_zero, List.drop_succ_cons, List.drop_nil, List.all_cons, List.all_nil, Bool.and_self, Bool.and_true, Bool.true_and, Bool.and_false, Bool.false_and, splice, fillI, Nat.reduceLeDiff, strA, Nat.add_assoc, beq_self_eq_true, Bool.false_eq_true, bq_ft, bq_tf, Bool.not_true, Bool.not_false, Nat.le_refl, List.map_cons, List.map_nil, isNilA, nilPtr, nilSl, nilIf, nilFn, nilMap, nilCheckA, if_true, if_false, lt_lit, le_lit, lt_lit2, le_lit2, le_sub1, le_sub2]; rfl⟩
      obtain ⟨t, hx⟩ := hx
      exact .inl ⟨rfl, t, loopA_exit (by rw [v1_split]; exact evI_seq_exit hx)⟩
    | cons b0 r =>
      rw [← hs]
      rcases Nat.lt_or_ge b0.toNat 128 with hb | hb
      · obtain ⟨t, off', n', he, ht, h1, h2, h3⟩ := v1_ascii (ml := ml) P N n0 M q ty s hN hl hq off n ho b0 r hs hb
        have hr := re t off' n' [] ht
        rw [List.append_nil] at hr
        rw [h3]
        rcases v1_loop P N n0 M q ty s hN hl hq fuel off' n' h1 (by omega) with ⟨hv, t2, h4⟩ | ⟨hv, t2, bk, h4, h5⟩
        · exact .inl ⟨hv, t2, loopA_go he (by rw [hr]; exact h4)⟩
        · exact .inr ⟨hv, t2, bk, loopA_go he (by rw [hr]; exact h4), h5⟩
      · obtain ⟨bk, ⟨t, off', n', he, ht, h1, h2, h3⟩ | ⟨t, he, ht, hv⟩⟩ := v1_lead (ml := ml) P N (n0 + 1) M q ty s hq off n ho b0 r hs hb
        · have hr := re t off' n' [bk] ht
          rw [h3]
          rcases v1_loop P N n0 M q ty s hN hl hq fuel off' n' h1 (by omega) with ⟨hv, t2, h4⟩ | ⟨hv, t2, bk, h4, h5⟩
          · exact .inl ⟨hv, t2, loopA_go he (by rw [hr]; exact h4)⟩
          · exact .inr ⟨hv, t2, bk, loopA_go he (by rw [hr]; exact h4), h5⟩
        · exact .inr ⟨hv, t, bk, loopA_ret he, ht⟩
theorem valid_eq (P : Program) (N n0 : Nat) (M : Mem) (q ty : Nat) (s : List UInt8) (hN : s.length < N) (hl : s.length ≤ 1099511627776) (hq : M[q]? = some (.row (ofBytes s) 0 ty)) :
    evFI P (cfg ml) T N (n0 + 2) 79 [.slc q 0 s.length 1 0] M = some (.ret (.bool (Lib.validD s)), M) := by
  have g0 : bound 0 none = some 0 := rfl
  have gn := natOf_nat s.length .i64
  have hh := v1_loop (ml := ml) P N n0 M q ty s hN hl hq N 0 s.length (by omega) hN
  rw [List.drop_zero] at hh
  rcases hh with ⟨hv, t, h⟩ | ⟨hv, t, bk, h, h2⟩
  · rw [hv]
    refine evF_ret (m := 188) (v := .bool true) (a := ?aa) (H1 := ?Ha) rfl t79 rfl ?hb ?hd ?hr ?hz
    case hb =>
      apply evI_seq
      · simp only [List.length_cons, List.length_nil, idx, I79, eC_len, eC_take, eC_one, eC_0, eC_1, eC_2, eC_3, eC_4, eCr, eCr_0, eCr_1, eCr_2, eCr_3, eCr_4, List.length_drop, Nat.reduceSub, Nat.add_sub_cancel_left, atr, List.append_nil, List.nil_append, List.cons_append, List.getD_cons_zero, List.getD_cons_succ, evI, opsI, stepI, wantI, opI, AAct.evI, look, AAct.put, mkVal, mkVM, intOpA, intA, shiftA, unA, decide_true, decide_false, Option.map_some, Option.map_none, reduceIte, Nat.reduceEqDiff, Nat.reduceLT, Option.bind_some, Option.bind_none, true_and, and_true, and_self, Nat.zero_lt_succ, cellsAt, List.length_append, Nat.le_add_right, List.length_cons, List.length_nil, Nat.zero_add, Nat.add_zero, Nat.reduceAdd, Nat.reduceMul, Nat.zero_mul, AV.cells, AV.one, known, List.append_assoc, getE_0, getE_k, setE_0, setE_k, List.getElem?_cons_zero, List.getElem?_cons_succ, List.set_cons_zero, List.set_cons_succ, List.take_succ_cons, List.take_zero, List.drop_zero, List.drop_succ_cons, List.drop_nil, List.all_cons, List.all_nil, Bool.and_self, Bool.and_true, Bool.true_and, Bool.and_false, Bool.false_and, splice, fillI, Nat.reduceLeDiff, strA, Nat.add_assoc, beq_self_eq_true, Bool.false_eq_true, bq_ft, bq_tf, Bool.not_true, Bool.not_false, Nat.le_refl, List.map_cons, List.map_nil, isNilA, nilPtr, nilSl, nilIf, nilFn, nilMap, nilCheckA, if_true, if_false, lt_lit, le_lit, lt_lit2, le_lit2, le_sub1, le_sub2]; rfl
      apply evI_seq
      · simp only [gn, g0, cut3D, Nat.sub_zero, Nat.zero_le, eC_len, eC_take, eC_one, eC_0, eC_1, eC_2, eC_3, eC_4, eCr, eCr_0, eCr_1, eCr_2, eCr_3, eCr_4, List.length_drop, Nat.reduceSub, Nat.add_sub_cancel_left, atr, List.append_nil, List.nil_append, List.cons_append, List.getD_cons_zero, List.getD_cons_succ, evI, opsI, stepI, wantI, opI, AAct.evI, look, AAct.put, mkVal, mkVM, intOpA, intA, shiftA, unA, decide_true, decide_false, Option.map_some, Option.map_none, reduceIte, Nat.reduceEqDiff, Nat.reduceLT, Option.bind_some, Option.bind_none, true_and, and_true, and_self, Nat.zero_lt_succ, cellsAt, List.length_append, Nat.le_add_right, List.length_cons, List.length_nil, Nat.zero_add, Nat.add_zero, Nat.reduceAdd, Nat.reduceMul, Nat.zero_mul, AV.cells, AV.one, known, List.append_assoc, getE_0, getE_k, setE_0, setE_k, List.getElem?_cons_zero, List.getElem?_cons_succ, List.set_cons_zero, List.set_cons_succ, List.take_succ_cons, List.take_zero, List.drop_zero, List.drop_succ_cons, List.drop_nil, List.all_cons, List.all_nil, Bool.and_self, Bool.and_true, Bool.true_and, Bool.and_false, Bool.false_and, splice, fillI, Nat.reduceLeDiff, strA, Nat.add_assoc, beq_self_eq_true, Bool.false_eq_true, bq_ft, bq_tf, Bool.not_true, Bool.not_false, Nat.le_refl, List.map_cons, List.map_nil, isNilA, nilPtr, nilSl, nilIf, nilFn, nilMap, nilCheckA, if_true, if_false, lt_lit, le_lit, lt_lit2, le_lit2, le_sub1, le_sub2]; rfl
      apply evI_seq
      · apply evI_block_exit
        apply evI_loop
        rw [keepT_one (v := .slc q 0 s.length 1 0) rfl]
        exact h
      simp only [eC_len, eC_take, eC_one, eC_0, eC_1, eC_2, eC_3, eC_4, eCr, eCr_0, eCr_1, eCr_2, eCr_3, eCr_4, List.length_drop, Nat.reduceSub, Nat.add_sub_cancel_left, atr, List.append_nil, List.nil_append, List.cons_append, List.getD_cons_zero, List.getD_cons_succ, evI, opsI, stepI, wantI, opI, AAct.evI, look, AAct.put, mkVal, mkVM, intOpA, intA, shiftA, unA, decide_true, decide_false, Option.map_some, Option.map_none, reduceIte, Nat.reduceEqDiff, Nat.reduceLT, Option.bind_some, Option.bind_none, true_and, and_true, and_self, Nat.zero_lt_succ, cellsAt, List.length_append, Nat.le_add_right, List.length_cons, List.length_nil, Nat.zero_add, Nat.add_zero, Nat.reduceAdd, Nat.reduceMul, Nat.zero_mul, AV.cells, AV.one, known, List.append_assoc, getE_0, getE_k, setE_0, setE_k, List.getElem?_cons_zero, List.getElem?_cons_succ, List.set_cons_zero, List.set_cons_succ, List.take_succ_cons, List.take_zero, List.drop_zero, List.drop_succ_cons, List.drop_nil, List.all_cons, List.all_nil, Bool.and_self, Bool.and_true, Bool.true_and, Bool.and_false, Bool.false_and, splice, fillI, Nat.reduceLeDiff, strA, Nat.add_assoc, beq_self_eq_true, Bool.false_eq_true, bq_ft, bq_tf, Bool.not_true, Bool.not_false, Nat.le_refl, List.map_cons, List.map_nil, isNilA, nilPtr, nilSl, nilIf, nilFn, nilMap, nilCheckA, if_true, if_false, lt_lit, le_lit, lt_lit2, le_lit2, le_sub1, le_sub2]; rfl
    case hd => rfl
    case hr => simp only [I79, resI, resLI, look, reduceIte, Nat.reduceEqDiff, Option.map_some]
    case hz => simp only [finish, finish, cfg, keep, Bool.false_eq_true, if_false, frz, frzL, eC_low, kC_low, atsC_low, low, lowL, decide_true, Option.map_some, roundEnd, AAct.keepT, List.map_cons, List.map_nil, look, reduceIte, Nat.reduceEqDiff, lowT, List.all_cons, List.all_nil, low, lowL, lowD, mayCut, List.length_append, List.length_cons, List.length_nil, Nat.zero_add, Nat.reduceAdd, takeS, takeE_0, takeE_k, List.take_succ_cons, List.take_zero, eqM_app, eqM_refl, Bool.true_or, Bool.and_self, Bool.and_true, Bool.true_and, decide_true, Nat.lt_succ_self, Nat.lt_add_right_iff_pos, Nat.add_lt_add_iff_left, Nat.reduceLT, if_true, lt_k, List.append_assoc, List.cons_append, List.nil_append]
  · rw [hv]
    refine evF_ret (m := 188) (v := .bool false) (a := ?ab) (H1 := ?Hb) rfl t79 rfl ?hb ?hd ?hr ?hz
    case hb =>
      apply evI_seq
      · simp only [List.length_cons, List.length_nil, idx, I79, eC_len, eC_take, eC_one, eC_0, eC_1, eC_2, eC_3, eC_4, eCr, eCr_0, eCr_1, eCr_2, eCr_3, eCr_4, List.length_drop, Nat.reduceSub, Nat.add_sub_cancel_left, atr, List.append_nil, List.nil_append, List.cons_append, List.getD_cons_zero, List.getD_cons_succ, evI, opsI, stepI, wantI, opI, AAct.evI, look, AAct.put, mkVal, mkVM, intOpA, intA, shiftA, unA, decide_true, decide_false, Option.map_some, Option.map_none, reduceIte, Nat.reduceEqDiff, Nat.reduceLT, Option.bind_some, Option.bind_none, true_and, and_true, and_self, Nat.zero_lt_succ, cellsAt, List.length_append, Nat.le_add_right, List.length_cons, List.length_nil, Nat.zero_add, Nat.add_zero, Nat.reduceAdd, Nat.reduceMul, Nat.zero_mul, AV.cells, AV.one, known, List.append_assoc, getE_0, getE_k, setE_0, setE_k, List.getElem?_cons_zero, List.getElem?_cons_succ, List.set_cons_zero, List.set_cons_succ, List.take_succ_cons, List.take_zero, List.drop_zero, List.drop_succ_cons, List.drop_nil, List.all_cons, List.all_nil, Bool.and_self, Bool.and_true, Bool.true_and, Bool.and_false, Bool.false_and, splice, fillI, Nat.reduceLeDiff, strA, Nat.add_assoc, beq_self_eq_true, Bool.false_eq_true, bq_ft, bq_tf, Bool.not_true, Bool.not_false, Nat.le_refl, List.map_cons, List.map_nil, isNilA, nilPtr, nilSl, nilIf, nilFn, nilMap, nilCheckA, if_true, if_false, lt_lit, le_lit, lt_lit2, le_lit2, le_sub1, le_sub2]; rfl
      apply evI_seq
      · simp only [gn, g0, cut3D, Nat.sub_zero, Nat.zero_le, eC_len, eC_take, eC_one, eC_0, eC_1, eC_2, eC_3, eC_4, eCr, eCr_0, eCr_1, eCr_2, eCr_3, eCr_4, List.length_drop, Nat.reduceSub, Nat.add_sub_cancel_left, atr, List.append_nil, List.nil_append, List.cons_append, List.getD_cons_zero, List.getD_cons_succ, evI, opsI, stepI, wantI, opI, AAct.evI, look, AAct.put, mkVal, mkVM, intOpA, intA, shiftA, unA, decide_true, decide_false, Option.map_some, Option.map_none, reduceIte, Nat.reduceEqDiff, Nat.reduceLT, Option.bind_some, Option.bind_none, true_and, and_true, and_self, Nat.zero_lt_succ, cellsAt, List.length_append, Nat.le_add_right, List.length_cons, List.length_nil, Nat.zero_add, Nat.add_zero, Nat.reduceAdd, Nat.reduceMul, Nat.zero_mul, AV.cells, AV.one, known, List.append_assoc, getE_0, getE_k, setE_0, setE_k, List.getElem?_cons_zero, List.getElem?_cons_succ, List.set_cons_zero, List.set_cons_succ, List.take_succ_cons, List.take_zero, List.drop_zero, List.drop_succ_cons, List.drop_nil, List.all_cons, List.all_nil, Bool.and_self, Bool.and_true, Bool.true_and, Bool.and_false, Bool.false_and, splice, fillI, Nat.reduceLeDiff, strA, Nat.add_assoc, beq_self_eq_true, Bool.false_eq_true, bq_ft, bq_tf, Bool.not_true, Bool.not_false, Nat.le_refl, List.map_cons, List.map_nil, isNilA, nilPtr, nilSl, nilIf, nilFn, nilMap, nilCheckA, if_true, if_false, lt_lit, le_lit, lt_lit2, le_lit2, le_sub1, le_sub2]; rfl
      apply evI_seq_ret
      · apply evI_block_ret
        apply evI_loop
        rw [keepT_one (v := .slc q 0 s.length 1 0) rfl]
        exact h
    case hd => rfl
    case hr => simp only [I79, resI, resLI, h2, look, reduceIte, Nat.reduceEqDiff, Option.map_some]
    case hz => simp only [finish, finish, cfg, keep, Bool.false_eq_true, if_false, frz, frzL, eC_low, kC_low, atsC_low, low, lowL, decide_true, Option.map_some, roundEnd, AAct.keepT, List.map_cons, List.map_nil, look, reduceIte, Nat.reduceEqDiff, lowT, List.all_cons, List.all_nil, low, lowL, lowD, mayCut, List.length_append, List.length_cons, List.length_nil, Nat.zero_add, Nat.reduceAdd, takeS, takeE_0, takeE_k, List.take_succ_cons, List.take_zero, eqM_app, eqM_refl, Bool.true_or, Bool.and_self, Bool.and_true, Bool.true_and, decide_true, Nat.lt_succ_self, Nat.lt_add_right_iff_pos, Nat.add_lt_add_iff_left, Nat.reduceLT, if_true, lt_k, List.append_assoc, List.cons_append, List.nil_append]
theorem uvalid_eq (P : Program) (N n0 : Nat) (M : Mem) (q ty : Nat) (s : List UInt8) (hN : s.length < N) (hl : s.length ≤ 1099511627776) (hq : M[q]? = some (.row (ofBytes s) 0 ty)) :
    evFI P (cfg ml) T N (n0 + 3) 47 [.slc q 0 s.length 1 0] M = some (.ret (.bool (Lib.validD s)), M) := by
  have h := valid_eq (ml := ml) P N n0 M q ty s hN hl hq
  generalize Lib.validD s = v at *
  refine evF_ret (m := 5) (v := .bool v) (a := ?aa) (H1 := ?Ha) rfl t47 rfl ?hb ?hd ?hr ?hz
  case hb => simp only [List.length_cons, List.length_nil, idx, I47, h, eC_len, eC_take, eC_one, eC_0, eC_1, eC_2, eC_3, eC_4, eCr, eCr_0, eCr_1, eCr_2, eCr_3, eCr_4, List.length_drop, Nat.reduceSub, Nat.add_sub_cancel_left, atr, List.append_nil, List.nil_append, List.cons_append, List.getD_cons_zero, List.getD_cons_succ, evI, opsI, stepI, wantI, opI, AAct.evI, look, AAct.put, mkVal, mkVM, intOpA, intA, shiftA, unA, decide_true, decide_false, Option.map_some, Option.map_none, reduceIte, Nat.reduceEqDiff, Nat.reduceLT, Option.bind_some, Option.bind_none, true_and, and_true, and_self, Nat.zero_lt_succ, cellsAt, List.length_append, Nat.le_add_right, List.length_cons, List.length_nil, Nat.zero_add, Nat.add_zero, Nat.reduceAdd, Nat.reduceMul, Nat.zero_mul, AV.cells, AV.one, known, List.append_assoc, getE_0, getE_k, setE_0, setE_k, List.getElem?_cons_zero, List.getElem?_cons_succ, List.set_cons_zero, List.set_cons_succ, List.take_succ_cons, List.take_zero, List.drop_zero, List.drop_succ_cons, List.drop_nil, List.all_cons, List.all_nil, Bool.and_self, Bool.and_true, Bool.true_and, Bool.and_false, Bool.false_and, splice, fillI, Nat.reduceLeDiff, strA, Nat.add_assoc, beq_self_eq_true, Bool.false_eq_true, bq_ft, bq_tf, Bool.not_true, Bool.not_false, Nat.le_refl, List.map_cons, List.map_nil, isNilA, nilPtr, nilSl, nilIf, nilFn, nilMap, nilCheckA, if_true, if_false, lt_lit, le_lit, lt_lit2, le_lit2, le_sub1, le_sub2]; rfl
  case hd => rfl
  case hr => simp only [I47, resI, resLI, look, reduceIte, Nat.reduceEqDiff, Option.map_some]
  case hz => simp only [finish, finish, cfg, keep, Bool.false_eq_true, if_false, frz, frzL, eC_low, kC_low, atsC_low, low, lowL, decide_true, Option.map_some, roundEnd, AAct.keepT, List.map_cons, List.map_nil, look, reduceIte, Nat.reduceEqDiff, lowT, List.all_cons, List.all_nil, low, lowL, lowD, mayCut, List.length_append, List.length_cons, List.length_nil, Nat.zero_add, Nat.reduceAdd, takeS, takeE_0, takeE_k, List.take_succ_cons, List.take_zero, eqM_app, eqM_refl, Bool.true_or, Bool.and_self, Bool.and_true, Bool.true_and, decide_true, Nat.lt_succ_self, Nat.lt_add_right_iff_pos, Nat.add_lt_add_iff_left, Nat.reduceLT, if_true, lt_k, List.append_assoc, List.cons_append, List.nil_append]
end Go.Proofs.YtmnajffpmbidiaaGreatDoor.Ev
