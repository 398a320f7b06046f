/- Parts of one proof, one behind the other: utf8.word over bytes: reckoned with letters. -/
import Derived.Test.YtmnajffpmbidiaaGreatDoorMdi
/- utf8.word over bytes: reckoned with letters. -/
namespace Go.Proofs.YtmnajffpmbidiaaGreatDoor.Ev
set_option linter.all false
variable {ml : Int}
open Go.Proofs.YtmnajffpmbidiaaGreatDoor.Ic
set_option maxRecDepth 100000
set_option maxHeartbeats 4000000
set_option linter.unusedSimpArgs false
theorem wrapU {n : Nat} (h : n < 18446744073709551616) : IntKind.wrap .u64 (n : Int) = (n : Int) := by
  simp [IntKind.wrap, IntKind.bits, IntKind.signed]
  omega
theorem or64 {x y k : Nat} (hx : x < 2 ^ k) (hy : x + y * 2 ^ k < 18446744073709551616) : IntKind.wrap .u64 ((BitVec.ofInt (IntKind.bits .u64) (x : Int) ||| BitVec.ofInt (IntKind.bits .u64) ((y * 2 ^ k : Nat) : Int)).toNat : Int) = ((x + y * 2 ^ k : Nat) : Int) := by
  have e : (BitVec.ofInt (IntKind.bits .u64) (x : Int) ||| BitVec.ofInt (IntKind.bits .u64) ((y * 2 ^ k : Nat) : Int)).toNat = x + y * 2 ^ k := by
    rw [BitVec.ofInt_natCast, BitVec.ofInt_natCast, BitVec.toNat_or, BitVec.toNat_ofNat, BitVec.toNat_ofNat]
    have e1 : x % 2 ^ (IntKind.bits .u64) = x := Nat.mod_eq_of_lt (by simp [IntKind.bits]; omega)
    have e2 : y * 2 ^ k % 2 ^ (IntKind.bits .u64) = y * 2 ^ k := Nat.mod_eq_of_lt (by simp [IntKind.bits]; omega)
    rw [e1, e2, Nat.or_comm, Nat.mul_comm, ← Nat.two_pow_add_eq_or_of_lt hx y, Nat.add_comm]
  rw [e, wrapU hy]
theorem bytes_at {s r : List UInt8} {off : Nat} {b : UInt8} (h : s.drop off = b :: r) : ((ofBytes s).drop off).take 1 = [.int .u8 b.toNat] ∧ off + 1 ≤ (ofBytes s).length ∧ s.drop (off + 1) = r := by
  refine ⟨by unfold ofBytes; rw [← List.map_drop, h]; rfl, ?_, by rw [← List.drop_drop, h]; rfl⟩
  have := congrArg List.length h
  simp only [List.length_drop, List.length_cons] at this
  unfold ofBytes
  rw [List.length_map]; omega
theorem word_eq (P : Program) (N n0 : Nat) (M : Mem) (q off n : Nat) (ty : Nat) (s r : List UInt8) (b0 b1 b2 b3 b4 b5 b6 b7 : UInt8) (hs : s.drop off = b0 :: b1 :: b2 :: b3 :: b4 :: b5 :: b6 :: b7 :: r) (hq : M[q]? = some (.row (ofBytes s) 0 ty)) (hn : 8 ≤ n) :
    evFI P (cfg ml) T N (n0 + 1) 102 [.slc q off n 1 0] M = some (.ret (.int .u64 (Lib.leNat [b0, b1, b2, b3, b4, b5, b6, b7] : Nat)), M) := by
  obtain ⟨d0, l0, z0⟩ := bytes_at hs
  obtain ⟨d1, l1, z1⟩ := bytes_at z0
  obtain ⟨d2, l2, z2⟩ := bytes_at z1
  obtain ⟨d3, l3, z3⟩ := bytes_at z2
  obtain ⟨d4, l4, z4⟩ := bytes_at z3
  obtain ⟨d5, l5, z5⟩ := bytes_at z4
  obtain ⟨d6, l6, z6⟩ := bytes_at z5
  obtain ⟨d7, l7, z7⟩ := bytes_at z6
  simp only [Nat.add_assoc, Nat.reduceAdd] at d1 l1
  simp only [Nat.add_assoc, Nat.reduceAdd] at d2 l2
  simp only [Nat.add_assoc, Nat.reduceAdd] at d3 l3
  simp only [Nat.add_assoc, Nat.reduceAdd] at d4 l4
  simp only [Nat.add_assoc, Nat.reduceAdd] at d5 l5
  simp only [Nat.add_assoc, Nat.reduceAdd] at d6 l6
  simp only [Nat.add_assoc, Nat.reduceAdd] at d7 l7
  have h0 := b0.toNat_lt
  have i0 : 0 < n := by omega
  have n0 : natOf (.int .i64 0) = some 0 := rfl
  have c0 : IntKind.wrap .u64 (b0.toNat : Int) = (b0.toNat : Int) := wrapU (by omega)
  have h1 := b1.toNat_lt
  have i1 : 1 < n := by omega
  have n1 : natOf (.int .i64 1) = some 1 := rfl
  have c1 : IntKind.wrap .u64 (b1.toNat : Int) = (b1.toNat : Int) := wrapU (by omega)
  have h2 := b2.toNat_lt
  have i2 : 2 < n := by omega
  have n2 : natOf (.int .i64 2) = some 2 := rfl
  have c2 : IntKind.wrap .u64 (b2.toNat : Int) = (b2.toNat : Int) := wrapU (by omega)
  have h3 := b3.toNat_lt
  have i3 : 3 < n := by omega
  have n3 : natOf (.int .i64 3) = some 3 := rfl
  have c3 : IntKind.wrap .u64 (b3.toNat : Int) = (b3.toNat : Int) := wrapU (by omega)
  have h4 := b4.toNat_lt
  have i4 : 4 < n := by omega
  have n4 : natOf (.int .i64 4) = some 4 := rfl
  have c4 : IntKind.wrap .u64 (b4.toNat : Int) = (b4.toNat : Int) := wrapU (by omega)
  have h5 := b5.toNat_lt
  have i5 : 5 < n := by omega
  have n5 : natOf (.int .i64 5) = some 5 := rfl
  have c5 : IntKind.wrap .u64 (b5.toNat : Int) = (b5.toNat : Int) := wrapU (by omega)
  have h6 := b6.toNat_lt
  have i6 : 6 < n := by omega
  have n6 : natOf (.int .i64 6) = some 6 := rfl
  have c6 : IntKind.wrap .u64 (b6.toNat : Int) = (b6.toNat : Int) := wrapU (by omega)
  have h7 := b7.toNat_lt
  have i7 : 7 < n := by omega
  have n7 : natOf (.int .i64 7) = some 7 := rfl
  have c7 : IntKind.wrap .u64 (b7.toNat : Int) = (b7.toNat : Int) := wrapU (by omega)
  have s1 : IntKind.wrap .u64 ((b1.toNat : Int) * 2 ^ min (Int.toNat 8) (IntKind.bits .u64)) = ((b1.toNat * 2 ^ 8 : Nat) : Int) := by
    have e : ((b1.toNat : Int) * 2 ^ min (Int.toNat 8) (IntKind.bits .u64)) = ((b1.toNat * 2 ^ 8 : Nat) : Int) := by
      have : min (Int.toNat 8) (IntKind.bits .u64) = 8 := rfl
      rw [this]; omega
    rw [e, wrapU (by omega)]
  have o1 := or64 (x := b0.toNat) (y := b1.toNat) (k := 8) (by omega) (by omega)
  obtain ⟨x1, e1⟩ : ∃ x, b0.toNat + b1.toNat * 2 ^ 8 = x := ⟨_, rfl⟩
  rw [e1] at o1
  have s2 : IntKind.wrap .u64 ((b2.toNat : Int) * 2 ^ min (Int.toNat 16) (IntKind.bits .u64)) = ((b2.toNat * 2 ^ 16 : Nat) : Int) := by
    have e : ((b2.toNat : Int) * 2 ^ min (Int.toNat 16) (IntKind.bits .u64)) = ((b2.toNat * 2 ^ 16 : Nat) : Int) := by
      have : min (Int.toNat 16) (IntKind.bits .u64) = 16 := rfl
      rw [this]; omega
    rw [e, wrapU (by omega)]
  have o2 := or64 (x := x1) (y := b2.toNat) (k := 16) (by omega) (by omega)
  obtain ⟨x2, e2⟩ : ∃ x, x1 + b2.toNat * 2 ^ 16 = x := ⟨_, rfl⟩
  rw [e2] at o2
  have s3 : IntKind.wrap .u64 ((b3.toNat : Int) * 2 ^ min (Int.toNat 24) (IntKind.bits .u64)) = ((b3.toNat * 2 ^ 24 : Nat) : Int) := by
    have e : ((b3.toNat : Int) * 2 ^ min (Int.toNat 24) (IntKind.bits .u64)) = ((b3.toNat * 2 ^ 24 : Nat) : Int) := by
      have : min (Int.toNat 24) (IntKind.bits .u64) = 24 := rfl
      rw [this]; omega
    rw [e, wrapU (by omega)]
  have o3 := or64 (x := x2) (y := b3.toNat) (k := 24) (by omega) (by omega)
  obtain ⟨x3, e3⟩ : ∃ x, x2 + b3.toNat * 2 ^ 24 = x := ⟨_, rfl⟩
  rw [e3] at o3
  have s4 : IntKind.wrap .u64 ((b4.toNat : Int) * 2 ^ min (Int.toNat 32) (IntKind.bits .u64)) = ((b4.toNat * 2 ^ 32 : Nat) : Int) := by
    have e : ((b4.toNat : Int) * 2 ^ min (Int.toNat 32) (IntKind.bits .u64)) = ((b4.toNat * 2 ^ 32 : Nat) : Int) := by
      have : min (Int.toNat 32) (IntKind.bits .u64) = 32 := rfl
      rw [this]; omega
    rw [e, wrapU (by omega)]
  have o4 := or64 (x := x3) (y := b4.toNat) (k := 32) (by omega) (by omega)
  obtain ⟨x4, e4⟩ : ∃ x, x3 + b4.toNat * 2 ^ 32 = x := ⟨_, rfl⟩
  rw [e4] at o4
  have s5 : IntKind.wrap .u64 ((b5.toNat : Int) * 2 ^ min (Int.toNat 40) (IntKind.bits .u64)) = ((b5.toNat * 2 ^ 40 : Nat) : Int) := by
    have e : ((b5.toNat : Int) * 2 ^ min (Int.toNat 40) (IntKind.bits .u64)) = ((b5.toNat * 2 ^ 40 : Nat) : Int) := by
      have : min (Int.toNat 40) (IntKind.bits .u64) = 40 := rfl
      rw [this]; omega
    rw [e, wrapU (by omega)]
  have o5 := or64 (x := x4) (y := b5.toNat) (k := 40) (by omega) (by omega)
  obtain ⟨x5, e5⟩ : ∃ x, x4 + b5.toNat * 2 ^ 40 = x := ⟨_, rfl⟩
  rw [e5] at o5
  have s6 : IntKind.wrap .u64 ((b6.toNat : Int) * 2 ^ min (Int.toNat 48) (IntKind.bits .u64)) = ((b6.toNat * 2 ^ 48 : Nat) : Int) := by
    have e : ((b6.toNat : Int) * 2 ^ min (Int.toNat 48) (IntKind.bits .u64)) = ((b6.toNat * 2 ^ 48 : Nat) : Int) := by
      have : min (Int.toNat 48) (IntKind.bits .u64) = 48 := rfl
      rw [this]; omega
    rw [e, wrapU (by omega)]
  have o6 := or64 (x := x5) (y := b6.toNat) (k := 48) (by omega) (by omega)
  obtain ⟨x6, e6⟩ : ∃ x, x5 + b6.toNat * 2 ^ 48 = x := ⟨_, rfl⟩
  rw [e6] at o6
  have s7 : IntKind.wrap .u64 ((b7.toNat : Int) * 2 ^ min (Int.toNat 56) (IntKind.bits .u64)) = ((b7.toNat * 2 ^ 56 : Nat) : Int) := by
    have e : ((b7.toNat : Int) * 2 ^ min (Int.toNat 56) (IntKind.bits .u64)) = ((b7.toNat * 2 ^ 56 : Nat) : Int) := by
      have : min (Int.toNat 56) (IntKind.bits .u64) = 56 := rfl
      rw [this]; omega
    rw [e, wrapU (by omega)]
  have o7 := or64 (x := x6) (y := b7.toNat) (k := 56) (by omega) (by omega)
  obtain ⟨x7, e7⟩ : ∃ x, x6 + b7.toNat * 2 ^ 56 = x := ⟨_, rfl⟩
  rw [e7] at o7
  have et : Lib.leNat [b0, b1, b2, b3, b4, b5, b6, b7] = x7 := by simp only [Lib.leNat]; omega
  have w1 : ((8 : Int) < 0) = False := by simp
  have w2 : ((16 : Int) < 0) = False := by simp
  have w3 : ((24 : Int) < 0) = False := by simp
  have w4 : ((32 : Int) < 0) = False := by simp
  have w5 : ((40 : Int) < 0) = False := by simp
  have w6 : ((48 : Int) < 0) = False := by simp
  have w7 : ((56 : Int) < 0) = False := by simp
  rw [et]
  refine evF_ret (m := 71) (v := .int .u64 (x7 : Int)) (a := ?aa) (H1 := ?Ha) rfl t102 rfl ?hb ?hd ?hr ?hz
  case hb =>
    simp only [List.length_cons, List.length_nil, idx, I102, hq, d0, l0, i0, n0, c0, d1, l1, i1, n1, c1, d2, l2, i2, n2, c2, d3, l3, i3, n3, c3, d4, l4, i4, n4, c4, d5, l5, i5, n5, c5, d6, l6, i6, n6, c6, d7, l7, i7, n7, c7, s1, o1, s2, o2, s3, o3, s4, o4, s5, o5, s6, o6, s7, o7, w1, w2, w3, w4, w5, w6, w7, eC_len, eC_take, eC_one, eC_0, eC_1, eC_2, eC_3, eC_4, eCr, eCr_0, eCr_1, eCr_2, eCr_3, eCr_4, List.length_drop, Nat.reduceSub, Nat.add_sub_cancel_left, atr, List.append_nil, List.nil_append, List.cons_append, List.getD_cons_zero, List.getD_cons_succ, evI, opsI, stepI, wantI, opI, AAct.evI, look, AAct.put, mkVal, mkVM, intOpA, intA, shiftA, unA, decide_true, decide_false, Option.map_some, Option.map_none, reduceIte, Nat.reduceEqDiff, Nat.reduceLT, Option.bind_some, Option.bind_none, true_and, and_true, and_self, Nat.zero_lt_succ, cellsAt, List.length_append, Nat.le_add_right, List.length_cons, List.length_nil, Nat.zero_add, Nat.add_zero, Nat.reduceAdd, Nat.reduceMul, Nat.zero_mul, AV.cells, AV.one, known, List.append_assoc, getE_0, getE_k, setE_0, setE_k, List.getElem?_cons_zero, List.getElem?_cons_succ, List.set_cons_zero, List.set_cons_succ, List.take_succ_cons, List.take_zero, List.drop_zero, List.drop_succ_cons, List.drop_nil, List.all_cons, List.all_nil, Bool.and_self, Bool.and_true, Bool.true_and, Bool.and_false, Bool.false_and, splice, fillI, Nat.reduceLeDiff, strA, Nat.add_assoc, beq_self_eq_true, Bool.false_eq_true, bq_ft, bq_tf, Bool.not_true, Bool.not_false, Nat.le_refl, List.map_cons, List.map_nil, isNilA, nilPtr, nilSl, nilIf, nilFn, nilMap, nilCheckA, if_true, if_false, lt_lit, le_lit, lt_lit2, le_lit2, le_sub1, le_sub2, drawI, drawI2, lexD, valD, valI, putD, okD, roD, memAt, lastM, wantI, eqv_refl, eqM_refl, eqM_app, eqB, eqvL, eqv, List.getLast?_cons_cons, List.getLast?_singleton, Option.getD_some, Bool.or_true, Bool.true_or, beq_self_eq_true, resvV]; rfl
  case hd => rfl
  case hr => simp only [I102, resI, resLI, List.append_nil, List.nil_append, List.cons_append, List.getD_cons_zero, List.getD_cons_succ, evI, opsI, stepI, wantI, opI, AAct.evI, look, AAct.put, mkVal, mkVM, intOpA, intA, shiftA, unA, decide_true, decide_false, Option.map_some, Option.map_none, reduceIte, Nat.reduceEqDiff, Nat.reduceLT, Option.bind_some, Option.bind_none, true_and, and_true, and_self, Nat.zero_lt_succ, cellsAt, List.length_append, Nat.le_add_right, List.length_cons, List.length_nil, Nat.zero_add, Nat.add_zero, Nat.reduceAdd, Nat.reduceMul, Nat.zero_mul, AV.cells, AV.one, known, List.append_assoc, getE_0, getE_k, setE_0, setE_k, List.getElem?_cons_zero, List.getElem?_cons_succ, List.set_cons_zero, List.set_cons_succ, List.take_succ_cons, List.take_zero, List.drop_zero, List.drop_succ_cons, List.drop_nil, List.all_cons, List.all_nil, Bool.and_self, Bool.and_true, Bool.true_and, Bool.and_false, Bool.false_and, splice, fillI, Nat.reduceLeDiff, strA, Nat.add_assoc, beq_self_eq_true, Bool.false_eq_true, bq_ft, bq_tf, Bool.not_true, Bool.not_false, Nat.le_refl, List.map_cons, List.map_nil, isNilA, nilPtr, nilSl, nilIf, nilFn, nilMap, nilCheckA, if_true, if_false, lt_lit, le_lit, lt_lit2, le_lit2, le_sub1, le_sub2]
  case hz => simp only [finish, finish, cfg, keep, Bool.false_eq_true, if_false, frz, frzL, eC_low, kC_low, atsC_low, low, lowL, decide_true, Option.map_some, roundEnd, AAct.keepT, List.map_cons, List.map_nil, look, reduceIte, Nat.reduceEqDiff, lowT, List.all_cons, List.all_nil, low, lowL, lowD, mayCut, List.length_append, List.length_cons, List.length_nil, Nat.zero_add, Nat.reduceAdd, takeS, takeE_0, takeE_k, List.take_succ_cons, List.take_zero, eqM_app, eqM_refl, Bool.true_or, Bool.and_self, Bool.and_true, Bool.true_and, decide_true, Nat.lt_succ_self, Nat.lt_add_right_iff_pos, Nat.add_lt_add_iff_left, Nat.reduceLT, if_true, lt_k, List.append_assoc, List.cons_append, List.nil_append]
end Go.Proofs.YtmnajffpmbidiaaGreatDoor.Ev
