/- Parts of one proof. -/
import Derived.Test.YtmnajffpmbidiaaGreatDoorMdj
set_option linter.all false
namespace Go.Proofs.YtmnajffpmbidiaaGreatDoor.Ev
variable {ml : Int}
open Go.Proofs.YtmnajffpmbidiaaGreatDoor.Ic
set_option maxRecDepth 100000
set_option maxHeartbeats 2000000
section
variable {P : Program} {N : Nat}
variable (s : List UInt8) (many : Nat) (A B : Mem) (hs : s.length < 4294967281)
include hs
theorem upto_eq (at_ : Nat) (e : List UInt8) (i : Nat) (hi : Lib.index (s.drop at_) e = (i : Int)) (hle : at_ + i + e.length ≤ s.length) (d : Nat) (hd : 2 ≤ d) :
    evFI P (cfg ml) T N d 61 [.ptr A.length 0 0, .str e] (A ++ rdr s at_ many :: B) = some (.ret (.str ((s.drop at_).take i)), A ++ rdr s (at_ + (i + e.length)) many :: B) := by
  obtain ⟨n, rfl⟩ : ∃ n, d = n + 2 := ⟨d - 2, by omega⟩
  have hlib : evFI P (cfg ml) T N (n + 1) 82 [.str (s.drop at_), .str e] (A ++ rdr s at_ many :: B) = some (.ret (.int .i64 (i : Int)), A ++ rdr s at_ many :: B) := by
    have hl : (cfg ml).lib 82 = some idxLib := rfl
    have hlen : (s.drop at_).length < 4294967281 := by rw [List.length_drop]; omega
    simp only [evFI, hl, idxLib, hlen, if_true, Option.map_some, hi]
  have hn := natOf_nat at_ .i64
  have hn2 := natOf_nat (at_ + i) .i64
  have hat : at_ ≤ s.length := by omega
  have htk : (s.drop at_).take (s.length - at_) = s.drop at_ := List.take_of_length_le (by rw [List.length_drop]; omega)
  have hge : decide ((i : Int) ≥ 0) = true := decide_eq_true (by omega)
  have hM := fun H => must_t (P := P) (N := N) (ml := ml) (n + 1) (by omega) 10 H
  have w1 : IntKind.wrap .i64 ((at_ : Int) + (i : Int)) = ((at_ + i : Nat) : Int) := by rw [wrap64] <;> omega
  have w2 : IntKind.wrap .i64 ((i : Int) + (e.length : Int)) = ((i + e.length : Nat) : Int) := by rw [wrap64] <;> omega
  have w3 : IntKind.wrap .i64 ((at_ : Int) + ((i + e.length : Nat) : Int)) = ((at_ + (i + e.length) : Nat) : Int) := by rw [wrap64] <;> omega
  have h1 : at_ ≤ at_ + i := by omega
  have h2 : at_ + i ≤ s.length := by omega
  have h4 : at_ + i - at_ = i := by omega
  simp only [rdr] at hlib
  refine evF_ret (m := 48) (v := .str ((s.drop at_).take i)) (a := ?aa) (H1 := A ++ rdr s (at_ + (i + e.length)) many :: B) rfl t61 rfl ?hb ?hd ?hr ?hz
  case hb =>
    apply evI_seq
    · simp only [List.length_cons, List.length_nil, idx, I61, List.append_nil, List.nil_append, List.cons_append, List.getD_cons_zero, List.getD_cons_succ, evI, opsI, stepI, wantI, opI, AAct.evI, look, AAct.put, mkVal, mkVM, intOpA, intA, shiftA, unA, decide_true, decide_false, Option.map_some, Option.map_none, reduceIte, Nat.reduceEqDiff, Nat.reduceLT, Option.bind_some, Option.bind_none, true_and, and_true, and_self, Nat.zero_lt_succ, cellsAt, List.length_append, Nat.le_add_right, List.length_cons, List.length_nil, Nat.zero_add, Nat.add_zero, Nat.reduceAdd, Nat.reduceMul, Nat.zero_mul, AV.cells, AV.one, known, List.append_assoc, getE_0, getE_k, setE_0, setE_k, List.getElem?_cons_zero, List.getElem?_cons_succ, List.set_cons_zero, List.set_cons_succ, List.take_succ_cons, List.take_zero, List.drop_zero, List.drop_succ_cons, List.drop_nil, List.all_cons, List.all_nil, Bool.and_self, Bool.and_true, Bool.true_and, Bool.and_false, Bool.false_and, splice, fillI, Nat.reduceLeDiff, strA, Nat.add_assoc, beq_self_eq_true, Bool.false_eq_true, bq_ft, bq_tf, Bool.not_true, Bool.not_false, Nat.le_refl, List.map_cons, List.map_nil, isNilA, nilPtr, nilSl, nilIf, nilFn, nilMap, nilCheckA, if_true, if_false, lt_lit, le_lit, lt_lit2, le_lit2, le_sub1, le_sub2]; rfl
    apply evI_seq
    · simp only [rdr, bound, hn, hat, htk, hlib, List.append_nil, List.nil_append, List.cons_append, List.getD_cons_zero, List.getD_cons_succ, evI, opsI, stepI, wantI, opI, AAct.evI, look, AAct.put, mkVal, mkVM, intOpA, intA, shiftA, unA, decide_true, decide_false, Option.map_some, Option.map_none, reduceIte, Nat.reduceEqDiff, Nat.reduceLT, Option.bind_some, Option.bind_none, true_and, and_true, and_self, Nat.zero_lt_succ, cellsAt, List.length_append, Nat.le_add_right, List.length_cons, List.length_nil, Nat.zero_add, Nat.add_zero, Nat.reduceAdd, Nat.reduceMul, Nat.zero_mul, AV.cells, AV.one, known, List.append_assoc, getE_0, getE_k, setE_0, setE_k, List.getElem?_cons_zero, List.getElem?_cons_succ, List.set_cons_zero, List.set_cons_succ, List.take_succ_cons, List.take_zero, List.drop_zero, List.drop_succ_cons, List.drop_nil, List.all_cons, List.all_nil, Bool.and_self, Bool.and_true, Bool.true_and, Bool.and_false, Bool.false_and, splice, fillI, Nat.reduceLeDiff, strA, Nat.add_assoc, beq_self_eq_true, Bool.false_eq_true, bq_ft, bq_tf, Bool.not_true, Bool.not_false, Nat.le_refl, List.map_cons, List.map_nil, isNilA, nilPtr, nilSl, nilIf, nilFn, nilMap, nilCheckA, if_true, if_false, lt_lit, le_lit, lt_lit2, le_lit2, le_sub1, le_sub2, drawI, drawI2, drawI0, drawI20, lexD, valD, valI, putD, okD, roD, memAt, lastM, wantI, eqv_refl, eqM_refl, eqM_app, eqB, eqvL, eqv, List.getLast?_cons_cons, List.getLast?_singleton, Option.getD_some, Bool.or_true, Bool.true_or, beq_self_eq_true, resvV]; rfl
    apply evI_seq
    · simp only [hge, hM, List.append_nil, List.nil_append, List.cons_append, List.getD_cons_zero, List.getD_cons_succ, evI, opsI, stepI, wantI, opI, AAct.evI, look, AAct.put, mkVal, mkVM, intOpA, intA, shiftA, unA, decide_true, decide_false, Option.map_some, Option.map_none, reduceIte, Nat.reduceEqDiff, Nat.reduceLT, Option.bind_some, Option.bind_none, true_and, and_true, and_self, Nat.zero_lt_succ, cellsAt, List.length_append, Nat.le_add_right, List.length_cons, List.length_nil, Nat.zero_add, Nat.add_zero, Nat.reduceAdd, Nat.reduceMul, Nat.zero_mul, AV.cells, AV.one, known, List.append_assoc, getE_0, getE_k, setE_0, setE_k, List.getElem?_cons_zero, List.getElem?_cons_succ, List.set_cons_zero, List.set_cons_succ, List.take_succ_cons, List.take_zero, List.drop_zero, List.drop_succ_cons, List.drop_nil, List.all_cons, List.all_nil, Bool.and_self, Bool.and_true, Bool.true_and, Bool.and_false, Bool.false_and, splice, fillI, Nat.reduceLeDiff, strA, Nat.add_assoc, beq_self_eq_true, Bool.false_eq_true, bq_ft, bq_tf, Bool.not_true, Bool.not_false, Nat.le_refl, List.map_cons, List.map_nil, isNilA, nilPtr, nilSl, nilIf, nilFn, nilMap, nilCheckA, if_true, if_false, lt_lit, le_lit, lt_lit2, le_lit2, le_sub1, le_sub2]; rfl
    apply evI_seq
    · simp only [rdr, bound, hn, hn2, w1, h1, h2, h4, List.append_nil, List.nil_append, List.cons_append, List.getD_cons_zero, List.getD_cons_succ, evI, opsI, stepI, wantI, opI, AAct.evI, look, AAct.put, mkVal, mkVM, intOpA, intA, shiftA, unA, decide_true, decide_false, Option.map_some, Option.map_none, reduceIte, Nat.reduceEqDiff, Nat.reduceLT, Option.bind_some, Option.bind_none, true_and, and_true, and_self, Nat.zero_lt_succ, cellsAt, List.length_append, Nat.le_add_right, List.length_cons, List.length_nil, Nat.zero_add, Nat.add_zero, Nat.reduceAdd, Nat.reduceMul, Nat.zero_mul, AV.cells, AV.one, known, List.append_assoc, getE_0, getE_k, setE_0, setE_k, List.getElem?_cons_zero, List.getElem?_cons_succ, List.set_cons_zero, List.set_cons_succ, List.take_succ_cons, List.take_zero, List.drop_zero, List.drop_succ_cons, List.drop_nil, List.all_cons, List.all_nil, Bool.and_self, Bool.and_true, Bool.true_and, Bool.and_false, Bool.false_and, splice, fillI, Nat.reduceLeDiff, strA, Nat.add_assoc, beq_self_eq_true, Bool.false_eq_true, bq_ft, bq_tf, Bool.not_true, Bool.not_false, Nat.le_refl, List.map_cons, List.map_nil, isNilA, nilPtr, nilSl, nilIf, nilFn, nilMap, nilCheckA, if_true, if_false, lt_lit, le_lit, lt_lit2, le_lit2, le_sub1, le_sub2, drawI, drawI2, drawI0, drawI20, lexD, valD, valI, putD, okD, roD, memAt, lastM, wantI, eqv_refl, eqM_refl, eqM_app, eqB, eqvL, eqv, List.getLast?_cons_cons, List.getLast?_singleton, Option.getD_some, Bool.or_true, Bool.true_or, beq_self_eq_true, resvV]; rfl
    apply evI_seq (H' := A ++ rdr s (at_ + (i + e.length)) many :: B)
    · simp only [rdr, w2, w3, List.append_nil, List.nil_append, List.cons_append, List.getD_cons_zero, List.getD_cons_succ, evI, opsI, stepI, wantI, opI, AAct.evI, look, AAct.put, mkVal, mkVM, intOpA, intA, shiftA, unA, decide_true, decide_false, Option.map_some, Option.map_none, reduceIte, Nat.reduceEqDiff, Nat.reduceLT, Option.bind_some, Option.bind_none, true_and, and_true, and_self, Nat.zero_lt_succ, cellsAt, List.length_append, Nat.le_add_right, List.length_cons, List.length_nil, Nat.zero_add, Nat.add_zero, Nat.reduceAdd, Nat.reduceMul, Nat.zero_mul, AV.cells, AV.one, known, List.append_assoc, getE_0, getE_k, setE_0, setE_k, List.getElem?_cons_zero, List.getElem?_cons_succ, List.set_cons_zero, List.set_cons_succ, List.take_succ_cons, List.take_zero, List.drop_zero, List.drop_succ_cons, List.drop_nil, List.all_cons, List.all_nil, Bool.and_self, Bool.and_true, Bool.true_and, Bool.and_false, Bool.false_and, splice, fillI, Nat.reduceLeDiff, strA, Nat.add_assoc, beq_self_eq_true, Bool.false_eq_true, bq_ft, bq_tf, Bool.not_true, Bool.not_false, Nat.le_refl, List.map_cons, List.map_nil, isNilA, nilPtr, nilSl, nilIf, nilFn, nilMap, nilCheckA, if_true, if_false, lt_lit, le_lit, lt_lit2, le_lit2, le_sub1, le_sub2]; rfl
    apply evI_seq
    · simp only [List.append_nil, List.nil_append, List.cons_append, List.getD_cons_zero, List.getD_cons_succ, evI, opsI, stepI, wantI, opI, AAct.evI, look, AAct.put, mkVal, mkVM, intOpA, intA, shiftA, unA, decide_true, decide_false, Option.map_some, Option.map_none, reduceIte, Nat.reduceEqDiff, Nat.reduceLT, Option.bind_some, Option.bind_none, true_and, and_true, and_self, Nat.zero_lt_succ, cellsAt, List.length_append, Nat.le_add_right, List.length_cons, List.length_nil, Nat.zero_add, Nat.add_zero, Nat.reduceAdd, Nat.reduceMul, Nat.zero_mul, AV.cells, AV.one, known, List.append_assoc, getE_0, getE_k, setE_0, setE_k, List.getElem?_cons_zero, List.getElem?_cons_succ, List.set_cons_zero, List.set_cons_succ, List.take_succ_cons, List.take_zero, List.drop_zero, List.drop_succ_cons, List.drop_nil, List.all_cons, List.all_nil, Bool.and_self, Bool.and_true, Bool.true_and, Bool.and_false, Bool.false_and, splice, fillI, Nat.reduceLeDiff, strA, Nat.add_assoc, beq_self_eq_true, Bool.false_eq_true, bq_ft, bq_tf, Bool.not_true, Bool.not_false, Nat.le_refl, List.map_cons, List.map_nil, isNilA, nilPtr, nilSl, nilIf, nilFn, nilMap, nilCheckA, if_true, if_false, lt_lit, le_lit, lt_lit2, le_lit2, le_sub1, le_sub2]; rfl
    rfl
  case hd => rfl
  case hr => simp only [I61, resI, resLI, look, reduceIte, Nat.reduceEqDiff, Option.map_some]
  case hz => exact fin_len rfl (by simp)
theorem remark_eq (at_ : Nat) (u : List UInt8) (hd0 : s.drop at_ = 60 :: 33 :: 45 :: 45 :: u) (i : Nat) (hi : Lib.index u [45, 45] = (i : Int)) (v : List UInt8) (hv : u.drop (i + 2) = 62 :: v) (d : Nat) (hd : 6 ≤ d) :
    evFI P (cfg ml) T N d 63 [.ptr A.length 0 0] (A ++ rdr s at_ many :: B) = some (.ret (.tup []), A ++ rdr s (at_ + (i + 7)) many :: B) := by
  obtain ⟨n, rfl⟩ : ∃ n, d = n + 6 := ⟨d - 6, by omega⟩
  have d4 : s.drop (at_ + 4) = u := drop_one (drop_one (drop_one (drop_one hd0)))
  have d6 : s.drop (at_ + 4 + (i + 2)) = 62 :: v := by rw [← hv, ← d4, List.drop_drop]
  have hlt : at_ + 4 + (i + 2) < s.length := (List.getElem?_eq_some_iff.1 (get_at d6)).1
  have q1 := wants_t (P := P) (N := N) (ml := ml) s at_ many A B hs (by omega) (n + 5) (by omega) [60, 33, 45, 45] (by rw [hd0]; simp [hasP])
  have q2 := upto_eq (P := P) (N := N) (ml := ml) s many A B hs (at_ + 4) [45, 45] i (by rw [d4]; exact hi) (by simp; omega) (n + 5) (by omega)
  have q3 := wants_t (P := P) (N := N) (ml := ml) s (at_ + 4 + (i + 2)) many A B hs (by omega) (n + 5) (by omega) [62] (by rw [d6]; simp [hasP])
  rw [show at_ + (i + 7) = at_ + 4 + (i + 2) + 1 by omega]
  simp only [List.length_cons, List.length_nil, Nat.zero_add, Nat.reduceAdd] at q1 q2 q3
  generalize at_ + 4 + (i + 2) = at6 at *
  generalize at_ + 4 = at4 at *
  refine evF_nrm (m := 8) (v := .tup []) (a := ?aa) (H1 := A ++ rdr s (at6 + 1) many :: B) rfl t63 rfl ?hb ?hd ?hr ?hz
  case hb =>
    apply evI_seq
    · simp only [List.length_cons, List.length_nil, idx, I63, q1, List.append_nil, List.nil_append, List.cons_append, List.getD_cons_zero, List.getD_cons_succ, evI, opsI, stepI, wantI, opI, AAct.evI, look, AAct.put, mkVal, mkVM, intOpA, intA, shiftA, unA, decide_true, decide_false, Option.map_some, Option.map_none, reduceIte, Nat.reduceEqDiff, Nat.reduceLT, Option.bind_some, Option.bind_none, true_and, and_true, and_self, Nat.zero_lt_succ, cellsAt, List.length_append, Nat.le_add_right, List.length_cons, List.length_nil, Nat.zero_add, Nat.add_zero, Nat.reduceAdd, Nat.reduceMul, Nat.zero_mul, AV.cells, AV.one, known, List.append_assoc, getE_0, getE_k, setE_0, setE_k, List.getElem?_cons_zero, List.getElem?_cons_succ, List.set_cons_zero, List.set_cons_succ, List.take_succ_cons, List.take_zero, List.drop_zero, List.drop_succ_cons, List.drop_nil, List.all_cons, List.all_nil, Bool.and_self, Bool.and_true, Bool.true_and, Bool.and_false, Bool.false_and, splice, fillI, Nat.reduceLeDiff, strA, Nat.add_assoc, beq_self_eq_true, Bool.false_eq_true, bq_ft, bq_tf, Bool.not_true, Bool.not_false, Nat.le_refl, List.map_cons, List.map_nil, isNilA, nilPtr, nilSl, nilIf, nilFn, nilMap, nilCheckA, if_true, if_false, lt_lit, le_lit, lt_lit2, le_lit2, le_sub1, le_sub2]; rfl
    apply evI_seq
    · simp only [q2, List.append_nil, List.nil_append, List.cons_append, List.getD_cons_zero, List.getD_cons_succ, evI, opsI, stepI, wantI, opI, AAct.evI, look, AAct.put, mkVal, mkVM, intOpA, intA, shiftA, unA, decide_true, decide_false, Option.map_some, Option.map_none, reduceIte, Nat.reduceEqDiff, Nat.reduceLT, Option.bind_some, Option.bind_none, true_and, and_true, and_self, Nat.zero_lt_succ, cellsAt, List.length_append, Nat.le_add_right, List.length_cons, List.length_nil, Nat.zero_add, Nat.add_zero, Nat.reduceAdd, Nat.reduceMul, Nat.zero_mul, AV.cells, AV.one, known, List.append_assoc, getE_0, getE_k, setE_0, setE_k, List.getElem?_cons_zero, List.getElem?_cons_succ, List.set_cons_zero, List.set_cons_succ, List.take_succ_cons, List.take_zero, List.drop_zero, List.drop_succ_cons, List.drop_nil, List.all_cons, List.all_nil, Bool.and_self, Bool.and_true, Bool.true_and, Bool.and_false, Bool.false_and, splice, fillI, Nat.reduceLeDiff, strA, Nat.add_assoc, beq_self_eq_true, Bool.false_eq_true, bq_ft, bq_tf, Bool.not_true, Bool.not_false, Nat.le_refl, List.map_cons, List.map_nil, isNilA, nilPtr, nilSl, nilIf, nilFn, nilMap, nilCheckA, if_true, if_false, lt_lit, le_lit, lt_lit2, le_lit2, le_sub1, le_sub2]; rfl
    simp only [q3, List.append_nil, List.nil_append, List.cons_append, List.getD_cons_zero, List.getD_cons_succ, evI, opsI, stepI, wantI, opI, AAct.evI, look, AAct.put, mkVal, mkVM, intOpA, intA, shiftA, unA, decide_true, decide_false, Option.map_some, Option.map_none, reduceIte, Nat.reduceEqDiff, Nat.reduceLT, Option.bind_some, Option.bind_none, true_and, and_true, and_self, Nat.zero_lt_succ, cellsAt, List.length_append, Nat.le_add_right, List.length_cons, List.length_nil, Nat.zero_add, Nat.add_zero, Nat.reduceAdd, Nat.reduceMul, Nat.zero_mul, AV.cells, AV.one, known, List.append_assoc, getE_0, getE_k, setE_0, setE_k, List.getElem?_cons_zero, List.getElem?_cons_succ, List.set_cons_zero, List.set_cons_succ, List.take_succ_cons, List.take_zero, List.drop_zero, List.drop_succ_cons, List.drop_nil, List.all_cons, List.all_nil, Bool.and_self, Bool.and_true, Bool.true_and, Bool.and_false, Bool.false_and, splice, fillI, Nat.reduceLeDiff, strA, Nat.add_assoc, beq_self_eq_true, Bool.false_eq_true, bq_ft, bq_tf, Bool.not_true, Bool.not_false, Nat.le_refl, List.map_cons, List.map_nil, isNilA, nilPtr, nilSl, nilIf, nilFn, nilMap, nilCheckA, if_true, if_false, lt_lit, le_lit, lt_lit2, le_lit2, le_sub1, le_sub2]; rfl
  case hd => rfl
  case hr => simp only [I63, resI, resLI, look, reduceIte, Nat.reduceEqDiff, Option.map_some]
  case hz => exact fin_len rfl (by simp)
theorem fold_p (n : Nat) (H : Mem) : evFI P (cfg ml) T N (n + 1) 58 [.str [112], .str [120, 109, 108]] H = some (.ret (.bool false), H) := by
  have hl : (cfg ml).lib 58 = some foldLib := rfl
  simp only [evFI, hl, foldLib]
  rfl
theorem instr_short (hN : s.length < N) (at_ : Nat) (r : List UInt8) (hd0 : s.drop at_ = 60 :: 63 :: 112 :: 63 :: 62 :: r) (d : Nat) (hd : 6 ≤ d) :
    evFI P (cfg ml) T N d 36 [.ptr A.length 0 0, .bool false] (A ++ rdr s at_ many :: B) = some (.ret (.tup []), A ++ rdr s (at_ + 5) many :: B) := by
  obtain ⟨n, rfl⟩ : ∃ n, d = n + 6 := ⟨d - 6, by omega⟩
  have d2 : s.drop (at_ + 2) = 112 :: 63 :: 62 :: r := drop_one (drop_one hd0)
  have d3 : s.drop (at_ + 2 + 1) = 63 :: 62 :: r := drop_one d2
  have hlt : at_ + 2 + 1 < s.length := (List.getElem?_eq_some_iff.1 (get_at d3)).1
  have q1 := wants_t (P := P) (N := N) (ml := ml) s at_ many A B hs (by omega) (n + 5) (by omega) [60, 63] (by rw [hd0]; simp [hasP])
  have q2 := name_eq (P := P) (N := N) (ml := ml) s many A B hs hN (at_ + 2) 112 (get_at d2) (by decide) (n + 5) (by omega)
  rw [show nmN (s.drop (at_ + 2)) = 1 by rw [d2]; rfl, show (s.drop (at_ + 2)).take 1 = [112] by rw [d2]; rfl] at q2
  have q3 := fun H => fold_p (P := P) (N := N) (ml := ml) s hs (n + 4) H
  have q4 := fun H => must_t (P := P) (N := N) (ml := ml) (n + 5) (by omega) 10 H
  have q5 := take_t (P := P) (N := N) (ml := ml) s (at_ + 2 + 1) many A B hs (by omega) (n + 5) (by omega) [63, 62] (by rw [d3]; simp [hasP])
  rw [show at_ + 5 = at_ + 2 + 1 + 2 by omega]
  simp only [List.length_cons, List.length_nil, Nat.zero_add, Nat.reduceAdd] at q1 q5
  refine evF_ret (m := 27) (v := .tup []) (a := ?aa) (H1 := A ++ rdr s (at_ + 2 + 1 + 2) many :: B) rfl t36 rfl ?hb ?hd ?hr ?hz
  case hb =>
    apply evI_seq
    · simp only [List.length_cons, List.length_nil, idx, I36, q1, List.append_nil, List.nil_append, List.cons_append, List.getD_cons_zero, List.getD_cons_succ, evI, opsI, stepI, wantI, opI, AAct.evI, look, AAct.put, mkVal, mkVM, intOpA, intA, shiftA, unA, decide_true, decide_false, Option.map_some, Option.map_none, reduceIte, Nat.reduceEqDiff, Nat.reduceLT, Option.bind_some, Option.bind_none, true_and, and_true, and_self, Nat.zero_lt_succ, cellsAt, List.length_append, Nat.le_add_right, List.length_cons, List.length_nil, Nat.zero_add, Nat.add_zero, Nat.reduceAdd, Nat.reduceMul, Nat.zero_mul, AV.cells, AV.one, known, List.append_assoc, getE_0, getE_k, setE_0, setE_k, List.getElem?_cons_zero, List.getElem?_cons_succ, List.set_cons_zero, List.set_cons_succ, List.take_succ_cons, List.take_zero, List.drop_zero, List.drop_succ_cons, List.drop_nil, List.all_cons, List.all_nil, Bool.and_self, Bool.and_true, Bool.true_and, Bool.and_false, Bool.false_and, splice, fillI, Nat.reduceLeDiff, strA, Nat.add_assoc, beq_self_eq_true, Bool.false_eq_true, bq_ft, bq_tf, Bool.not_true, Bool.not_false, Nat.le_refl, List.map_cons, List.map_nil, isNilA, nilPtr, nilSl, nilIf, nilFn, nilMap, nilCheckA, if_true, if_false, lt_lit, le_lit, lt_lit2, le_lit2, le_sub1, le_sub2]; rfl
    apply evI_seq
    · simp only [q2, List.append_nil, List.nil_append, List.cons_append, List.getD_cons_zero, List.getD_cons_succ, evI, opsI, stepI, wantI, opI, AAct.evI, look, AAct.put, mkVal, mkVM, intOpA, intA, shiftA, unA, decide_true, decide_false, Option.map_some, Option.map_none, reduceIte, Nat.reduceEqDiff, Nat.reduceLT, Option.bind_some, Option.bind_none, true_and, and_true, and_self, Nat.zero_lt_succ, cellsAt, List.length_append, Nat.le_add_right, List.length_cons, List.length_nil, Nat.zero_add, Nat.add_zero, Nat.reduceAdd, Nat.reduceMul, Nat.zero_mul, AV.cells, AV.one, known, List.append_assoc, getE_0, getE_k, setE_0, setE_k, List.getElem?_cons_zero, List.getElem?_cons_succ, List.set_cons_zero, List.set_cons_succ, List.take_succ_cons, List.take_zero, List.drop_zero, List.drop_succ_cons, List.drop_nil, List.all_cons, List.all_nil, Bool.and_self, Bool.and_true, Bool.true_and, Bool.and_false, Bool.false_and, splice, fillI, Nat.reduceLeDiff, strA, Nat.add_assoc, beq_self_eq_true, Bool.false_eq_true, bq_ft, bq_tf, Bool.not_true, Bool.not_false, Nat.le_refl, List.map_cons, List.map_nil, isNilA, nilPtr, nilSl, nilIf, nilFn, nilMap, nilCheckA, if_true, if_false, lt_lit, le_lit, lt_lit2, le_lit2, le_sub1, le_sub2]; rfl
    apply evI_seq
    · simp only [q3, q4, List.append_nil, List.nil_append, List.cons_append, List.getD_cons_zero, List.getD_cons_succ, evI, opsI, stepI, wantI, opI, AAct.evI, look, AAct.put, mkVal, mkVM, intOpA, intA, shiftA, unA, decide_true, decide_false, Option.map_some, Option.map_none, reduceIte, Nat.reduceEqDiff, Nat.reduceLT, Option.bind_some, Option.bind_none, true_and, and_true, and_self, Nat.zero_lt_succ, cellsAt, List.length_append, Nat.le_add_right, List.length_cons, List.length_nil, Nat.zero_add, Nat.add_zero, Nat.reduceAdd, Nat.reduceMul, Nat.zero_mul, AV.cells, AV.one, known, List.append_assoc, getE_0, getE_k, setE_0, setE_k, List.getElem?_cons_zero, List.getElem?_cons_succ, List.set_cons_zero, List.set_cons_succ, List.take_succ_cons, List.take_zero, List.drop_zero, List.drop_succ_cons, List.drop_nil, List.all_cons, List.all_nil, Bool.and_self, Bool.and_true, Bool.true_and, Bool.and_false, Bool.false_and, splice, fillI, Nat.reduceLeDiff, strA, Nat.add_assoc, beq_self_eq_true, Bool.false_eq_true, bq_ft, bq_tf, Bool.not_true, Bool.not_false, Nat.le_refl, List.map_cons, List.map_nil, isNilA, nilPtr, nilSl, nilIf, nilFn, nilMap, nilCheckA, if_true, if_false, lt_lit, le_lit, lt_lit2, le_lit2, le_sub1, le_sub2]; rfl
    apply evI_seq_ret
    apply evI_seq
    · simp only [q5, List.append_nil, List.nil_append, List.cons_append, List.getD_cons_zero, List.getD_cons_succ, evI, opsI, stepI, wantI, opI, AAct.evI, look, AAct.put, mkVal, mkVM, intOpA, intA, shiftA, unA, decide_true, decide_false, Option.map_some, Option.map_none, reduceIte, Nat.reduceEqDiff, Nat.reduceLT, Option.bind_some, Option.bind_none, true_and, and_true, and_self, Nat.zero_lt_succ, cellsAt, List.length_append, Nat.le_add_right, List.length_cons, List.length_nil, Nat.zero_add, Nat.add_zero, Nat.reduceAdd, Nat.reduceMul, Nat.zero_mul, AV.cells, AV.one, known, List.append_assoc, getE_0, getE_k, setE_0, setE_k, List.getElem?_cons_zero, List.getElem?_cons_succ, List.set_cons_zero, List.set_cons_succ, List.take_succ_cons, List.take_zero, List.drop_zero, List.drop_succ_cons, List.drop_nil, List.all_cons, List.all_nil, Bool.and_self, Bool.and_true, Bool.true_and, Bool.and_false, Bool.false_and, splice, fillI, Nat.reduceLeDiff, strA, Nat.add_assoc, beq_self_eq_true, Bool.false_eq_true, bq_ft, bq_tf, Bool.not_true, Bool.not_false, Nat.le_refl, List.map_cons, List.map_nil, isNilA, nilPtr, nilSl, nilIf, nilFn, nilMap, nilCheckA, if_true, if_false, lt_lit, le_lit, lt_lit2, le_lit2, le_sub1, le_sub2]; rfl
    apply evI_true rfl
    rfl
  case hd => rfl
  case hr => simp only [I36, resI, resLI, look, reduceIte, Nat.reduceEqDiff, Option.map_some]
  case hz => exact fin_len rfl (by simp)
theorem instr_long (hN : s.length < N) (at_ : Nat) (u : List UInt8) (hd0 : s.drop at_ = 60 :: 63 :: 112 :: 32 :: u) (hu : blN u = 0) (i : Nat) (hi : Lib.index u [63, 62] = (i : Int)) (hle : i + 2 ≤ u.length) (d : Nat) (hd : 6 ≤ d) :
    evFI P (cfg ml) T N d 36 [.ptr A.length 0 0, .bool false] (A ++ rdr s at_ many :: B) = some (.ret (.tup []), A ++ rdr s (at_ + (i + 6)) many :: B) := by
  obtain ⟨n, rfl⟩ : ∃ n, d = n + 6 := ⟨d - 6, by omega⟩
  have d2 : s.drop (at_ + 2) = 112 :: 32 :: u := drop_one (drop_one hd0)
  have d3 : s.drop (at_ + 2 + 1) = 32 :: u := drop_one d2
  have d4 : s.drop (at_ + 2 + 1 + 1) = u := drop_one d3
  have hlt : at_ + 2 + 1 < s.length := (List.getElem?_eq_some_iff.1 (get_at d3)).1
  have hul : u.length = s.length - (at_ + 2 + 1 + 1) := by rw [← d4, List.length_drop]
  have q1 := wants_t (P := P) (N := N) (ml := ml) s at_ many A B hs (by omega) (n + 5) (by omega) [60, 63] (by rw [hd0]; simp [hasP])
  have q2 := name_eq (P := P) (N := N) (ml := ml) s many A B hs hN (at_ + 2) 112 (get_at d2) (by decide) (n + 5) (by omega)
  rw [show nmN (s.drop (at_ + 2)) = 1 by rw [d2]; rfl, show (s.drop (at_ + 2)).take 1 = [112] by rw [d2]; rfl] at q2
  have q3 := fun H => fold_p (P := P) (N := N) (ml := ml) s hs (n + 4) H
  have q4 := fun H => must_t (P := P) (N := N) (ml := ml) (n + 5) (by omega) 10 H
  have q5 := take_f (P := P) (N := N) (ml := ml) s (at_ + 2 + 1) many A B hs (by omega) (n + 5) (by omega) [63, 62] (by rw [d3]; simp [hasP])
  have q6 := blank_eq (P := P) (N := N) (ml := ml) s many A B hs hN (at_ + 2 + 1) (by omega) (n + 5) (by omega)
  have hb1 : blN (s.drop (at_ + 2 + 1)) = 1 := by
    rw [d3]
    unfold blN at hu ⊢
    rw [List.takeWhile_cons, show isBl 32 = true from rfl]
    simp only [if_true, List.length_cons, hu]
  rw [hb1] at q6
  have q7 := upto_eq (P := P) (N := N) (ml := ml) s many A B hs (at_ + 2 + 1 + 1) [63, 62] i (by rw [d4]; exact hi) (by simp; omega) (n + 5) (by omega)
  rw [show at_ + (i + 6) = at_ + 2 + 1 + 1 + (i + 2) by omega]
  have z01 : decide (0 < 1) = true := rfl
  simp only [List.length_cons, List.length_nil, Nat.zero_add, Nat.reduceAdd, z01] at q1 q6 q7
  refine evF_nrm (m := 27) (v := .tup []) (a := ?aa) (H1 := A ++ rdr s (at_ + 2 + 1 + 1 + (i + 2)) many :: B) rfl t36 rfl ?hb ?hd ?hr ?hz
  case hb =>
    apply evI_seq
    · simp only [List.length_cons, List.length_nil, idx, I36, q1, List.append_nil, List.nil_append, List.cons_append, List.getD_cons_zero, List.getD_cons_succ, evI, opsI, stepI, wantI, opI, AAct.evI, look, AAct.put, mkVal, mkVM, intOpA, intA, shiftA, unA, decide_true, decide_false, Option.map_some, Option.map_none, reduceIte, Nat.reduceEqDiff, Nat.reduceLT, Option.bind_some, Option.bind_none, true_and, and_true, and_self, Nat.zero_lt_succ, cellsAt, List.length_append, Nat.le_add_right, List.length_cons, List.length_nil, Nat.zero_add, Nat.add_zero, Nat.reduceAdd, Nat.reduceMul, Nat.zero_mul, AV.cells, AV.one, known, List.append_assoc, getE_0, getE_k, setE_0, setE_k, List.getElem?_cons_zero, List.getElem?_cons_succ, List.set_cons_zero, List.set_cons_succ, List.take_succ_cons, List.take_zero, List.drop_zero, List.drop_succ_cons, List.drop_nil, List.all_cons, List.all_nil, Bool.and_self, Bool.and_true, Bool.true_and, Bool.and_false, Bool.false_and, splice, fillI, Nat.reduceLeDiff, strA, Nat.add_assoc, beq_self_eq_true, Bool.false_eq_true, bq_ft, bq_tf, Bool.not_true, Bool.not_false, Nat.le_refl, List.map_cons, List.map_nil, isNilA, nilPtr, nilSl, nilIf, nilFn, nilMap, nilCheckA, if_true, if_false, lt_lit, le_lit, lt_lit2, le_lit2, le_sub1, le_sub2]; rfl
    apply evI_seq
    · simp only [q2, List.append_nil, List.nil_append, List.cons_append, List.getD_cons_zero, List.getD_cons_succ, evI, opsI, stepI, wantI, opI, AAct.evI, look, AAct.put, mkVal, mkVM, intOpA, intA, shiftA, unA, decide_true, decide_false, Option.map_some, Option.map_none, reduceIte, Nat.reduceEqDiff, Nat.reduceLT, Option.bind_some, Option.bind_none, true_and, and_true, and_self, Nat.zero_lt_succ, cellsAt, List.length_append, Nat.le_add_right, List.length_cons, List.length_nil, Nat.zero_add, Nat.add_zero, Nat.reduceAdd, Nat.reduceMul, Nat.zero_mul, AV.cells, AV.one, known, List.append_assoc, getE_0, getE_k, setE_0, setE_k, List.getElem?_cons_zero, List.getElem?_cons_succ, List.set_cons_zero, List.set_cons_succ, List.take_succ_cons, List.take_zero, List.drop_zero, List.drop_succ_cons, List.drop_nil, List.all_cons, List.all_nil, Bool.and_self, Bool.and_true, Bool.true_and, Bool.and_false, Bool.false_and, splice, fillI, Nat.reduceLeDiff, strA, Nat.add_assoc, beq_self_eq_true, Bool.false_eq_true, bq_ft, bq_tf, Bool.not_true, Bool.not_false, Nat.le_refl, List.map_cons, List.map_nil, isNilA, nilPtr, nilSl, nilIf, nilFn, nilMap, nilCheckA, if_true, if_false, lt_lit, le_lit, lt_lit2, le_lit2, le_sub1, le_sub2]; rfl
    apply evI_seq
    · simp only [q3, q4, List.append_nil, List.nil_append, List.cons_append, List.getD_cons_zero, List.getD_cons_succ, evI, opsI, stepI, wantI, opI, AAct.evI, look, AAct.put, mkVal, mkVM, intOpA, intA, shiftA, unA, decide_true, decide_false, Option.map_some, Option.map_none, reduceIte, Nat.reduceEqDiff, Nat.reduceLT, Option.bind_some, Option.bind_none, true_and, and_true, and_self, Nat.zero_lt_succ, cellsAt, List.length_append, Nat.le_add_right, List.length_cons, List.length_nil, Nat.zero_add, Nat.add_zero, Nat.reduceAdd, Nat.reduceMul, Nat.zero_mul, AV.cells, AV.one, known, List.append_assoc, getE_0, getE_k, setE_0, setE_k, List.getElem?_cons_zero, List.getElem?_cons_succ, List.set_cons_zero, List.set_cons_succ, List.take_succ_cons, List.take_zero, List.drop_zero, List.drop_succ_cons, List.drop_nil, List.all_cons, List.all_nil, Bool.and_self, Bool.and_true, Bool.true_and, Bool.and_false, Bool.false_and, splice, fillI, Nat.reduceLeDiff, strA, Nat.add_assoc, beq_self_eq_true, Bool.false_eq_true, bq_ft, bq_tf, Bool.not_true, Bool.not_false, Nat.le_refl, List.map_cons, List.map_nil, isNilA, nilPtr, nilSl, nilIf, nilFn, nilMap, nilCheckA, if_true, if_false, lt_lit, le_lit, lt_lit2, le_lit2, le_sub1, le_sub2]; rfl
    apply evI_seq
    · apply evI_seq
      · simp only [q5, List.append_nil, List.nil_append, List.cons_append, List.getD_cons_zero, List.getD_cons_succ, evI, opsI, stepI, wantI, opI, AAct.evI, look, AAct.put, mkVal, mkVM, intOpA, intA, shiftA, unA, decide_true, decide_false, Option.map_some, Option.map_none, reduceIte, Nat.reduceEqDiff, Nat.reduceLT, Option.bind_some, Option.bind_none, true_and, and_true, and_self, Nat.zero_lt_succ, cellsAt, List.length_append, Nat.le_add_right, List.length_cons, List.length_nil, Nat.zero_add, Nat.add_zero, Nat.reduceAdd, Nat.reduceMul, Nat.zero_mul, AV.cells, AV.one, known, List.append_assoc, getE_0, getE_k, setE_0, setE_k, List.getElem?_cons_zero, List.getElem?_cons_succ, List.set_cons_zero, List.set_cons_succ, List.take_succ_cons, List.take_zero, List.drop_zero, List.drop_succ_cons, List.drop_nil, List.all_cons, List.all_nil, Bool.and_self, Bool.and_true, Bool.true_and, Bool.and_false, Bool.false_and, splice, fillI, Nat.reduceLeDiff, strA, Nat.add_assoc, beq_self_eq_true, Bool.false_eq_true, bq_ft, bq_tf, Bool.not_true, Bool.not_false, Nat.le_refl, List.map_cons, List.map_nil, isNilA, nilPtr, nilSl, nilIf, nilFn, nilMap, nilCheckA, if_true, if_false, lt_lit, le_lit, lt_lit2, le_lit2, le_sub1, le_sub2]; rfl
      apply evI_false rfl
      rfl
    apply evI_seq
    · simp only [q6, q4, List.append_nil, List.nil_append, List.cons_append, List.getD_cons_zero, List.getD_cons_succ, evI, opsI, stepI, wantI, opI, AAct.evI, look, AAct.put, mkVal, mkVM, intOpA, intA, shiftA, unA, decide_true, decide_false, Option.map_some, Option.map_none, reduceIte, Nat.reduceEqDiff, Nat.reduceLT, Option.bind_some, Option.bind_none, true_and, and_true, and_self, Nat.zero_lt_succ, cellsAt, List.length_append, Nat.le_add_right, List.length_cons, List.length_nil, Nat.zero_add, Nat.add_zero, Nat.reduceAdd, Nat.reduceMul, Nat.zero_mul, AV.cells, AV.one, known, List.append_assoc, getE_0, getE_k, setE_0, setE_k, List.getElem?_cons_zero, List.getElem?_cons_succ, List.set_cons_zero, List.set_cons_succ, List.take_succ_cons, List.take_zero, List.drop_zero, List.drop_succ_cons, List.drop_nil, List.all_cons, List.all_nil, Bool.and_self, Bool.and_true, Bool.true_and, Bool.and_false, Bool.false_and, splice, fillI, Nat.reduceLeDiff, strA, Nat.add_assoc, beq_self_eq_true, Bool.false_eq_true, bq_ft, bq_tf, Bool.not_true, Bool.not_false, Nat.le_refl, List.map_cons, List.map_nil, isNilA, nilPtr, nilSl, nilIf, nilFn, nilMap, nilCheckA, if_true, if_false, lt_lit, le_lit, lt_lit2, le_lit2, le_sub1, le_sub2]; rfl
    simp only [q7, List.append_nil, List.nil_append, List.cons_append, List.getD_cons_zero, List.getD_cons_succ, evI, opsI, stepI, wantI, opI, AAct.evI, look, AAct.put, mkVal, mkVM, intOpA, intA, shiftA, unA, decide_true, decide_false, Option.map_some, Option.map_none, reduceIte, Nat.reduceEqDiff, Nat.reduceLT, Option.bind_some, Option.bind_none, true_and, and_true, and_self, Nat.zero_lt_succ, cellsAt, List.length_append, Nat.le_add_right, List.length_cons, List.length_nil, Nat.zero_add, Nat.add_zero, Nat.reduceAdd, Nat.reduceMul, Nat.zero_mul, AV.cells, AV.one, known, List.append_assoc, getE_0, getE_k, setE_0, setE_k, List.getElem?_cons_zero, List.getElem?_cons_succ, List.set_cons_zero, List.set_cons_succ, List.take_succ_cons, List.take_zero, List.drop_zero, List.drop_succ_cons, List.drop_nil, List.all_cons, List.all_nil, Bool.and_self, Bool.and_true, Bool.true_and, Bool.and_false, Bool.false_and, splice, fillI, Nat.reduceLeDiff, strA, Nat.add_assoc, beq_self_eq_true, Bool.false_eq_true, bq_ft, bq_tf, Bool.not_true, Bool.not_false, Nat.le_refl, List.map_cons, List.map_nil, isNilA, nilPtr, nilSl, nilIf, nilFn, nilMap, nilCheckA, if_true, if_false, lt_lit, le_lit, lt_lit2, le_lit2, le_sub1, le_sub2]; rfl
  case hd => rfl
  case hr => simp only [I36, resI, resLI, look, reduceIte, Nat.reduceEqDiff, Option.map_some]
  case hz => exact fin_len rfl (by simp)
end
def tok : Nat → List UInt8
  | 0 => [32]
  | 1 => [10]
  | 2 => [60, 33, 45, 45, 32, 97, 45, 98, 32, 45, 45, 62]
  | 3 => [60, 63, 112, 32, 113, 63, 62]
  | 4 => [60, 63, 112, 63, 62]
  | 5 => [60, 33, 45, 45, 45, 45, 62]
  | 6 => [120]
  | 7 => [38, 97, 109, 112, 59]
  | 8 => [60, 33, 68, 79, 67, 84, 89, 80, 69, 32, 97, 62]
  | 9 => [60, 33, 91, 67, 68, 65, 84, 65, 91, 93, 93, 62]
  | _ => []
def toks (ks : List Nat) : List UInt8 := ks.flatMap tok
theorem toks_cons (k : Nat) (ks : List Nat) (r : List UInt8) : toks (k :: ks) ++ r = tok k ++ (toks ks ++ r) := by
  unfold toks
  rw [List.flatMap_cons, List.append_assoc]
theorem blN_no {c : UInt8} {r : List UInt8} (h : isBl c = false) : blN (c :: r) = 0 := by
  unfold blN; rw [List.takeWhile_cons, h]; rfl
theorem blN_yes {c : UInt8} {r : List UInt8} (h : isBl c = true) : blN (c :: r) = blN r + 1 := by
  unfold blN; rw [List.takeWhile_cons, h]; rfl
theorem bl_toks (r : List UInt8) (hr : blN r = 0) : ∀ ks : List Nat, (∀ k ∈ ks, k < 6) → ∃ ks2, (∀ k ∈ ks2, k < 6) ∧ ks2.length + blN (toks ks ++ r) = ks.length ∧ (toks ks ++ r).drop (blN (toks ks ++ r)) = toks ks2 ++ r ∧ (toks ks).length = blN (toks ks ++ r) + (toks ks2).length
  | [], _ => ⟨[], by simp, by show 0 + blN r = 0; omega, by show (r).drop (blN r) = r; rw [hr]; rfl, by show 0 = blN r + 0; omega⟩
  | k :: ks, h => by
    obtain ⟨ks2, h1, h2, h3, h4⟩ := bl_toks r hr ks fun c hc => h c (by simp [hc])
    have hk := h k (by simp)
    have hlen : (toks (k :: ks)).length = (tok k).length + (toks ks).length := by unfold toks; simp
    rw [toks_cons, hlen]
    match k with
    | 0 =>
      have e : blN (tok 0 ++ (toks ks ++ r)) = blN (toks ks ++ r) + 1 := blN_yes rfl
      rw [e]
      exact ⟨ks2, h1, by simp; omega, h3, by simp [tok]; omega⟩
    | 1 =>
      have e : blN (tok 1 ++ (toks ks ++ r)) = blN (toks ks ++ r) + 1 := blN_yes rfl
      rw [e]
      exact ⟨ks2, h1, by simp; omega, h3, by simp [tok]; omega⟩
    | 2 => exact ⟨2 :: ks, h, by rw [show blN (tok 2 ++ (toks ks ++ r)) = 0 from blN_no rfl]; rfl, by rw [show blN (tok 2 ++ (toks ks ++ r)) = 0 from blN_no rfl, toks_cons]; rfl, by rw [show blN (tok 2 ++ (toks ks ++ r)) = 0 from blN_no rfl, hlen]; omega⟩
    | 3 => exact ⟨3 :: ks, h, by rw [show blN (tok 3 ++ (toks ks ++ r)) = 0 from blN_no rfl]; rfl, by rw [show blN (tok 3 ++ (toks ks ++ r)) = 0 from blN_no rfl, toks_cons]; rfl, by rw [show blN (tok 3 ++ (toks ks ++ r)) = 0 from blN_no rfl, hlen]; omega⟩
    | 4 => exact ⟨4 :: ks, h, by rw [show blN (tok 4 ++ (toks ks ++ r)) = 0 from blN_no rfl]; rfl, by rw [show blN (tok 4 ++ (toks ks ++ r)) = 0 from blN_no rfl, toks_cons]; rfl, by rw [show blN (tok 4 ++ (toks ks ++ r)) = 0 from blN_no rfl, hlen]; omega⟩
    | 5 => exact ⟨5 :: ks, h, by rw [show blN (tok 5 ++ (toks ks ++ r)) = 0 from blN_no rfl]; rfl, by rw [show blN (tok 5 ++ (toks ks ++ r)) = 0 from blN_no rfl, toks_cons]; rfl, by rw [show blN (tok 5 ++ (toks ks ++ r)) = 0 from blN_no rfl, hlen]; omega⟩
    | k + 6 => exact absurd hk (by omega)
section
variable {P : Program} {N : Nat}
variable (s : List UInt8) (many : Nat) (A B : Mem) (hs : s.length < 4294967281) (hN : s.length < N)
include hs hN
abbrev miS (A : Mem) (ah : Bool) : AAct := ⟨24, [(0, .ptr A.length 0 0), (1, .bool ah)], []⟩
theorem misc_loop (n : Nat) (ah : Bool) (r : List UInt8) (hr : blN r = 0) (o : Out) (ho : o = .ret ∨ ∃ v, o = .pan v)
    (hF : ∀ p, s.drop p = r → p ≤ s.length → ∃ t, evI P (cfg ml) (evFI P (cfg ml) T N (n + 7)) N loopMi (miS A ah) (A ++ rdr s p many :: B) = some (o, ⟨24, t, []⟩, A ++ rdr s p many :: B)) :
    ∀ (fuel : Nat) (ks : List Nat) (p : Nat), (∀ k ∈ ks, k < 6) → s.drop p = toks ks ++ r → p ≤ s.length → ks.length < fuel →
      ∃ t, loopA (fun a H => evI P (cfg ml) (evFI P (cfg ml) T N (n + 7)) N loopMi a H) (some [0, 1]) fuel (miS A ah) (A ++ rdr s p many :: B) = some (o, ⟨24, t, []⟩, A ++ rdr s (p + (toks ks).length) many :: B) := by
  intro fuel
  induction fuel with
  | zero => intro ks p _ _ _ h; omega
  | succ fuel ih =>
    intro ks p hk hd hp hf
    have e0 := blank_eq (P := P) (N := N) (ml := ml) s many A B hs hN p hp (n + 7) (by omega)
    rcases Nat.eq_zero_or_pos (blN (s.drop p)) with hz | hpos
    · rw [hz] at e0
      simp only [Nat.add_zero, Nat.lt_irrefl, decide_false] at e0
      have step : ∀ (k : Nat) (ks2 : List Nat) (m : Nat), ks = k :: ks2 → (tok k).length = m → p + m ≤ s.length → (∃ t, evI P (cfg ml) (evFI P (cfg ml) T N (n + 7)) N loopMi (miS A ah) (A ++ rdr s p many :: B) = some (.normal, ⟨24, t, []⟩, A ++ rdr s (p + m) many :: B) ∧ look t 0 = .ptr A.length 0 0 ∧ look t 1 = .bool ah) →
          ∃ t, loopA (fun a H => evI P (cfg ml) (evFI P (cfg ml) T N (n + 7)) N loopMi a H) (some [0, 1]) (fuel + 1) (miS A ah) (A ++ rdr s p many :: B) = some (o, ⟨24, t, []⟩, A ++ rdr s (p + (toks ks).length) many :: B) := by
        intro k ks2 m hks hm hpm ht
        subst hks
        obtain ⟨t, ht, l0, l1⟩ := ht
        have hd2 : s.drop (p + m) = toks ks2 ++ r := by
          rw [toks_cons] at hd
          rw [← hm]
          exact drop_next hd
        obtain ⟨t2, h2⟩ := ih ks2 (p + m) (fun c hc => hk c (by simp [hc])) hd2 hpm (by simp at hf; omega)
        have hl : p + (toks (k :: ks2)).length = p + m + (toks ks2).length := by unfold toks; simp [hm]; omega
        rw [hl]
        refine ⟨t2, loopA_go ht ?_⟩
        rw [re_len (by simp)]
        simp only [AAct.keepT, List.map_cons, List.map_nil, l0, l1]
        exact h2
      cases ks with
      | nil =>
        obtain ⟨t, ht⟩ := hF p hd hp
        refine ⟨t, ?_⟩
        rcases ho with rfl | ⟨v, rfl⟩
        · exact loopA_ret ht
        · exact loopA_pan ht
      | cons k ks =>
        have hk6 := hk k (by simp)
        rw [toks_cons] at hd
        have hpl : p + (tok k).length ≤ s.length := by
          have := congrArg List.length hd
          rw [List.length_drop, List.length_append] at this
          omega
        have e1 := has_eq (P := P) (N := N) (ml := ml) s p many A B hp (n + 7) (by omega) [60, 33, 45, 45]
        have e2 := has_eq (P := P) (N := N) (ml := ml) s p many A B hp (n + 7) (by omega) [60, 63]
        match k with
        | 0 => rw [hd, show blN (tok 0 ++ (toks ks ++ r)) = blN (toks ks ++ r) + 1 from blN_yes rfl] at hz; cases hz
        | 1 => rw [hd, show blN (tok 1 ++ (toks ks ++ r)) = blN (toks ks ++ r) + 1 from blN_yes rfl] at hz; cases hz
        | 2 =>
          rw [hd, show hasP (tok 2 ++ (toks ks ++ r)) [60, 33, 45, 45] = true by simp [hasP, tok]] at e1
          have q := remark_eq (P := P) (N := N) (ml := ml) s many A B hs p _ hd 5 (by simp [Lib.index, List.isPrefixOf]) (toks ks ++ r) rfl (n + 7) (by omega)
          refine step 2 ks 12 rfl rfl hpl ⟨?t2, ?m2, ?l20, ?l21⟩
          case m2 => simp only [loopMi, I37, IC.loops, List.getD_cons_zero, e0, e1, q, List.append_nil, List.nil_append, List.cons_append, List.getD_cons_zero, List.getD_cons_succ, evI, opsI, stepI, wantI, opI, AAct.evI, look, AAct.put, mkVal, mkVM, intOpA, intA, shiftA, unA, decide_true, decide_false, Option.map_some, Option.map_none, reduceIte, Nat.reduceEqDiff, Nat.reduceLT, Option.bind_some, Option.bind_none, true_and, and_true, and_self, Nat.zero_lt_succ, cellsAt, List.length_append, Nat.le_add_right, List.length_cons, List.length_nil, Nat.zero_add, Nat.add_zero, Nat.reduceAdd, Nat.reduceMul, Nat.zero_mul, AV.cells, AV.one, known, List.append_assoc, getE_0, getE_k, setE_0, setE_k, List.getElem?_cons_zero, List.getElem?_cons_succ, List.set_cons_zero, List.set_cons_succ, List.take_succ_cons, List.take_zero, List.drop_zero, List.drop_succ_cons, List.drop_nil, List.all_cons, List.all_nil, Bool.and_self, Bool.and_true, Bool.true_and, Bool.and_false, Bool.false_and, splice, fillI, Nat.reduceLeDiff, strA, Nat.add_assoc, beq_self_eq_true, Bool.false_eq_true, bq_ft, bq_tf, Bool.not_true, Bool.not_false, Nat.le_refl, List.map_cons, List.map_nil, isNilA, nilPtr, nilSl, nilIf, nilFn, nilMap, nilCheckA, if_true, if_false, lt_lit, le_lit, lt_lit2, le_lit2, le_sub1, le_sub2]; rfl
          case l20 => rfl
          case l21 => rfl
        | 3 =>
          rw [hd, show hasP (tok 3 ++ (toks ks ++ r)) [60, 33, 45, 45] = false from hasP_two _ _ _ _ _ (by decide)] at e1
          rw [hd, show hasP (tok 3 ++ (toks ks ++ r)) [60, 63] = true by simp [hasP, tok]] at e2
          have q := instr_long (P := P) (N := N) (ml := ml) s many A B hs hN p (113 :: 63 :: 62 :: (toks ks ++ r)) hd (blN_no rfl) 1 (by simp [Lib.index, List.isPrefixOf]) (by simp) (n + 7) (by omega)
          refine step 3 ks 7 rfl rfl hpl ⟨?t3, ?m3, ?l30, ?l31⟩
          case m3 => simp only [loopMi, I37, IC.loops, List.getD_cons_zero, e0, e1, e2, q, List.append_nil, List.nil_append, List.cons_append, List.getD_cons_zero, List.getD_cons_succ, evI, opsI, stepI, wantI, opI, AAct.evI, look, AAct.put, mkVal, mkVM, intOpA, intA, shiftA, unA, decide_true, decide_false, Option.map_some, Option.map_none, reduceIte, Nat.reduceEqDiff, Nat.reduceLT, Option.bind_some, Option.bind_none, true_and, and_true, and_self, Nat.zero_lt_succ, cellsAt, List.length_append, Nat.le_add_right, List.length_cons, List.length_nil, Nat.zero_add, Nat.add_zero, Nat.reduceAdd, Nat.reduceMul, Nat.zero_mul, AV.cells, AV.one, known, List.append_assoc, getE_0, getE_k, setE_0, setE_k, List.getElem?_cons_zero, List.getElem?_cons_succ, List.set_cons_zero, List.set_cons_succ, List.take_succ_cons, List.take_zero, List.drop_zero, List.drop_succ_cons, List.drop_nil, List.all_cons, List.all_nil, Bool.and_self, Bool.and_true, Bool.true_and, Bool.and_false, Bool.false_and, splice, fillI, Nat.reduceLeDiff, strA, Nat.add_assoc, beq_self_eq_true, Bool.false_eq_true, bq_ft, bq_tf, Bool.not_true, Bool.not_false, Nat.le_refl, List.map_cons, List.map_nil, isNilA, nilPtr, nilSl, nilIf, nilFn, nilMap, nilCheckA, if_true, if_false, lt_lit, le_lit, lt_lit2, le_lit2, le_sub1, le_sub2]; rfl
          case l30 => rfl
          case l31 => rfl
        | 4 =>
          rw [hd, show hasP (tok 4 ++ (toks ks ++ r)) [60, 33, 45, 45] = false from hasP_two _ _ _ _ _ (by decide)] at e1
          rw [hd, show hasP (tok 4 ++ (toks ks ++ r)) [60, 63] = true by simp [hasP, tok]] at e2
          have q := instr_short (P := P) (N := N) (ml := ml) s many A B hs hN p _ hd (n + 7) (by omega)
          refine step 4 ks 5 rfl rfl hpl ⟨?t4, ?m4, ?l40, ?l41⟩
          case m4 => simp only [loopMi, I37, IC.loops, List.getD_cons_zero, e0, e1, e2, q, List.append_nil, List.nil_append, List.cons_append, List.getD_cons_zero, List.getD_cons_succ, evI, opsI, stepI, wantI, opI, AAct.evI, look, AAct.put, mkVal, mkVM, intOpA, intA, shiftA, unA, decide_true, decide_false, Option.map_some, Option.map_none, reduceIte, Nat.reduceEqDiff, Nat.reduceLT, Option.bind_some, Option.bind_none, true_and, and_true, and_self, Nat.zero_lt_succ, cellsAt, List.length_append, Nat.le_add_right, List.length_cons, List.length_nil, Nat.zero_add, Nat.add_zero, Nat.reduceAdd, Nat.reduceMul, Nat.zero_mul, AV.cells, AV.one, known, List.append_assoc, getE_0, getE_k, setE_0, setE_k, List.getElem?_cons_zero, List.getElem?_cons_succ, List.set_cons_zero, List.set_cons_succ, List.take_succ_cons, List.take_zero, List.drop_zero, List.drop_succ_cons, List.drop_nil, List.all_cons, List.all_nil, Bool.and_self, Bool.and_true, Bool.true_and, Bool.and_false, Bool.false_and, splice, fillI, Nat.reduceLeDiff, strA, Nat.add_assoc, beq_self_eq_true, Bool.false_eq_true, bq_ft, bq_tf, Bool.not_true, Bool.not_false, Nat.le_refl, List.map_cons, List.map_nil, isNilA, nilPtr, nilSl, nilIf, nilFn, nilMap, nilCheckA, if_true, if_false, lt_lit, le_lit, lt_lit2, le_lit2, le_sub1, le_sub2]; rfl
          case l40 => rfl
          case l41 => rfl
        | 5 =>
          rw [hd, show hasP (tok 5 ++ (toks ks ++ r)) [60, 33, 45, 45] = true by simp [hasP, tok]] at e1
          have q := remark_eq (P := P) (N := N) (ml := ml) s many A B hs p _ hd 0 (by simp [Lib.index, List.isPrefixOf]) (toks ks ++ r) rfl (n + 7) (by omega)
          refine step 5 ks 7 rfl rfl hpl ⟨?t5, ?m5, ?l50, ?l51⟩
          case m5 => simp only [loopMi, I37, IC.loops, List.getD_cons_zero, e0, e1, q, List.append_nil, List.nil_append, List.cons_append, List.getD_cons_zero, List.getD_cons_succ, evI, opsI, stepI, wantI, opI, AAct.evI, look, AAct.put, mkVal, mkVM, intOpA, intA, shiftA, unA, decide_true, decide_false, Option.map_some, Option.map_none, reduceIte, Nat.reduceEqDiff, Nat.reduceLT, Option.bind_some, Option.bind_none, true_and, and_true, and_self, Nat.zero_lt_succ, cellsAt, List.length_append, Nat.le_add_right, List.length_cons, List.length_nil, Nat.zero_add, Nat.add_zero, Nat.reduceAdd, Nat.reduceMul, Nat.zero_mul, AV.cells, AV.one, known, List.append_assoc, getE_0, getE_k, setE_0, setE_k, List.getElem?_cons_zero, List.getElem?_cons_succ, List.set_cons_zero, List.set_cons_succ, List.take_succ_cons, List.take_zero, List.drop_zero, List.drop_succ_cons, List.drop_nil, List.all_cons, List.all_nil, Bool.and_self, Bool.and_true, Bool.true_and, Bool.and_false, Bool.false_and, splice, fillI, Nat.reduceLeDiff, strA, Nat.add_assoc, beq_self_eq_true, Bool.false_eq_true, bq_ft, bq_tf, Bool.not_true, Bool.not_false, Nat.le_refl, List.map_cons, List.map_nil, isNilA, nilPtr, nilSl, nilIf, nilFn, nilMap, nilCheckA, if_true, if_false, lt_lit, le_lit, lt_lit2, le_lit2, le_sub1, le_sub2]; rfl
          case l50 => rfl
          case l51 => rfl
        | k + 6 => exact absurd hk6 (by omega)
    · obtain ⟨ks2, h1, h2, h3, h4⟩ := bl_toks r hr ks hk
      rw [← hd] at h2 h3 h4
      rw [decide_eq_true hpos] at e0
      generalize blN (s.drop p) = j at *
      have hd2 : s.drop (p + j) = toks ks2 ++ r := by rw [← List.drop_drop]; exact h3
      have hpj : p + j ≤ s.length := by
        have := congrArg List.length hd
        rw [List.length_drop, List.length_append] at this
        omega
      obtain ⟨t2, hI⟩ := ih ks2 (p + j) h1 hd2 hpj (by omega)
      rw [h4, ← Nat.add_assoc]
      refine ⟨t2, ?_⟩
      refine loopA_go (H' := A ++ rdr s (p + j) many :: B) (by simp only [loopMi, I37, IC.loops, List.getD_cons_zero, e0, List.append_nil, List.nil_append, List.cons_append, List.getD_cons_zero, List.getD_cons_succ, evI, opsI, stepI, wantI, opI, AAct.evI, look, AAct.put, mkVal, mkVM, intOpA, intA, shiftA, unA, decide_true, decide_false, Option.map_some, Option.map_none, reduceIte, Nat.reduceEqDiff, Nat.reduceLT, Option.bind_some, Option.bind_none, true_and, and_true, and_self, Nat.zero_lt_succ, cellsAt, List.length_append, Nat.le_add_right, List.length_cons, List.length_nil, Nat.zero_add, Nat.add_zero, Nat.reduceAdd, Nat.reduceMul, Nat.zero_mul, AV.cells, AV.one, known, List.append_assoc, getE_0, getE_k, setE_0, setE_k, List.getElem?_cons_zero, List.getElem?_cons_succ, List.set_cons_zero, List.set_cons_succ, List.take_succ_cons, List.take_zero, List.drop_zero, List.drop_succ_cons, List.drop_nil, List.all_cons, List.all_nil, Bool.and_self, Bool.and_true, Bool.true_and, Bool.and_false, Bool.false_and, splice, fillI, Nat.reduceLeDiff, strA, Nat.add_assoc, beq_self_eq_true, Bool.false_eq_true, bq_ft, bq_tf, Bool.not_true, Bool.not_false, Nat.le_refl, List.map_cons, List.map_nil, isNilA, nilPtr, nilSl, nilIf, nilFn, nilMap, nilCheckA, if_true, if_false, lt_lit, le_lit, lt_lit2, le_lit2, le_sub1, le_sub2]; rfl) ?_
      rw [re_len (by simp)]
      exact hI
theorem misc_ret (ah : Bool) (r : List UInt8) (hr : blN r = 0) (h1 : hasP r [60, 33, 45, 45] = false) (h2 : hasP r [60, 63] = false) (h3 : ah = true → hasP r [60, 33, 68, 79, 67, 84, 89, 80, 69] = false) (ks : List Nat) (hk : ∀ k ∈ ks, k < 6) (p : Nat) (hp : p ≤ s.length) (hd0 : s.drop p = toks ks ++ r) (d : Nat) (hd : 8 ≤ d) :
    evFI P (cfg ml) T N d 37 [.ptr A.length 0 0, .bool ah] (A ++ rdr s p many :: B) = some (.ret (.tup []), A ++ rdr s (p + (toks ks).length) many :: B) := by
  obtain ⟨n, rfl⟩ : ∃ n, d = n + 8 := ⟨d - 8, by omega⟩
  have hF : ∀ p, s.drop p = r → p ≤ s.length → ∃ t, evI P (cfg ml) (evFI P (cfg ml) T N (n + 7)) N loopMi (miS A ah) (A ++ rdr s p many :: B) = some (.ret, ⟨24, t, []⟩, A ++ rdr s p many :: B) := by
    intro p hdp hp
    have e0 := blank_eq (P := P) (N := N) (ml := ml) s many A B hs hN p hp (n + 7) (by omega)
    rw [hdp, hr] at e0
    simp only [Nat.add_zero, Nat.lt_irrefl, decide_false] at e0
    have e1 := has_eq (P := P) (N := N) (ml := ml) s p many A B hp (n + 7) (by omega) [60, 33, 45, 45]
    have e2 := has_eq (P := P) (N := N) (ml := ml) s p many A B hp (n + 7) (by omega) [60, 63]
    have e3 := has_eq (P := P) (N := N) (ml := ml) s p many A B hp (n + 7) (by omega) [60, 33, 68, 79, 67, 84, 89, 80, 69]
    rw [hdp] at e1 e2 e3
    rw [h1] at e1
    rw [h2] at e2
    cases ah
    · exact ⟨_, by simp only [loopMi, I37, IC.loops, List.getD_cons_zero, e0, e1, e2, List.append_nil, List.nil_append, List.cons_append, List.getD_cons_zero, List.getD_cons_succ, evI, opsI, stepI, wantI, opI, AAct.evI, look, AAct.put, mkVal, mkVM, intOpA, intA, shiftA, unA, decide_true, decide_false, Option.map_some, Option.map_none, reduceIte, Nat.reduceEqDiff, Nat.reduceLT, Option.bind_some, Option.bind_none, true_and, and_true, and_self, Nat.zero_lt_succ, cellsAt, List.length_append, Nat.le_add_right, List.length_cons, List.length_nil, Nat.zero_add, Nat.add_zero, Nat.reduceAdd, Nat.reduceMul, Nat.zero_mul, AV.cells, AV.one, known, List.append_assoc, getE_0, getE_k, setE_0, setE_k, List.getElem?_cons_zero, List.getElem?_cons_succ, List.set_cons_zero, List.set_cons_succ, List.take_succ_cons, List.take_zero, List.drop_zero, List.drop_succ_cons, List.drop_nil, List.all_cons, List.all_nil, Bool.and_self, Bool.and_true, Bool.true_and, Bool.and_false, Bool.false_and, splice, fillI, Nat.reduceLeDiff, strA, Nat.add_assoc, beq_self_eq_true, Bool.false_eq_true, bq_ft, bq_tf, Bool.not_true, Bool.not_false, Nat.le_refl, List.map_cons, List.map_nil, isNilA, nilPtr, nilSl, nilIf, nilFn, nilMap, nilCheckA, if_true, if_false, lt_lit, le_lit, lt_lit2, le_lit2, le_sub1, le_sub2]; rfl⟩
    · rw [h3 rfl] at e3
      exact ⟨_, by simp only [loopMi, I37, IC.loops, List.getD_cons_zero, e0, e1, e2, e3, List.append_nil, List.nil_append, List.cons_append, List.getD_cons_zero, List.getD_cons_succ, evI, opsI, stepI, wantI, opI, AAct.evI, look, AAct.put, mkVal, mkVM, intOpA, intA, shiftA, unA, decide_true, decide_false, Option.map_some, Option.map_none, reduceIte, Nat.reduceEqDiff, Nat.reduceLT, Option.bind_some, Option.bind_none, true_and, and_true, and_self, Nat.zero_lt_succ, cellsAt, List.length_append, Nat.le_add_right, List.length_cons, List.length_nil, Nat.zero_add, Nat.add_zero, Nat.reduceAdd, Nat.reduceMul, Nat.zero_mul, AV.cells, AV.one, known, List.append_assoc, getE_0, getE_k, setE_0, setE_k, List.getElem?_cons_zero, List.getElem?_cons_succ, List.set_cons_zero, List.set_cons_succ, List.take_succ_cons, List.take_zero, List.drop_zero, List.drop_succ_cons, List.drop_nil, List.all_cons, List.all_nil, Bool.and_self, Bool.and_true, Bool.true_and, Bool.and_false, Bool.false_and, splice, fillI, Nat.reduceLeDiff, strA, Nat.add_assoc, beq_self_eq_true, Bool.false_eq_true, bq_ft, bq_tf, Bool.not_true, Bool.not_false, Nat.le_refl, List.map_cons, List.map_nil, isNilA, nilPtr, nilSl, nilIf, nilFn, nilMap, nilCheckA, if_true, if_false, lt_lit, le_lit, lt_lit2, le_lit2, le_sub1, le_sub2]; rfl⟩
  have hkl : ks.length < N := by
    have hl : ∀ ks : List Nat, (∀ k ∈ ks, k < 6) → ks.length ≤ (toks ks).length := by
      intro ks
      induction ks with
      | nil => intro _; simp
      | cons k ks ih =>
        intro h
        have h1 := ih fun c hc => h c (by simp [hc])
        have h2 := h k (by simp)
        have h3 : 1 ≤ (tok k).length := by
          match k with
          | 0 => decide
          | 1 => decide
          | 2 => decide
          | 3 => decide
          | 4 => decide
          | 5 => decide
          | k + 6 => exact absurd h2 (by omega)
        have h4 : (toks (k :: ks)).length = (tok k).length + (toks ks).length := by unfold toks; simp
        rw [h4]; simp; omega
    have := congrArg List.length hd0
    rw [List.length_drop, List.length_append] at this
    have := hl ks hk
    omega
  obtain ⟨t, ht⟩ := misc_loop (P := P) (N := N) (ml := ml) s many A B hs hN n ah r hr .ret (.inl rfl) hF N ks p hk hd0 hp hkl
  refine evF_ret (m := 24) (v := .tup []) (a := ⟨24, t, []⟩) (H1 := A ++ rdr s (p + (toks ks).length) many :: B) rfl t37 rfl ?hb ?hd ?hr ?hz
  case hb =>
    apply evI_block_ret
    apply evI_loop
    exact ht
  case hd => rfl
  case hr => simp only [I37, resI, resLI, look, reduceIte, Nat.reduceEqDiff, Option.map_some]
  case hz => exact fin_len rfl (by simp)
theorem misc_doc (r : List UInt8) (hdoc : hasP r [60, 33, 68, 79, 67, 84, 89, 80, 69] = true) (hr : blN r = 0) (h1 : hasP r [60, 33, 45, 45] = false) (h2 : hasP r [60, 63] = false) (ks : List Nat) (hk : ∀ k ∈ ks, k < 6) (hkl : ks.length < N) (p : Nat) (hp : p ≤ s.length) (hd0 : s.drop p = toks ks ++ r) (d : Nat) (hd : 8 ≤ d) :
    evFI P (cfg ml) T N d 37 [.ptr A.length 0 0, .bool true] (A ++ rdr s p many :: B) = some (.pan (failv 13), A ++ rdr s (p + (toks ks).length) many :: B) := by
  obtain ⟨n, rfl⟩ : ∃ n, d = n + 8 := ⟨d - 8, by omega⟩
  have hF : ∀ p, s.drop p = r → p ≤ s.length → ∃ t, evI P (cfg ml) (evFI P (cfg ml) T N (n + 7)) N loopMi (miS A true) (A ++ rdr s p many :: B) = some (.pan (failv 13), ⟨24, t, []⟩, A ++ rdr s p many :: B) := by
    intro p hdp hp
    have e0 := blank_eq (P := P) (N := N) (ml := ml) s many A B hs hN p hp (n + 7) (by omega)
    rw [hdp, hr] at e0
    simp only [Nat.add_zero, Nat.lt_irrefl, decide_false] at e0
    have e1 := has_eq (P := P) (N := N) (ml := ml) s p many A B hp (n + 7) (by omega) [60, 33, 45, 45]
    have e2 := has_eq (P := P) (N := N) (ml := ml) s p many A B hp (n + 7) (by omega) [60, 63]
    have e3 := has_eq (P := P) (N := N) (ml := ml) s p many A B hp (n + 7) (by omega) [60, 33, 68, 79, 67, 84, 89, 80, 69]
    have e4 := fun e H => must_f (P := P) (N := N) (ml := ml) (n + 7) (by omega) e H
    rw [hdp] at e1 e2 e3
    rw [h1] at e1
    rw [h2] at e2
    rw [hdoc] at e3
    exact ⟨_, by simp only [loopMi, I37, IC.loops, List.getD_cons_zero, e0, e1, e2, e3, e4, List.append_nil, List.nil_append, List.cons_append, List.getD_cons_zero, List.getD_cons_succ, evI, opsI, stepI, wantI, opI, AAct.evI, look, AAct.put, mkVal, mkVM, intOpA, intA, shiftA, unA, decide_true, decide_false, Option.map_some, Option.map_none, reduceIte, Nat.reduceEqDiff, Nat.reduceLT, Option.bind_some, Option.bind_none, true_and, and_true, and_self, Nat.zero_lt_succ, cellsAt, List.length_append, Nat.le_add_right, List.length_cons, List.length_nil, Nat.zero_add, Nat.add_zero, Nat.reduceAdd, Nat.reduceMul, Nat.zero_mul, AV.cells, AV.one, known, List.append_assoc, getE_0, getE_k, setE_0, setE_k, List.getElem?_cons_zero, List.getElem?_cons_succ, List.set_cons_zero, List.set_cons_succ, List.take_succ_cons, List.take_zero, List.drop_zero, List.drop_succ_cons, List.drop_nil, List.all_cons, List.all_nil, Bool.and_self, Bool.and_true, Bool.true_and, Bool.and_false, Bool.false_and, splice, fillI, Nat.reduceLeDiff, strA, Nat.add_assoc, beq_self_eq_true, Bool.false_eq_true, bq_ft, bq_tf, Bool.not_true, Bool.not_false, Nat.le_refl, List.map_cons, List.map_nil, isNilA, nilPtr, nilSl, nilIf, nilFn, nilMap, nilCheckA, if_true, if_false, lt_lit, le_lit, lt_lit2, le_lit2, le_sub1, le_sub2]; rfl⟩
  obtain ⟨t, ht⟩ := misc_loop (P := P) (N := N) (ml := ml) s many A B hs hN n true r hr (.pan (failv 13)) (.inr ⟨_, rfl⟩) hF N ks p hk hd0 hp hkl
  refine evF_pan (m := 24) (v := failv 13) (a := ⟨24, t, []⟩) (H1 := A ++ rdr s (p + (toks ks).length) many :: B) rfl t37 rfl ?hb ?hd ?hz
  case hb =>
    apply evI_block_pan
    apply evI_loop
    exact ht
  case hd => rfl
  case hz => exact fin_len rfl (by simp)
end
set_option maxHeartbeats 4000000
def coreT : List UInt8 := [60, 97, 62, 60, 98, 47, 62, 60, 47, 97, 62]
abbrev ecB : List AV := [.str [], .str [98], .str [], .lst 0 [], .lst 0 []]
abbrev ecA : List AV := [.str [], .str [97], .str [], .lst 0 [], .lst 1 ecB]
abbrev ecZ : List AV := [.str [], .str [], .str [], .lst 0 [], .lst 0 []]
section
variable {N : Nat}
variable (s : List UInt8) (hs : s.length < 4294967281) (hN : s.length < N)
include hs hN
theorem core_el (at_ many : Nat) (A B : Mem) (mi : Nat) (nsv : List UInt8) (dp : Nat) (r : List UInt8) (hd0 : s.drop at_ = coreT ++ r) (hlo : LoM A B) (hm : ∀ L : Mem, ∀ a m, (A ++ rdr s a m :: (B ++ L))[mi]? = some (scope1 nsv)) (hmany : many < 1000) (hdp : dp ≤ 200) (d : Nat) (hdd : 9 ≤ d) :
    evFI Tryz.prog (cfg ml) T N d 38 [.ptr A.length 0 0, .map mi, .int .i64 (dp : Nat)] (A ++ rdr s at_ many :: B) = some (.ret (.agg ecA), A ++ rdr s (at_ + 11) (many + 2) :: B) := by
  have d0 : s.drop at_ = 60 :: 97 :: 62 :: 60 :: 98 :: 47 :: 62 :: 60 :: 47 :: 97 :: 62 :: r := hd0
  have d1 := drop_one d0
  have d2 := drop_one d1
  have d3 := drop_one d2
  have d4 := drop_one d3
  have d5 := drop_one d4
  have d7 := drop_one (drop_one d5)
  have d9 := drop_one (drop_one d7)
  have d10 := drop_one d9
  have hmi : mi < A.length + (B.length + 1) := by
    have := (List.getElem?_eq_some_iff.1 (hm [] 0 0)).1
    simpa [Nat.add_assoc] using this
  have hlt : at_ + 1 + 1 + 1 + 1 + 1 + 1 + 1 < s.length := (List.getElem?_eq_some_iff.1 (get_at d7)).1
  have m1 : 1 = nmN (s.drop (at_ + 1)) := by rw [d1]; rfl
  have m4 : 1 = nmN (s.drop (at_ + 1 + 1 + 1 + 1)) := by rw [d4]; rfl
  have m9 : 1 = nmN (s.drop (at_ + 1 + 1 + 1 + 1 + 1 + 1 + 1 + 1 + 1)) := by rw [d9]; rfl
  have t1 : (s.drop (at_ + 1)).take 1 = [97] := by rw [d1]; rfl
  have t4 : (s.drop (at_ + 1 + 1 + 1 + 1)).take 1 = [98] := by rw [d4]; rfl
  have t9 : (s.drop (at_ + 1 + 1 + 1 + 1 + 1 + 1 + 1 + 1 + 1)).take 1 = [97] := by rw [d9]; rfl
  have hC : ∀ dd, dd + 1 = d → evFI Tryz.prog (cfg ml) T N dd 67 [.ptr A.length 0 0, .map (A.length + (B.length + 2)), .int .i64 (dp : Nat)] (A ++ rdr s (at_ + 1 + 1 + 1) (many + 1) :: (B ++ addE mi nsv)) = some (.ret (.lst 1 ecB), A ++ rdr s (at_ + 1 + 1 + 1 + 1 + 1 + 2) (many + 1 + 1) :: (B ++ addE mi nsv)) := fun dd hdd2 => by
    have hE : ∀ ddd, ddd + 1 = dd → evFI Tryz.prog (cfg ml) T N ddd 38 [.ptr A.length 0 0, .map (A.length + (B.length + 2)), .int .i64 ((dp + 1 : Nat) : Int)] (A ++ rdr s (at_ + 1 + 1 + 1) (many + 1) :: ((B ++ addE mi nsv) ++ addC)) = some (.ret (.agg ecB), A ++ rdr s (at_ + 1 + 1 + 1 + 1 + 1 + 2) (many + 1 + 1) :: ((B ++ addE mi nsv) ++ addC)) := fun ddd h3 => by
      have h := elem_short (ml := ml) s hs hN (at_ + 1 + 1 + 1) (many + 1) A ((B ++ addE mi nsv) ++ addC) ((hlo.addE hmi).addC) (A.length + (B.length + 2)) nsv (dp + 1) (fun L a m => by
          rw [getE_k, List.getElem?_cons_succ, List.append_assoc, List.append_assoc, getE_k]; rfl) 98 (get_at d3) (at_ + 1 + 1 + 1 + 1) rfl (get_at d4) (by decide) 1 m4 (at_ + 1 + 1 + 1 + 1 + 1) rfl (by rw [d5]; rfl) 0 (by rw [d5]; rfl) (at_ + 1 + 1 + 1 + 1 + 1) rfl (get_at d5) (by rw [d5]; simp [hasP]) (by omega) (by omega) ddd (by omega)
      rw [t4] at h
      exact h
    exact content_one (ml := ml) s hs (by omega) _ _ A _ (hlo.addE hmi) _ dp (by omega) 98 _ d3 (by decide) (by decide) (by decide) (at_ + 1 + 1 + 1 + 1 + 1 + 2) _ [] [98] [] 0 0 [] [] rfl rfl dd (by omega) hE (by omega) (by rw [d7]; simp [hasP])
  have h := elem_open (ml := ml) s hs hN at_ many A B hlo mi nsv dp hm 97 (get_at d0) (at_ + 1) rfl (get_at d1) (by decide) 1 m1 (at_ + 1 + 1) rfl (by rw [d2]; rfl) (by rw [d2]; rfl) (get_at d2) (by omega) (by omega) (at_ + 1 + 1 + 1) rfl d (by omega) 1 ecB rfl (at_ + 1 + 1 + 1 + 1 + 1 + 2) (many + 1 + 1)
    (by rw [t1]; exact hC) (by rw [d7]; simp [hasP]) (at_ + 1 + 1 + 1 + 1 + 1 + 1 + 1 + 1 + 1) rfl 97 (get_at d9) (by decide) 1 m9 (at_ + 1 + 1 + 1 + 1 + 1 + 1 + 1 + 1 + 1 + 1) rfl (by rw [d10]; rfl) (by rw [t1, t9]) 0 (by rw [d10]; rfl) (at_ + 1 + 1 + 1 + 1 + 1 + 1 + 1 + 1 + 1 + 1) rfl (get_at d10)
  rw [t1] at h
  exact h
end
def fstW : List Nat → Nat → Nat
  | [], f => f
  | k :: ks, f => fstW ks (if 6 ≤ k ∧ f = 0 then k else f)
def wrsW : List Nat → Nat → Nat
  | [], w => w
  | k :: ks, w => wrsW ks (max w k)
theorem fstW_pos : ∀ (ks : List Nat) (f : Nat), 0 < f → fstW ks f = f
  | [], f, _ => rfl
  | k :: ks, f, h => by
    unfold fstW
    rw [if_neg (by omega)]
    exact fstW_pos ks f h
theorem fstW_good : ∀ (ks : List Nat), (∀ k ∈ ks, k < 6) → fstW ks 0 = 0
  | [], _ => rfl
  | k :: ks, h => by
    have := h k (by simp)
    unfold fstW
    rw [if_neg (by omega)]
    exact fstW_good ks fun c hc => h c (by simp [hc])
theorem fstW_bad (k : Nat) (hk : 6 ≤ k) (post : List Nat) : ∀ pre : List Nat, (∀ k ∈ pre, k < 6) → fstW (pre ++ k :: post) 0 = k
  | [], _ => by
    show fstW (k :: post) 0 = k
    unfold fstW
    rw [if_pos ⟨hk, rfl⟩]
    exact fstW_pos post k (by omega)
  | c :: pre, h => by
    have := h c (by simp)
    show fstW (c :: (pre ++ k :: post)) 0 = k
    unfold fstW
    rw [if_neg (by omega)]
    exact fstW_bad k hk post pre fun c hc => h c (by simp [hc])
theorem wrsW_le : ∀ (ks : List Nat) (w : Nat), w ≤ wrsW ks w
  | [], w => Nat.le_refl _
  | k :: ks, w => by
    unfold wrsW
    have := wrsW_le ks (max w k)
    omega
theorem wrsW_good : ∀ (ks : List Nat) (w : Nat), w < 6 → (∀ k ∈ ks, k < 6) → wrsW ks w < 6
  | [], w, h, _ => h
  | k :: ks, w, h, h2 => by
    have := h2 k (by simp)
    unfold wrsW
    exact wrsW_good ks _ (by omega) fun c hc => h2 c (by simp [hc])
theorem wrsW_bad (k : Nat) (hk : 6 ≤ k) (post : List Nat) : ∀ (pre : List Nat) (w : Nat), 6 ≤ wrsW (pre ++ k :: post) w
  | [], w => by
    show 6 ≤ wrsW (k :: post) w
    unfold wrsW
    have := wrsW_le post (max w k)
    omega
  | c :: pre, w => by
    show 6 ≤ wrsW (c :: (pre ++ k :: post)) w
    unfold wrsW
    exact wrsW_bad k hk post pre _
theorem good_or : ∀ ks : List Nat, (∀ k ∈ ks, k < 10) → (∀ k ∈ ks, k < 6) ∨ ∃ pre k post, ks = pre ++ k :: post ∧ (∀ c ∈ pre, c < 6) ∧ 6 ≤ k ∧ k < 10
  | [], _ => .inl (by simp)
  | k :: ks, h => by
    have hk := h k (by simp)
    rcases Nat.lt_or_ge k 6 with h6 | h6
    · rcases good_or ks fun c hc => h c (by simp [hc]) with hg | ⟨pre, j, post, rfl, h1, h2, h3⟩
      · exact .inl fun c hc => by
          rcases List.mem_cons.1 hc with rfl | hc
          · exact h6
          · exact hg c hc
      · refine .inr ⟨k :: pre, j, post, rfl, fun c hc => ?_, h2, h3⟩
        rcases List.mem_cons.1 hc with rfl | hc
        · exact h6
        · exact h1 c hc
    · exact .inr ⟨[], k, ks, rfl, by simp, h6, hk⟩
theorem tok_all (k : Nat) : (tok k).all plainB = true ∧ (tok k).length ≤ 12 := by
  match k with
  | 0 => decide
  | 1 => decide
  | 2 => decide
  | 3 => decide
  | 4 => decide
  | 5 => decide
  | 6 => decide
  | 7 => decide
  | 8 => decide
  | 9 => decide
  | k + 10 => exact ⟨rfl, by show 0 ≤ 12; omega⟩
theorem toks_plain : ∀ ks : List Nat, (toks ks).all plainB = true ∧ (toks ks).length ≤ 12 * ks.length
  | [] => ⟨rfl, Nat.le_refl _⟩
  | k :: ks => by
    have h := toks_plain ks
    have h2 := tok_all k
    have e : toks (k :: ks) = tok k ++ toks ks := rfl
    rw [e, List.all_append, List.length_append]
    exact ⟨by rw [h.1, h2.1]; rfl, by simp; omega⟩
theorem toks_app (a b : List Nat) : toks (a ++ b) = toks a ++ toks b := by unfold toks; rw [List.flatMap_append]
def miscR (ks1 ks2 : List Nat) : AV := if fstW ks1 0 = 8 then .tup [.agg ecZ, .int .i64 13] else if 0 < fstW ks1 0 ∨ 6 ≤ wrsW ks2 0 then .tup [.agg ecZ, .int .i64 10] else .tup [.agg ecA, .int .i64 0]
theorem head_no (ks : List Nat) (hk : ∀ k ∈ ks, k < 10) (r : List UInt8) : hasP (toks ks ++ (coreT ++ r)) [239, 187, 191] = false ∧ hasP (toks ks ++ (coreT ++ r)) [60, 63, 120, 109, 108] = false := by
  cases ks with
  | nil => exact ⟨by simp [toks, coreT, hasP], by simp [toks, coreT, hasP]⟩
  | cons k ks =>
    rw [toks_cons]
    generalize toks ks ++ (coreT ++ r) = u
    have h := hk k (by simp)
    match k with
    | 0 => exact ⟨by simp [tok, hasP], by simp [tok, hasP]⟩
    | 1 => exact ⟨by simp [tok, hasP], by simp [tok, hasP]⟩
    | 2 => exact ⟨by simp [tok, hasP], by simp [tok, hasP]⟩
    | 3 => exact ⟨by simp [tok, hasP], by simp [tok, hasP]⟩
    | 4 => exact ⟨by simp [tok, hasP], by simp [tok, hasP]⟩
    | 5 => exact ⟨by simp [tok, hasP], by simp [tok, hasP]⟩
    | 6 => exact ⟨by simp [tok, hasP], by simp [tok, hasP]⟩
    | 7 => exact ⟨by simp [tok, hasP], by simp [tok, hasP]⟩
    | 8 => exact ⟨by simp [tok, hasP], by simp [tok, hasP]⟩
    | 9 => exact ⟨by simp [tok, hasP], by simp [tok, hasP]⟩
    | k + 10 => exact absurd h (by omega)
section
variable {N : Nat} (hN : 4294967281 ≤ N)
include hN
theorem misc_read (ks1 ks2 : List Nat) (h1 : ∀ k ∈ ks1, k < 10) (h2 : ∀ k ∈ ks2, k < 10) (hl1 : ks1.length ≤ 20) (hl2 : ks2.length ≤ 20) (x : List UInt8) (hx : x = toks ks1 ++ (coreT ++ toks ks2)) (H : Mem) (hlo : lowM H.length H = true) (q ty : Nat) (hq : H[q]? = some (.row (ofBytes x) 0 ty)) (d : Nat) (hd : 12 ≤ d) :
    evFI Tryz.prog (cfg ml) T N d 13 [.slc q 0 x.length 1 0] H = some (.ret (miscR ks1 ks2), H) := by
  obtain ⟨n, rfl⟩ : ∃ k, d = k + 1 := ⟨d - 1, by omega⟩
  have hp1 := toks_plain ks1
  have hp2 := toks_plain ks2
  have hlen : x.length = (toks ks1).length + (11 + (toks ks2).length) := by rw [hx]; simp [coreT]; omega
  have hp : ∀ c ∈ x, plainB c = true := by
    rw [← List.all_eq_true, hx, List.all_append, List.all_append, hp1.1, hp2.1]; rfl
  have hx1 := (head_no ks1 h1 (toks ks2)).1
  have hx2 := (head_no ks1 h1 (toks ks2)).2
  rw [← hx] at hx1 hx2
  have dx : x.drop 0 = x := rfl
  have hmi : ∀ A : Mem, ∀ L : Mem, ∀ p m, (A ++ rdr x p m :: ([scope1 nsX] ++ L))[A.length + 1]? = some (scope1 nsX) := fun A L p m => by rw [getE_k]; rfl
  rcases good_or ks1 h1 with hg | ⟨pre, k, post, hks, hpre, hk6, hk10⟩
  · have d0 : x.drop 0 = toks ks1 ++ (coreT ++ toks ks2) := by rw [dx, hx]
    have hM1 : ∀ A : Mem, evFI Tryz.prog (cfg ml) T N n 37 [.ptr A.length 0 0, .bool true] (A ++ rdr x 0 0 :: []) = some (.ret (.tup []), A ++ rdr x (0 + (toks ks1).length) 0 :: []) := fun A =>
      misc_ret (P := Tryz.prog) (N := N) (ml := ml) x 0 A [] (by omega) (by omega) true (coreT ++ toks ks2) (blN_no rfl) (hasP_two _ _ _ _ _ (by decide)) (hasP_two _ _ _ _ _ (by decide)) (fun _ => hasP_two _ _ _ _ _ (by decide)) ks1 hg 0 (by omega) d0 n (by omega)
    have d1 : x.drop (0 + (toks ks1).length) = coreT ++ toks ks2 := drop_next d0
    have d2 : x.drop (0 + (toks ks1).length + 11) = toks ks2 := drop_next (l := coreT) d1
    have hE : ∀ A : Mem, LoM A [scope1 nsX] → evFI Tryz.prog (cfg ml) T N n 38 [.ptr A.length 0 0, .map (A.length + 1), .int .i64 0] (A ++ rdr x (0 + (toks ks1).length) 0 :: [scope1 nsX]) = some (.ret (.agg ecA), A ++ rdr x (0 + (toks ks1).length + 11) (0 + 2) :: [scope1 nsX]) := fun A hA =>
      core_el (ml := ml) x (by omega) (by omega) _ 0 A [scope1 nsX] (A.length + 1) nsX 0 (toks ks2) d1 hA (hmi A) (by omega) (by omega) n (by omega)
    rcases good_or ks2 h2 with hg2 | ⟨pre, k, post, hks, hpre, hk6, hk10⟩
    · have hM2 : ∀ A B : Mem, evFI Tryz.prog (cfg ml) T N n 37 [.ptr A.length 0 0, .bool false] (A ++ rdr x (0 + (toks ks1).length + 11) (0 + 2) :: B) = some (.ret (.tup []), A ++ rdr x x.length (0 + 2) :: B) := fun A B => by
        have h := misc_ret (P := Tryz.prog) (N := N) (ml := ml) x (0 + 2) A B (by omega) (by omega) false [] rfl rfl rfl (fun h => by cases h) ks2 hg2 (0 + (toks ks1).length + 11) (by omega) (by rw [d2, List.append_nil]) n (by omega)
        rw [show 0 + (toks ks1).length + 11 + (toks ks2).length = x.length by omega] at h
        exact h
      have hR : miscR ks1 ks2 = .tup [.agg ecA, .int .i64 0] := by
        unfold miscR
        rw [fstW_good ks1 hg, if_neg (by omega), if_neg (by have := wrsW_good ks2 0 (by omega) hg2; omega)]
      rw [hR]
      exact read_ok (ml := ml) x (by omega) (by omega) hp n q ty H hq hx1 hx2 _ hM1 (by omega) [] [97] [] _ _ 1 0 [] ecB rfl rfl hE hM2 hlo
    · have d2' : x.drop (0 + (toks ks1).length + 11) = toks pre ++ (tok k ++ toks post) := by rw [d2, hks, toks_app]; rfl
      have hbl : blN (tok k ++ toks post) = 0 ∧ hasP (tok k ++ toks post) [60, 33, 45, 45] = false ∧ hasP (tok k ++ toks post) [60, 63] = false ∧ 1 ≤ (tok k).length := by
        match k with
        | 6 => exact ⟨blN_no rfl, by simp [tok, hasP], by simp [tok, hasP], by decide⟩
        | 7 => exact ⟨blN_no rfl, by simp [tok, hasP], by simp [tok, hasP], by decide⟩
        | 8 => exact ⟨blN_no rfl, by simp [tok, hasP], by simp [tok, hasP], by decide⟩
        | 9 => exact ⟨blN_no rfl, by simp [tok, hasP], by simp [tok, hasP], by decide⟩
        | 0 => exact absurd hk6 (by omega)
        | 1 => exact absurd hk6 (by omega)
        | 2 => exact absurd hk6 (by omega)
        | 3 => exact absurd hk6 (by omega)
        | 4 => exact absurd hk6 (by omega)
        | 5 => exact absurd hk6 (by omega)
        | k + 10 => exact absurd hk10 (by omega)
      obtain ⟨b1, b2, b3, b4⟩ := hbl
      have hl3 : 0 + (toks ks1).length + 11 + (toks pre).length < x.length := by
        have : (toks ks2).length = (toks pre).length + ((tok k).length + (toks post).length) := by rw [hks, toks_app, List.length_append]; congr 1; unfold toks; simp
        omega
      have hM2 : ∀ A B : Mem, evFI Tryz.prog (cfg ml) T N n 37 [.ptr A.length 0 0, .bool false] (A ++ rdr x (0 + (toks ks1).length + 11) (0 + 2) :: B) = some (.ret (.tup []), A ++ rdr x (0 + (toks ks1).length + 11 + (toks pre).length) (0 + 2) :: B) := fun A B =>
        misc_ret (P := Tryz.prog) (N := N) (ml := ml) x (0 + 2) A B (by omega) (by omega) false (tok k ++ toks post) b1 b2 b3 (fun h => by cases h) pre hpre (0 + (toks ks1).length + 11) (by omega) d2' n (by omega)
      have hR : miscR ks1 ks2 = .tup [.agg ecZ, .int .i64 10] := by
        unfold miscR
        rw [fstW_good ks1 hg, if_neg (by omega), if_pos (.inr (by rw [hks]; exact wrsW_bad k hk6 post pre 0))]
      rw [hR]
      exact read_bad (ml := ml) x (by omega) (by omega) hp n q ty H hq hx1 hx2 (by omega) _ hM1 [] [97] [] _ _ _ 1 0 [] ecB rfl rfl hE hM2 hl3 hlo
  · have hxs : x = toks pre ++ (tok k ++ (toks post ++ (coreT ++ toks ks2))) := by
      rw [hx, hks, toks_app]
      show toks pre ++ (tok k ++ toks post) ++ _ = _
      simp only [List.append_assoc]
    have d0 : x.drop 0 = toks pre ++ (tok k ++ (toks post ++ (coreT ++ toks ks2))) := by rw [dx]; exact hxs
    generalize toks post ++ (coreT ++ toks ks2) = u at *
    have d1 : x.drop (0 + (toks pre).length) = tok k ++ u := drop_next d0
    have hpl : 0 + (toks pre).length ≤ x.length := by rw [hxs]; simp
    have hfst : fstW ks1 0 = k := by rw [hks]; exact fstW_bad k hk6 post pre hpre
    have hprel : pre.length < N := by
      have : ks1.length = pre.length + (post.length + 1) := by rw [hks]; simp
      omega
    have other : ∀ (hb : blN (tok k ++ u) = 0) (g1 : hasP (tok k ++ u) [60, 33, 45, 45] = false) (g2 : hasP (tok k ++ u) [60, 63] = false) (g3 : hasP (tok k ++ u) [60, 33, 68, 79, 67, 84, 89, 80, 69] = false) (g4 : hasP (tok k ++ u) [60] = false ∨ (hasP (tok k ++ u) [60] = true ∧ ∃ b, x[0 + (toks pre).length + 1]? = some b ∧ fst8 b = false)) (g5 : k ≠ 8),
        evFI Tryz.prog (cfg ml) T N (n + 1) 13 [.slc q 0 x.length 1 0] H = some (.ret (miscR ks1 ks2), H) := by
      intro hb g1 g2 g3 g4 g5
      have hM1 : ∀ A : Mem, evFI Tryz.prog (cfg ml) T N n 37 [.ptr A.length 0 0, .bool true] (A ++ rdr x 0 0 :: []) = some (.ret (.tup []), A ++ rdr x (0 + (toks pre).length) 0 :: []) := fun A =>
        misc_ret (P := Tryz.prog) (N := N) (ml := ml) x 0 A [] (by omega) (by omega) true (tok k ++ u) hb g1 g2 (fun _ => g3) pre hpre 0 (by omega) d0 n (by omega)
      have hE : ∀ A : Mem, LoM A [scope1 nsX] → ∃ M, evFI Tryz.prog (cfg ml) T N n 38 [.ptr A.length 0 0, .map (A.length + 1), .int .i64 0] (A ++ rdr x (0 + (toks pre).length) 0 :: [scope1 nsX]) = some (.pan (failv 10), M) ∧ M.take A.length = A := fun A hA =>
        elem_no (ml := ml) x (by omega) _ 0 A [scope1 nsX] (A.length + 1) 0 hpl (by rw [d1]; exact g4) n (by omega)
      have hR : miscR ks1 ks2 = .tup [.agg ecZ, .int .i64 10] := by
        unfold miscR
        rw [hfst, if_neg g5, if_pos (.inl (by omega))]
      rw [hR]
      exact read_pan (ml := ml) x (by omega) (by omega) hp n q ty H hq hx1 hx2 _ hM1 (by omega) 10 hE hlo
    match k with
    | 6 => exact other (blN_no rfl) (by simp [tok, hasP]) (by simp [tok, hasP]) (by simp [tok, hasP]) (.inl (by simp [tok, hasP])) (by decide)
    | 7 => exact other (blN_no rfl) (by simp [tok, hasP]) (by simp [tok, hasP]) (by simp [tok, hasP]) (.inl (by simp [tok, hasP])) (by decide)
    | 8 =>
      have hM1 : ∀ A : Mem, evFI Tryz.prog (cfg ml) T N n 37 [.ptr A.length 0 0, .bool true] (A ++ rdr x 0 0 :: []) = some (.pan (failv 13), A ++ rdr x (0 + (toks pre).length) 0 :: []) := fun A =>
        misc_doc (P := Tryz.prog) (N := N) (ml := ml) x 0 A [] (by omega) (by omega) (tok 8 ++ u) (by simp [tok, hasP]) (blN_no rfl) (by simp [tok, hasP]) (by simp [tok, hasP]) pre hpre hprel 0 (by omega) d0 n (by omega)
      have hR : miscR ks1 ks2 = .tup [.agg ecZ, .int .i64 13] := by
        unfold miscR
        rw [hfst, if_pos rfl]
      rw [hR]
      exact read_mpan (ml := ml) x (by omega) (by omega) hp n q ty H hq hx1 hx2 (by omega) 13 _ hM1 hlo
    | 9 => exact other (blN_no rfl) (by simp [tok, hasP]) (by simp [tok, hasP]) (by simp [tok, hasP]) (.inr ⟨by simp [tok, hasP], 33, get_at (drop_one (show x.drop (0 + (toks pre).length) = 60 :: 33 :: ([91, 67, 68, 65, 84, 65, 91, 93, 93, 62] ++ u) from d1)), by decide⟩) (by decide)
    | 0 => exact absurd hk6 (by omega)
    | 1 => exact absurd hk6 (by omega)
    | 2 => exact absurd hk6 (by omega)
    | 3 => exact absurd hk6 (by omega)
    | 4 => exact absurd hk6 (by omega)
    | 5 => exact absurd hk6 (by omega)
    | k + 10 => exact absurd hk10 (by omega)
end
end Go.Proofs.YtmnajffpmbidiaaGreatDoor.Ev
