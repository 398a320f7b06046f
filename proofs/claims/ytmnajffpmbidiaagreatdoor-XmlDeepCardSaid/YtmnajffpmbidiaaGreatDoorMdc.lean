/- Parts of one proof, one behind the other: The reader of xml: its small functions, reckoned with letters. -/
import Derived.Test.YtmnajffpmbidiaaGreatDoorMdb
/- The reader of xml: its small functions, reckoned with letters. -/
namespace Go.Proofs.YtmnajffpmbidiaaGreatDoor.Ev
set_option linter.all false
variable {ml : Int}
open Go.Proofs.YtmnajffpmbidiaaGreatDoor.Ic
set_option maxRecDepth 100000
set_option maxHeartbeats 2000000
set_option linter.unusedSimpArgs false
def rdr (s : List UInt8) (at_ many : Nat) : Blk := .row [.str s, .int .i64 (at_ : Nat), .int .i64 (many : Nat)] 0 (61 + 1)
def failv (e : Int) : AV := .iface 55 (.agg [.int .i64 e])
def hasP (t p : List UInt8) : Bool := decide (p.length ≤ t.length) && (t.take p.length == p)
section
variable {P : Program} {g : Cfg} {F : FSem} {N : Nat} {x y c : IC} {a a' : AAct} {H H' : Mem} {v : AV} {id : Nat}
theorem evI_seq_pan (h : evI P g F N x a H = some (.pan v, a', H')) : evI P g F N (.seq x y) a H = some (.pan v, a', H') := by simp only [evI, h]
theorem evI_block_pan (h : evI P g F N c a H = some (.pan v, a', H')) : evI P g F N (.block id c) a H = some (.pan v, a', H') := by simp only [evI, h]
theorem loopA_pan {body : AAct → Mem → Option (Out × AAct × Mem)} {lv : Option (List Tmp)} {n : Nat} (h : body a H = some (.pan v, a', H')) : loopA body lv (n + 1) a H = some (.pan v, a', H') := by
  rw [loopA_succ, h]
end
section
variable {P : Program} {g : Cfg} {T : FuncId → Option IF} {N n f m : Nat} {i : IF} {args : List AV} {H H1 H2 : Mem} {a : AAct} {v v' : AV}
theorem evF_pan (hl : g.lib f = none) (hT : T f = some i) (hm : max args.length i.n = m) (hb : evI P g (evFI P g T N n) N i.c ⟨m, idx 0 args, []⟩ H = some (.pan v, a, H1)) (hd : a.d = []) (hz : finish false H v H1 = (v', H2)) :
    evFI P g T N (n + 1) f args H = some (.pan v', H2) := by
  simp only [evFI, hl, hT, hm, hb, hd, List.isEmpty_nil, if_true, hz]
theorem fin_fail (e : Int) {A H0 H1 : Mem} (hA : H1.take A.length = A) (hle : A.length ≤ H0.length) : ∃ M, finish false H0 (failv e) H1 = (failv e, M) ∧ M.take A.length = A := by
  have hf : frz H0.length H1 12 (failv e) = some (failv e) := rfl
  unfold finish
  simp only [Bool.false_eq_true, if_false, hf]
  split
  · refine ⟨_, rfl, ?_⟩
    rw [List.take_take, Nat.min_eq_left hle, hA]
  · exact ⟨_, rfl, hA⟩
end
variable {P : Program} {N : Nat}
theorem must_t (d : Nat) (hd : 1 ≤ d) (e : Int) (H : Mem) : evFI P (cfg ml) T N d 31 [.bool true, .int .i64 e] H = some (.ret (.tup []), H) := by
  obtain ⟨n, rfl⟩ : ∃ n, d = n + 1 := ⟨d - 1, by omega⟩
  refine evF_nrm (m := 9) (v := .tup []) (a := ?aa) (H1 := ?Ha) rfl t31 rfl ?hb ?hd ?hr ?hz
  case hb => simp only [List.length_cons, List.length_nil, idx, I31, List.append_nil, List.nil_append, List.cons_append, List.getD_cons_zero, List.getD_cons_succ, evI, opsI, stepI, wantI, opI, AAct.evI, look, AAct.put, mkVal, mkVM, intOpA, intA, shiftA, unA, decide_true, decide_false, Option.map_some, Option.map_none, reduceIte, Nat.reduceEqDiff, Nat.reduceLT, Option.bind_some, Option.bind_none, true_and, and_true, and_self, Nat.zero_lt_succ, cellsAt, List.length_append, Nat.le_add_right, List.length_cons, List.length_nil, Nat.zero_add, Nat.add_zero, Nat.reduceAdd, Nat.reduceMul, Nat.zero_mul, AV.cells, AV.one, known, List.append_assoc, getE_0, getE_k, setE_0, setE_k, List.getElem?_cons_zero, List.getElem?_cons_succ, List.set_cons_zero, List.set_cons_succ, List.take_succ_cons, List.take_zero, List.drop_zero, List.drop_succ_cons, List.drop_nil, List.all_cons, List.all_nil, Bool.and_self, Bool.and_true, Bool.true_and, Bool.and_false, Bool.false_and, splice, fillI, Nat.reduceLeDiff, strA, Nat.add_assoc, beq_self_eq_true, Bool.false_eq_true, bq_ft, bq_tf, Bool.not_true, Bool.not_false, Nat.le_refl, List.map_cons, List.map_nil, isNilA, nilPtr, nilSl, nilIf, nilFn, nilMap, nilCheckA, if_true, if_false, lt_lit, le_lit, lt_lit2, le_lit2, le_sub1, le_sub2]; rfl
  case hd => rfl
  case hr => simp only [I31, resI, resLI, look, reduceIte, Nat.reduceEqDiff, Option.map_some]
  case hz => exact fin_len rfl rfl
theorem must_f (d : Nat) (hd : 1 ≤ d) (e : Int) (H : Mem) : evFI P (cfg ml) T N d 31 [.bool false, .int .i64 e] H = some (.pan (failv e), H) := by
  obtain ⟨n, rfl⟩ : ∃ n, d = n + 1 := ⟨d - 1, by omega⟩
  refine evF_pan (m := 9) (v := failv e) (a := ?aa) (H1 := ?Ha) rfl t31 rfl ?hb ?hd ?hz
  case hb => simp only [List.length_cons, List.length_nil, idx, I31, failv, List.append_nil, List.nil_append, List.cons_append, List.getD_cons_zero, List.getD_cons_succ, evI, opsI, stepI, wantI, opI, AAct.evI, look, AAct.put, mkVal, mkVM, intOpA, intA, shiftA, unA, decide_true, decide_false, Option.map_some, Option.map_none, reduceIte, Nat.reduceEqDiff, Nat.reduceLT, Option.bind_some, Option.bind_none, true_and, and_true, and_self, Nat.zero_lt_succ, cellsAt, List.length_append, Nat.le_add_right, List.length_cons, List.length_nil, Nat.zero_add, Nat.add_zero, Nat.reduceAdd, Nat.reduceMul, Nat.zero_mul, AV.cells, AV.one, known, List.append_assoc, getE_0, getE_k, setE_0, setE_k, List.getElem?_cons_zero, List.getElem?_cons_succ, List.set_cons_zero, List.set_cons_succ, List.take_succ_cons, List.take_zero, List.drop_zero, List.drop_succ_cons, List.drop_nil, List.all_cons, List.all_nil, Bool.and_self, Bool.and_true, Bool.true_and, Bool.and_false, Bool.false_and, splice, fillI, Nat.reduceLeDiff, strA, Nat.add_assoc, beq_self_eq_true, Bool.false_eq_true, bq_ft, bq_tf, Bool.not_true, Bool.not_false, Nat.le_refl, List.map_cons, List.map_nil, isNilA, nilPtr, nilSl, nilIf, nilFn, nilMap, nilCheckA, if_true, if_false, lt_lit, le_lit, lt_lit2, le_lit2, le_sub1, le_sub2]; rfl
  case hd => rfl
  case hz => exact fin_len rfl rfl
theorem slHasPrefix_eq (d : Nat) (hd : 1 ≤ d) (x p : List UInt8) (H : Mem) : evFI P (cfg ml) T N d 55 [.str x, .str p] H = some (.ret (.bool (hasP x p)), H) := by
    obtain ⟨n, rfl⟩ : ∃ n, d = n + 1 := ⟨d - 1, by omega⟩
    have hn := natOf_nat p.length .i64
    have b0 : bound 0 none = some 0 := rfl
    cases hc : decide ((x.length : Int) ≥ (p.length : Int))
    · have e : hasP x p = false := by
        have := of_decide_eq_false hc
        unfold hasP
        rw [decide_eq_false (by omega)]; rfl
      rw [e]
      refine evF_ret (m := 18) (v := .bool false) (a := ?aa) (H1 := ?Ha) rfl t55 rfl ?hb ?hd ?hr ?hz
      case hb => simp only [List.length_cons, List.length_nil, idx, I55, hc, List.append_nil, List.nil_append, List.cons_append, List.getD_cons_zero, List.getD_cons_succ, evI, opsI, stepI, wantI, opI, AAct.evI, look, AAct.put, mkVal, mkVM, intOpA, intA, shiftA, unA, decide_true, decide_false, Option.map_some, Option.map_none, reduceIte, Nat.reduceEqDiff, Nat.reduceLT, Option.bind_some, Option.bind_none, true_and, and_true, and_self, Nat.zero_lt_succ, cellsAt, List.length_append, Nat.le_add_right, List.length_cons, List.length_nil, Nat.zero_add, Nat.add_zero, Nat.reduceAdd, Nat.reduceMul, Nat.zero_mul, AV.cells, AV.one, known, List.append_assoc, getE_0, getE_k, setE_0, setE_k, List.getElem?_cons_zero, List.getElem?_cons_succ, List.set_cons_zero, List.set_cons_succ, List.take_succ_cons, List.take_zero, List.drop_zero, List.drop_succ_cons, List.drop_nil, List.all_cons, List.all_nil, Bool.and_self, Bool.and_true, Bool.true_and, Bool.and_false, Bool.false_and, splice, fillI, Nat.reduceLeDiff, strA, Nat.add_assoc, beq_self_eq_true, Bool.false_eq_true, bq_ft, bq_tf, Bool.not_true, Bool.not_false, Nat.le_refl, List.map_cons, List.map_nil, isNilA, nilPtr, nilSl, nilIf, nilFn, nilMap, nilCheckA, if_true, if_false, lt_lit, le_lit, lt_lit2, le_lit2, le_sub1, le_sub2]; rfl
      case hd => rfl
      case hr => simp only [I55, resI, resLI, look, reduceIte, Nat.reduceEqDiff, Option.map_some]
      case hz => exact fin_len rfl rfl
    · have hle : p.length ≤ x.length := by have := of_decide_eq_true hc; omega
      have e : hasP x p = (x.take p.length == p) := by
        unfold hasP
        rw [decide_eq_true hle]; rfl
      rw [e]
      generalize hq : (x.take p.length == p) = q
      refine evF_ret (m := 18) (v := .bool q) (a := ?ab) (H1 := ?Hb) rfl t55 rfl ?hb ?hd ?hr ?hz
      case hb => simp only [List.length_cons, List.length_nil, idx, I55, hc, bound, hn, hle, Nat.zero_le, Nat.sub_zero, hq, List.append_nil, List.nil_append, List.cons_append, List.getD_cons_zero, List.getD_cons_succ, evI, opsI, stepI, wantI, opI, AAct.evI, look, AAct.put, mkVal, mkVM, intOpA, intA, shiftA, unA, decide_true, decide_false, Option.map_some, Option.map_none, reduceIte, Nat.reduceEqDiff, Nat.reduceLT, Option.bind_some, Option.bind_none, true_and, and_true, and_self, Nat.zero_lt_succ, cellsAt, List.length_append, Nat.le_add_right, List.length_cons, List.length_nil, Nat.zero_add, Nat.add_zero, Nat.reduceAdd, Nat.reduceMul, Nat.zero_mul, AV.cells, AV.one, known, List.append_assoc, getE_0, getE_k, setE_0, setE_k, List.getElem?_cons_zero, List.getElem?_cons_succ, List.set_cons_zero, List.set_cons_succ, List.take_succ_cons, List.take_zero, List.drop_zero, List.drop_succ_cons, List.drop_nil, List.all_cons, List.all_nil, Bool.and_self, Bool.and_true, Bool.true_and, Bool.and_false, Bool.false_and, splice, fillI, Nat.reduceLeDiff, strA, Nat.add_assoc, beq_self_eq_true, Bool.false_eq_true, bq_ft, bq_tf, Bool.not_true, Bool.not_false, Nat.le_refl, List.map_cons, List.map_nil, isNilA, nilPtr, nilSl, nilIf, nilFn, nilMap, nilCheckA, if_true, if_false, lt_lit, le_lit, lt_lit2, le_lit2, le_sub1, le_sub2]; rfl
      case hd => rfl
      case hr => simp only [I55, resI, resLI, look, reduceIte, Nat.reduceEqDiff, Option.map_some]
      case hz => exact fin_len rfl rfl
theorem hasPrefix_eq (d : Nat) (hd : 2 ≤ d) (x p : List UInt8) (H : Mem) : evFI P (cfg ml) T N d 33 [.str x, .str p] H = some (.ret (.bool (hasP x p)), H) := by
  obtain ⟨n, rfl⟩ : ∃ n, d = n + 2 := ⟨d - 2, by omega⟩
  have h1 := slHasPrefix_eq (P := P) (N := N) (ml := ml) (n + 1) (by omega) x p H
  generalize hasP x p = q at *
  refine evF_ret (m := 8) (v := .bool q) (a := ?ac) (H1 := ?Hc) rfl t33 rfl ?hb ?hd ?hr ?hz
  case hb => simp only [List.length_cons, List.length_nil, idx, I33, h1, List.append_nil, List.nil_append, List.cons_append, List.getD_cons_zero, List.getD_cons_succ, evI, opsI, stepI, wantI, opI, AAct.evI, look, AAct.put, mkVal, mkVM, intOpA, intA, shiftA, unA, decide_true, decide_false, Option.map_some, Option.map_none, reduceIte, Nat.reduceEqDiff, Nat.reduceLT, Option.bind_some, Option.bind_none, true_and, and_true, and_self, Nat.zero_lt_succ, cellsAt, List.length_append, Nat.le_add_right, List.length_cons, List.length_nil, Nat.zero_add, Nat.add_zero, Nat.reduceAdd, Nat.reduceMul, Nat.zero_mul, AV.cells, AV.one, known, List.append_assoc, getE_0, getE_k, setE_0, setE_k, List.getElem?_cons_zero, List.getElem?_cons_succ, List.set_cons_zero, List.set_cons_succ, List.take_succ_cons, List.take_zero, List.drop_zero, List.drop_succ_cons, List.drop_nil, List.all_cons, List.all_nil, Bool.and_self, Bool.and_true, Bool.true_and, Bool.and_false, Bool.false_and, splice, fillI, Nat.reduceLeDiff, strA, Nat.add_assoc, beq_self_eq_true, Bool.false_eq_true, bq_ft, bq_tf, Bool.not_true, Bool.not_false, Nat.le_refl, List.map_cons, List.map_nil, isNilA, nilPtr, nilSl, nilIf, nilFn, nilMap, nilCheckA, if_true, if_false, lt_lit, le_lit, lt_lit2, le_lit2, le_sub1, le_sub2]; rfl
  case hd => rfl
  case hr => simp only [I33, resI, resLI, look, reduceIte, Nat.reduceEqDiff, Option.map_some]
  case hz => exact fin_len rfl rfl
section
variable (s : List UInt8) (at_ many : Nat) (A B : Mem) (hs : s.length < 4294967281) (hat : at_ ≤ s.length)
include hat
theorem has_eq (d : Nat) (hd : 3 ≤ d) (p : List UInt8) : evFI P (cfg ml) T N d 62 [.ptr A.length 0 0, .str p] (A ++ rdr s at_ many :: B) = some (.ret (.bool (hasP (s.drop at_) p)), A ++ rdr s at_ many :: B) := by
  obtain ⟨n, rfl⟩ : ∃ n, d = n + 3 := ⟨d - 3, by omega⟩
  have hn := natOf_nat at_ .i64
  have htk : (s.drop at_).take (s.length - at_) = s.drop at_ := List.take_of_length_le (by rw [List.length_drop]; omega)
  have h1 := hasPrefix_eq (P := P) (ml := ml) (N := N) (n + 2) (by omega) (s.drop at_) p (A ++ rdr s at_ many :: B)
  generalize hasP (s.drop at_) p = q at *
  simp only [rdr] at h1
  refine evF_ret (m := 16) (v := .bool q) (a := ?aa) (H1 := ?Ha) rfl t62 rfl ?hb ?hd ?hr ?hz
  case hb => simp only [List.length_cons, List.length_nil, idx, I62, rdr, bound, hn, hat, htk, h1, List.append_nil, List.nil_append, List.cons_append, List.getD_cons_zero, List.getD_cons_succ, evI, opsI, stepI, wantI, opI, AAct.evI, look, AAct.put, mkVal, mkVM, intOpA, intA, shiftA, unA, decide_true, decide_false, Option.map_some, Option.map_none, reduceIte, Nat.reduceEqDiff, Nat.reduceLT, Option.bind_some, Option.bind_none, true_and, and_true, and_self, Nat.zero_lt_succ, cellsAt, List.length_append, Nat.le_add_right, List.length_cons, List.length_nil, Nat.zero_add, Nat.add_zero, Nat.reduceAdd, Nat.reduceMul, Nat.zero_mul, AV.cells, AV.one, known, List.append_assoc, getE_0, getE_k, setE_0, setE_k, List.getElem?_cons_zero, List.getElem?_cons_succ, List.set_cons_zero, List.set_cons_succ, List.take_succ_cons, List.take_zero, List.drop_zero, List.drop_succ_cons, List.drop_nil, List.all_cons, List.all_nil, Bool.and_self, Bool.and_true, Bool.true_and, Bool.and_false, Bool.false_and, splice, fillI, Nat.reduceLeDiff, strA, Nat.add_assoc, beq_self_eq_true, Bool.false_eq_true, bq_ft, bq_tf, Bool.not_true, Bool.not_false, Nat.le_refl, List.map_cons, List.map_nil, isNilA, nilPtr, nilSl, nilIf, nilFn, nilMap, nilCheckA, if_true, if_false, lt_lit, le_lit, lt_lit2, le_lit2, le_sub1, le_sub2, drawI, drawI2, drawI0, drawI20, lexD, valD, valI, putD, okD, roD, memAt, lastM, wantI, eqv_refl, eqM_refl, eqM_app, eqB, eqvL, eqv, List.getLast?_cons_cons, List.getLast?_singleton, Option.getD_some, Bool.or_true, Bool.true_or, beq_self_eq_true, resvV]; rfl
  case hd => rfl
  case hr => simp only [I62, resI, resLI, look, reduceIte, Nat.reduceEqDiff, Option.map_some]
  case hz => exact fin_len rfl rfl
theorem byteAt_in (d : Nat) (hd : 1 ≤ d) (k : Nat) (b : UInt8) (hk : s[at_ + k]? = some b) (hs : s.length < 4294967281) : evFI P (cfg ml) T N d 35 [.ptr A.length 0 0, .int .i64 k] (A ++ rdr s at_ many :: B) = some (.ret (.int .u8 b.toNat), A ++ rdr s at_ many :: B) := by
  obtain ⟨n, rfl⟩ : ∃ n, d = n + 1 := ⟨d - 1, by omega⟩
  have hlt : at_ + k < s.length := (List.getElem?_eq_some_iff.1 hk).1
  have hw : IntKind.wrap .i64 ((at_ : Int) + (k : Int)) = ((at_ + k : Nat) : Int) := by rw [wrap64] <;> omega
  have hc : decide (((at_ + k : Nat) : Int) ≥ (s.length : Int)) = false := decide_eq_false (by omega)
  have hn := natOf_nat (at_ + k) .i64
  refine evF_ret (m := 28) (v := .int .u8 b.toNat) (a := ?aa) (H1 := ?Ha) rfl t35 rfl ?hb ?hd ?hr ?hz
  case hb => simp only [List.length_cons, List.length_nil, idx, I35, rdr, hw, hc, hn, hk, List.append_nil, List.nil_append, List.cons_append, List.getD_cons_zero, List.getD_cons_succ, evI, opsI, stepI, wantI, opI, AAct.evI, look, AAct.put, mkVal, mkVM, intOpA, intA, shiftA, unA, decide_true, decide_false, Option.map_some, Option.map_none, reduceIte, Nat.reduceEqDiff, Nat.reduceLT, Option.bind_some, Option.bind_none, true_and, and_true, and_self, Nat.zero_lt_succ, cellsAt, List.length_append, Nat.le_add_right, List.length_cons, List.length_nil, Nat.zero_add, Nat.add_zero, Nat.reduceAdd, Nat.reduceMul, Nat.zero_mul, AV.cells, AV.one, known, List.append_assoc, getE_0, getE_k, setE_0, setE_k, List.getElem?_cons_zero, List.getElem?_cons_succ, List.set_cons_zero, List.set_cons_succ, List.take_succ_cons, List.take_zero, List.drop_zero, List.drop_succ_cons, List.drop_nil, List.all_cons, List.all_nil, Bool.and_self, Bool.and_true, Bool.true_and, Bool.and_false, Bool.false_and, splice, fillI, Nat.reduceLeDiff, strA, Nat.add_assoc, beq_self_eq_true, Bool.false_eq_true, bq_ft, bq_tf, Bool.not_true, Bool.not_false, Nat.le_refl, List.map_cons, List.map_nil, isNilA, nilPtr, nilSl, nilIf, nilFn, nilMap, nilCheckA, if_true, if_false, lt_lit, le_lit, lt_lit2, le_lit2, le_sub1, le_sub2, drawI, drawI2, drawI0, drawI20, lexD, valD, valI, putD, okD, roD, memAt, lastM, wantI, eqv_refl, eqM_refl, eqM_app, eqB, eqvL, eqv, List.getLast?_cons_cons, List.getLast?_singleton, Option.getD_some, Bool.or_true, Bool.true_or, beq_self_eq_true, resvV]; rfl
  case hd => rfl
  case hr => simp only [I35, resI, resLI, look, reduceIte, Nat.reduceEqDiff, Option.map_some]
  case hz => exact fin_len rfl rfl
include hs
theorem take_t (d : Nat) (hd : 4 ≤ d) (p : List UInt8) (hp : hasP (s.drop at_) p = true) : evFI P (cfg ml) T N d 59 [.ptr A.length 0 0, .str p] (A ++ rdr s at_ many :: B) = some (.ret (.bool true), A ++ rdr s (at_ + p.length) many :: B) := by
  obtain ⟨n, rfl⟩ : ∃ n, d = n + 4 := ⟨d - 4, by omega⟩
  have h1 := has_eq (P := P) (ml := ml) (N := N) s at_ many A B hat (n + 3) (by omega) p
  have hle : p.length ≤ (s.drop at_).length := by
    unfold hasP at hp
    exact of_decide_eq_true (Bool.and_eq_true _ _ |>.mp hp).1
  rw [List.length_drop] at hle
  have hw : IntKind.wrap .i64 ((at_ : Int) + (p.length : Int)) = ((at_ + p.length : Nat) : Int) := by rw [wrap64] <;> omega
  rw [hp] at h1
  simp only [rdr] at h1
  refine evF_ret (m := 20) (v := .bool true) (a := ?aa) (H1 := A ++ rdr s (at_ + p.length) many :: B) rfl t59 rfl ?hb ?hd ?hr ?hz
  case hb => simp only [List.length_cons, List.length_nil, idx, I59, rdr, h1, hw, List.append_nil, List.nil_append, List.cons_append, List.getD_cons_zero, List.getD_cons_succ, evI, opsI, stepI, wantI, opI, AAct.evI, look, AAct.put, mkVal, mkVM, intOpA, intA, shiftA, unA, decide_true, decide_false, Option.map_some, Option.map_none, reduceIte, Nat.reduceEqDiff, Nat.reduceLT, Option.bind_some, Option.bind_none, true_and, and_true, and_self, Nat.zero_lt_succ, cellsAt, List.length_append, Nat.le_add_right, List.length_cons, List.length_nil, Nat.zero_add, Nat.add_zero, Nat.reduceAdd, Nat.reduceMul, Nat.zero_mul, AV.cells, AV.one, known, List.append_assoc, getE_0, getE_k, setE_0, setE_k, List.getElem?_cons_zero, List.getElem?_cons_succ, List.set_cons_zero, List.set_cons_succ, List.take_succ_cons, List.take_zero, List.drop_zero, List.drop_succ_cons, List.drop_nil, List.all_cons, List.all_nil, Bool.and_self, Bool.and_true, Bool.true_and, Bool.and_false, Bool.false_and, splice, fillI, Nat.reduceLeDiff, strA, Nat.add_assoc, beq_self_eq_true, Bool.false_eq_true, bq_ft, bq_tf, Bool.not_true, Bool.not_false, Nat.le_refl, List.map_cons, List.map_nil, isNilA, nilPtr, nilSl, nilIf, nilFn, nilMap, nilCheckA, if_true, if_false, lt_lit, le_lit, lt_lit2, le_lit2, le_sub1, le_sub2, drawI, drawI2, drawI0, drawI20, lexD, valD, valI, putD, okD, roD, memAt, lastM, wantI, eqv_refl, eqM_refl, eqM_app, eqB, eqvL, eqv, List.getLast?_cons_cons, List.getLast?_singleton, Option.getD_some, Bool.or_true, Bool.true_or, beq_self_eq_true, resvV]; rfl
  case hd => rfl
  case hr => simp only [I59, resI, resLI, look, reduceIte, Nat.reduceEqDiff, Option.map_some]
  case hz => exact fin_len rfl (by simp)
theorem take_f (d : Nat) (hd : 4 ≤ d) (p : List UInt8) (hp : hasP (s.drop at_) p = false) : evFI P (cfg ml) T N d 59 [.ptr A.length 0 0, .str p] (A ++ rdr s at_ many :: B) = some (.ret (.bool false), A ++ rdr s at_ many :: B) := by
  obtain ⟨n, rfl⟩ : ∃ n, d = n + 4 := ⟨d - 4, by omega⟩
  have h1 := has_eq (P := P) (ml := ml) (N := N) s at_ many A B hat (n + 3) (by omega) p
  rw [hp] at h1
  refine evF_ret (m := 20) (v := .bool false) (a := ?aa) (H1 := A ++ rdr s at_ many :: B) rfl t59 rfl ?hb ?hd ?hr ?hz
  case hb => simp only [List.length_cons, List.length_nil, idx, I59, h1, List.append_nil, List.nil_append, List.cons_append, List.getD_cons_zero, List.getD_cons_succ, evI, opsI, stepI, wantI, opI, AAct.evI, look, AAct.put, mkVal, mkVM, intOpA, intA, shiftA, unA, decide_true, decide_false, Option.map_some, Option.map_none, reduceIte, Nat.reduceEqDiff, Nat.reduceLT, Option.bind_some, Option.bind_none, true_and, and_true, and_self, Nat.zero_lt_succ, cellsAt, List.length_append, Nat.le_add_right, List.length_cons, List.length_nil, Nat.zero_add, Nat.add_zero, Nat.reduceAdd, Nat.reduceMul, Nat.zero_mul, AV.cells, AV.one, known, List.append_assoc, getE_0, getE_k, setE_0, setE_k, List.getElem?_cons_zero, List.getElem?_cons_succ, List.set_cons_zero, List.set_cons_succ, List.take_succ_cons, List.take_zero, List.drop_zero, List.drop_succ_cons, List.drop_nil, List.all_cons, List.all_nil, Bool.and_self, Bool.and_true, Bool.true_and, Bool.and_false, Bool.false_and, splice, fillI, Nat.reduceLeDiff, strA, Nat.add_assoc, beq_self_eq_true, Bool.false_eq_true, bq_ft, bq_tf, Bool.not_true, Bool.not_false, Nat.le_refl, List.map_cons, List.map_nil, isNilA, nilPtr, nilSl, nilIf, nilFn, nilMap, nilCheckA, if_true, if_false, lt_lit, le_lit, lt_lit2, le_lit2, le_sub1, le_sub2, drawI, drawI2, drawI0, drawI20, lexD, valD, valI, putD, okD, roD, memAt, lastM, wantI, eqv_refl, eqM_refl, eqM_app, eqB, eqvL, eqv, List.getLast?_cons_cons, List.getLast?_singleton, Option.getD_some, Bool.or_true, Bool.true_or, beq_self_eq_true, resvV]; rfl
  case hd => rfl
  case hr => simp only [I59, resI, resLI, look, reduceIte, Nat.reduceEqDiff, Option.map_some]
  case hz => exact fin_len rfl rfl
theorem wants_t (d : Nat) (hd : 5 ≤ d) (p : List UInt8) (hp : hasP (s.drop at_) p = true) : evFI P (cfg ml) T N d 56 [.ptr A.length 0 0, .str p] (A ++ rdr s at_ many :: B) = some (.ret (.tup []), A ++ rdr s (at_ + p.length) many :: B) := by
  obtain ⟨n, rfl⟩ : ∃ n, d = n + 5 := ⟨d - 5, by omega⟩
  have h1 := take_t (P := P) (ml := ml) (N := N) s at_ many A B hs hat (n + 4) (by omega) p hp
  have h2 := fun H => must_t (P := P) (ml := ml) (N := N) (n + 4) (by omega) 10 H
  refine evF_nrm (m := 8) (v := .tup []) (a := ?aa) (H1 := A ++ rdr s (at_ + p.length) many :: B) rfl t56 rfl ?hb ?hd ?hr ?hz
  case hb => simp only [List.length_cons, List.length_nil, idx, I56, h1, h2, List.append_nil, List.nil_append, List.cons_append, List.getD_cons_zero, List.getD_cons_succ, evI, opsI, stepI, wantI, opI, AAct.evI, look, AAct.put, mkVal, mkVM, intOpA, intA, shiftA, unA, decide_true, decide_false, Option.map_some, Option.map_none, reduceIte, Nat.reduceEqDiff, Nat.reduceLT, Option.bind_some, Option.bind_none, true_and, and_true, and_self, Nat.zero_lt_succ, cellsAt, List.length_append, Nat.le_add_right, List.length_cons, List.length_nil, Nat.zero_add, Nat.add_zero, Nat.reduceAdd, Nat.reduceMul, Nat.zero_mul, AV.cells, AV.one, known, List.append_assoc, getE_0, getE_k, setE_0, setE_k, List.getElem?_cons_zero, List.getElem?_cons_succ, List.set_cons_zero, List.set_cons_succ, List.take_succ_cons, List.take_zero, List.drop_zero, List.drop_succ_cons, List.drop_nil, List.all_cons, List.all_nil, Bool.and_self, Bool.and_true, Bool.true_and, Bool.and_false, Bool.false_and, splice, fillI, Nat.reduceLeDiff, strA, Nat.add_assoc, beq_self_eq_true, Bool.false_eq_true, bq_ft, bq_tf, Bool.not_true, Bool.not_false, Nat.le_refl, List.map_cons, List.map_nil, isNilA, nilPtr, nilSl, nilIf, nilFn, nilMap, nilCheckA, if_true, if_false, lt_lit, le_lit, lt_lit2, le_lit2, le_sub1, le_sub2, drawI, drawI2, drawI0, drawI20, lexD, valD, valI, putD, okD, roD, memAt, lastM, wantI, eqv_refl, eqM_refl, eqM_app, eqB, eqvL, eqv, List.getLast?_cons_cons, List.getLast?_singleton, Option.getD_some, Bool.or_true, Bool.true_or, beq_self_eq_true, resvV]; rfl
  case hd => rfl
  case hr => simp only [I56, resI, resLI, look, reduceIte, Nat.reduceEqDiff, Option.map_some]
  case hz => exact fin_len rfl (by simp)
theorem wants_f (d : Nat) (hd : 5 ≤ d) (p : List UInt8) (hp : hasP (s.drop at_) p = false) : evFI P (cfg ml) T N d 56 [.ptr A.length 0 0, .str p] (A ++ rdr s at_ many :: B) = some (.pan (failv 10), A ++ rdr s at_ many :: B) := by
  obtain ⟨n, rfl⟩ : ∃ n, d = n + 5 := ⟨d - 5, by omega⟩
  have h1 := take_f (P := P) (ml := ml) (N := N) s at_ many A B hs hat (n + 4) (by omega) p hp
  have h2 := fun H => must_f (P := P) (ml := ml) (N := N) (n + 4) (by omega) 10 H
  refine evF_pan (m := 8) (v := failv 10) (a := ?aa) (H1 := A ++ rdr s at_ many :: B) rfl t56 rfl ?hb ?hd ?hz
  case hb => simp only [List.length_cons, List.length_nil, idx, I56, h1, h2, List.append_nil, List.nil_append, List.cons_append, List.getD_cons_zero, List.getD_cons_succ, evI, opsI, stepI, wantI, opI, AAct.evI, look, AAct.put, mkVal, mkVM, intOpA, intA, shiftA, unA, decide_true, decide_false, Option.map_some, Option.map_none, reduceIte, Nat.reduceEqDiff, Nat.reduceLT, Option.bind_some, Option.bind_none, true_and, and_true, and_self, Nat.zero_lt_succ, cellsAt, List.length_append, Nat.le_add_right, List.length_cons, List.length_nil, Nat.zero_add, Nat.add_zero, Nat.reduceAdd, Nat.reduceMul, Nat.zero_mul, AV.cells, AV.one, known, List.append_assoc, getE_0, getE_k, setE_0, setE_k, List.getElem?_cons_zero, List.getElem?_cons_succ, List.set_cons_zero, List.set_cons_succ, List.take_succ_cons, List.take_zero, List.drop_zero, List.drop_succ_cons, List.drop_nil, List.all_cons, List.all_nil, Bool.and_self, Bool.and_true, Bool.true_and, Bool.and_false, Bool.false_and, splice, fillI, Nat.reduceLeDiff, strA, Nat.add_assoc, beq_self_eq_true, Bool.false_eq_true, bq_ft, bq_tf, Bool.not_true, Bool.not_false, Nat.le_refl, List.map_cons, List.map_nil, isNilA, nilPtr, nilSl, nilIf, nilFn, nilMap, nilCheckA, if_true, if_false, lt_lit, le_lit, lt_lit2, le_lit2, le_sub1, le_sub2, drawI, drawI2, drawI0, drawI20, lexD, valD, valI, putD, okD, roD, memAt, lastM, wantI, eqv_refl, eqM_refl, eqM_app, eqB, eqvL, eqv, List.getLast?_cons_cons, List.getLast?_singleton, Option.getD_some, Bool.or_true, Bool.true_or, beq_self_eq_true, resvV]; rfl
  case hd => rfl
  case hz => exact fin_len rfl rfl
end
end Go.Proofs.YtmnajffpmbidiaaGreatDoor.Ev
