/- Parts of one proof. -/
import Derived.Test.YtmnajffpmbidiaaGreatDoorMdb
set_option linter.all false
namespace Go.Proofs.YtmnajffpmbidiaaGreatDoor.Ev
variable {ml : Int}
open Go.Proofs.YtmnajffpmbidiaaGreatDoor.Ic
set_option maxRecDepth 100000
set_option maxHeartbeats 2000000
def rdr (s : List UInt8) (at_ many : Nat) : Blk := .row [.str s, .int .i64 (at_ : Nat), .int .i64 (many : Nat)] 0 (61 + 1)
def failv (e : Int) : AV := .iface 55 (.agg [.int .i64 e])
def hasP (t p : List UInt8) : Bool := decide (p.length ≤ t.length) && (t.take p.length == p)
section
variable {P : Program} {g : Cfg} {F : FSem} {N : Nat} {x y c : IC} {a a' : AAct} {H H' : Mem} {v : AV} {id : Nat}
theorem evI_seq_pan (h : evI P g F N x a H = some (.pan v, a', H')) : evI P g F N (.seq x y) a H = some (.pan v, a', H') := by simp only [evI, h]
theorem evI_block_pan (h : evI P g F N c a H = some (.pan v, a', H')) : evI P g F N (.block id c) a H = some (.pan v, a', H') := by simp only [evI, h]
theorem loopA_pan {body : AAct → Mem → Option (Out × AAct × Mem)} {lv : Option (List Tmp)} {n : Nat} (h : body a H = some (.pan v, a', H')) : loopA body lv (n + 1) a H = some (.pan v, a', H') := by
  rw [loopA_succ, h]
end
section
variable {P : Program} {g : Cfg} {T : FuncId → Option IF} {N n f m : Nat} {i : IF} {args : List AV} {H H1 H2 : Mem} {a : AAct} {v v' : AV}
theorem evF_pan (hl : g.lib f = none) (hT : T f = some i) (hm : max args.length i.n = m) (hb : evI P g (evFI P g T N n) N i.c ⟨m, idx 0 args, []⟩ H = some (.pan v, a, H1)) (hd : a.d = []) (hz : finish false H v H1 = (v', H2)) :
    evFI P g T N (n + 1) f args H = some (.pan v', H2) := by
  simp only [evFI, hl, hT, hm, hb, hd, List.isEmpty_nil, if_true, hz]
theorem fin_fail (e : Int) {A H0 H1 : Mem} (hA : H1.take A.length = A) (hle : A.length ≤ H0.length) : ∃ M, finish false H0 (failv e) H1 = (failv e, M) ∧ M.take A.length = A := by
  have hf : frz H0.length H1 12 (failv e) = some (failv e) := rfl
  unfold finish
  simp only [Bool.false_eq_true, if_false, hf]
  split
  · refine ⟨_, rfl, ?_⟩
    rw [List.take_take, Nat.min_eq_left hle, hA]
  · exact ⟨_, rfl, hA⟩
end
variable {P : Program} {N : Nat}
theorem must_t (d : Nat) (hd : 1 ≤ d) (e : Int) (H : Mem) : evFI P (cfg ml) T N d 31 [.bool true, .int .i64 e] H = some (.ret (.tup []), H) := by
  obtain ⟨n, rfl⟩ : ∃ n, d = n + 1 := ⟨d - 1, by omega⟩
  refine evF_nrm (m := 9) (v := .tup []) (a := ?aa) (H1 := ?Ha) rfl t31 rfl ?hb ?hd ?hr ?hz
  case hb => simp only [List.length_cons, List.length_nil, idx, I31, List.append_nil, List.nil_append, List.cons_append, List.getD_cons_zero, List.getD_cons_succ, evI, opsI, stepI, wantI, opI, AAct.evI, look, AAct.put, mkVal, mkVM, intOpA, intA, shiftA, unA, decide_true, decide_false, Option.map_some, Option.map_none, reduceIte, Nat.reduceEqDiff, Nat.reduceLT, Option.bind_some, Option.bind_none, true_and, and_true, and_self, Nat.zero_lt_succ, cellsAt, List.length_append, Nat.le_add_right, List.length_cons, List.length_nil, Nat.zero_add, Nat.add_zero, Nat.reduceAdd, Nat.reduceMul, Nat.zero_mul, AV.cells, AV.one, known, List.append_assoc, getE_0, getE_k, setE_0, setE_k, List.getElem?_cons_zero, List.getElem?_cons_succ, List.set_cons_zero, List.set_cons_succ, List.take_succ_cons, List.take_zero, List.drop_zero, List.drop_succ_cons, List.drop_nil, List.all_cons, List.all_nil, Bool.and_self, Bool.and_true, Bool.true_and, Bool.and_false, Bool.false_and, splice, fillI, Nat.reduceLeDiff, strA, Nat.add_assoc, beq_self_eq_true, Bool.false_eq_true, bq_ft, bq_tf, Bool.not_true, Bool.not_false, Nat.le_refl, List.map_cons, List.map_nil, isNilA, nilPtr, nilSl, nilIf, nilFn, nilMap, nilCheckA, if_true, if_false, lt_lit, le_lit, lt_lit2, le_lit2, le_sub1, le_sub2]; rfl
  case hd => rfl
  case hr => simp only [I31, resI, resLI, look, reduceIte, Nat.reduceEqDiff, Option.map_some]
  case hz => exact fin_len rfl rfl
theorem must_f (d : Nat) (hd : 1 ≤ d) (e : Int) (H : Mem) : evFI P (cfg ml) T N d 31 [.bool false, .int .i64 e] H = some (.pan (failv e), H) := by
  obtain ⟨n, rfl⟩ : ∃ n, d = n + 1 := ⟨d - 1, by omega⟩
  refine evF_pan (m := 9) (v := failv e) (a := ?aa) (H1 := ?Ha) rfl t31 rfl ?hb ?hd ?hz
  case hb => simp only [List.length_cons, List.length_nil, idx, I31, failv, List.append_nil, List.nil_append, List.cons_append, List.getD_cons_zero, List.getD_cons_succ, evI, opsI, stepI, wantI, opI, AAct.evI, look, AAct.put, mkVal, mkVM, intOpA, intA, shiftA, unA, decide_true, decide_false, Option.map_some, Option.map_none, reduceIte, Nat.reduceEqDiff, Nat.reduceLT, Option.bind_some, Option.bind_none, true_and, and_true, and_self, Nat.zero_lt_succ, cellsAt, List.length_append, Nat.le_add_right, List.length_cons, List.length_nil, Nat.zero_add, Nat.add_zero, Nat.reduceAdd, Nat.reduceMul, Nat.zero_mul, AV.cells, AV.one, known, List.append_assoc, getE_0, getE_k, setE_0, setE_k, List.getElem?_cons_zero, List.getElem?_cons_succ, List.set_cons_zero, List.set_cons_succ, List.take_succ_cons, List.take_zero, List.drop_zero, List.drop_succ_cons, List.drop_nil, List.all_cons, List.all_nil, Bool.and_self, Bool.and_true, Bool.true_and, Bool.and_false, Bool.false_and, splice, fillI, Nat.reduceLeDiff, strA, Nat.add_assoc, beq_self_eq_true, Bool.false_eq_true, bq_ft, bq_tf, Bool.not_true, Bool.not_false, Nat.le_refl, List.map_cons, List.map_nil, isNilA, nilPtr, nilSl, nilIf, nilFn, nilMap, nilCheckA, if_true, if_false, lt_lit, le_lit, lt_lit2, le_lit2, le_sub1, le_sub2]; rfl
  case hd => rfl
  case hz => exact fin_len rfl rfl
theorem slHasPrefix_eq (d : Nat) (hd : 1 ≤ d) (x p : List UInt8) (H : Mem) : evFI P (cfg ml) T N d 55 [.str x, .str p] H = some (.ret (.bool (hasP x p)), H) := by
    obtain ⟨n, rfl⟩ : ∃ n, d = n + 1 := ⟨d - 1, by omega⟩
    have hn := natOf_nat p.length .i64
    have b0 : bound 0 none = some 0 := rfl
    cases hc : decide ((x.length : Int) ≥ (p.length : Int))
    · have e : hasP x p = false := by
        have := of_decide_eq_false hc
        unfold hasP
        rw [decide_eq_false (by omega)]; rfl
      rw [e]
      refine evF_ret (m := 18) (v := .bool false) (a := ?aa) (H1 := ?Ha) rfl t55 rfl ?hb ?hd ?hr ?hz
      case hb => simp only [List.length_cons, List.length_nil, idx, I55, hc, List.append_nil, List.nil_append, List.cons_append, List.getD_cons_zero, List.getD_cons_succ, evI, opsI, stepI, wantI, opI, AAct.evI, look, AAct.put, mkVal, mkVM, intOpA, intA, shiftA, unA, decide_true, decide_false, Option.map_some, Option.map_none, reduceIte, Nat.reduceEqDiff, Nat.reduceLT, Option.bind_some, Option.bind_none, true_and, and_true, and_self, Nat.zero_lt_succ, cellsAt, List.length_append, Nat.le_add_right, List.length_cons, List.length_nil, Nat.zero_add, Nat.add_zero, Nat.reduceAdd, Nat.reduceMul, Nat.zero_mul, AV.cells, AV.one, known, List.append_assoc, getE_0, getE_k, setE_0, setE_k, List.getElem?_cons_zero, List.getElem?_cons_succ, List.set_cons_zero, List.set_cons_succ, List.take_succ_cons, List.take_zero, List.drop_zero, List.drop_succ_cons, List.drop_nil, List.all_cons, List.all_nil, Bool.and_self, Bool.and_true, Bool.true_and, Bool.and_false, Bool.false_and, splice, fillI, Nat.reduceLeDiff, strA, Nat.add_assoc, beq_self_eq_true, Bool.false_eq_true, bq_ft, bq_tf, Bool.not_true, Bool.not_false, Nat.le_refl, List.map_cons, List.map_nil, isNilA, nilPtr, nilSl, nilIf, nilFn, nilMap, nilCheckA, if_true, if_false, lt_lit, le_lit, lt_lit2, le_lit2, le_sub1, le_sub2]; rfl
      case hd => rfl
      case hr => simp only [I55, resI, resLI, look, reduceIte, Nat.reduceEqDiff, Option.map_some]
      case hz => exact fin_len rfl rfl
    · have hle : p.length ≤ x.length := by have := of_decide_eq_true hc; omega
      have e : hasP x p = (x.take p.length == p) := by
        unfold hasP
        rw [decide_eq_true hle]; rfl
      rw [e]
      generalize hq : (x.take p.length == p) = q
      refine evF_ret (m := 18) (v := .bool q) (a := ?ab) (H1 := ?Hb) rfl t55 rfl ?hb ?hd ?hr ?hz
      case hb => simp only [List.length_cons, List.length_nil, idx, I55, hc, bound, hn, hle, Nat.zero_le, Nat.sub_zero, hq, List.append_nil, List.nil_append, List.cons_append, List.getD_cons_zero, List.getD_cons_succ, evI, opsI, stepI, wantI, opI, AAct.evI, look, AAct.put, mkVal, mkVM, intOpA, intA, shiftA, unA, decide_true, decide_false, Option.map_some, Option.map_none, reduceIte, Nat.reduceEqDiff, Nat.reduceLT, Option.bind_some, Option.bind_none, true_and, and_true, and_self, Nat.zero_lt_succ, cellsAt, List.length_append, Nat.le_add_right, List.length_cons, List.length_nil, Nat.zero_add, Nat.add_zero, Nat.reduceAdd, Nat.reduceMul, Nat.zero_mul, AV.cells, AV.one, known, List.append_assoc, getE_0, getE_k, setE_0, setE_k, List.getElem?_cons_zero, List.getElem?_cons_succ, List.set_cons_zero, List.set_cons_succ, List.take_succ_cons, List.take_zero, List.drop_zero, List.drop_succ_cons, List.drop_nil, List.all_cons, List.all_nil, Bool.and_self, Bool.and_true, Bool.true_and, Bool.and_false, Bool.false_and, splice, fillI, Nat.reduceLeDiff, strA, Nat.add_assoc, beq_self_eq_true, Bool.false_eq_true, bq_ft, bq_tf, Bool.not_true, Bool.not_false, Nat.le_refl, List.map_cons, List.map_nil, isNilA, nilPtr, nilSl, nilIf, nilFn, nilMap, nilCheckA, if_true, if_false, lt_lit, le_lit, lt_lit2, le_lit2, le_sub1, le_sub2]; rfl
      case hd => rfl
      case hr => simp only [I55, resI, resLI, look, reduceIte, Nat.reduceEqDiff, Option.map_some]
      case hz => exact fin_len rfl rfl
theorem hasPrefix_eq (d : Nat) (hd : 2 ≤ d) (x p : List UInt8) (H : Mem) : evFI P (cfg ml) T N d 33 [.str x, .str p] H = some (.ret (.bool (hasP x p)), H) := by
  obtain ⟨n, rfl⟩ : ∃ n, d = n + 2 := ⟨d - 2, by omega⟩
  have h1 := slHasPrefix_eq (P := P) (N := N) (ml := ml) (n + 1) (by omega) x p H
  generalize hasP x p = q at *
  refine evF_ret (m := 8) (v := .bool q) (a := ?ac) (H1 := ?Hc) rfl t33 rfl ?hb ?hd ?hr ?hz
  case hb => simp only [List.length_cons, List.length_nil, idx, I33, h1, List.append_nil, List.nil_append, List.cons_append, List.getD_cons_zero, List.getD_cons_succ, evI, opsI, stepI, wantI, opI, AAct.evI, look, AAct.put, mkVal, mkVM, intOpA, intA, shiftA, unA, decide_true, decide_false, Option.map_some, Option.map_none, reduceIte, Nat.reduceEqDiff, Nat.reduceLT, Option.bind_some, Option.bind_none, true_and, and_true, and_self, Nat.zero_lt_succ, cellsAt, List.length_append, Nat.le_add_right, List.length_cons, List.length_nil, Nat.zero_add, Nat.add_zero, Nat.reduceAdd, Nat.reduceMul, Nat.zero_mul, AV.cells, AV.one, known, List.append_assoc, getE_0, getE_k, setE_0, setE_k, List.getElem?_cons_zero, List.getElem?_cons_succ, List.set_cons_zero, List.set_cons_succ, List.take_succ_cons, List.take_zero, List.drop_zero, List.drop_succ_cons, List.drop_nil, List.all_cons, List.all_nil, Bool.and_self, Bool.and_true, Bool.true_and, Bool.and_false, Bool.false_and, splice, fillI, Nat.reduceLeDiff, strA, Nat.add_assoc, beq_self_eq_true, Bool.false_eq_true, bq_ft, bq_tf, Bool.not_true, Bool.not_false, Nat.le_refl, List.map_cons, List.map_nil, isNilA, nilPtr, nilSl, nilIf, nilFn, nilMap, nilCheckA, if_true, if_false, lt_lit, le_lit, lt_lit2, le_lit2, le_sub1, le_sub2]; rfl
  case hd => rfl
  case hr => simp only [I33, resI, resLI, look, reduceIte, Nat.reduceEqDiff, Option.map_some]
  case hz => exact fin_len rfl rfl
section
variable (s : List UInt8) (at_ many : Nat) (A B : Mem) (hs : s.length < 4294967281) (hat : at_ ≤ s.length)
include hat
theorem has_eq (d : Nat) (hd : 3 ≤ d) (p : List UInt8) : evFI P (cfg ml) T N d 62 [.ptr A.length 0 0, .str p] (A ++ rdr s at_ many :: B) = some (.ret (.bool (hasP (s.drop at_) p)), A ++ rdr s at_ many :: B) := by
  obtain ⟨n, rfl⟩ : ∃ n, d = n + 3 := ⟨d - 3, by omega⟩
  have hn := natOf_nat at_ .i64
  have htk : (s.drop at_).take (s.length - at_) = s.drop at_ := List.take_of_length_le (by rw [List.length_drop]; omega)
  have h1 := hasPrefix_eq (P := P) (ml := ml) (N := N) (n + 2) (by omega) (s.drop at_) p (A ++ rdr s at_ many :: B)
  generalize hasP (s.drop at_) p = q at *
  simp only [rdr] at h1
  refine evF_ret (m := 16) (v := .bool q) (a := ?aa) (H1 := ?Ha) rfl t62 rfl ?hb ?hd ?hr ?hz
  case hb => simp only [List.length_cons, List.length_nil, idx, I62, rdr, bound, hn, hat, htk, h1, List.append_nil, List.nil_append, List.cons_append, List.getD_cons_zero, List.getD_cons_succ, evI, opsI, stepI, wantI, opI, AAct.evI, look, AAct.put, mkVal, mkVM, intOpA, intA, shiftA, unA, decide_true, decide_false, Option.map_some, Option.map_none, reduceIte, Nat.reduceEqDiff, Nat.reduceLT, Option.bind_some, Option.bind_none, true_and, and_true, and_self, Nat.zero_lt_succ, cellsAt, List.length_append, Nat.le_add_right, List.length_cons, List.length_nil, Nat.zero_add, Nat.add_zero, Nat.reduceAdd, Nat.reduceMul, Nat.zero_mul, AV.cells, AV.one, known, List.append_assoc, getE_0, getE_k, setE_0, setE_k, List.getElem?_cons_zero, List.getElem?_cons_succ, List.set_cons_zero, List.set_cons_succ, List.take_succ_cons, List.take_zero, List.drop_zero, List.drop_succ_cons, List.drop_nil, List.all_cons, List.all_nil, Bool.and_self, Bool.and_true, Bool.true_and, Bool.and_false, Bool.false_and, splice, fillI, Nat.reduceLeDiff, strA, Nat.add_assoc, beq_self_eq_true, Bool.false_eq_true, bq_ft, bq_tf, Bool.not_true, Bool.not_false, Nat.le_refl, List.map_cons, List.map_nil, isNilA, nilPtr, nilSl, nilIf, nilFn, nilMap, nilCheckA, if_true, if_false, lt_lit, le_lit, lt_lit2, le_lit2, le_sub1, le_sub2, drawI, drawI2, drawI0, drawI20, lexD, valD, valI, putD, okD, roD, memAt, lastM, wantI, eqv_refl, eqM_refl, eqM_app, eqB, eqvL, eqv, List.getLast?_cons_cons, List.getLast?_singleton, Option.getD_some, Bool.or_true, Bool.true_or, beq_self_eq_true, resvV]; rfl
  case hd => rfl
  case hr => simp only [I62, resI, resLI, look, reduceIte, Nat.reduceEqDiff, Option.map_some]
  case hz => exact fin_len rfl rfl
theorem byteAt_in (d : Nat) (hd : 1 ≤ d) (k : Nat) (b : UInt8) (hk : s[at_ + k]? = some b) (hs : s.length < 4294967281) : evFI P (cfg ml) T N d 35 [.ptr A.length 0 0, .int .i64 k] (A ++ rdr s at_ many :: B) = some (.ret (.int .u8 b.toNat), A ++ rdr s at_ many :: B) := by
  obtain ⟨n, rfl⟩ : ∃ n, d = n + 1 := ⟨d - 1, by omega⟩
  have hlt : at_ + k < s.length := (List.getElem?_eq_some_iff.1 hk).1
  have hw : IntKind.wrap .i64 ((at_ : Int) + (k : Int)) = ((at_ + k : Nat) : Int) := by rw [wrap64] <;> omega
  have hc : decide (((at_ + k : Nat) : Int) ≥ (s.length : Int)) = false := decide_eq_false (by omega)
  have hn := natOf_nat (at_ + k) .i64
  refine evF_ret (m := 28) (v := .int .u8 b.toNat) (a := ?aa) (H1 := ?Ha) rfl t35 rfl ?hb ?hd ?hr ?hz
  case hb => simp only [List.length_cons, List.length_nil, idx, I35, rdr, hw, hc, hn, hk, List.append_nil, List.nil_append, List.cons_append, List.getD_cons_zero, List.getD_cons_succ, evI, opsI, stepI, wantI, opI, AAct.evI, look, AAct.put, mkVal, mkVM, intOpA, intA, shiftA, unA, decide_true, decide_false, Option.map_some, Option.map_none, reduceIte, Nat.reduceEqDiff, Nat.reduceLT, Option.bind_some, Option.bind_none, true_and, and_true, and_self, Nat.zero_lt_succ, cellsAt, List.length_append, Nat.le_add_right, List.length_cons, List.length_nil, Nat.zero_add, Nat.add_zero, Nat.reduceAdd, Nat.reduceMul, Nat.zero_mul, AV.cells, AV.one, known, List.append_assoc, getE_0, getE_k, setE_0, setE_k, List.getElem?_cons_zero, List.getElem?_cons_succ, List.set_cons_zero, List.set_cons_succ, List.take_succ_cons, List.take_zero, List.drop_zero, List.drop_succ_cons, List.drop_nil, List.all_cons, List.all_nil, Bool.and_self, Bool.and_true, Bool.true_and, Bool.and_false, Bool.false_and, splice, fillI, Nat.reduceLeDiff, strA, Nat.add_assoc, beq_self_eq_true, Bool.false_eq_true, bq_ft, bq_tf, Bool.not_true, Bool.not_false, Nat.le_refl, List.map_cons, List.map_nil, isNilA, nilPtr, nilSl, nilIf, nilFn, nilMap, nilCheckA, if_true, if_false, lt_lit, le_lit, lt_lit2, le_lit2, le_sub1, le_sub2, drawI, drawI2, drawI0, drawI20, lexD, valD, valI, putD, okD, roD, memAt, lastM, wantI, eqv_refl, eqM_refl, eqM_app, eqB, eqvL, eqv, List.getLast?_cons_cons, List.getLast?_singleton, Option.getD_some, Bool.or_true, Bool.true_or, beq_self_eq_true, resvV]; rfl
  case hd => rfl
  case hr => simp only [I35, resI, resLI, look, reduceIte, Nat.reduceEqDiff, Option.map_some]
  case hz => exact fin_len rfl rfl
include hs
theorem take_t (d : Nat) (hd : 4 ≤ d) (p : List UInt8) (hp : hasP (s.drop at_) p = true) : evFI P (cfg ml) T N d 59 [.ptr A.length 0 0, .str p] (A ++ rdr s at_ many :: B) = some (.ret (.bool true), A ++ rdr s (at_ + p.length) many :: B) := by
  obtain ⟨n, rfl⟩ : ∃ n, d = n + 4 := ⟨d - 4, by omega⟩
  have h1 := has_eq (P := P) (ml := ml) (N := N) s at_ many A B hat (n + 3) (by omega) p
  have hle : p.length ≤ (s.drop at_).length := by
    unfold hasP at hp
    exact of_decide_eq_true (Bool.and_eq_true _ _ |>.mp hp).1
  rw [List.length_drop] at hle
  have hw : IntKind.wrap .i64 ((at_ : Int) + (p.length : Int)) = ((at_ + p.length : Nat) : Int) := by rw [wrap64] <;> omega
  rw [hp] at h1
  simp only [rdr] at h1
  refine evF_ret (m := 20) (v := .bool true) (a := ?aa) (H1 := A ++ rdr s (at_ + p.length) many :: B) rfl t59 rfl ?hb ?hd ?hr ?hz
  case hb => simp only [List.length_cons, List.length_nil, idx, I59, rdr, h1, hw, List.append_nil, List.nil_append, List.cons_append, List.getD_cons_zero, List.getD_cons_succ, evI, opsI, stepI, wantI, opI, AAct.evI, look, AAct.put, mkVal, mkVM, intOpA, intA, shiftA, unA, decide_true, decide_false, Option.map_some, Option.map_none, reduceIte, Nat.reduceEqDiff, Nat.reduceLT, Option.bind_some, Option.bind_none, true_and, and_true, and_self, Nat.zero_lt_succ, cellsAt, List.length_append, Nat.le_add_right, List.length_cons, List.length_nil, Nat.zero_add, Nat.add_zero, Nat.reduceAdd, Nat.reduceMul, Nat.zero_mul, AV.cells, AV.one, known, List.append_assoc, getE_0, getE_k, setE_0, setE_k, List.getElem?_cons_zero, List.getElem?_cons_succ, List.set_cons_zero, List.set_cons_succ, List.take_succ_cons, List.take_zero, List.drop_zero, List.drop_succ_cons, List.drop_nil, List.all_cons, List.all_nil, Bool.and_self, Bool.and_true, Bool.true_and, Bool.and_false, Bool.false_and, splice, fillI, Nat.reduceLeDiff, strA, Nat.add_assoc, beq_self_eq_true, Bool.false_eq_true, bq_ft, bq_tf, Bool.not_true, Bool.not_false, Nat.le_refl, List.map_cons, List.map_nil, isNilA, nilPtr, nilSl, nilIf, nilFn, nilMap, nilCheckA, if_true, if_false, lt_lit, le_lit, lt_lit2, le_lit2, le_sub1, le_sub2, drawI, drawI2, drawI0, drawI20, lexD, valD, valI, putD, okD, roD, memAt, lastM, wantI, eqv_refl, eqM_refl, eqM_app, eqB, eqvL, eqv, List.getLast?_cons_cons, List.getLast?_singleton, Option.getD_some, Bool.or_true, Bool.true_or, beq_self_eq_true, resvV]; rfl
  case hd => rfl
  case hr => simp only [I59, resI, resLI, look, reduceIte, Nat.reduceEqDiff, Option.map_some]
  case hz => exact fin_len rfl (by simp)
theorem take_f (d : Nat) (hd : 4 ≤ d) (p : List UInt8) (hp : hasP (s.drop at_) p = false) : evFI P (cfg ml) T N d 59 [.ptr A.length 0 0, .str p] (A ++ rdr s at_ many :: B) = some (.ret (.bool false), A ++ rdr s at_ many :: B) := by
  obtain ⟨n, rfl⟩ : ∃ n, d = n + 4 := ⟨d - 4, by omega⟩
  have h1 := has_eq (P := P) (ml := ml) (N := N) s at_ many A B hat (n + 3) (by omega) p
  rw [hp] at h1
  refine evF_ret (m := 20) (v := .bool false) (a := ?aa) (H1 := A ++ rdr s at_ many :: B) rfl t59 rfl ?hb ?hd ?hr ?hz
  case hb => simp only [List.length_cons, List.length_nil, idx, I59, h1, List.append_nil, List.nil_append, List.cons_append, List.getD_cons_zero, List.getD_cons_succ, evI, opsI, stepI, wantI, opI, AAct.evI, look, AAct.put, mkVal, mkVM, intOpA, intA, shiftA, unA, decide_true, decide_false, Option.map_some, Option.map_none, reduceIte, Nat.reduceEqDiff, Nat.reduceLT, Option.bind_some, Option.bind_none, true_and, and_true, and_self, Nat.zero_lt_succ, cellsAt, List.length_append, Nat.le_add_right, List.length_cons, List.length_nil, Nat.zero_add, Nat.add_zero, Nat.reduceAdd, Nat.reduceMul, Nat.zero_mul, AV.cells, AV.one, known, List.append_assoc, getE_0, getE_k, setE_0, setE_k, List.getElem?_cons_zero, List.getElem?_cons_succ, List.set_cons_zero, List.set_cons_succ, List.take_succ_cons, List.take_zero, List.drop_zero, List.drop_succ_cons, List.drop_nil, List.all_cons, List.all_nil, Bool.and_self, Bool.and_true, Bool.true_and, Bool.and_false, Bool.false_and, splice, fillI, Nat.reduceLeDiff, strA, Nat.add_assoc, beq_self_eq_true, Bool.false_eq_true, bq_ft, bq_tf, Bool.not_true, Bool.not_false, Nat.le_refl, List.map_cons, List.map_nil, isNilA, nilPtr, nilSl, nilIf, nilFn, nilMap, nilCheckA, if_true, if_false, lt_lit, le_lit, lt_lit2, le_lit2, le_sub1, le_sub2, drawI, drawI2, drawI0, drawI20, lexD, valD, valI, putD, okD, roD, memAt, lastM, wantI, eqv_refl, eqM_refl, eqM_app, eqB, eqvL, eqv, List.getLast?_cons_cons, List.getLast?_singleton, Option.getD_some, Bool.or_true, Bool.true_or, beq_self_eq_true, resvV]; rfl
  case hd => rfl
  case hr => simp only [I59, resI, resLI, look, reduceIte, Nat.reduceEqDiff, Option.map_some]
  case hz => exact fin_len rfl rfl
theorem wants_t (d : Nat) (hd : 5 ≤ d) (p : List UInt8) (hp : hasP (s.drop at_) p = true) : evFI P (cfg ml) T N d 56 [.ptr A.length 0 0, .str p] (A ++ rdr s at_ many :: B) = some (.ret (.tup []), A ++ rdr s (at_ + p.length) many :: B) := by
  obtain ⟨n, rfl⟩ : ∃ n, d = n + 5 := ⟨d - 5, by omega⟩
  have h1 := take_t (P := P) (ml := ml) (N := N) s at_ many A B hs hat (n + 4) (by omega) p hp
  have h2 := fun H => must_t (P := P) (ml := ml) (N := N) (n + 4) (by omega) 10 H
  refine evF_nrm (m := 8) (v := .tup []) (a := ?aa) (H1 := A ++ rdr s (at_ + p.length) many :: B) rfl t56 rfl ?hb ?hd ?hr ?hz
  case hb => simp only [List.length_cons, List.length_nil, idx, I56, h1, h2, List.append_nil, List.nil_append, List.cons_append, List.getD_cons_zero, List.getD_cons_succ, evI, opsI, stepI, wantI, opI, AAct.evI, look, AAct.put, mkVal, mkVM, intOpA, intA, shiftA, unA, decide_true, decide_false, Option.map_some, Option.map_none, reduceIte, Nat.reduceEqDiff, Nat.reduceLT, Option.bind_some, Option.bind_none, true_and, and_true, and_self, Nat.zero_lt_succ, cellsAt, List.length_append, Nat.le_add_right, List.length_cons, List.length_nil, Nat.zero_add, Nat.add_zero, Nat.reduceAdd, Nat.reduceMul, Nat.zero_mul, AV.cells, AV.one, known, List.append_assoc, getE_0, getE_k, setE_0, setE_k, List.getElem?_cons_zero, List.getElem?_cons_succ, List.set_cons_zero, List.set_cons_succ, List.take_succ_cons, List.take_zero, List.drop_zero, List.drop_succ_cons, List.drop_nil, List.all_cons, List.all_nil, Bool.and_self, Bool.and_true, Bool.true_and, Bool.and_false, Bool.false_and, splice, fillI, Nat.reduceLeDiff, strA, Nat.add_assoc, beq_self_eq_true, Bool.false_eq_true, bq_ft, bq_tf, Bool.not_true, Bool.not_false, Nat.le_refl, List.map_cons, List.map_nil, isNilA, nilPtr, nilSl, nilIf, nilFn, nilMap, nilCheckA, if_true, if_false, lt_lit, le_lit, lt_lit2, le_lit2, le_sub1, le_sub2, drawI, drawI2, drawI0, drawI20, lexD, valD, valI, putD, okD, roD, memAt, lastM, wantI, eqv_refl, eqM_refl, eqM_app, eqB, eqvL, eqv, List.getLast?_cons_cons, List.getLast?_singleton, Option.getD_some, Bool.or_true, Bool.true_or, beq_self_eq_true, resvV]; rfl
  case hd => rfl
  case hr => simp only [I56, resI, resLI, look, reduceIte, Nat.reduceEqDiff, Option.map_some]
  case hz => exact fin_len rfl (by simp)
end
end Go.Proofs.YtmnajffpmbidiaaGreatDoor.Ev
namespace Go.Proofs.YtmnajffpmbidiaaGreatDoor.Ev
variable {ml : Int}
open Go.Proofs.YtmnajffpmbidiaaGreatDoor.Ic
set_option maxRecDepth 100000
set_option maxHeartbeats 2000000
def isBl (c : UInt8) : Bool := c == 32 || c == 9 || c == 10
def blN (t : List UInt8) : Nat := (t.takeWhile isBl).length
def nmN (t : List UInt8) : Nat := (t.takeWhile nxt8).length
theorem bl_index : ∀ x : Fin 256, decide (Lib.indexByte [32, 9, 10] (UInt8.ofNat x.val) ≥ 0) = isBl (UInt8.ofNat x.val) := by decide +kernel
theorem bl_is (b : UInt8) : decide (Lib.indexByte [32, 9, 10] b ≥ 0) = isBl b := by
  have h := bl_index ⟨b.toNat, b.toNat_lt⟩
  simp only [UInt8.ofNat_toNat] at h
  exact h
theorem re_len {l : List Tmp} {a : AAct} {H H' : Mem} (h : H'.length = H.length) : roundEnd (some l) H a H' = (a.keepT l, H') := by
  unfold roundEnd
  simp only []
  split
  · rw [List.take_of_length_le (by omega)]
  · rfl
theorem takeWhile_le {α : Type} (p : α → Bool) (t : List α) : (t.takeWhile p).length ≤ t.length := by
  induction t with
  | nil => simp
  | cons a t ih => rw [List.takeWhile_cons]; split <;> simp; omega
section
variable {P : Program} {N : Nat}
variable (s : List UInt8) (many : Nat) (A B : Mem) (hs : s.length < 4294967281)
noncomputable def loopBl : IC := (I60.c.loops).getD 0 .bad
include hs
theorem blank_loop (n at0 : Nat) : ∀ (fuel k : Nat), k ≤ s.length → s.length - k < fuel →
    ∃ t, loopA (fun a H => evI P (cfg ml) (evFI P (cfg ml) T N (n + 1)) N loopBl a H) (some [0, 3]) fuel ⟨44, [(0, .ptr A.length 0 0), (3, .int .i64 at0)], []⟩ (A ++ rdr s k many :: B) = some (.exit 0, ⟨44, t, []⟩, A ++ rdr s (k + blN (s.drop k)) many :: B) ∧ look t 0 = .ptr A.length 0 0 ∧ look t 3 = .int .i64 at0
  | 0, _, _, h => by omega
  | fuel + 1, k, hk, hf => by
    rcases Nat.lt_or_ge k s.length with hlt | hge
    · obtain ⟨b, hb⟩ := all_drop hlt
      have hget : s[k]? = some b := by
        have := congrArg (·[0]?) hb
        simpa using this
      have hi : decide ((k : Int) < (s.length : Int)) = true := decide_eq_true (by omega)
      have hn := natOf_nat k .i64
      have hlib : evFI P (cfg ml) T N (n + 1) 87 [.str [32, 9, 10], .int .u8 (b.toNat : Int)] (A ++ rdr s k many :: B) = some (.ret (.int .i64 (Lib.indexByte [32, 9, 10] b)), A ++ rdr s k many :: B) := by
        have hl : (cfg ml).lib 87 = some idxByteLib := rfl
        have e : (b.toNat : Int).toNat.toUInt8 = b := by simp
        simp only [evFI, hl, idxByteLib, Option.map_some, e]
      have hbl := bl_is b
      simp only [rdr] at hlib
      cases hc : isBl b
      · rw [hc] at hbl
        have e : blN (s.drop k) = 0 := by rw [hb]; unfold blN; rw [List.takeWhile_cons, hc]; rfl
        rw [e, Nat.add_zero]
        exact ⟨_, loopA_exit (by simp only [loopBl, I60, IC.loops, List.getD_cons_zero, rdr, hi, hn, hget, hlib, hbl, List.append_nil, List.nil_append, List.cons_append, List.getD_cons_zero, List.getD_cons_succ, evI, opsI, stepI, wantI, opI, AAct.evI, look, AAct.put, mkVal, mkVM, intOpA, intA, shiftA, unA, decide_true, decide_false, Option.map_some, Option.map_none, reduceIte, Nat.reduceEqDiff, Nat.reduceLT, Option.bind_some, Option.bind_none, true_and, and_true, and_self, Nat.zero_lt_succ, cellsAt, List.length_append, Nat.le_add_right, List.length_cons, List.length_nil, Nat.zero_add, Nat.add_zero, Nat.reduceAdd, Nat.reduceMul, Nat.zero_mul, AV.cells, AV.one, known, List.append_assoc, getE_0, getE_k, setE_0, setE_k, List.getElem?_cons_zero, List.getElem?_cons_succ, List.set_cons_zero, List.set_cons_succ, List.take_succ_cons, List.take_zero, List.drop_zero, List.drop_succ_cons, List.drop_nil, List.all_cons, List.all_nil, Bool.and_self, Bool.and_true, Bool.true_and, Bool.and_false, Bool.false_and, splice, fillI, Nat.reduceLeDiff, strA, Nat.add_assoc, beq_self_eq_true, Bool.false_eq_true, bq_ft, bq_tf, Bool.not_true, Bool.not_false, Nat.le_refl, List.map_cons, List.map_nil, isNilA, nilPtr, nilSl, nilIf, nilFn, nilMap, nilCheckA, if_true, if_false, lt_lit, le_lit, lt_lit2, le_lit2, le_sub1, le_sub2, drawI, drawI2, drawI0, drawI20, lexD, valD, valI, putD, okD, roD, memAt, lastM, wantI, eqv_refl, eqM_refl, eqM_app, eqB, eqvL, eqv, List.getLast?_cons_cons, List.getLast?_singleton, Option.getD_some, Bool.or_true, Bool.true_or, beq_self_eq_true, resvV]; rfl), rfl, rfl⟩
      · rw [hc] at hbl
        have e : k + blN (s.drop k) = k + 1 + blN (s.drop (k + 1)) := by rw [hb]; unfold blN; rw [List.takeWhile_cons, hc]; simp; omega
        obtain ⟨t, ht, h0, h3⟩ := blank_loop n at0 fuel (k + 1) (by omega) (by omega)
        have hw : IntKind.wrap .i64 ((k : Int) + 1) = ((k + 1 : Nat) : Int) := by rw [wrap64] <;> omega
        rw [e]
        refine ⟨t, ?_, h0, h3⟩
        refine loopA_go (H' := A ++ rdr s (k + 1) many :: B) (by simp only [loopBl, I60, IC.loops, List.getD_cons_zero, rdr, hi, hn, hget, hlib, hbl, hw, List.append_nil, List.nil_append, List.cons_append, List.getD_cons_zero, List.getD_cons_succ, evI, opsI, stepI, wantI, opI, AAct.evI, look, AAct.put, mkVal, mkVM, intOpA, intA, shiftA, unA, decide_true, decide_false, Option.map_some, Option.map_none, reduceIte, Nat.reduceEqDiff, Nat.reduceLT, Option.bind_some, Option.bind_none, true_and, and_true, and_self, Nat.zero_lt_succ, cellsAt, List.length_append, Nat.le_add_right, List.length_cons, List.length_nil, Nat.zero_add, Nat.add_zero, Nat.reduceAdd, Nat.reduceMul, Nat.zero_mul, AV.cells, AV.one, known, List.append_assoc, getE_0, getE_k, setE_0, setE_k, List.getElem?_cons_zero, List.getElem?_cons_succ, List.set_cons_zero, List.set_cons_succ, List.take_succ_cons, List.take_zero, List.drop_zero, List.drop_succ_cons, List.drop_nil, List.all_cons, List.all_nil, Bool.and_self, Bool.and_true, Bool.true_and, Bool.and_false, Bool.false_and, splice, fillI, Nat.reduceLeDiff, strA, Nat.add_assoc, beq_self_eq_true, Bool.false_eq_true, bq_ft, bq_tf, Bool.not_true, Bool.not_false, Nat.le_refl, List.map_cons, List.map_nil, isNilA, nilPtr, nilSl, nilIf, nilFn, nilMap, nilCheckA, if_true, if_false, lt_lit, le_lit, lt_lit2, le_lit2, le_sub1, le_sub2, drawI, drawI2, drawI0, drawI20, lexD, valD, valI, putD, okD, roD, memAt, lastM, wantI, eqv_refl, eqM_refl, eqM_app, eqB, eqvL, eqv, List.getLast?_cons_cons, List.getLast?_singleton, Option.getD_some, Bool.or_true, Bool.true_or, beq_self_eq_true, resvV]; rfl) ?_
        rw [re_len (by simp)]
        exact ht
    · have hi : decide ((k : Int) < (s.length : Int)) = false := decide_eq_false (by omega)
      have e : blN (s.drop k) = 0 := by rw [List.drop_eq_nil_of_le hge]; rfl
      rw [e, Nat.add_zero]
      exact ⟨_, loopA_exit (by simp only [loopBl, I60, IC.loops, List.getD_cons_zero, rdr, hi, List.append_nil, List.nil_append, List.cons_append, List.getD_cons_zero, List.getD_cons_succ, evI, opsI, stepI, wantI, opI, AAct.evI, look, AAct.put, mkVal, mkVM, intOpA, intA, shiftA, unA, decide_true, decide_false, Option.map_some, Option.map_none, reduceIte, Nat.reduceEqDiff, Nat.reduceLT, Option.bind_some, Option.bind_none, true_and, and_true, and_self, Nat.zero_lt_succ, cellsAt, List.length_append, Nat.le_add_right, List.length_cons, List.length_nil, Nat.zero_add, Nat.add_zero, Nat.reduceAdd, Nat.reduceMul, Nat.zero_mul, AV.cells, AV.one, known, List.append_assoc, getE_0, getE_k, setE_0, setE_k, List.getElem?_cons_zero, List.getElem?_cons_succ, List.set_cons_zero, List.set_cons_succ, List.take_succ_cons, List.take_zero, List.drop_zero, List.drop_succ_cons, List.drop_nil, List.all_cons, List.all_nil, Bool.and_self, Bool.and_true, Bool.true_and, Bool.and_false, Bool.false_and, splice, fillI, Nat.reduceLeDiff, strA, Nat.add_assoc, beq_self_eq_true, Bool.false_eq_true, bq_ft, bq_tf, Bool.not_true, Bool.not_false, Nat.le_refl, List.map_cons, List.map_nil, isNilA, nilPtr, nilSl, nilIf, nilFn, nilMap, nilCheckA, if_true, if_false, lt_lit, le_lit, lt_lit2, le_lit2, le_sub1, le_sub2, drawI, drawI2, drawI0, drawI20, lexD, valD, valI, putD, okD, roD, memAt, lastM, wantI, eqv_refl, eqM_refl, eqM_app, eqB, eqvL, eqv, List.getLast?_cons_cons, List.getLast?_singleton, Option.getD_some, Bool.or_true, Bool.true_or, beq_self_eq_true, resvV]; rfl), rfl, rfl⟩
theorem blank_eq (hN : s.length < N) (at_ : Nat) (hat : at_ ≤ s.length) (d : Nat) (hd : 2 ≤ d) :
    evFI P (cfg ml) T N d 60 [.ptr A.length 0 0] (A ++ rdr s at_ many :: B) = some (.ret (.bool (decide (0 < blN (s.drop at_)))), A ++ rdr s (at_ + blN (s.drop at_)) many :: B) := by
  obtain ⟨n, rfl⟩ : ∃ n, d = n + 2 := ⟨d - 2, by omega⟩
  obtain ⟨t, ht, h0, h3⟩ := blank_loop (P := P) (N := N) (ml := ml) s many A B hs n at_ N at_ hat (by omega)
  have hg : decide (((at_ + blN (s.drop at_) : Nat) : Int) > (at_ : Int)) = decide (0 < blN (s.drop at_)) := by
    congr 1; apply propext; omega
  generalize hq : decide (0 < blN (s.drop at_)) = q at *
  refine evF_ret (m := 44) (v := .bool q) (a := ?aa) (H1 := A ++ rdr s (at_ + blN (s.drop at_)) many :: B) rfl t60 rfl ?hb ?hd ?hr ?hz
  case hb =>
    apply evI_seq
    · simp only [List.length_cons, List.length_nil, idx, I60, List.append_nil, List.nil_append, List.cons_append, List.getD_cons_zero, List.getD_cons_succ, evI, opsI, stepI, wantI, opI, AAct.evI, look, AAct.put, mkVal, mkVM, intOpA, intA, shiftA, unA, decide_true, decide_false, Option.map_some, Option.map_none, reduceIte, Nat.reduceEqDiff, Nat.reduceLT, Option.bind_some, Option.bind_none, true_and, and_true, and_self, Nat.zero_lt_succ, cellsAt, List.length_append, Nat.le_add_right, List.length_cons, List.length_nil, Nat.zero_add, Nat.add_zero, Nat.reduceAdd, Nat.reduceMul, Nat.zero_mul, AV.cells, AV.one, known, List.append_assoc, getE_0, getE_k, setE_0, setE_k, List.getElem?_cons_zero, List.getElem?_cons_succ, List.set_cons_zero, List.set_cons_succ, List.take_succ_cons, List.take_zero, List.drop_zero, List.drop_succ_cons, List.drop_nil, List.all_cons, List.all_nil, Bool.and_self, Bool.and_true, Bool.true_and, Bool.and_false, Bool.false_and, splice, fillI, Nat.reduceLeDiff, strA, Nat.add_assoc, beq_self_eq_true, Bool.false_eq_true, bq_ft, bq_tf, Bool.not_true, Bool.not_false, Nat.le_refl, List.map_cons, List.map_nil, isNilA, nilPtr, nilSl, nilIf, nilFn, nilMap, nilCheckA, if_true, if_false, lt_lit, le_lit, lt_lit2, le_lit2, le_sub1, le_sub2]; rfl
    apply evI_seq
    · simp only [rdr, List.append_nil, List.nil_append, List.cons_append, List.getD_cons_zero, List.getD_cons_succ, evI, opsI, stepI, wantI, opI, AAct.evI, look, AAct.put, mkVal, mkVM, intOpA, intA, shiftA, unA, decide_true, decide_false, Option.map_some, Option.map_none, reduceIte, Nat.reduceEqDiff, Nat.reduceLT, Option.bind_some, Option.bind_none, true_and, and_true, and_self, Nat.zero_lt_succ, cellsAt, List.length_append, Nat.le_add_right, List.length_cons, List.length_nil, Nat.zero_add, Nat.add_zero, Nat.reduceAdd, Nat.reduceMul, Nat.zero_mul, AV.cells, AV.one, known, List.append_assoc, getE_0, getE_k, setE_0, setE_k, List.getElem?_cons_zero, List.getElem?_cons_succ, List.set_cons_zero, List.set_cons_succ, List.take_succ_cons, List.take_zero, List.drop_zero, List.drop_succ_cons, List.drop_nil, List.all_cons, List.all_nil, Bool.and_self, Bool.and_true, Bool.true_and, Bool.and_false, Bool.false_and, splice, fillI, Nat.reduceLeDiff, strA, Nat.add_assoc, beq_self_eq_true, Bool.false_eq_true, bq_ft, bq_tf, Bool.not_true, Bool.not_false, Nat.le_refl, List.map_cons, List.map_nil, isNilA, nilPtr, nilSl, nilIf, nilFn, nilMap, nilCheckA, if_true, if_false, lt_lit, le_lit, lt_lit2, le_lit2, le_sub1, le_sub2]; rfl
    apply evI_seq
    · apply evI_block_exit
      apply evI_loop
      exact ht
    simp only [rdr, h0, h3, hg, List.append_nil, List.nil_append, List.cons_append, List.getD_cons_zero, List.getD_cons_succ, evI, opsI, stepI, wantI, opI, AAct.evI, look, AAct.put, mkVal, mkVM, intOpA, intA, shiftA, unA, decide_true, decide_false, Option.map_some, Option.map_none, reduceIte, Nat.reduceEqDiff, Nat.reduceLT, Option.bind_some, Option.bind_none, true_and, and_true, and_self, Nat.zero_lt_succ, cellsAt, List.length_append, Nat.le_add_right, List.length_cons, List.length_nil, Nat.zero_add, Nat.add_zero, Nat.reduceAdd, Nat.reduceMul, Nat.zero_mul, AV.cells, AV.one, known, List.append_assoc, getE_0, getE_k, setE_0, setE_k, List.getElem?_cons_zero, List.getElem?_cons_succ, List.set_cons_zero, List.set_cons_succ, List.take_succ_cons, List.take_zero, List.drop_zero, List.drop_succ_cons, List.drop_nil, List.all_cons, List.all_nil, Bool.and_self, Bool.and_true, Bool.true_and, Bool.and_false, Bool.false_and, splice, fillI, Nat.reduceLeDiff, strA, Nat.add_assoc, beq_self_eq_true, Bool.false_eq_true, bq_ft, bq_tf, Bool.not_true, Bool.not_false, Nat.le_refl, List.map_cons, List.map_nil, isNilA, nilPtr, nilSl, nilIf, nilFn, nilMap, nilCheckA, if_true, if_false, lt_lit, le_lit, lt_lit2, le_lit2, le_sub1, le_sub2]; rfl
  case hd => rfl
  case hr => simp only [I60, resI, resLI, look, reduceIte, Nat.reduceEqDiff, Option.map_some]
  case hz => exact fin_len rfl (by simp)
noncomputable def loopNm : IC := (I57.c.loops).getD 0 .bad
theorem name_loop (n at0 : Nat) : ∀ (fuel k : Nat), k ≤ s.length → s.length - k < fuel →
    ∃ t, loopA (fun a H => evI P (cfg ml) (evFI P (cfg ml) T N (n + 2)) N loopNm a H) (some [0, 3]) fuel ⟨70, [(0, .ptr A.length 0 0), (3, .int .i64 at0)], []⟩ (A ++ rdr s k many :: B) = some (.exit 0, ⟨70, t, []⟩, A ++ rdr s (k + nmN (s.drop k)) many :: B) ∧ look t 0 = .ptr A.length 0 0 ∧ look t 3 = .int .i64 at0
  | 0, _, _, h => by omega
  | fuel + 1, k, hk, hf => by
    rcases Nat.lt_or_ge k s.length with hlt | hge
    · obtain ⟨b, hb⟩ := all_drop hlt
      have hget : s[k]? = some b := by
        have := congrArg (·[0]?) hb
        simpa using this
      have hi : decide ((k : Int) < (s.length : Int)) = true := decide_eq_true (by omega)
      have hn := natOf_nat k .i64
      have hX := fun H => isNext_eq (ml := ml) P N n (b.toNat : Int) H
      have hbl : nameNext (b.toNat : Int) = nxt8 b := rfl
      rw [hbl] at hX
      cases hc : nxt8 b
      · rw [hc] at hX
        have e : nmN (s.drop k) = 0 := by rw [hb]; unfold nmN; rw [List.takeWhile_cons, hc]; rfl
        rw [e, Nat.add_zero]
        exact ⟨_, loopA_exit (by simp only [loopNm, I57, IC.loops, List.getD_cons_zero, rdr, hi, hn, hget, hX, List.append_nil, List.nil_append, List.cons_append, List.getD_cons_zero, List.getD_cons_succ, evI, opsI, stepI, wantI, opI, AAct.evI, look, AAct.put, mkVal, mkVM, intOpA, intA, shiftA, unA, decide_true, decide_false, Option.map_some, Option.map_none, reduceIte, Nat.reduceEqDiff, Nat.reduceLT, Option.bind_some, Option.bind_none, true_and, and_true, and_self, Nat.zero_lt_succ, cellsAt, List.length_append, Nat.le_add_right, List.length_cons, List.length_nil, Nat.zero_add, Nat.add_zero, Nat.reduceAdd, Nat.reduceMul, Nat.zero_mul, AV.cells, AV.one, known, List.append_assoc, getE_0, getE_k, setE_0, setE_k, List.getElem?_cons_zero, List.getElem?_cons_succ, List.set_cons_zero, List.set_cons_succ, List.take_succ_cons, List.take_zero, List.drop_zero, List.drop_succ_cons, List.drop_nil, List.all_cons, List.all_nil, Bool.and_self, Bool.and_true, Bool.true_and, Bool.and_false, Bool.false_and, splice, fillI, Nat.reduceLeDiff, strA, Nat.add_assoc, beq_self_eq_true, Bool.false_eq_true, bq_ft, bq_tf, Bool.not_true, Bool.not_false, Nat.le_refl, List.map_cons, List.map_nil, isNilA, nilPtr, nilSl, nilIf, nilFn, nilMap, nilCheckA, if_true, if_false, lt_lit, le_lit, lt_lit2, le_lit2, le_sub1, le_sub2, drawI, drawI2, drawI0, drawI20, lexD, valD, valI, putD, okD, roD, memAt, lastM, wantI, eqv_refl, eqM_refl, eqM_app, eqB, eqvL, eqv, List.getLast?_cons_cons, List.getLast?_singleton, Option.getD_some, Bool.or_true, Bool.true_or, beq_self_eq_true, resvV]; rfl), rfl, rfl⟩
      · rw [hc] at hX
        have e : k + nmN (s.drop k) = k + 1 + nmN (s.drop (k + 1)) := by rw [hb]; unfold nmN; rw [List.takeWhile_cons, hc]; simp; omega
        obtain ⟨t, ht, h0, h3⟩ := name_loop n at0 fuel (k + 1) (by omega) (by omega)
        have hw : IntKind.wrap .i64 ((k : Int) + 1) = ((k + 1 : Nat) : Int) := by rw [wrap64] <;> omega
        rw [e]
        refine ⟨t, ?_, h0, h3⟩
        refine loopA_go (H' := A ++ rdr s (k + 1) many :: B) (by simp only [loopNm, I57, IC.loops, List.getD_cons_zero, rdr, hi, hn, hget, hX, hw, List.append_nil, List.nil_append, List.cons_append, List.getD_cons_zero, List.getD_cons_succ, evI, opsI, stepI, wantI, opI, AAct.evI, look, AAct.put, mkVal, mkVM, intOpA, intA, shiftA, unA, decide_true, decide_false, Option.map_some, Option.map_none, reduceIte, Nat.reduceEqDiff, Nat.reduceLT, Option.bind_some, Option.bind_none, true_and, and_true, and_self, Nat.zero_lt_succ, cellsAt, List.length_append, Nat.le_add_right, List.length_cons, List.length_nil, Nat.zero_add, Nat.add_zero, Nat.reduceAdd, Nat.reduceMul, Nat.zero_mul, AV.cells, AV.one, known, List.append_assoc, getE_0, getE_k, setE_0, setE_k, List.getElem?_cons_zero, List.getElem?_cons_succ, List.set_cons_zero, List.set_cons_succ, List.take_succ_cons, List.take_zero, List.drop_zero, List.drop_succ_cons, List.drop_nil, List.all_cons, List.all_nil, Bool.and_self, Bool.and_true, Bool.true_and, Bool.and_false, Bool.false_and, splice, fillI, Nat.reduceLeDiff, strA, Nat.add_assoc, beq_self_eq_true, Bool.false_eq_true, bq_ft, bq_tf, Bool.not_true, Bool.not_false, Nat.le_refl, List.map_cons, List.map_nil, isNilA, nilPtr, nilSl, nilIf, nilFn, nilMap, nilCheckA, if_true, if_false, lt_lit, le_lit, lt_lit2, le_lit2, le_sub1, le_sub2, drawI, drawI2, drawI0, drawI20, lexD, valD, valI, putD, okD, roD, memAt, lastM, wantI, eqv_refl, eqM_refl, eqM_app, eqB, eqvL, eqv, List.getLast?_cons_cons, List.getLast?_singleton, Option.getD_some, Bool.or_true, Bool.true_or, beq_self_eq_true, resvV]; rfl) ?_
        rw [re_len (by simp)]
        exact ht
    · have hi : decide ((k : Int) < (s.length : Int)) = false := decide_eq_false (by omega)
      have e : nmN (s.drop k) = 0 := by rw [List.drop_eq_nil_of_le hge]; rfl
      rw [e, Nat.add_zero]
      exact ⟨_, loopA_exit (by simp only [loopNm, I57, IC.loops, List.getD_cons_zero, rdr, hi, List.append_nil, List.nil_append, List.cons_append, List.getD_cons_zero, List.getD_cons_succ, evI, opsI, stepI, wantI, opI, AAct.evI, look, AAct.put, mkVal, mkVM, intOpA, intA, shiftA, unA, decide_true, decide_false, Option.map_some, Option.map_none, reduceIte, Nat.reduceEqDiff, Nat.reduceLT, Option.bind_some, Option.bind_none, true_and, and_true, and_self, Nat.zero_lt_succ, cellsAt, List.length_append, Nat.le_add_right, List.length_cons, List.length_nil, Nat.zero_add, Nat.add_zero, Nat.reduceAdd, Nat.reduceMul, Nat.zero_mul, AV.cells, AV.one, known, List.append_assoc, getE_0, getE_k, setE_0, setE_k, List.getElem?_cons_zero, List.getElem?_cons_succ, List.set_cons_zero, List.set_cons_succ, List.take_succ_cons, List.take_zero, List.drop_zero, List.drop_succ_cons, List.drop_nil, List.all_cons, List.all_nil, Bool.and_self, Bool.and_true, Bool.true_and, Bool.and_false, Bool.false_and, splice, fillI, Nat.reduceLeDiff, strA, Nat.add_assoc, beq_self_eq_true, Bool.false_eq_true, bq_ft, bq_tf, Bool.not_true, Bool.not_false, Nat.le_refl, List.map_cons, List.map_nil, isNilA, nilPtr, nilSl, nilIf, nilFn, nilMap, nilCheckA, if_true, if_false, lt_lit, le_lit, lt_lit2, le_lit2, le_sub1, le_sub2, drawI, drawI2, drawI0, drawI20, lexD, valD, valI, putD, okD, roD, memAt, lastM, wantI, eqv_refl, eqM_refl, eqM_app, eqB, eqvL, eqv, List.getLast?_cons_cons, List.getLast?_singleton, Option.getD_some, Bool.or_true, Bool.true_or, beq_self_eq_true, resvV]; rfl), rfl, rfl⟩
theorem name_eq (hN : s.length < N) (at_ : Nat) (b : UInt8) (hb : s[at_]? = some b) (hf : fst8 b = true) (d : Nat) (hd : 3 ≤ d) :
    evFI P (cfg ml) T N d 57 [.ptr A.length 0 0] (A ++ rdr s at_ many :: B) = some (.ret (.str ((s.drop at_).take (nmN (s.drop at_)))), A ++ rdr s (at_ + nmN (s.drop at_)) many :: B) := by
  obtain ⟨n, rfl⟩ : ∃ n, d = n + 3 := ⟨d - 3, by omega⟩
  have hlt : at_ < s.length := (List.getElem?_eq_some_iff.1 hb).1
  obtain ⟨t, ht, h0, h3⟩ := name_loop (P := P) (N := N) (ml := ml) s many A B hs n at_ N at_ (by omega) (by omega)
  have hle : nmN (s.drop at_) ≤ s.length - at_ := by
    have := takeWhile_le nxt8 (s.drop at_)
    rw [List.length_drop] at this
    exact this
  have hi : decide ((at_ : Int) < (s.length : Int)) = true := decide_eq_true (by omega)
  have hn := natOf_nat at_ .i64
  have hX := fun H => isFirst_eq (ml := ml) P N (n + 1) (b.toNat : Int) H
  have hbl : nameFirst (b.toNat : Int) = true := hf
  rw [hbl] at hX
  have hM := fun H => must_t (P := P) (N := N) (ml := ml) (n + 2) (by omega) 10 H
  generalize nmN (s.drop at_) = m at *
  have hn2 := natOf_nat (at_ + m) .i64
  have h1 : at_ ≤ at_ + m := by omega
  have h2 : at_ + m ≤ s.length := by omega
  have h4 : at_ + m - at_ = m := by omega
  refine evF_ret (m := 70) (v := .str ((s.drop at_).take m)) (a := ?aa) (H1 := A ++ rdr s (at_ + m) many :: B) rfl t57 rfl ?hb ?hd ?hr ?hz
  case hb =>
    apply evI_seq
    · simp only [List.length_cons, List.length_nil, idx, I57, List.append_nil, List.nil_append, List.cons_append, List.getD_cons_zero, List.getD_cons_succ, evI, opsI, stepI, wantI, opI, AAct.evI, look, AAct.put, mkVal, mkVM, intOpA, intA, shiftA, unA, decide_true, decide_false, Option.map_some, Option.map_none, reduceIte, Nat.reduceEqDiff, Nat.reduceLT, Option.bind_some, Option.bind_none, true_and, and_true, and_self, Nat.zero_lt_succ, cellsAt, List.length_append, Nat.le_add_right, List.length_cons, List.length_nil, Nat.zero_add, Nat.add_zero, Nat.reduceAdd, Nat.reduceMul, Nat.zero_mul, AV.cells, AV.one, known, List.append_assoc, getE_0, getE_k, setE_0, setE_k, List.getElem?_cons_zero, List.getElem?_cons_succ, List.set_cons_zero, List.set_cons_succ, List.take_succ_cons, List.take_zero, List.drop_zero, List.drop_succ_cons, List.drop_nil, List.all_cons, List.all_nil, Bool.and_self, Bool.and_true, Bool.true_and, Bool.and_false, Bool.false_and, splice, fillI, Nat.reduceLeDiff, strA, Nat.add_assoc, beq_self_eq_true, Bool.false_eq_true, bq_ft, bq_tf, Bool.not_true, Bool.not_false, Nat.le_refl, List.map_cons, List.map_nil, isNilA, nilPtr, nilSl, nilIf, nilFn, nilMap, nilCheckA, if_true, if_false, lt_lit, le_lit, lt_lit2, le_lit2, le_sub1, le_sub2]; rfl
    apply evI_seq
    · simp only [rdr, List.append_nil, List.nil_append, List.cons_append, List.getD_cons_zero, List.getD_cons_succ, evI, opsI, stepI, wantI, opI, AAct.evI, look, AAct.put, mkVal, mkVM, intOpA, intA, shiftA, unA, decide_true, decide_false, Option.map_some, Option.map_none, reduceIte, Nat.reduceEqDiff, Nat.reduceLT, Option.bind_some, Option.bind_none, true_and, and_true, and_self, Nat.zero_lt_succ, cellsAt, List.length_append, Nat.le_add_right, List.length_cons, List.length_nil, Nat.zero_add, Nat.add_zero, Nat.reduceAdd, Nat.reduceMul, Nat.zero_mul, AV.cells, AV.one, known, List.append_assoc, getE_0, getE_k, setE_0, setE_k, List.getElem?_cons_zero, List.getElem?_cons_succ, List.set_cons_zero, List.set_cons_succ, List.take_succ_cons, List.take_zero, List.drop_zero, List.drop_succ_cons, List.drop_nil, List.all_cons, List.all_nil, Bool.and_self, Bool.and_true, Bool.true_and, Bool.and_false, Bool.false_and, splice, fillI, Nat.reduceLeDiff, strA, Nat.add_assoc, beq_self_eq_true, Bool.false_eq_true, bq_ft, bq_tf, Bool.not_true, Bool.not_false, Nat.le_refl, List.map_cons, List.map_nil, isNilA, nilPtr, nilSl, nilIf, nilFn, nilMap, nilCheckA, if_true, if_false, lt_lit, le_lit, lt_lit2, le_lit2, le_sub1, le_sub2]; rfl
    apply evI_seq
    · simp only [rdr, hi, hn, hb, hX, hM, List.append_nil, List.nil_append, List.cons_append, List.getD_cons_zero, List.getD_cons_succ, evI, opsI, stepI, wantI, opI, AAct.evI, look, AAct.put, mkVal, mkVM, intOpA, intA, shiftA, unA, decide_true, decide_false, Option.map_some, Option.map_none, reduceIte, Nat.reduceEqDiff, Nat.reduceLT, Option.bind_some, Option.bind_none, true_and, and_true, and_self, Nat.zero_lt_succ, cellsAt, List.length_append, Nat.le_add_right, List.length_cons, List.length_nil, Nat.zero_add, Nat.add_zero, Nat.reduceAdd, Nat.reduceMul, Nat.zero_mul, AV.cells, AV.one, known, List.append_assoc, getE_0, getE_k, setE_0, setE_k, List.getElem?_cons_zero, List.getElem?_cons_succ, List.set_cons_zero, List.set_cons_succ, List.take_succ_cons, List.take_zero, List.drop_zero, List.drop_succ_cons, List.drop_nil, List.all_cons, List.all_nil, Bool.and_self, Bool.and_true, Bool.true_and, Bool.and_false, Bool.false_and, splice, fillI, Nat.reduceLeDiff, strA, Nat.add_assoc, beq_self_eq_true, Bool.false_eq_true, bq_ft, bq_tf, Bool.not_true, Bool.not_false, Nat.le_refl, List.map_cons, List.map_nil, isNilA, nilPtr, nilSl, nilIf, nilFn, nilMap, nilCheckA, if_true, if_false, lt_lit, le_lit, lt_lit2, le_lit2, le_sub1, le_sub2, drawI, drawI2, drawI0, drawI20, lexD, valD, valI, putD, okD, roD, memAt, lastM, wantI, eqv_refl, eqM_refl, eqM_app, eqB, eqvL, eqv, List.getLast?_cons_cons, List.getLast?_singleton, Option.getD_some, Bool.or_true, Bool.true_or, beq_self_eq_true, resvV]; rfl
    apply evI_seq
    · apply evI_block_exit
      apply evI_loop
      exact ht
    simp only [rdr, h0, h3, bound, hn, hn2, h1, h2, h4, List.append_nil, List.nil_append, List.cons_append, List.getD_cons_zero, List.getD_cons_succ, evI, opsI, stepI, wantI, opI, AAct.evI, look, AAct.put, mkVal, mkVM, intOpA, intA, shiftA, unA, decide_true, decide_false, Option.map_some, Option.map_none, reduceIte, Nat.reduceEqDiff, Nat.reduceLT, Option.bind_some, Option.bind_none, true_and, and_true, and_self, Nat.zero_lt_succ, cellsAt, List.length_append, Nat.le_add_right, List.length_cons, List.length_nil, Nat.zero_add, Nat.add_zero, Nat.reduceAdd, Nat.reduceMul, Nat.zero_mul, AV.cells, AV.one, known, List.append_assoc, getE_0, getE_k, setE_0, setE_k, List.getElem?_cons_zero, List.getElem?_cons_succ, List.set_cons_zero, List.set_cons_succ, List.take_succ_cons, List.take_zero, List.drop_zero, List.drop_succ_cons, List.drop_nil, List.all_cons, List.all_nil, Bool.and_self, Bool.and_true, Bool.true_and, Bool.and_false, Bool.false_and, splice, fillI, Nat.reduceLeDiff, strA, Nat.add_assoc, beq_self_eq_true, Bool.false_eq_true, bq_ft, bq_tf, Bool.not_true, Bool.not_false, Nat.le_refl, List.map_cons, List.map_nil, isNilA, nilPtr, nilSl, nilIf, nilFn, nilMap, nilCheckA, if_true, if_false, lt_lit, le_lit, lt_lit2, le_lit2, le_sub1, le_sub2, drawI, drawI2, drawI0, drawI20, lexD, valD, valI, putD, okD, roD, memAt, lastM, wantI, eqv_refl, eqM_refl, eqM_app, eqB, eqvL, eqv, List.getLast?_cons_cons, List.getLast?_singleton, Option.getD_some, Bool.or_true, Bool.true_or, beq_self_eq_true, resvV]; rfl
  case hd => rfl
  case hr => simp only [I57, resI, resLI, look, reduceIte, Nat.reduceEqDiff, Option.map_some]
  case hz => exact fin_len rfl (by simp)
theorem qual_plain (hN : s.length < N) (at_ : Nat) (b : UInt8) (hb : s[at_]? = some b) (hf : fst8 b = true) (hq : hasP (s.drop (at_ + nmN (s.drop at_))) [58] = false) (d : Nat) (hd : 5 ≤ d) :
    evFI P (cfg ml) T N d 64 [.ptr A.length 0 0] (A ++ rdr s at_ many :: B) = some (.ret (.tup [.str [], .str ((s.drop at_).take (nmN (s.drop at_)))]), A ++ rdr s (at_ + nmN (s.drop at_)) many :: B) := by
  obtain ⟨n, rfl⟩ : ∃ n, d = n + 5 := ⟨d - 5, by omega⟩
  have hlt : at_ < s.length := (List.getElem?_eq_some_iff.1 hb).1
  have hle : nmN (s.drop at_) ≤ s.length - at_ := by
    have := takeWhile_le nxt8 (s.drop at_)
    rw [List.length_drop] at this
    exact this
  have h1 := name_eq (P := P) (N := N) (ml := ml) s many A B hs hN at_ b hb hf (n + 4) (by omega)
  have h2 := take_f (P := P) (N := N) (ml := ml) s (at_ + nmN (s.drop at_)) many A B hs (by omega) (n + 4) (by omega) [58] hq
  refine evF_ret (m := 12) (v := .tup [.str [], .str ((s.drop at_).take (nmN (s.drop at_)))]) (a := ?aa) (H1 := A ++ rdr s (at_ + nmN (s.drop at_)) many :: B) rfl t64 rfl ?hb ?hd ?hr ?hz
  case hb => simp only [List.length_cons, List.length_nil, idx, I64, h1, h2, List.append_nil, List.nil_append, List.cons_append, List.getD_cons_zero, List.getD_cons_succ, evI, opsI, stepI, wantI, opI, AAct.evI, look, AAct.put, mkVal, mkVM, intOpA, intA, shiftA, unA, decide_true, decide_false, Option.map_some, Option.map_none, reduceIte, Nat.reduceEqDiff, Nat.reduceLT, Option.bind_some, Option.bind_none, true_and, and_true, and_self, Nat.zero_lt_succ, cellsAt, List.length_append, Nat.le_add_right, List.length_cons, List.length_nil, Nat.zero_add, Nat.add_zero, Nat.reduceAdd, Nat.reduceMul, Nat.zero_mul, AV.cells, AV.one, known, List.append_assoc, getE_0, getE_k, setE_0, setE_k, List.getElem?_cons_zero, List.getElem?_cons_succ, List.set_cons_zero, List.set_cons_succ, List.take_succ_cons, List.take_zero, List.drop_zero, List.drop_succ_cons, List.drop_nil, List.all_cons, List.all_nil, Bool.and_self, Bool.and_true, Bool.true_and, Bool.and_false, Bool.false_and, splice, fillI, Nat.reduceLeDiff, strA, Nat.add_assoc, beq_self_eq_true, Bool.false_eq_true, bq_ft, bq_tf, Bool.not_true, Bool.not_false, Nat.le_refl, List.map_cons, List.map_nil, isNilA, nilPtr, nilSl, nilIf, nilFn, nilMap, nilCheckA, if_true, if_false, lt_lit, le_lit, lt_lit2, le_lit2, le_sub1, le_sub2]; rfl
  case hd => rfl
  case hr => simp only [I64, resI, resLI, look, reduceIte, Nat.reduceEqDiff, Option.map_some]
  case hz => exact fin_len rfl (by simp)
noncomputable def loopMi : IC := (I37.c.loops).getD 0 .bad
end
theorem op_range : (opAt Tryz.f66 24).op = .range 68 (.tmp 37) := by kernel_rfl
theorem range_map {ρ : Operand → AV} {H : Mem} {mi : Nat} {e : AV × AV} (hρ : ρ (.tmp 37) = .map mi) (hm : H[mi]? = some (.map [e])) : exec1 Tryz.prog ρ (opAt Tryz.f66 24) H = some (.val (.ptr H.length 0 0) (H ++ [.miter mi 0])) := by
  unfold exec1
  rw [op_range]
  simp only [hρ, mkVM, rangeA, Tryz.underlying68, hm, Option.map_some]
section
variable {N : Nat}
theorem spaced_nil (hN : 2 ≤ N) (d : Nat) (hd : 2 ≤ d) (H : Mem) (mi : Nat) (k v : List UInt8) (hm : H[mi]? = some (.map [(.str k, .str v)])) :
    evFI Tryz.prog (cfg ml) T N d 66 [.map mi, .str [], .nilS] H = some (.ret (.tup [.map H.length, .nilS]), H ++ [.map [(.str k, .str v)], .miter mi 1]) := by
  obtain ⟨n, rfl⟩ : ∃ n, d = n + 2 := ⟨d - 2, by omega⟩
  obtain ⟨N, rfl⟩ : ∃ m, N = m + 2 := ⟨N - 2, by omega⟩
  have hlt : mi < H.length := (List.getElem?_eq_some_iff.1 hm).1
  have hm2 : ∀ L : Mem, (H ++ L)[mi]? = some (.map [(.str k, .str v)]) := fun L => by rw [List.getElem?_append_left hlt]; exact hm
  have hr : ∀ (ρ : Operand → AV), ρ (.tmp 37) = .map mi → exec1 Tryz.prog ρ (opAt Tryz.f66 24) (H ++ [.map []]) = some (.val (.ptr (H ++ [Blk.map []]).length 0 0) (H ++ [.map []] ++ [.miter mi 0])) := fun ρ h => range_map h (hm2 _)
  have hM := fun H => must_t (P := Tryz.prog) (N := N + 2) (ml := ml) (n + 1) (by omega) 12 H
  have c0 : decide ((0 : Int) < 0) = false := rfl
  have hz : decide (mi < H.length) = true := decide_eq_true hlt
  have hll : ¬ H.length < H.length := Nat.lt_irrefl _
  refine evF_ret (m := 163) (v := .tup [.map H.length, .nilS]) (a := ?aa) (H1 := H ++ [.map [(.str k, .str v)], .miter mi 1]) rfl t66 rfl ?hb ?hd ?hr ?hz
  case hb =>
    apply evI_seq
    · simp only [List.length_cons, List.length_nil, idx, I66, List.append_nil, List.nil_append, List.cons_append, List.getD_cons_zero, List.getD_cons_succ, evI, opsI, stepI, wantI, opI, AAct.evI, look, AAct.put, mkVal, mkVM, intOpA, intA, shiftA, unA, decide_true, decide_false, Option.map_some, Option.map_none, reduceIte, Nat.reduceEqDiff, Nat.reduceLT, Option.bind_some, Option.bind_none, true_and, and_true, and_self, Nat.zero_lt_succ, cellsAt, List.length_append, Nat.le_add_right, List.length_cons, List.length_nil, Nat.zero_add, Nat.add_zero, Nat.reduceAdd, Nat.reduceMul, Nat.zero_mul, AV.cells, AV.one, known, List.append_assoc, getE_0, getE_k, setE_0, setE_k, List.getElem?_cons_zero, List.getElem?_cons_succ, List.set_cons_zero, List.set_cons_succ, List.take_succ_cons, List.take_zero, List.drop_zero, List.drop_succ_cons, List.drop_nil, List.all_cons, List.all_nil, Bool.and_self, Bool.and_true, Bool.true_and, Bool.and_false, Bool.false_and, splice, fillI, Nat.reduceLeDiff, strA, Nat.add_assoc, beq_self_eq_true, Bool.false_eq_true, bq_ft, bq_tf, Bool.not_true, Bool.not_false, Nat.le_refl, List.map_cons, List.map_nil, isNilA, nilPtr, nilSl, nilIf, nilFn, nilMap, nilCheckA, if_true, if_false, lt_lit, le_lit, lt_lit2, le_lit2, le_sub1, le_sub2]; rfl
    apply evI_seq
    · apply evI_seq
      · simp only [List.append_nil, List.nil_append, List.cons_append, List.getD_cons_zero, List.getD_cons_succ, evI, opsI, stepI, wantI, opI, AAct.evI, look, AAct.put, mkVal, mkVM, intOpA, intA, shiftA, unA, decide_true, decide_false, Option.map_some, Option.map_none, reduceIte, Nat.reduceEqDiff, Nat.reduceLT, Option.bind_some, Option.bind_none, true_and, and_true, and_self, Nat.zero_lt_succ, cellsAt, List.length_append, Nat.le_add_right, List.length_cons, List.length_nil, Nat.zero_add, Nat.add_zero, Nat.reduceAdd, Nat.reduceMul, Nat.zero_mul, AV.cells, AV.one, known, List.append_assoc, getE_0, getE_k, setE_0, setE_k, List.getElem?_cons_zero, List.getElem?_cons_succ, List.set_cons_zero, List.set_cons_succ, List.take_succ_cons, List.take_zero, List.drop_zero, List.drop_succ_cons, List.drop_nil, List.all_cons, List.all_nil, Bool.and_self, Bool.and_true, Bool.true_and, Bool.and_false, Bool.false_and, splice, fillI, Nat.reduceLeDiff, strA, Nat.add_assoc, beq_self_eq_true, Bool.false_eq_true, bq_ft, bq_tf, Bool.not_true, Bool.not_false, Nat.le_refl, List.map_cons, List.map_nil, isNilA, nilPtr, nilSl, nilIf, nilFn, nilMap, nilCheckA, if_true, if_false, lt_lit, le_lit, lt_lit2, le_lit2, le_sub1, le_sub2]; rfl
      apply evI_block_exit
      apply evI_loop
      apply loopA_exit
      simp only [AAct.keepT, c0, List.append_nil, List.nil_append, List.cons_append, List.getD_cons_zero, List.getD_cons_succ, evI, opsI, stepI, wantI, opI, AAct.evI, look, AAct.put, mkVal, mkVM, intOpA, intA, shiftA, unA, decide_true, decide_false, Option.map_some, Option.map_none, reduceIte, Nat.reduceEqDiff, Nat.reduceLT, Option.bind_some, Option.bind_none, true_and, and_true, and_self, Nat.zero_lt_succ, cellsAt, List.length_append, Nat.le_add_right, List.length_cons, List.length_nil, Nat.zero_add, Nat.add_zero, Nat.reduceAdd, Nat.reduceMul, Nat.zero_mul, AV.cells, AV.one, known, List.append_assoc, getE_0, getE_k, setE_0, setE_k, List.getElem?_cons_zero, List.getElem?_cons_succ, List.set_cons_zero, List.set_cons_succ, List.take_succ_cons, List.take_zero, List.drop_zero, List.drop_succ_cons, List.drop_nil, List.all_cons, List.all_nil, Bool.and_self, Bool.and_true, Bool.true_and, Bool.and_false, Bool.false_and, splice, fillI, Nat.reduceLeDiff, strA, Nat.add_assoc, beq_self_eq_true, Bool.false_eq_true, bq_ft, bq_tf, Bool.not_true, Bool.not_false, Nat.le_refl, List.map_cons, List.map_nil, isNilA, nilPtr, nilSl, nilIf, nilFn, nilMap, nilCheckA, if_true, if_false, lt_lit, le_lit, lt_lit2, le_lit2, le_sub1, le_sub2]; rfl
    apply evI_seq
    · simp only [List.append_nil, List.nil_append, List.cons_append, List.getD_cons_zero, List.getD_cons_succ, evI, opsI, stepI, wantI, opI, AAct.evI, look, AAct.put, mkVal, mkVM, intOpA, intA, shiftA, unA, decide_true, decide_false, Option.map_some, Option.map_none, reduceIte, Nat.reduceEqDiff, Nat.reduceLT, Option.bind_some, Option.bind_none, true_and, and_true, and_self, Nat.zero_lt_succ, cellsAt, List.length_append, Nat.le_add_right, List.length_cons, List.length_nil, Nat.zero_add, Nat.add_zero, Nat.reduceAdd, Nat.reduceMul, Nat.zero_mul, AV.cells, AV.one, known, List.append_assoc, getE_0, getE_k, setE_0, setE_k, List.getElem?_cons_zero, List.getElem?_cons_succ, List.set_cons_zero, List.set_cons_succ, List.take_succ_cons, List.take_zero, List.drop_zero, List.drop_succ_cons, List.drop_nil, List.all_cons, List.all_nil, Bool.and_self, Bool.and_true, Bool.true_and, Bool.and_false, Bool.false_and, splice, fillI, Nat.reduceLeDiff, strA, Nat.add_assoc, beq_self_eq_true, Bool.false_eq_true, bq_ft, bq_tf, Bool.not_true, Bool.not_false, Nat.le_refl, List.map_cons, List.map_nil, isNilA, nilPtr, nilSl, nilIf, nilFn, nilMap, nilCheckA, if_true, if_false, lt_lit, le_lit, lt_lit2, le_lit2, le_sub1, le_sub2]; rfl
    apply evI_seq
    · apply evI_seq
      · simp only [AAct.eval, hr, List.append_nil, List.nil_append, List.cons_append, List.getD_cons_zero, List.getD_cons_succ, evI, opsI, stepI, wantI, opI, AAct.evI, look, AAct.put, mkVal, mkVM, intOpA, intA, shiftA, unA, decide_true, decide_false, Option.map_some, Option.map_none, reduceIte, Nat.reduceEqDiff, Nat.reduceLT, Option.bind_some, Option.bind_none, true_and, and_true, and_self, Nat.zero_lt_succ, cellsAt, List.length_append, Nat.le_add_right, List.length_cons, List.length_nil, Nat.zero_add, Nat.add_zero, Nat.reduceAdd, Nat.reduceMul, Nat.zero_mul, AV.cells, AV.one, known, List.append_assoc, getE_0, getE_k, setE_0, setE_k, List.getElem?_cons_zero, List.getElem?_cons_succ, List.set_cons_zero, List.set_cons_succ, List.take_succ_cons, List.take_zero, List.drop_zero, List.drop_succ_cons, List.drop_nil, List.all_cons, List.all_nil, Bool.and_self, Bool.and_true, Bool.true_and, Bool.and_false, Bool.false_and, splice, fillI, Nat.reduceLeDiff, strA, Nat.add_assoc, beq_self_eq_true, Bool.false_eq_true, bq_ft, bq_tf, Bool.not_true, Bool.not_false, Nat.le_refl, List.map_cons, List.map_nil, isNilA, nilPtr, nilSl, nilIf, nilFn, nilMap, nilCheckA, if_true, if_false, lt_lit, le_lit, lt_lit2, le_lit2, le_sub1, le_sub2]; rfl
      apply evI_block_exit
      apply evI_loop
      refine loopA_go (H' := H ++ [.map [(.str k, .str v)], .miter mi 1]) (by simp only [AAct.keepT, nextA, entryA, updateD, findA, isKey, mkM, hm2, List.append_assoc, Option.bind_some, List.append_nil, List.nil_append, List.cons_append, List.getD_cons_zero, List.getD_cons_succ, evI, opsI, stepI, wantI, opI, AAct.evI, look, AAct.put, mkVal, mkVM, intOpA, intA, shiftA, unA, decide_true, decide_false, Option.map_some, Option.map_none, reduceIte, Nat.reduceEqDiff, Nat.reduceLT, Option.bind_some, Option.bind_none, true_and, and_true, and_self, Nat.zero_lt_succ, cellsAt, List.length_append, Nat.le_add_right, List.length_cons, List.length_nil, Nat.zero_add, Nat.add_zero, Nat.reduceAdd, Nat.reduceMul, Nat.zero_mul, AV.cells, AV.one, known, List.append_assoc, getE_0, getE_k, setE_0, setE_k, List.getElem?_cons_zero, List.getElem?_cons_succ, List.set_cons_zero, List.set_cons_succ, List.take_succ_cons, List.take_zero, List.drop_zero, List.drop_succ_cons, List.drop_nil, List.all_cons, List.all_nil, Bool.and_self, Bool.and_true, Bool.true_and, Bool.and_false, Bool.false_and, splice, fillI, Nat.reduceLeDiff, strA, Nat.add_assoc, beq_self_eq_true, Bool.false_eq_true, bq_ft, bq_tf, Bool.not_true, Bool.not_false, Nat.le_refl, List.map_cons, List.map_nil, isNilA, nilPtr, nilSl, nilIf, nilFn, nilMap, nilCheckA, if_true, if_false, lt_lit, le_lit, lt_lit2, le_lit2, le_sub1, le_sub2]; rfl) ?_
      rw [re_len (by simp)]
      apply loopA_exit
      simp only [AAct.keepT, nextA, hm2, List.append_nil, List.nil_append, List.cons_append, List.getD_cons_zero, List.getD_cons_succ, evI, opsI, stepI, wantI, opI, AAct.evI, look, AAct.put, mkVal, mkVM, intOpA, intA, shiftA, unA, decide_true, decide_false, Option.map_some, Option.map_none, reduceIte, Nat.reduceEqDiff, Nat.reduceLT, Option.bind_some, Option.bind_none, true_and, and_true, and_self, Nat.zero_lt_succ, cellsAt, List.length_append, Nat.le_add_right, List.length_cons, List.length_nil, Nat.zero_add, Nat.add_zero, Nat.reduceAdd, Nat.reduceMul, Nat.zero_mul, AV.cells, AV.one, known, List.append_assoc, getE_0, getE_k, setE_0, setE_k, List.getElem?_cons_zero, List.getElem?_cons_succ, List.set_cons_zero, List.set_cons_succ, List.take_succ_cons, List.take_zero, List.drop_zero, List.drop_succ_cons, List.drop_nil, List.all_cons, List.all_nil, Bool.and_self, Bool.and_true, Bool.true_and, Bool.and_false, Bool.false_and, splice, fillI, Nat.reduceLeDiff, strA, Nat.add_assoc, beq_self_eq_true, Bool.false_eq_true, bq_ft, bq_tf, Bool.not_true, Bool.not_false, Nat.le_refl, List.map_cons, List.map_nil, isNilA, nilPtr, nilSl, nilIf, nilFn, nilMap, nilCheckA, if_true, if_false, lt_lit, le_lit, lt_lit2, le_lit2, le_sub1, le_sub2]; rfl
    apply evI_seq
    · apply evI_seq
      · simp only [List.append_nil, List.nil_append, List.cons_append, List.getD_cons_zero, List.getD_cons_succ, evI, opsI, stepI, wantI, opI, AAct.evI, look, AAct.put, mkVal, mkVM, intOpA, intA, shiftA, unA, decide_true, decide_false, Option.map_some, Option.map_none, reduceIte, Nat.reduceEqDiff, Nat.reduceLT, Option.bind_some, Option.bind_none, true_and, and_true, and_self, Nat.zero_lt_succ, cellsAt, List.length_append, Nat.le_add_right, List.length_cons, List.length_nil, Nat.zero_add, Nat.add_zero, Nat.reduceAdd, Nat.reduceMul, Nat.zero_mul, AV.cells, AV.one, known, List.append_assoc, getE_0, getE_k, setE_0, setE_k, List.getElem?_cons_zero, List.getElem?_cons_succ, List.set_cons_zero, List.set_cons_succ, List.take_succ_cons, List.take_zero, List.drop_zero, List.drop_succ_cons, List.drop_nil, List.all_cons, List.all_nil, Bool.and_self, Bool.and_true, Bool.true_and, Bool.and_false, Bool.false_and, splice, fillI, Nat.reduceLeDiff, strA, Nat.add_assoc, beq_self_eq_true, Bool.false_eq_true, bq_ft, bq_tf, Bool.not_true, Bool.not_false, Nat.le_refl, List.map_cons, List.map_nil, isNilA, nilPtr, nilSl, nilIf, nilFn, nilMap, nilCheckA, if_true, if_false, lt_lit, le_lit, lt_lit2, le_lit2, le_sub1, le_sub2]; rfl
      apply evI_block_exit
      apply evI_loop
      apply loopA_exit
      simp only [AAct.keepT, c0, List.append_nil, List.nil_append, List.cons_append, List.getD_cons_zero, List.getD_cons_succ, evI, opsI, stepI, wantI, opI, AAct.evI, look, AAct.put, mkVal, mkVM, intOpA, intA, shiftA, unA, decide_true, decide_false, Option.map_some, Option.map_none, reduceIte, Nat.reduceEqDiff, Nat.reduceLT, Option.bind_some, Option.bind_none, true_and, and_true, and_self, Nat.zero_lt_succ, cellsAt, List.length_append, Nat.le_add_right, List.length_cons, List.length_nil, Nat.zero_add, Nat.add_zero, Nat.reduceAdd, Nat.reduceMul, Nat.zero_mul, AV.cells, AV.one, known, List.append_assoc, getE_0, getE_k, setE_0, setE_k, List.getElem?_cons_zero, List.getElem?_cons_succ, List.set_cons_zero, List.set_cons_succ, List.take_succ_cons, List.take_zero, List.drop_zero, List.drop_succ_cons, List.drop_nil, List.all_cons, List.all_nil, Bool.and_self, Bool.and_true, Bool.true_and, Bool.and_false, Bool.false_and, splice, fillI, Nat.reduceLeDiff, strA, Nat.add_assoc, beq_self_eq_true, Bool.false_eq_true, bq_ft, bq_tf, Bool.not_true, Bool.not_false, Nat.le_refl, List.map_cons, List.map_nil, isNilA, nilPtr, nilSl, nilIf, nilFn, nilMap, nilCheckA, if_true, if_false, lt_lit, le_lit, lt_lit2, le_lit2, le_sub1, le_sub2]; rfl
    apply evI_seq
    · simp only [hM, List.append_nil, List.nil_append, List.cons_append, List.getD_cons_zero, List.getD_cons_succ, evI, opsI, stepI, wantI, opI, AAct.evI, look, AAct.put, mkVal, mkVM, intOpA, intA, shiftA, unA, decide_true, decide_false, Option.map_some, Option.map_none, reduceIte, Nat.reduceEqDiff, Nat.reduceLT, Option.bind_some, Option.bind_none, true_and, and_true, and_self, Nat.zero_lt_succ, cellsAt, List.length_append, Nat.le_add_right, List.length_cons, List.length_nil, Nat.zero_add, Nat.add_zero, Nat.reduceAdd, Nat.reduceMul, Nat.zero_mul, AV.cells, AV.one, known, List.append_assoc, getE_0, getE_k, setE_0, setE_k, List.getElem?_cons_zero, List.getElem?_cons_succ, List.set_cons_zero, List.set_cons_succ, List.take_succ_cons, List.take_zero, List.drop_zero, List.drop_succ_cons, List.drop_nil, List.all_cons, List.all_nil, Bool.and_self, Bool.and_true, Bool.true_and, Bool.and_false, Bool.false_and, splice, fillI, Nat.reduceLeDiff, strA, Nat.add_assoc, beq_self_eq_true, Bool.false_eq_true, bq_ft, bq_tf, Bool.not_true, Bool.not_false, Nat.le_refl, List.map_cons, List.map_nil, isNilA, nilPtr, nilSl, nilIf, nilFn, nilMap, nilCheckA, if_true, if_false, lt_lit, le_lit, lt_lit2, le_lit2, le_sub1, le_sub2]; rfl
    apply evI_seq
    · simp only [List.append_nil, List.nil_append, List.cons_append, List.getD_cons_zero, List.getD_cons_succ, evI, opsI, stepI, wantI, opI, AAct.evI, look, AAct.put, mkVal, mkVM, intOpA, intA, shiftA, unA, decide_true, decide_false, Option.map_some, Option.map_none, reduceIte, Nat.reduceEqDiff, Nat.reduceLT, Option.bind_some, Option.bind_none, true_and, and_true, and_self, Nat.zero_lt_succ, cellsAt, List.length_append, Nat.le_add_right, List.length_cons, List.length_nil, Nat.zero_add, Nat.add_zero, Nat.reduceAdd, Nat.reduceMul, Nat.zero_mul, AV.cells, AV.one, known, List.append_assoc, getE_0, getE_k, setE_0, setE_k, List.getElem?_cons_zero, List.getElem?_cons_succ, List.set_cons_zero, List.set_cons_succ, List.take_succ_cons, List.take_zero, List.drop_zero, List.drop_succ_cons, List.drop_nil, List.all_cons, List.all_nil, Bool.and_self, Bool.and_true, Bool.true_and, Bool.and_false, Bool.false_and, splice, fillI, Nat.reduceLeDiff, strA, Nat.add_assoc, beq_self_eq_true, Bool.false_eq_true, bq_ft, bq_tf, Bool.not_true, Bool.not_false, Nat.le_refl, List.map_cons, List.map_nil, isNilA, nilPtr, nilSl, nilIf, nilFn, nilMap, nilCheckA, if_true, if_false, lt_lit, le_lit, lt_lit2, le_lit2, le_sub1, le_sub2]; rfl
    apply evI_seq
    · apply evI_seq
      · simp only [List.append_nil, List.nil_append, List.cons_append, List.getD_cons_zero, List.getD_cons_succ, evI, opsI, stepI, wantI, opI, AAct.evI, look, AAct.put, mkVal, mkVM, intOpA, intA, shiftA, unA, decide_true, decide_false, Option.map_some, Option.map_none, reduceIte, Nat.reduceEqDiff, Nat.reduceLT, Option.bind_some, Option.bind_none, true_and, and_true, and_self, Nat.zero_lt_succ, cellsAt, List.length_append, Nat.le_add_right, List.length_cons, List.length_nil, Nat.zero_add, Nat.add_zero, Nat.reduceAdd, Nat.reduceMul, Nat.zero_mul, AV.cells, AV.one, known, List.append_assoc, getE_0, getE_k, setE_0, setE_k, List.getElem?_cons_zero, List.getElem?_cons_succ, List.set_cons_zero, List.set_cons_succ, List.take_succ_cons, List.take_zero, List.drop_zero, List.drop_succ_cons, List.drop_nil, List.all_cons, List.all_nil, Bool.and_self, Bool.and_true, Bool.true_and, Bool.and_false, Bool.false_and, splice, fillI, Nat.reduceLeDiff, strA, Nat.add_assoc, beq_self_eq_true, Bool.false_eq_true, bq_ft, bq_tf, Bool.not_true, Bool.not_false, Nat.le_refl, List.map_cons, List.map_nil, isNilA, nilPtr, nilSl, nilIf, nilFn, nilMap, nilCheckA, if_true, if_false, lt_lit, le_lit, lt_lit2, le_lit2, le_sub1, le_sub2]; rfl
      apply evI_block_exit
      apply evI_loop
      apply loopA_exit
      simp only [AAct.keepT, c0, List.append_nil, List.nil_append, List.cons_append, List.getD_cons_zero, List.getD_cons_succ, evI, opsI, stepI, wantI, opI, AAct.evI, look, AAct.put, mkVal, mkVM, intOpA, intA, shiftA, unA, decide_true, decide_false, Option.map_some, Option.map_none, reduceIte, Nat.reduceEqDiff, Nat.reduceLT, Option.bind_some, Option.bind_none, true_and, and_true, and_self, Nat.zero_lt_succ, cellsAt, List.length_append, Nat.le_add_right, List.length_cons, List.length_nil, Nat.zero_add, Nat.add_zero, Nat.reduceAdd, Nat.reduceMul, Nat.zero_mul, AV.cells, AV.one, known, List.append_assoc, getE_0, getE_k, setE_0, setE_k, List.getElem?_cons_zero, List.getElem?_cons_succ, List.set_cons_zero, List.set_cons_succ, List.take_succ_cons, List.take_zero, List.drop_zero, List.drop_succ_cons, List.drop_nil, List.all_cons, List.all_nil, Bool.and_self, Bool.and_true, Bool.true_and, Bool.and_false, Bool.false_and, splice, fillI, Nat.reduceLeDiff, strA, Nat.add_assoc, beq_self_eq_true, Bool.false_eq_true, bq_ft, bq_tf, Bool.not_true, Bool.not_false, Nat.le_refl, List.map_cons, List.map_nil, isNilA, nilPtr, nilSl, nilIf, nilFn, nilMap, nilCheckA, if_true, if_false, lt_lit, le_lit, lt_lit2, le_lit2, le_sub1, le_sub2]; rfl
    apply evI_seq
    · apply evI_seq
      · simp only [List.append_nil, List.nil_append, List.cons_append, List.getD_cons_zero, List.getD_cons_succ, evI, opsI, stepI, wantI, opI, AAct.evI, look, AAct.put, mkVal, mkVM, intOpA, intA, shiftA, unA, decide_true, decide_false, Option.map_some, Option.map_none, reduceIte, Nat.reduceEqDiff, Nat.reduceLT, Option.bind_some, Option.bind_none, true_and, and_true, and_self, Nat.zero_lt_succ, cellsAt, List.length_append, Nat.le_add_right, List.length_cons, List.length_nil, Nat.zero_add, Nat.add_zero, Nat.reduceAdd, Nat.reduceMul, Nat.zero_mul, AV.cells, AV.one, known, List.append_assoc, getE_0, getE_k, setE_0, setE_k, List.getElem?_cons_zero, List.getElem?_cons_succ, List.set_cons_zero, List.set_cons_succ, List.take_succ_cons, List.take_zero, List.drop_zero, List.drop_succ_cons, List.drop_nil, List.all_cons, List.all_nil, Bool.and_self, Bool.and_true, Bool.true_and, Bool.and_false, Bool.false_and, splice, fillI, Nat.reduceLeDiff, strA, Nat.add_assoc, beq_self_eq_true, Bool.false_eq_true, bq_ft, bq_tf, Bool.not_true, Bool.not_false, Nat.le_refl, List.map_cons, List.map_nil, isNilA, nilPtr, nilSl, nilIf, nilFn, nilMap, nilCheckA, if_true, if_false, lt_lit, le_lit, lt_lit2, le_lit2, le_sub1, le_sub2]; rfl
      apply evI_block_exit
      apply evI_loop
      apply loopA_exit
      simp only [AAct.keepT, c0, List.append_nil, List.nil_append, List.cons_append, List.getD_cons_zero, List.getD_cons_succ, evI, opsI, stepI, wantI, opI, AAct.evI, look, AAct.put, mkVal, mkVM, intOpA, intA, shiftA, unA, decide_true, decide_false, Option.map_some, Option.map_none, reduceIte, Nat.reduceEqDiff, Nat.reduceLT, Option.bind_some, Option.bind_none, true_and, and_true, and_self, Nat.zero_lt_succ, cellsAt, List.length_append, Nat.le_add_right, List.length_cons, List.length_nil, Nat.zero_add, Nat.add_zero, Nat.reduceAdd, Nat.reduceMul, Nat.zero_mul, AV.cells, AV.one, known, List.append_assoc, getE_0, getE_k, setE_0, setE_k, List.getElem?_cons_zero, List.getElem?_cons_succ, List.set_cons_zero, List.set_cons_succ, List.take_succ_cons, List.take_zero, List.drop_zero, List.drop_succ_cons, List.drop_nil, List.all_cons, List.all_nil, Bool.and_self, Bool.and_true, Bool.true_and, Bool.and_false, Bool.false_and, splice, fillI, Nat.reduceLeDiff, strA, Nat.add_assoc, beq_self_eq_true, Bool.false_eq_true, bq_ft, bq_tf, Bool.not_true, Bool.not_false, Nat.le_refl, List.map_cons, List.map_nil, isNilA, nilPtr, nilSl, nilIf, nilFn, nilMap, nilCheckA, if_true, if_false, lt_lit, le_lit, lt_lit2, le_lit2, le_sub1, le_sub2]; rfl
    simp only [List.append_nil, List.nil_append, List.cons_append, List.getD_cons_zero, List.getD_cons_succ, evI, opsI, stepI, wantI, opI, AAct.evI, look, AAct.put, mkVal, mkVM, intOpA, intA, shiftA, unA, decide_true, decide_false, Option.map_some, Option.map_none, reduceIte, Nat.reduceEqDiff, Nat.reduceLT, Option.bind_some, Option.bind_none, true_and, and_true, and_self, Nat.zero_lt_succ, cellsAt, List.length_append, Nat.le_add_right, List.length_cons, List.length_nil, Nat.zero_add, Nat.add_zero, Nat.reduceAdd, Nat.reduceMul, Nat.zero_mul, AV.cells, AV.one, known, List.append_assoc, getE_0, getE_k, setE_0, setE_k, List.getElem?_cons_zero, List.getElem?_cons_succ, List.set_cons_zero, List.set_cons_succ, List.take_succ_cons, List.take_zero, List.drop_zero, List.drop_succ_cons, List.drop_nil, List.all_cons, List.all_nil, Bool.and_self, Bool.and_true, Bool.true_and, Bool.and_false, Bool.false_and, splice, fillI, Nat.reduceLeDiff, strA, Nat.add_assoc, beq_self_eq_true, Bool.false_eq_true, bq_ft, bq_tf, Bool.not_true, Bool.not_false, Nat.le_refl, List.map_cons, List.map_nil, isNilA, nilPtr, nilSl, nilIf, nilFn, nilMap, nilCheckA, if_true, if_false, lt_lit, le_lit, lt_lit2, le_lit2, le_sub1, le_sub2]; rfl
  case hd => rfl
  case hr => simp only [I66, resI, resLI, look, reduceIte, Nat.reduceEqDiff, Option.map_some]
  case hz =>
    have hk : (cfg ml).keep 66 = false := rfl
    simp only [finish, hk, Bool.false_eq_true, if_false, frz, frzL, low, hll, decide_false, Option.map_none]
theorem flush_no (d : Nat) (hd : 2 ≤ d) (H : Mem) (b l ty : Nat) (hb : H[b]? = some (.row [.nilP, .nilS] 0 ty)) :
    evFI Tryz.prog (cfg ml) T N d 94 [.ptr b 0 0, .ptr l 0 0] H = some (.ret (.tup []), H) := by
  obtain ⟨n, rfl⟩ : ∃ n, d = n + 2 := ⟨d - 2, by omega⟩
  have hL : evFI Tryz.prog (cfg ml) T N (n + 1) 95 [.ptr b 0 0] H = some (.ret (.int .i64 0), H) := by
    refine evF_ret (m := 8) (v := .int .i64 0) (a := ?aa) (H1 := H) rfl t95 rfl ?hb ?hd ?hr ?hz
    case hb => simp only [List.length_cons, List.length_nil, idx, I95, hb, List.append_nil, List.nil_append, List.cons_append, List.getD_cons_zero, List.getD_cons_succ, evI, opsI, stepI, wantI, opI, AAct.evI, look, AAct.put, mkVal, mkVM, intOpA, intA, shiftA, unA, decide_true, decide_false, Option.map_some, Option.map_none, reduceIte, Nat.reduceEqDiff, Nat.reduceLT, Option.bind_some, Option.bind_none, true_and, and_true, and_self, Nat.zero_lt_succ, cellsAt, List.length_append, Nat.le_add_right, List.length_cons, List.length_nil, Nat.zero_add, Nat.add_zero, Nat.reduceAdd, Nat.reduceMul, Nat.zero_mul, AV.cells, AV.one, known, List.append_assoc, getE_0, getE_k, setE_0, setE_k, List.getElem?_cons_zero, List.getElem?_cons_succ, List.set_cons_zero, List.set_cons_succ, List.take_succ_cons, List.take_zero, List.drop_zero, List.drop_succ_cons, List.drop_nil, List.all_cons, List.all_nil, Bool.and_self, Bool.and_true, Bool.true_and, Bool.and_false, Bool.false_and, splice, fillI, Nat.reduceLeDiff, strA, Nat.add_assoc, beq_self_eq_true, Bool.false_eq_true, bq_ft, bq_tf, Bool.not_true, Bool.not_false, Nat.le_refl, List.map_cons, List.map_nil, isNilA, nilPtr, nilSl, nilIf, nilFn, nilMap, nilCheckA, if_true, if_false, lt_lit, le_lit, lt_lit2, le_lit2, le_sub1, le_sub2]; rfl
    case hd => rfl
    case hr => simp only [I95, resI, resLI, look, reduceIte, Nat.reduceEqDiff, Option.map_some]
    case hz => exact fin_len rfl rfl
  have c0 : decide ((0 : Int) > 0) = false := rfl
  refine evF_nrm (m := 12) (v := .tup []) (a := ?ab) (H1 := H) rfl t94 rfl ?hb ?hd ?hr ?hz
  case hb => simp only [List.length_cons, List.length_nil, idx, I94, hL, c0, List.append_nil, List.nil_append, List.cons_append, List.getD_cons_zero, List.getD_cons_succ, evI, opsI, stepI, wantI, opI, AAct.evI, look, AAct.put, mkVal, mkVM, intOpA, intA, shiftA, unA, decide_true, decide_false, Option.map_some, Option.map_none, reduceIte, Nat.reduceEqDiff, Nat.reduceLT, Option.bind_some, Option.bind_none, true_and, and_true, and_self, Nat.zero_lt_succ, cellsAt, List.length_append, Nat.le_add_right, List.length_cons, List.length_nil, Nat.zero_add, Nat.add_zero, Nat.reduceAdd, Nat.reduceMul, Nat.zero_mul, AV.cells, AV.one, known, List.append_assoc, getE_0, getE_k, setE_0, setE_k, List.getElem?_cons_zero, List.getElem?_cons_succ, List.set_cons_zero, List.set_cons_succ, List.take_succ_cons, List.take_zero, List.drop_zero, List.drop_succ_cons, List.drop_nil, List.all_cons, List.all_nil, Bool.and_self, Bool.and_true, Bool.true_and, Bool.and_false, Bool.false_and, splice, fillI, Nat.reduceLeDiff, strA, Nat.add_assoc, beq_self_eq_true, Bool.false_eq_true, bq_ft, bq_tf, Bool.not_true, Bool.not_false, Nat.le_refl, List.map_cons, List.map_nil, isNilA, nilPtr, nilSl, nilIf, nilFn, nilMap, nilCheckA, if_true, if_false, lt_lit, le_lit, lt_lit2, le_lit2, le_sub1, le_sub2]; rfl
  case hd => rfl
  case hr => simp only [I94, resI, resLI, look, reduceIte, Nat.reduceEqDiff, Option.map_some]
  case hz => exact fin_len rfl rfl
theorem callable94 : callable Tryz.prog 94 = true := by kernel_rfl
end
end Go.Proofs.YtmnajffpmbidiaaGreatDoor.Ev
