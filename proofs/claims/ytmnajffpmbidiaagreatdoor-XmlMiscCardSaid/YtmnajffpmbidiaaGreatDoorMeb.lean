/- Parts of one proof. -/
import Derived.Test.YtmnajffpmbidiaaGreatDoorMea
set_option linter.all false
namespace Go.Proofs.YtmnajffpmbidiaaGreatDoor.Ev
variable {ml : Int}
open Go.Proofs.YtmnajffpmbidiaaGreatDoor.Ic
set_option maxRecDepth 100000
set_option maxHeartbeats 4000000
noncomputable def loopM0 : IC := (I9.c.loops).getD 0 .bad
noncomputable def loopM1 : IC := (I9.c.loops).getD 1 .bad
abbrev cells1 (zs : List Int) : List AV := zs.map (AV.int .i64)
abbrev rowT : Blk := .row [.str (tok 0), .str (tok 1), .str (tok 2), .str (tok 3), .str (tok 4), .str (tok 5), .str (tok 6), .str (tok 7), .str (tok 8), .str (tok 9)] 0 (9 + 1)
def kOf (z : Int) : Nat := (BitVec.ofInt (IntKind.bits .i64) z &&& BitVec.ofInt (IntKind.bits .i64) 1023).toNat % 10
theorem kOf_lt (z : Int) : kOf z < 10 := Nat.mod_lt _ (by decide)
theorem and_le (z : Int) : (BitVec.ofInt (IntKind.bits .i64) z &&& BitVec.ofInt (IntKind.bits .i64) 1023).toNat ≤ 1023 := by
  rw [BitVec.toNat_and]
  exact Nat.le_trans Nat.and_le_right (by decide)
theorem and_wrap (z : Int) : IntKind.wrap .i64 ((BitVec.ofInt (IntKind.bits .i64) z &&& BitVec.ofInt (IntKind.bits .i64) 1023).toNat : Int) = ((BitVec.ofInt (IntKind.bits .i64) z &&& BitVec.ofInt (IntKind.bits .i64) 1023).toNat : Int) := by
  have := and_le z
  rw [wrap64] <;> omega
theorem and_rem (z : Int) : Int.tmod ((BitVec.ofInt (IntKind.bits .i64) z &&& BitVec.ofInt (IntKind.bits .i64) 1023).toNat : Int) ((10 : Nat) : Int) = (kOf z : Int) := by
  unfold kOf
  rw [Int.tmod_eq_emod_of_nonneg (by omega)]
  omega
theorem rowT_at (k : Nat) (h : k < 10) : ([.str (tok 0), .str (tok 1), .str (tok 2), .str (tok 3), .str (tok 4), .str (tok 5), .str (tok 6), .str (tok 7), .str (tok 8), .str (tok 9)] : List AV)[k]? = some (.str (tok k)) := by
  match k with
  | 0 => rfl
  | 1 => rfl
  | 2 => rfl
  | 3 => rfl
  | 4 => rfl
  | 5 => rfl
  | 6 => rfl
  | 7 => rfl
  | 8 => rfl
  | 9 => rfl
  | k + 10 => exact absurd h (by omega)
theorem rowT_drop (k : Nat) (h : k < 10) : ∃ l, ([.str (tok 0), .str (tok 1), .str (tok 2), .str (tok 3), .str (tok 4), .str (tok 5), .str (tok 6), .str (tok 7), .str (tok 8), .str (tok 9)] : List AV).drop k = .str (tok k) :: l := by
  have h1 := rowT_at k h
  obtain ⟨hlt, e⟩ := List.getElem?_eq_some_iff.1 h1
  exact ⟨_, by rw [List.drop_eq_getElem_cons hlt, e]⟩
theorem cells1_len (zs : List Int) : (cells1 zs).length = zs.length := List.length_map _
theorem cells1_at (zs : List Int) (i : Nat) (z : Int) (h : zs[i]? = some z) : (cells1 zs)[i]? = some (.int .i64 z) := by
  unfold cells1
  rw [List.getElem?_map, h]; rfl
theorem cells1_drop (zs : List Int) (i : Nat) (z : Int) (h : zs[i]? = some z) : ∃ l, (cells1 zs).drop i = .int .i64 z :: l := by
  have h1 := cells1_at zs i z h
  obtain ⟨hlt, e⟩ := List.getElem?_eq_some_iff.1 h1
  exact ⟨_, by rw [List.drop_eq_getElem_cons hlt, e]⟩
theorem mloop0 (P : Program) (N n : Nat) (zs : List Int) (L1 : AV) (hz : zs.length ≤ 20) : ∀ (rest : List Int) (fuel i f : Nat) (u : List UInt8), zs.drop i = rest → rest.length < fuel → u.length + 12 * rest.length ≤ 1000 →
    ∃ t, loopA (fun a H => evI P (cfg ml) (evFI P (cfg ml) T N n) N loopM0 a H) (some [0, 1, 5, 6, 7, 8, 9]) fuel ⟨118, [(0, .lst zs.length (cells1 zs)), (1, L1), (5, .slc 0 0 10 1 0), (6, .str u), (7, .int .i64 f), (8, .int .i64 0), (9, .int .i64 i)], []⟩ [rowT] = some (.exit 0, ⟨118, t, []⟩, [rowT]) ∧ look t 1 = L1 ∧ look t 5 = .slc 0 0 10 1 0 ∧ look t 6 = .str (u ++ toks (rest.map kOf)) ∧ look t 7 = .int .i64 (fstW (rest.map kOf) f) ∧ look t 8 = .int .i64 0
  | [], fuel, i, f, u, hd, hf, hu => by
    obtain ⟨fuel, rfl⟩ : ∃ k, fuel = k + 1 := ⟨fuel - 1, by simp at hf; omega⟩
    have hge : zs.length ≤ i := List.drop_eq_nil_iff.1 hd
    have hi : decide ((i : Int) < (zs.length : Int)) = false := decide_eq_false (by omega)
    exact ⟨_, loopA_exit (by simp only [loopM0, I9, IC.loops, List.getD_cons_zero, hi, List.append_nil, List.nil_append, List.cons_append, List.getD_cons_zero, List.getD_cons_succ, evI, opsI, stepI, wantI, opI, AAct.evI, look, AAct.put, mkVal, mkVM, intOpA, intA, shiftA, unA, decide_true, decide_false, Option.map_some, Option.map_none, reduceIte, Nat.reduceEqDiff, Nat.reduceLT, Option.bind_some, Option.bind_none, true_and, and_true, and_self, Nat.zero_lt_succ, cellsAt, List.length_append, Nat.le_add_right, List.length_cons, List.length_nil, Nat.zero_add, Nat.add_zero, Nat.reduceAdd, Nat.reduceMul, Nat.zero_mul, AV.cells, AV.one, known, List.append_assoc, getE_0, getE_k, setE_0, setE_k, List.getElem?_cons_zero, List.getElem?_cons_succ, List.set_cons_zero, List.set_cons_succ, List.take_succ_cons, List.take_zero, List.drop_zero, List.drop_succ_cons, List.drop_nil, List.all_cons, List.all_nil, Bool.and_self, Bool.and_true, Bool.true_and, Bool.and_false, Bool.false_and, splice, fillI, Nat.reduceLeDiff, strA, Nat.add_assoc, beq_self_eq_true, Bool.false_eq_true, bq_ft, bq_tf, Bool.not_true, Bool.not_false, Nat.le_refl, List.map_cons, List.map_nil, isNilA, nilPtr, nilSl, nilIf, nilFn, nilMap, nilCheckA, if_true, if_false, lt_lit, le_lit, lt_lit2, le_lit2, le_sub1, le_sub2]; rfl), rfl, rfl, by simp [toks, look], rfl, rfl⟩
  | z :: rest, fuel, i, f, u, hd, hf, hu => by
    obtain ⟨fuel, rfl⟩ : ∃ k, fuel = k + 1 := ⟨fuel - 1, by simp at hf; omega⟩
    have hlt : i < zs.length := by
      rcases Nat.lt_or_ge i zs.length with h | h
      · exact h
      · rw [List.drop_eq_nil_of_le h] at hd; cases hd
    have hget : zs[i]? = some z := by
      have := congrArg (·[0]?) hd
      simpa using this
    have hcell := cells1_at zs i z hget
    have hclen := cells1_len zs
    have hd2 : zs.drop (i + 1) = rest := by rw [← List.drop_drop, hd]; rfl
    have hi : decide ((i : Int) < (zs.length : Int)) = true := decide_eq_true (by omega)
    have hw : IntKind.wrap .i64 ((i : Int) + 1) = ((i + 1 : Nat) : Int) := by rw [wrap64] <;> omega
    have hk := kOf_lt z
    have p40 : (2 : Nat) ^ 40 = 1099511627776 := by decide
    have htl := (tok_all (kOf z)).2
    simp only [List.length_cons] at hf hu
    have f1 : u.length + (tok (kOf z)).length ≤ 2 ^ 40 := by omega
    have hn := natOf_nat i .i64
    have hn2 := natOf_nat (kOf z) .i64
    obtain ⟨tr, hrow⟩ := rowT_drop (kOf z) hk
    have hk9 : kOf z ≤ 9 := by omega
    have r1 := and_wrap z
    have r2 := and_rem z
    have hle1 : i + 1 ≤ zs.length := hlt
    obtain ⟨t, ht, l1, l5, l6, l7, l8⟩ := mloop0 P N n zs L1 hz rest fuel (i + 1) (if 6 ≤ kOf z ∧ f = 0 then kOf z else f) (u ++ tok (kOf z)) hd2 (by omega) (by rw [List.length_append]; omega)
    rw [List.append_assoc] at l6
    obtain ⟨tl, hdrop⟩ := cells1_drop zs i z hget
    have l6' : look t 6 = .str (u ++ toks ((z :: rest).map kOf)) := l6
    have l7' : look t 7 = .int .i64 (fstW ((z :: rest).map kOf) f) := l7
    refine ⟨t, ?_, l1, l5, l6', l7', l8⟩
    clear l6 l7 l6' l7' hcell
    generalize hK : kOf z = K at *
    generalize hC : cells1 zs = C at *
    generalize hW : (BitVec.ofInt (IntKind.bits .i64) z &&& BitVec.ofInt (IntKind.bits .i64) 1023).toNat = W at *
    have n10 : (((10 : Nat) : Int) = 0) = False := by simp
    have hm1 : ∀ k : Nat, k * 1 = k := Nat.mul_one
    cases c1 : decide ((K : Int) ≥ 6)
    · rw [if_neg (by have := of_decide_eq_false c1; omega)] at ht
      refine loopA_go (H' := [rowT]) (by simp only [loopM0, I9, IC.loops, List.getD_cons_zero, hi, hw, hn, hn2, hdrop, hm1, hclen, hrow, r1, r2, hle1, hlt, hk, hk9, f1, hW, n10, c1, rowT, List.append_nil, List.nil_append, List.cons_append, List.getD_cons_zero, List.getD_cons_succ, evI, opsI, stepI, wantI, opI, AAct.evI, look, AAct.put, mkVal, mkVM, intOpA, intA, shiftA, unA, decide_true, decide_false, Option.map_some, Option.map_none, reduceIte, Nat.reduceEqDiff, Nat.reduceLT, Option.bind_some, Option.bind_none, true_and, and_true, and_self, Nat.zero_lt_succ, cellsAt, List.length_append, Nat.le_add_right, List.length_cons, List.length_nil, Nat.zero_add, Nat.add_zero, Nat.reduceAdd, Nat.reduceMul, Nat.zero_mul, AV.cells, AV.one, known, List.append_assoc, getE_0, getE_k, setE_0, setE_k, List.getElem?_cons_zero, List.getElem?_cons_succ, List.set_cons_zero, List.set_cons_succ, List.take_succ_cons, List.take_zero, List.drop_zero, List.drop_succ_cons, List.drop_nil, List.all_cons, List.all_nil, Bool.and_self, Bool.and_true, Bool.true_and, Bool.and_false, Bool.false_and, splice, fillI, Nat.reduceLeDiff, strA, Nat.add_assoc, beq_self_eq_true, Bool.false_eq_true, bq_ft, bq_tf, Bool.not_true, Bool.not_false, Nat.le_refl, List.map_cons, List.map_nil, isNilA, nilPtr, nilSl, nilIf, nilFn, nilMap, nilCheckA, if_true, if_false, lt_lit, le_lit, lt_lit2, le_lit2, le_sub1, le_sub2]; rfl) ?_
      rw [re_len (by rfl)]
      exact ht
    · cases c2 : ((f : Int) == 0)
      · rw [if_neg (by have := ne_of_beq_false c2; omega)] at ht
        refine loopA_go (H' := [rowT]) (by simp only [loopM0, I9, IC.loops, List.getD_cons_zero, hi, hw, hn, hn2, hdrop, hm1, hclen, hrow, r1, r2, hle1, hlt, hk, hk9, f1, hW, n10, c1, c2, rowT, List.append_nil, List.nil_append, List.cons_append, List.getD_cons_zero, List.getD_cons_succ, evI, opsI, stepI, wantI, opI, AAct.evI, look, AAct.put, mkVal, mkVM, intOpA, intA, shiftA, unA, decide_true, decide_false, Option.map_some, Option.map_none, reduceIte, Nat.reduceEqDiff, Nat.reduceLT, Option.bind_some, Option.bind_none, true_and, and_true, and_self, Nat.zero_lt_succ, cellsAt, List.length_append, Nat.le_add_right, List.length_cons, List.length_nil, Nat.zero_add, Nat.add_zero, Nat.reduceAdd, Nat.reduceMul, Nat.zero_mul, AV.cells, AV.one, known, List.append_assoc, getE_0, getE_k, setE_0, setE_k, List.getElem?_cons_zero, List.getElem?_cons_succ, List.set_cons_zero, List.set_cons_succ, List.take_succ_cons, List.take_zero, List.drop_zero, List.drop_succ_cons, List.drop_nil, List.all_cons, List.all_nil, Bool.and_self, Bool.and_true, Bool.true_and, Bool.and_false, Bool.false_and, splice, fillI, Nat.reduceLeDiff, strA, Nat.add_assoc, beq_self_eq_true, Bool.false_eq_true, bq_ft, bq_tf, Bool.not_true, Bool.not_false, Nat.le_refl, List.map_cons, List.map_nil, isNilA, nilPtr, nilSl, nilIf, nilFn, nilMap, nilCheckA, if_true, if_false, lt_lit, le_lit, lt_lit2, le_lit2, le_sub1, le_sub2]; rfl) ?_
        rw [re_len (by rfl)]
        exact ht
      · rw [if_pos (by have := of_decide_eq_true c1; have := eq_of_beq c2; omega)] at ht
        refine loopA_go (H' := [rowT]) (by simp only [loopM0, I9, IC.loops, List.getD_cons_zero, hi, hw, hn, hn2, hdrop, hm1, hclen, hrow, r1, r2, hle1, hlt, hk, hk9, f1, hW, n10, c1, c2, rowT, List.append_nil, List.nil_append, List.cons_append, List.getD_cons_zero, List.getD_cons_succ, evI, opsI, stepI, wantI, opI, AAct.evI, look, AAct.put, mkVal, mkVM, intOpA, intA, shiftA, unA, decide_true, decide_false, Option.map_some, Option.map_none, reduceIte, Nat.reduceEqDiff, Nat.reduceLT, Option.bind_some, Option.bind_none, true_and, and_true, and_self, Nat.zero_lt_succ, cellsAt, List.length_append, Nat.le_add_right, List.length_cons, List.length_nil, Nat.zero_add, Nat.add_zero, Nat.reduceAdd, Nat.reduceMul, Nat.zero_mul, AV.cells, AV.one, known, List.append_assoc, getE_0, getE_k, setE_0, setE_k, List.getElem?_cons_zero, List.getElem?_cons_succ, List.set_cons_zero, List.set_cons_succ, List.take_succ_cons, List.take_zero, List.drop_zero, List.drop_succ_cons, List.drop_nil, List.all_cons, List.all_nil, Bool.and_self, Bool.and_true, Bool.true_and, Bool.and_false, Bool.false_and, splice, fillI, Nat.reduceLeDiff, strA, Nat.add_assoc, beq_self_eq_true, Bool.false_eq_true, bq_ft, bq_tf, Bool.not_true, Bool.not_false, Nat.le_refl, List.map_cons, List.map_nil, isNilA, nilPtr, nilSl, nilIf, nilFn, nilMap, nilCheckA, if_true, if_false, lt_lit, le_lit, lt_lit2, le_lit2, le_sub1, le_sub2]; rfl) ?_
        rw [re_len (by rfl)]
        exact ht
theorem mloop1 (P : Program) (N n : Nat) (zs : List Int) (hz : zs.length ≤ 20) (f : AV) : ∀ (rest : List Int) (fuel i w : Nat) (u : List UInt8), zs.drop i = rest → rest.length < fuel → u.length + 12 * rest.length ≤ 1000 →
    ∃ t, loopA (fun a H => evI P (cfg ml) (evFI P (cfg ml) T N n) N loopM1 a H) (some [1, 5, 6, 7, 8, 11]) fuel ⟨118, [(1, .lst zs.length (cells1 zs)), (5, .slc 0 0 10 1 0), (6, .str u), (7, f), (8, .int .i64 w), (11, .int .i64 i)], []⟩ [rowT] = some (.exit 2, ⟨118, t, []⟩, [rowT]) ∧ look t 6 = .str (u ++ toks (rest.map kOf)) ∧ look t 7 = f ∧ look t 8 = .int .i64 (wrsW (rest.map kOf) w)
  | [], fuel, i, w, u, hd, hf, hu => by
    obtain ⟨fuel, rfl⟩ : ∃ k, fuel = k + 1 := ⟨fuel - 1, by simp at hf; omega⟩
    have hge : zs.length ≤ i := List.drop_eq_nil_iff.1 hd
    have hi : decide ((i : Int) < (zs.length : Int)) = false := decide_eq_false (by omega)
    exact ⟨_, loopA_exit (by simp only [loopM1, I9, IC.loops, List.getD_cons_succ, List.getD_cons_zero, hi, List.append_nil, List.nil_append, List.cons_append, List.getD_cons_zero, List.getD_cons_succ, evI, opsI, stepI, wantI, opI, AAct.evI, look, AAct.put, mkVal, mkVM, intOpA, intA, shiftA, unA, decide_true, decide_false, Option.map_some, Option.map_none, reduceIte, Nat.reduceEqDiff, Nat.reduceLT, Option.bind_some, Option.bind_none, true_and, and_true, and_self, Nat.zero_lt_succ, cellsAt, List.length_append, Nat.le_add_right, List.length_cons, List.length_nil, Nat.zero_add, Nat.add_zero, Nat.reduceAdd, Nat.reduceMul, Nat.zero_mul, AV.cells, AV.one, known, List.append_assoc, getE_0, getE_k, setE_0, setE_k, List.getElem?_cons_zero, List.getElem?_cons_succ, List.set_cons_zero, List.set_cons_succ, List.take_succ_cons, List.take_zero, List.drop_zero, List.drop_succ_cons, List.drop_nil, List.all_cons, List.all_nil, Bool.and_self, Bool.and_true, Bool.true_and, Bool.and_false, Bool.false_and, splice, fillI, Nat.reduceLeDiff, strA, Nat.add_assoc, beq_self_eq_true, Bool.false_eq_true, bq_ft, bq_tf, Bool.not_true, Bool.not_false, Nat.le_refl, List.map_cons, List.map_nil, isNilA, nilPtr, nilSl, nilIf, nilFn, nilMap, nilCheckA, if_true, if_false, lt_lit, le_lit, lt_lit2, le_lit2, le_sub1, le_sub2]; rfl), by simp [toks, look], rfl, rfl⟩
  | z :: rest, fuel, i, w, u, hd, hf, hu => by
    obtain ⟨fuel, rfl⟩ : ∃ k, fuel = k + 1 := ⟨fuel - 1, by simp at hf; omega⟩
    have hlt : i < zs.length := by
      rcases Nat.lt_or_ge i zs.length with h | h
      · exact h
      · rw [List.drop_eq_nil_of_le h] at hd; cases hd
    have hget : zs[i]? = some z := by
      have := congrArg (·[0]?) hd
      simpa using this
    have hclen := cells1_len zs
    have hd2 : zs.drop (i + 1) = rest := by rw [← List.drop_drop, hd]; rfl
    have hi : decide ((i : Int) < (zs.length : Int)) = true := decide_eq_true (by omega)
    have hw : IntKind.wrap .i64 ((i : Int) + 1) = ((i + 1 : Nat) : Int) := by rw [wrap64] <;> omega
    have hk := kOf_lt z
    have p40 : (2 : Nat) ^ 40 = 1099511627776 := by decide
    have htl := (tok_all (kOf z)).2
    simp only [List.length_cons] at hf hu
    have f1 : u.length + (tok (kOf z)).length ≤ 2 ^ 40 := by omega
    have hn := natOf_nat i .i64
    have hn2 := natOf_nat (kOf z) .i64
    obtain ⟨tr, hrow⟩ := rowT_drop (kOf z) hk
    have hk9 : kOf z ≤ 9 := by omega
    have r1 := and_wrap z
    have r2 := and_rem z
    have hle1 : i + 1 ≤ zs.length := hlt
    obtain ⟨t, ht, l6, l7, l8⟩ := mloop1 P N n zs hz f rest fuel (i + 1) (max w (kOf z)) (u ++ tok (kOf z)) hd2 (by omega) (by rw [List.length_append]; omega)
    rw [List.append_assoc] at l6
    obtain ⟨tl, hdrop⟩ := cells1_drop zs i z hget
    have l6' : look t 6 = .str (u ++ toks ((z :: rest).map kOf)) := l6
    have l8' : look t 8 = .int .i64 (wrsW ((z :: rest).map kOf) w) := l8
    refine ⟨t, ?_, l6', l7, l8'⟩
    clear l6 l6' l8 l8'
    generalize hK : kOf z = K at *
    generalize hC : cells1 zs = C at *
    generalize hW : (BitVec.ofInt (IntKind.bits .i64) z &&& BitVec.ofInt (IntKind.bits .i64) 1023).toNat = W at *
    have n10 : (((10 : Nat) : Int) = 0) = False := by simp
    have hm1 : ∀ k : Nat, k * 1 = k := Nat.mul_one
    have hmx : maxA [.int .i64 (w : Int), .int .i64 (K : Int)] = some (.int .i64 ((max w K : Nat) : Int)) := by
      have e : ((max w K : Nat) : Int) = if (K : Int) > (w : Int) then (K : Int) else (w : Int) := by split <;> omega
      rw [e]; rfl
    generalize max w K = mx at *
    refine loopA_go (H' := [rowT]) (by simp only [loopM1, I9, IC.loops, List.getD_cons_succ, List.getD_cons_zero, hi, hw, hn, hn2, hdrop, hm1, hclen, hrow, r1, r2, hle1, hlt, hk, hk9, f1, hW, hmx, n10, rowT, List.append_nil, List.nil_append, List.cons_append, List.getD_cons_zero, List.getD_cons_succ, evI, opsI, stepI, wantI, opI, AAct.evI, look, AAct.put, mkVal, mkVM, intOpA, intA, shiftA, unA, decide_true, decide_false, Option.map_some, Option.map_none, reduceIte, Nat.reduceEqDiff, Nat.reduceLT, Option.bind_some, Option.bind_none, true_and, and_true, and_self, Nat.zero_lt_succ, cellsAt, List.length_append, Nat.le_add_right, List.length_cons, List.length_nil, Nat.zero_add, Nat.add_zero, Nat.reduceAdd, Nat.reduceMul, Nat.zero_mul, AV.cells, AV.one, known, List.append_assoc, getE_0, getE_k, setE_0, setE_k, List.getElem?_cons_zero, List.getElem?_cons_succ, List.set_cons_zero, List.set_cons_succ, List.take_succ_cons, List.take_zero, List.drop_zero, List.drop_succ_cons, List.drop_nil, List.all_cons, List.all_nil, Bool.and_self, Bool.and_true, Bool.true_and, Bool.and_false, Bool.false_and, splice, fillI, Nat.reduceLeDiff, strA, Nat.add_assoc, beq_self_eq_true, Bool.false_eq_true, bq_ft, bq_tf, Bool.not_true, Bool.not_false, Nat.le_refl, List.map_cons, List.map_nil, isNilA, nilPtr, nilSl, nilIf, nilFn, nilMap, nilCheckA, if_true, if_false, lt_lit, le_lit, lt_lit2, le_lit2, le_sub1, le_sub2]; rfl) ?_
    rw [re_len (by rfl)]
    exact ht
section
variable {N : Nat} (hN : 4294967281 ≤ N)
include hN
theorem misc_pre (zs1 zs2 : List Int) (hz1 : zs1.length ≤ 20) (hz2 : zs2.length ≤ 20) (n : Nat) (x : List UInt8) (hx : toks (zs1.map kOf) ++ (coreT ++ toks (zs2.map kOf)) = x) (nm : List UInt8) (kn : Nat) (kc : List AV) (e : Int)
    (r1 : evFI Tryz.prog (cfg ml) T N n 13 [.slc 1 0 x.length 1 0] [rowT, .row (ofBytes x) 0 (5 + 1)] = some (.ret (.tup [.agg [.str [], .str nm, .str [], .lst 0 [], .lst kn kc], .int .i64 e]), [rowT, .row (ofBytes x) 0 (5 + 1)])) :
    ∃ t, look t 7 = .int .i64 (fstW (zs1.map kOf) 0) ∧ look t 8 = .int .i64 (wrsW (zs2.map kOf) 0) ∧ look t 13 = .ptr 2 0 0 ∧ look t 14 = .int .i64 e ∧
      evI Tryz.prog (cfg ml) (evFI Tryz.prog (cfg ml) T N n) N I9.c ⟨118, [(0, .lst zs1.length (cells1 zs1)), (1, .lst zs2.length (cells1 zs2))], []⟩ [] = evI Tryz.prog (cfg ml) (evFI Tryz.prog (cfg ml) T N n) N (I9.c.nb 9) ⟨118, t, []⟩ [rowT, .row (ofBytes x) 0 (5 + 1), .row [.str [], .str nm, .str [], .lst 0 [], .lst kn kc] 0 (27 + 1)] := by
  have c1 : decide ((zs1.length : Int) > 20) = false := decide_eq_false (by omega)
  have c2 : decide ((zs2.length : Int) > 20) = false := decide_eq_false (by omega)
  have p40 : (2 : Nat) ^ 40 = 1099511627776 := by decide
  generalize hk1 : zs1.map kOf = ks1 at *
  generalize hk2 : zs2.map kOf = ks2 at *
  have kl1 : ks1.length ≤ 20 := by rw [← hk1, List.length_map]; exact hz1
  have kl2 : ks2.length ≤ 20 := by rw [← hk2, List.length_map]; exact hz2
  have e1 := (toks_plain ks1).2
  have e2 := (toks_plain ks2).2
  obtain ⟨t1, ht1, a1, a5, a6, a7, a8⟩ := mloop0 (ml := ml) Tryz.prog N n zs1 (.lst zs2.length (cells1 zs2)) hz1 zs1 N 0 0 [] rfl (by omega) (by simp; omega)
  rw [hk1, List.nil_append] at a6
  rw [hk1] at a7
  have hcl : coreT.length = 11 := rfl
  obtain ⟨t2, ht2, b6, b7, b8⟩ := mloop1 (ml := ml) Tryz.prog N n zs2 hz2 (.int .i64 (fstW ks1 0)) zs2 N 0 0 (toks ks1 ++ coreT) rfl (by omega) (by rw [List.length_append, hcl]; omega)
  rw [hk2, List.append_assoc, hx] at b6
  rw [hk2] at b8
  have f1 : (toks ks1).length + 11 ≤ 2 ^ 40 := by omega
  have hxl : x.length = (toks ks1).length + (11 + (toks ks2).length) := by rw [← hx]; simp only [List.length_append, hcl]
  have f2 : x.length ≤ 2 ^ 40 := by omega
  refine ⟨?t, ?g7, ?g8, ?g13, ?g14, ?main⟩
  case main =>
    apply evI_seq
    · simp only [List.append_nil, List.nil_append, List.cons_append, List.getD_cons_zero, List.getD_cons_succ, evI, opsI, stepI, wantI, opI, AAct.evI, look, AAct.put, mkVal, mkVM, intOpA, intA, shiftA, unA, decide_true, decide_false, Option.map_some, Option.map_none, reduceIte, Nat.reduceEqDiff, Nat.reduceLT, Option.bind_some, Option.bind_none, true_and, and_true, and_self, Nat.zero_lt_succ, cellsAt, List.length_append, Nat.le_add_right, List.length_cons, List.length_nil, Nat.zero_add, Nat.add_zero, Nat.reduceAdd, Nat.reduceMul, Nat.zero_mul, AV.cells, AV.one, known, List.append_assoc, getE_0, getE_k, setE_0, setE_k, List.getElem?_cons_zero, List.getElem?_cons_succ, List.set_cons_zero, List.set_cons_succ, List.take_succ_cons, List.take_zero, List.drop_zero, List.drop_succ_cons, List.drop_nil, List.all_cons, List.all_nil, Bool.and_self, Bool.and_true, Bool.true_and, Bool.and_false, Bool.false_and, splice, fillI, Nat.reduceLeDiff, strA, Nat.add_assoc, beq_self_eq_true, Bool.false_eq_true, bq_ft, bq_tf, Bool.not_true, Bool.not_false, Nat.le_refl, List.map_cons, List.map_nil, isNilA, nilPtr, nilSl, nilIf, nilFn, nilMap, nilCheckA, if_true, if_false, lt_lit, le_lit, lt_lit2, le_lit2, le_sub1, le_sub2]; rfl
    apply evI_seq
    · simp only [c1, c2, List.append_nil, List.nil_append, List.cons_append, List.getD_cons_zero, List.getD_cons_succ, evI, opsI, stepI, wantI, opI, AAct.evI, look, AAct.put, mkVal, mkVM, intOpA, intA, shiftA, unA, decide_true, decide_false, Option.map_some, Option.map_none, reduceIte, Nat.reduceEqDiff, Nat.reduceLT, Option.bind_some, Option.bind_none, true_and, and_true, and_self, Nat.zero_lt_succ, cellsAt, List.length_append, Nat.le_add_right, List.length_cons, List.length_nil, Nat.zero_add, Nat.add_zero, Nat.reduceAdd, Nat.reduceMul, Nat.zero_mul, AV.cells, AV.one, known, List.append_assoc, getE_0, getE_k, setE_0, setE_k, List.getElem?_cons_zero, List.getElem?_cons_succ, List.set_cons_zero, List.set_cons_succ, List.take_succ_cons, List.take_zero, List.drop_zero, List.drop_succ_cons, List.drop_nil, List.all_cons, List.all_nil, Bool.and_self, Bool.and_true, Bool.true_and, Bool.and_false, Bool.false_and, splice, fillI, Nat.reduceLeDiff, strA, Nat.add_assoc, beq_self_eq_true, Bool.false_eq_true, bq_ft, bq_tf, Bool.not_true, Bool.not_false, Nat.le_refl, List.map_cons, List.map_nil, isNilA, nilPtr, nilSl, nilIf, nilFn, nilMap, nilCheckA, if_true, if_false, lt_lit, le_lit, lt_lit2, le_lit2, le_sub1, le_sub2]; rfl
    apply evI_seq (H' := [rowT])
    · simp only [List.append_nil, List.nil_append, List.cons_append, List.getD_cons_zero, List.getD_cons_succ, evI, opsI, stepI, wantI, opI, AAct.evI, look, AAct.put, mkVal, mkVM, intOpA, intA, shiftA, unA, decide_true, decide_false, Option.map_some, Option.map_none, reduceIte, Nat.reduceEqDiff, Nat.reduceLT, Option.bind_some, Option.bind_none, true_and, and_true, and_self, Nat.zero_lt_succ, cellsAt, List.length_append, Nat.le_add_right, List.length_cons, List.length_nil, Nat.zero_add, Nat.add_zero, Nat.reduceAdd, Nat.reduceMul, Nat.zero_mul, AV.cells, AV.one, known, List.append_assoc, getE_0, getE_k, setE_0, setE_k, List.getElem?_cons_zero, List.getElem?_cons_succ, List.set_cons_zero, List.set_cons_succ, List.take_succ_cons, List.take_zero, List.drop_zero, List.drop_succ_cons, List.drop_nil, List.all_cons, List.all_nil, Bool.and_self, Bool.and_true, Bool.true_and, Bool.and_false, Bool.false_and, splice, fillI, Nat.reduceLeDiff, strA, Nat.add_assoc, beq_self_eq_true, Bool.false_eq_true, bq_ft, bq_tf, Bool.not_true, Bool.not_false, Nat.le_refl, List.map_cons, List.map_nil, isNilA, nilPtr, nilSl, nilIf, nilFn, nilMap, nilCheckA, if_true, if_false, lt_lit, le_lit, lt_lit2, le_lit2, le_sub1, le_sub2]; rfl
    apply evI_seq
    · simp only [List.append_nil, List.nil_append, List.cons_append, List.getD_cons_zero, List.getD_cons_succ, evI, opsI, stepI, wantI, opI, AAct.evI, look, AAct.put, mkVal, mkVM, intOpA, intA, shiftA, unA, decide_true, decide_false, Option.map_some, Option.map_none, reduceIte, Nat.reduceEqDiff, Nat.reduceLT, Option.bind_some, Option.bind_none, true_and, and_true, and_self, Nat.zero_lt_succ, cellsAt, List.length_append, Nat.le_add_right, List.length_cons, List.length_nil, Nat.zero_add, Nat.add_zero, Nat.reduceAdd, Nat.reduceMul, Nat.zero_mul, AV.cells, AV.one, known, List.append_assoc, getE_0, getE_k, setE_0, setE_k, List.getElem?_cons_zero, List.getElem?_cons_succ, List.set_cons_zero, List.set_cons_succ, List.take_succ_cons, List.take_zero, List.drop_zero, List.drop_succ_cons, List.drop_nil, List.all_cons, List.all_nil, Bool.and_self, Bool.and_true, Bool.true_and, Bool.and_false, Bool.false_and, splice, fillI, Nat.reduceLeDiff, strA, Nat.add_assoc, beq_self_eq_true, Bool.false_eq_true, bq_ft, bq_tf, Bool.not_true, Bool.not_false, Nat.le_refl, List.map_cons, List.map_nil, isNilA, nilPtr, nilSl, nilIf, nilFn, nilMap, nilCheckA, if_true, if_false, lt_lit, le_lit, lt_lit2, le_lit2, le_sub1, le_sub2]; rfl
    apply evI_seq
    · simp only [List.append_nil, List.nil_append, List.cons_append, List.getD_cons_zero, List.getD_cons_succ, evI, opsI, stepI, wantI, opI, AAct.evI, look, AAct.put, mkVal, mkVM, intOpA, intA, shiftA, unA, decide_true, decide_false, Option.map_some, Option.map_none, reduceIte, Nat.reduceEqDiff, Nat.reduceLT, Option.bind_some, Option.bind_none, true_and, and_true, and_self, Nat.zero_lt_succ, cellsAt, List.length_append, Nat.le_add_right, List.length_cons, List.length_nil, Nat.zero_add, Nat.add_zero, Nat.reduceAdd, Nat.reduceMul, Nat.zero_mul, AV.cells, AV.one, known, List.append_assoc, getE_0, getE_k, setE_0, setE_k, List.getElem?_cons_zero, List.getElem?_cons_succ, List.set_cons_zero, List.set_cons_succ, List.take_succ_cons, List.take_zero, List.drop_zero, List.drop_succ_cons, List.drop_nil, List.all_cons, List.all_nil, Bool.and_self, Bool.and_true, Bool.true_and, Bool.and_false, Bool.false_and, splice, fillI, Nat.reduceLeDiff, strA, Nat.add_assoc, beq_self_eq_true, Bool.false_eq_true, bq_ft, bq_tf, Bool.not_true, Bool.not_false, Nat.le_refl, List.map_cons, List.map_nil, isNilA, nilPtr, nilSl, nilIf, nilFn, nilMap, nilCheckA, if_true, if_false, lt_lit, le_lit, lt_lit2, le_lit2, le_sub1, le_sub2]; rfl
    apply evI_seq
    · apply evI_seq
      · simp only [List.append_nil, List.nil_append, List.cons_append, List.getD_cons_zero, List.getD_cons_succ, evI, opsI, stepI, wantI, opI, AAct.evI, look, AAct.put, mkVal, mkVM, intOpA, intA, shiftA, unA, decide_true, decide_false, Option.map_some, Option.map_none, reduceIte, Nat.reduceEqDiff, Nat.reduceLT, Option.bind_some, Option.bind_none, true_and, and_true, and_self, Nat.zero_lt_succ, cellsAt, List.length_append, Nat.le_add_right, List.length_cons, List.length_nil, Nat.zero_add, Nat.add_zero, Nat.reduceAdd, Nat.reduceMul, Nat.zero_mul, AV.cells, AV.one, known, List.append_assoc, getE_0, getE_k, setE_0, setE_k, List.getElem?_cons_zero, List.getElem?_cons_succ, List.set_cons_zero, List.set_cons_succ, List.take_succ_cons, List.take_zero, List.drop_zero, List.drop_succ_cons, List.drop_nil, List.all_cons, List.all_nil, Bool.and_self, Bool.and_true, Bool.true_and, Bool.and_false, Bool.false_and, splice, fillI, Nat.reduceLeDiff, strA, Nat.add_assoc, beq_self_eq_true, Bool.false_eq_true, bq_ft, bq_tf, Bool.not_true, Bool.not_false, Nat.le_refl, List.map_cons, List.map_nil, isNilA, nilPtr, nilSl, nilIf, nilFn, nilMap, nilCheckA, if_true, if_false, lt_lit, le_lit, lt_lit2, le_lit2, le_sub1, le_sub2]; rfl
      apply evI_block_exit
      apply evI_loop
      exact ht1
    apply evI_seq
    · simp only [a6, f1, List.append_nil, List.nil_append, List.cons_append, List.getD_cons_zero, List.getD_cons_succ, evI, opsI, stepI, wantI, opI, AAct.evI, look, AAct.put, mkVal, mkVM, intOpA, intA, shiftA, unA, decide_true, decide_false, Option.map_some, Option.map_none, reduceIte, Nat.reduceEqDiff, Nat.reduceLT, Option.bind_some, Option.bind_none, true_and, and_true, and_self, Nat.zero_lt_succ, cellsAt, List.length_append, Nat.le_add_right, List.length_cons, List.length_nil, Nat.zero_add, Nat.add_zero, Nat.reduceAdd, Nat.reduceMul, Nat.zero_mul, AV.cells, AV.one, known, List.append_assoc, getE_0, getE_k, setE_0, setE_k, List.getElem?_cons_zero, List.getElem?_cons_succ, List.set_cons_zero, List.set_cons_succ, List.take_succ_cons, List.take_zero, List.drop_zero, List.drop_succ_cons, List.drop_nil, List.all_cons, List.all_nil, Bool.and_self, Bool.and_true, Bool.true_and, Bool.and_false, Bool.false_and, splice, fillI, Nat.reduceLeDiff, strA, Nat.add_assoc, beq_self_eq_true, Bool.false_eq_true, bq_ft, bq_tf, Bool.not_true, Bool.not_false, Nat.le_refl, List.map_cons, List.map_nil, isNilA, nilPtr, nilSl, nilIf, nilFn, nilMap, nilCheckA, if_true, if_false, lt_lit, le_lit, lt_lit2, le_lit2, le_sub1, le_sub2]; rfl
    apply evI_seq
    · apply evI_seq
      · simp only [List.append_nil, List.nil_append, List.cons_append, List.getD_cons_zero, List.getD_cons_succ, evI, opsI, stepI, wantI, opI, AAct.evI, look, AAct.put, mkVal, mkVM, intOpA, intA, shiftA, unA, decide_true, decide_false, Option.map_some, Option.map_none, reduceIte, Nat.reduceEqDiff, Nat.reduceLT, Option.bind_some, Option.bind_none, true_and, and_true, and_self, Nat.zero_lt_succ, cellsAt, List.length_append, Nat.le_add_right, List.length_cons, List.length_nil, Nat.zero_add, Nat.add_zero, Nat.reduceAdd, Nat.reduceMul, Nat.zero_mul, AV.cells, AV.one, known, List.append_assoc, getE_0, getE_k, setE_0, setE_k, List.getElem?_cons_zero, List.getElem?_cons_succ, List.set_cons_zero, List.set_cons_succ, List.take_succ_cons, List.take_zero, List.drop_zero, List.drop_succ_cons, List.drop_nil, List.all_cons, List.all_nil, Bool.and_self, Bool.and_true, Bool.true_and, Bool.and_false, Bool.false_and, splice, fillI, Nat.reduceLeDiff, strA, Nat.add_assoc, beq_self_eq_true, Bool.false_eq_true, bq_ft, bq_tf, Bool.not_true, Bool.not_false, Nat.le_refl, List.map_cons, List.map_nil, isNilA, nilPtr, nilSl, nilIf, nilFn, nilMap, nilCheckA, if_true, if_false, lt_lit, le_lit, lt_lit2, le_lit2, le_sub1, le_sub2]; rfl
      apply evI_block_exit
      apply evI_loop
      simp only [AAct.keepT, List.map_cons, List.map_nil, look, reduceIte, Nat.reduceEqDiff, a1, a5, a7, a8]
      exact ht2
    apply evI_seq
    · simp only [b6, f2, r1, List.append_nil, List.nil_append, List.cons_append, List.getD_cons_zero, List.getD_cons_succ, evI, opsI, stepI, wantI, opI, AAct.evI, look, AAct.put, mkVal, mkVM, intOpA, intA, shiftA, unA, decide_true, decide_false, Option.map_some, Option.map_none, reduceIte, Nat.reduceEqDiff, Nat.reduceLT, Option.bind_some, Option.bind_none, true_and, and_true, and_self, Nat.zero_lt_succ, cellsAt, List.length_append, Nat.le_add_right, List.length_cons, List.length_nil, Nat.zero_add, Nat.add_zero, Nat.reduceAdd, Nat.reduceMul, Nat.zero_mul, AV.cells, AV.one, known, List.append_assoc, getE_0, getE_k, setE_0, setE_k, List.getElem?_cons_zero, List.getElem?_cons_succ, List.set_cons_zero, List.set_cons_succ, List.take_succ_cons, List.take_zero, List.drop_zero, List.drop_succ_cons, List.drop_nil, List.all_cons, List.all_nil, Bool.and_self, Bool.and_true, Bool.true_and, Bool.and_false, Bool.false_and, splice, fillI, Nat.reduceLeDiff, strA, Nat.add_assoc, beq_self_eq_true, Bool.false_eq_true, bq_ft, bq_tf, Bool.not_true, Bool.not_false, Nat.le_refl, List.map_cons, List.map_nil, isNilA, nilPtr, nilSl, nilIf, nilFn, nilMap, nilCheckA, if_true, if_false, lt_lit, le_lit, lt_lit2, le_lit2, le_sub1, le_sub2]; rfl
    rfl
  case g7 => exact b7
  case g8 => exact b8
  all_goals rfl
theorem law_misc (zs1 zs2 : List Int) (hm1 : zs1.length ≤ 1125899906842624) (hm2 : zs2.length ≤ 1125899906842624) (d : Nat) (hd : 20 ≤ d) :
    evFI Tryz.prog (cfg ml) T N d 9 [.lst zs1.length (cells1 zs1), .lst zs2.length (cells1 zs2)] [] = some (.ret (.bool true), []) := by
  obtain ⟨n, rfl⟩ : ∃ k, d = k + 1 := ⟨d - 1, by omega⟩
  have q3 := fun H => known_ok (ml := ml) Tryz.prog N n (by omega) H
  rcases Nat.lt_or_ge 20 zs1.length with h1 | hz1
  · have c1 : decide ((zs1.length : Int) > 20) = true := decide_eq_true (by omega)
    refine evF_ret (m := 118) (v := .bool true) (a := ?ad) (H1 := []) rfl t9 rfl ?hb ?hd ?hr ?hz
    case hb => simp only [List.length_cons, List.length_nil, idx, I9, c1, List.append_nil, List.nil_append, List.cons_append, List.getD_cons_zero, List.getD_cons_succ, evI, opsI, stepI, wantI, opI, AAct.evI, look, AAct.put, mkVal, mkVM, intOpA, intA, shiftA, unA, decide_true, decide_false, Option.map_some, Option.map_none, reduceIte, Nat.reduceEqDiff, Nat.reduceLT, Option.bind_some, Option.bind_none, true_and, and_true, and_self, Nat.zero_lt_succ, cellsAt, List.length_append, Nat.le_add_right, List.length_cons, List.length_nil, Nat.zero_add, Nat.add_zero, Nat.reduceAdd, Nat.reduceMul, Nat.zero_mul, AV.cells, AV.one, known, List.append_assoc, getE_0, getE_k, setE_0, setE_k, List.getElem?_cons_zero, List.getElem?_cons_succ, List.set_cons_zero, List.set_cons_succ, List.take_succ_cons, List.take_zero, List.drop_zero, List.drop_succ_cons, List.drop_nil, List.all_cons, List.all_nil, Bool.and_self, Bool.and_true, Bool.true_and, Bool.and_false, Bool.false_and, splice, fillI, Nat.reduceLeDiff, strA, Nat.add_assoc, beq_self_eq_true, Bool.false_eq_true, bq_ft, bq_tf, Bool.not_true, Bool.not_false, Nat.le_refl, List.map_cons, List.map_nil, isNilA, nilPtr, nilSl, nilIf, nilFn, nilMap, nilCheckA, if_true, if_false, lt_lit, le_lit, lt_lit2, le_lit2, le_sub1, le_sub2]; rfl
    case hd => rfl
    case hr => rfl
    case hz => rfl
  rcases Nat.lt_or_ge 20 zs2.length with h2 | hz2
  · have c1 : decide ((zs1.length : Int) > 20) = false := decide_eq_false (by omega)
    have c2 : decide ((zs2.length : Int) > 20) = true := decide_eq_true (by omega)
    refine evF_ret (m := 118) (v := .bool true) (a := ?ac) (H1 := []) rfl t9 rfl ?hb ?hd ?hr ?hz
    case hb => simp only [List.length_cons, List.length_nil, idx, I9, c1, c2, List.append_nil, List.nil_append, List.cons_append, List.getD_cons_zero, List.getD_cons_succ, evI, opsI, stepI, wantI, opI, AAct.evI, look, AAct.put, mkVal, mkVM, intOpA, intA, shiftA, unA, decide_true, decide_false, Option.map_some, Option.map_none, reduceIte, Nat.reduceEqDiff, Nat.reduceLT, Option.bind_some, Option.bind_none, true_and, and_true, and_self, Nat.zero_lt_succ, cellsAt, List.length_append, Nat.le_add_right, List.length_cons, List.length_nil, Nat.zero_add, Nat.add_zero, Nat.reduceAdd, Nat.reduceMul, Nat.zero_mul, AV.cells, AV.one, known, List.append_assoc, getE_0, getE_k, setE_0, setE_k, List.getElem?_cons_zero, List.getElem?_cons_succ, List.set_cons_zero, List.set_cons_succ, List.take_succ_cons, List.take_zero, List.drop_zero, List.drop_succ_cons, List.drop_nil, List.all_cons, List.all_nil, Bool.and_self, Bool.and_true, Bool.true_and, Bool.and_false, Bool.false_and, splice, fillI, Nat.reduceLeDiff, strA, Nat.add_assoc, beq_self_eq_true, Bool.false_eq_true, bq_ft, bq_tf, Bool.not_true, Bool.not_false, Nat.le_refl, List.map_cons, List.map_nil, isNilA, nilPtr, nilSl, nilIf, nilFn, nilMap, nilCheckA, if_true, if_false, lt_lit, le_lit, lt_lit2, le_lit2, le_sub1, le_sub2]; rfl
    case hd => rfl
    case hr => rfl
    case hz => rfl
  have k1 : ∀ k ∈ zs1.map kOf, k < 10 := by
    intro k hk
    obtain ⟨z, _, rfl⟩ := List.mem_map.1 hk
    exact kOf_lt z
  have k2 : ∀ k ∈ zs2.map kOf, k < 10 := by
    intro k hk
    obtain ⟨z, _, rfl⟩ := List.mem_map.1 hk
    exact kOf_lt z
  have pre := misc_pre (ml := ml) hN zs1 zs2 hz1 hz2 n _ rfl
  have r1 := misc_read (ml := ml) hN (zs1.map kOf) (zs2.map kOf) k1 k2 (by rw [List.length_map]; exact hz1) (by rw [List.length_map]; exact hz2) _ rfl [rowT, .row (ofBytes (toks (zs1.map kOf) ++ (coreT ++ toks (zs2.map kOf)))) 0 (5 + 1)] (by simp only [lowM, List.all_cons, List.all_nil, lowB, lowL, low, ofBytes_low, Bool.and_self]) 1 (5 + 1) rfl n (by omega)
  unfold miscR at r1
  generalize toks (zs1.map kOf) ++ (coreT ++ toks (zs2.map kOf)) = x at *
  generalize fstW (zs1.map kOf) 0 = F at *
  generalize wrsW (zs2.map kOf) 0 = W at *
  by_cases hF8 : F = 8
  · rw [if_pos hF8] at r1
    obtain ⟨t, b7, b8, b13, b14, hpre⟩ := pre [] 0 [] 13 r1
    have c3 : ((F : Int) == 8) = true := beq_of_eq (by omega)
    have c4 : ((13 : Int) == 13) = true := rfl
    refine evF_ret (m := 118) (v := .bool true) (a := ?aa) (H1 := ?Ha) rfl t9 rfl ?hb ?hd ?hr ?hz
    case hb =>
      refine hpre.trans ?_
      apply evI_seq_ret
      apply evI_block_ret
      apply evI_seq
      · simp only [b7, c3, List.append_nil, List.nil_append, List.cons_append, List.getD_cons_zero, List.getD_cons_succ, evI, opsI, stepI, wantI, opI, AAct.evI, look, AAct.put, mkVal, mkVM, intOpA, intA, shiftA, unA, decide_true, decide_false, Option.map_some, Option.map_none, reduceIte, Nat.reduceEqDiff, Nat.reduceLT, Option.bind_some, Option.bind_none, true_and, and_true, and_self, Nat.zero_lt_succ, cellsAt, List.length_append, Nat.le_add_right, List.length_cons, List.length_nil, Nat.zero_add, Nat.add_zero, Nat.reduceAdd, Nat.reduceMul, Nat.zero_mul, AV.cells, AV.one, known, List.append_assoc, getE_0, getE_k, setE_0, setE_k, List.getElem?_cons_zero, List.getElem?_cons_succ, List.set_cons_zero, List.set_cons_succ, List.take_succ_cons, List.take_zero, List.drop_zero, List.drop_succ_cons, List.drop_nil, List.all_cons, List.all_nil, Bool.and_self, Bool.and_true, Bool.true_and, Bool.and_false, Bool.false_and, splice, fillI, Nat.reduceLeDiff, strA, Nat.add_assoc, beq_self_eq_true, Bool.false_eq_true, bq_ft, bq_tf, Bool.not_true, Bool.not_false, Nat.le_refl, List.map_cons, List.map_nil, isNilA, nilPtr, nilSl, nilIf, nilFn, nilMap, nilCheckA, if_true, if_false, lt_lit, le_lit, lt_lit2, le_lit2, le_sub1, le_sub2]; rfl
      apply evI_true rfl
      simp only [b14, c4, q3, List.append_nil, List.nil_append, List.cons_append, List.getD_cons_zero, List.getD_cons_succ, evI, opsI, stepI, wantI, opI, AAct.evI, look, AAct.put, mkVal, mkVM, intOpA, intA, shiftA, unA, decide_true, decide_false, Option.map_some, Option.map_none, reduceIte, Nat.reduceEqDiff, Nat.reduceLT, Option.bind_some, Option.bind_none, true_and, and_true, and_self, Nat.zero_lt_succ, cellsAt, List.length_append, Nat.le_add_right, List.length_cons, List.length_nil, Nat.zero_add, Nat.add_zero, Nat.reduceAdd, Nat.reduceMul, Nat.zero_mul, AV.cells, AV.one, known, List.append_assoc, getE_0, getE_k, setE_0, setE_k, List.getElem?_cons_zero, List.getElem?_cons_succ, List.set_cons_zero, List.set_cons_succ, List.take_succ_cons, List.take_zero, List.drop_zero, List.drop_succ_cons, List.drop_nil, List.all_cons, List.all_nil, Bool.and_self, Bool.and_true, Bool.true_and, Bool.and_false, Bool.false_and, splice, fillI, Nat.reduceLeDiff, strA, Nat.add_assoc, beq_self_eq_true, Bool.false_eq_true, bq_ft, bq_tf, Bool.not_true, Bool.not_false, Nat.le_refl, List.map_cons, List.map_nil, isNilA, nilPtr, nilSl, nilIf, nilFn, nilMap, nilCheckA, if_true, if_false, lt_lit, le_lit, lt_lit2, le_lit2, le_sub1, le_sub2]; rfl
    case hd => rfl
    case hr => rfl
    case hz => rfl
  rw [if_neg hF8] at r1
  have c3 : ((F : Int) == 8) = false := beq_false_of_ne (by omega)
  have c4 : ((10 : Int) == 10) = true := rfl
  rcases Nat.eq_zero_or_pos F with hF | hF
  · have c5 : decide ((F : Int) > 0) = false := decide_eq_false (by omega)
    rcases Nat.lt_or_ge W 6 with hW | hW
    · have c6 : decide ((W : Int) ≥ 6) = false := decide_eq_false (by omega)
      rw [if_neg (by omega)] at r1
      obtain ⟨t, b7, b8, b13, b14, hpre⟩ := pre [97] 1 ecB 0 r1
      have c7 : ((0 : Int) == 0) = true := rfl
      have c8 : (((1 : Nat) : Int) == 1) = true := rfl
      refine evF_ret (m := 118) (v := .bool true) (a := ?ae) (H1 := ?Hae) rfl t9 rfl ?hb ?hd ?hr ?hz
      case hb =>
        refine hpre.trans ?_
        apply evI_seq
        · apply evI_block
          apply evI_seq
          · simp only [b7, c3, List.append_nil, List.nil_append, List.cons_append, List.getD_cons_zero, List.getD_cons_succ, evI, opsI, stepI, wantI, opI, AAct.evI, look, AAct.put, mkVal, mkVM, intOpA, intA, shiftA, unA, decide_true, decide_false, Option.map_some, Option.map_none, reduceIte, Nat.reduceEqDiff, Nat.reduceLT, Option.bind_some, Option.bind_none, true_and, and_true, and_self, Nat.zero_lt_succ, cellsAt, List.length_append, Nat.le_add_right, List.length_cons, List.length_nil, Nat.zero_add, Nat.add_zero, Nat.reduceAdd, Nat.reduceMul, Nat.zero_mul, AV.cells, AV.one, known, List.append_assoc, getE_0, getE_k, setE_0, setE_k, List.getElem?_cons_zero, List.getElem?_cons_succ, List.set_cons_zero, List.set_cons_succ, List.take_succ_cons, List.take_zero, List.drop_zero, List.drop_succ_cons, List.drop_nil, List.all_cons, List.all_nil, Bool.and_self, Bool.and_true, Bool.true_and, Bool.and_false, Bool.false_and, splice, fillI, Nat.reduceLeDiff, strA, Nat.add_assoc, beq_self_eq_true, Bool.false_eq_true, bq_ft, bq_tf, Bool.not_true, Bool.not_false, Nat.le_refl, List.map_cons, List.map_nil, isNilA, nilPtr, nilSl, nilIf, nilFn, nilMap, nilCheckA, if_true, if_false, lt_lit, le_lit, lt_lit2, le_lit2, le_sub1, le_sub2]; rfl
          apply evI_false rfl
          apply evI_seq
          · simp only [b7, b8, c5, c6, List.append_nil, List.nil_append, List.cons_append, List.getD_cons_zero, List.getD_cons_succ, evI, opsI, stepI, wantI, opI, AAct.evI, look, AAct.put, mkVal, mkVM, intOpA, intA, shiftA, unA, decide_true, decide_false, Option.map_some, Option.map_none, reduceIte, Nat.reduceEqDiff, Nat.reduceLT, Option.bind_some, Option.bind_none, true_and, and_true, and_self, Nat.zero_lt_succ, cellsAt, List.length_append, Nat.le_add_right, List.length_cons, List.length_nil, Nat.zero_add, Nat.add_zero, Nat.reduceAdd, Nat.reduceMul, Nat.zero_mul, AV.cells, AV.one, known, List.append_assoc, getE_0, getE_k, setE_0, setE_k, List.getElem?_cons_zero, List.getElem?_cons_succ, List.set_cons_zero, List.set_cons_succ, List.take_succ_cons, List.take_zero, List.drop_zero, List.drop_succ_cons, List.drop_nil, List.all_cons, List.all_nil, Bool.and_self, Bool.and_true, Bool.true_and, Bool.and_false, Bool.false_and, splice, fillI, Nat.reduceLeDiff, strA, Nat.add_assoc, beq_self_eq_true, Bool.false_eq_true, bq_ft, bq_tf, Bool.not_true, Bool.not_false, Nat.le_refl, List.map_cons, List.map_nil, isNilA, nilPtr, nilSl, nilIf, nilFn, nilMap, nilCheckA, if_true, if_false, lt_lit, le_lit, lt_lit2, le_lit2, le_sub1, le_sub2]; rfl
          apply evI_false rfl
          rfl
        simp only [b13, b14, c7, c8, q3, List.append_nil, List.nil_append, List.cons_append, List.getD_cons_zero, List.getD_cons_succ, evI, opsI, stepI, wantI, opI, AAct.evI, look, AAct.put, mkVal, mkVM, intOpA, intA, shiftA, unA, decide_true, decide_false, Option.map_some, Option.map_none, reduceIte, Nat.reduceEqDiff, Nat.reduceLT, Option.bind_some, Option.bind_none, true_and, and_true, and_self, Nat.zero_lt_succ, cellsAt, List.length_append, Nat.le_add_right, List.length_cons, List.length_nil, Nat.zero_add, Nat.add_zero, Nat.reduceAdd, Nat.reduceMul, Nat.zero_mul, AV.cells, AV.one, known, List.append_assoc, getE_0, getE_k, setE_0, setE_k, List.getElem?_cons_zero, List.getElem?_cons_succ, List.set_cons_zero, List.set_cons_succ, List.take_succ_cons, List.take_zero, List.drop_zero, List.drop_succ_cons, List.drop_nil, List.all_cons, List.all_nil, Bool.and_self, Bool.and_true, Bool.true_and, Bool.and_false, Bool.false_and, splice, fillI, Nat.reduceLeDiff, strA, Nat.add_assoc, beq_self_eq_true, Bool.false_eq_true, bq_ft, bq_tf, Bool.not_true, Bool.not_false, Nat.le_refl, List.map_cons, List.map_nil, isNilA, nilPtr, nilSl, nilIf, nilFn, nilMap, nilCheckA, if_true, if_false, lt_lit, le_lit, lt_lit2, le_lit2, le_sub1, le_sub2]; rfl
      case hd => rfl
      case hr => rfl
      case hz => rfl
    · have c6 : decide ((W : Int) ≥ 6) = true := decide_eq_true (by omega)
      rw [if_pos (by omega)] at r1
      obtain ⟨t, b7, b8, b13, b14, hpre⟩ := pre [] 0 [] 10 r1
      refine evF_ret (m := 118) (v := .bool true) (a := ?af) (H1 := ?Haf) rfl t9 rfl ?hb ?hd ?hr ?hz
      case hb =>
        refine hpre.trans ?_
        apply evI_seq_ret
        apply evI_block_ret
        apply evI_seq
        · simp only [b7, c3, List.append_nil, List.nil_append, List.cons_append, List.getD_cons_zero, List.getD_cons_succ, evI, opsI, stepI, wantI, opI, AAct.evI, look, AAct.put, mkVal, mkVM, intOpA, intA, shiftA, unA, decide_true, decide_false, Option.map_some, Option.map_none, reduceIte, Nat.reduceEqDiff, Nat.reduceLT, Option.bind_some, Option.bind_none, true_and, and_true, and_self, Nat.zero_lt_succ, cellsAt, List.length_append, Nat.le_add_right, List.length_cons, List.length_nil, Nat.zero_add, Nat.add_zero, Nat.reduceAdd, Nat.reduceMul, Nat.zero_mul, AV.cells, AV.one, known, List.append_assoc, getE_0, getE_k, setE_0, setE_k, List.getElem?_cons_zero, List.getElem?_cons_succ, List.set_cons_zero, List.set_cons_succ, List.take_succ_cons, List.take_zero, List.drop_zero, List.drop_succ_cons, List.drop_nil, List.all_cons, List.all_nil, Bool.and_self, Bool.and_true, Bool.true_and, Bool.and_false, Bool.false_and, splice, fillI, Nat.reduceLeDiff, strA, Nat.add_assoc, beq_self_eq_true, Bool.false_eq_true, bq_ft, bq_tf, Bool.not_true, Bool.not_false, Nat.le_refl, List.map_cons, List.map_nil, isNilA, nilPtr, nilSl, nilIf, nilFn, nilMap, nilCheckA, if_true, if_false, lt_lit, le_lit, lt_lit2, le_lit2, le_sub1, le_sub2]; rfl
        apply evI_false rfl
        apply evI_seq
        · simp only [b7, b8, c5, c6, List.append_nil, List.nil_append, List.cons_append, List.getD_cons_zero, List.getD_cons_succ, evI, opsI, stepI, wantI, opI, AAct.evI, look, AAct.put, mkVal, mkVM, intOpA, intA, shiftA, unA, decide_true, decide_false, Option.map_some, Option.map_none, reduceIte, Nat.reduceEqDiff, Nat.reduceLT, Option.bind_some, Option.bind_none, true_and, and_true, and_self, Nat.zero_lt_succ, cellsAt, List.length_append, Nat.le_add_right, List.length_cons, List.length_nil, Nat.zero_add, Nat.add_zero, Nat.reduceAdd, Nat.reduceMul, Nat.zero_mul, AV.cells, AV.one, known, List.append_assoc, getE_0, getE_k, setE_0, setE_k, List.getElem?_cons_zero, List.getElem?_cons_succ, List.set_cons_zero, List.set_cons_succ, List.take_succ_cons, List.take_zero, List.drop_zero, List.drop_succ_cons, List.drop_nil, List.all_cons, List.all_nil, Bool.and_self, Bool.and_true, Bool.true_and, Bool.and_false, Bool.false_and, splice, fillI, Nat.reduceLeDiff, strA, Nat.add_assoc, beq_self_eq_true, Bool.false_eq_true, bq_ft, bq_tf, Bool.not_true, Bool.not_false, Nat.le_refl, List.map_cons, List.map_nil, isNilA, nilPtr, nilSl, nilIf, nilFn, nilMap, nilCheckA, if_true, if_false, lt_lit, le_lit, lt_lit2, le_lit2, le_sub1, le_sub2]; rfl
        apply evI_true rfl
        simp only [b14, c4, q3, List.append_nil, List.nil_append, List.cons_append, List.getD_cons_zero, List.getD_cons_succ, evI, opsI, stepI, wantI, opI, AAct.evI, look, AAct.put, mkVal, mkVM, intOpA, intA, shiftA, unA, decide_true, decide_false, Option.map_some, Option.map_none, reduceIte, Nat.reduceEqDiff, Nat.reduceLT, Option.bind_some, Option.bind_none, true_and, and_true, and_self, Nat.zero_lt_succ, cellsAt, List.length_append, Nat.le_add_right, List.length_cons, List.length_nil, Nat.zero_add, Nat.add_zero, Nat.reduceAdd, Nat.reduceMul, Nat.zero_mul, AV.cells, AV.one, known, List.append_assoc, getE_0, getE_k, setE_0, setE_k, List.getElem?_cons_zero, List.getElem?_cons_succ, List.set_cons_zero, List.set_cons_succ, List.take_succ_cons, List.take_zero, List.drop_zero, List.drop_succ_cons, List.drop_nil, List.all_cons, List.all_nil, Bool.and_self, Bool.and_true, Bool.true_and, Bool.and_false, Bool.false_and, splice, fillI, Nat.reduceLeDiff, strA, Nat.add_assoc, beq_self_eq_true, Bool.false_eq_true, bq_ft, bq_tf, Bool.not_true, Bool.not_false, Nat.le_refl, List.map_cons, List.map_nil, isNilA, nilPtr, nilSl, nilIf, nilFn, nilMap, nilCheckA, if_true, if_false, lt_lit, le_lit, lt_lit2, le_lit2, le_sub1, le_sub2]; rfl
      case hd => rfl
      case hr => rfl
      case hz => rfl
  · have c5 : decide ((F : Int) > 0) = true := decide_eq_true (by omega)
    rw [if_pos (.inl hF)] at r1
    obtain ⟨t, b7, b8, b13, b14, hpre⟩ := pre [] 0 [] 10 r1
    refine evF_ret (m := 118) (v := .bool true) (a := ?ag) (H1 := ?Hag) rfl t9 rfl ?hb ?hd ?hr ?hz
    case hb =>
      refine hpre.trans ?_
      apply evI_seq_ret
      apply evI_block_ret
      apply evI_seq
      · simp only [b7, c3, List.append_nil, List.nil_append, List.cons_append, List.getD_cons_zero, List.getD_cons_succ, evI, opsI, stepI, wantI, opI, AAct.evI, look, AAct.put, mkVal, mkVM, intOpA, intA, shiftA, unA, decide_true, decide_false, Option.map_some, Option.map_none, reduceIte, Nat.reduceEqDiff, Nat.reduceLT, Option.bind_some, Option.bind_none, true_and, and_true, and_self, Nat.zero_lt_succ, cellsAt, List.length_append, Nat.le_add_right, List.length_cons, List.length_nil, Nat.zero_add, Nat.add_zero, Nat.reduceAdd, Nat.reduceMul, Nat.zero_mul, AV.cells, AV.one, known, List.append_assoc, getE_0, getE_k, setE_0, setE_k, List.getElem?_cons_zero, List.getElem?_cons_succ, List.set_cons_zero, List.set_cons_succ, List.take_succ_cons, List.take_zero, List.drop_zero, List.drop_succ_cons, List.drop_nil, List.all_cons, List.all_nil, Bool.and_self, Bool.and_true, Bool.true_and, Bool.and_false, Bool.false_and, splice, fillI, Nat.reduceLeDiff, strA, Nat.add_assoc, beq_self_eq_true, Bool.false_eq_true, bq_ft, bq_tf, Bool.not_true, Bool.not_false, Nat.le_refl, List.map_cons, List.map_nil, isNilA, nilPtr, nilSl, nilIf, nilFn, nilMap, nilCheckA, if_true, if_false, lt_lit, le_lit, lt_lit2, le_lit2, le_sub1, le_sub2]; rfl
      apply evI_false rfl
      apply evI_seq
      · simp only [b7, b8, c5, List.append_nil, List.nil_append, List.cons_append, List.getD_cons_zero, List.getD_cons_succ, evI, opsI, stepI, wantI, opI, AAct.evI, look, AAct.put, mkVal, mkVM, intOpA, intA, shiftA, unA, decide_true, decide_false, Option.map_some, Option.map_none, reduceIte, Nat.reduceEqDiff, Nat.reduceLT, Option.bind_some, Option.bind_none, true_and, and_true, and_self, Nat.zero_lt_succ, cellsAt, List.length_append, Nat.le_add_right, List.length_cons, List.length_nil, Nat.zero_add, Nat.add_zero, Nat.reduceAdd, Nat.reduceMul, Nat.zero_mul, AV.cells, AV.one, known, List.append_assoc, getE_0, getE_k, setE_0, setE_k, List.getElem?_cons_zero, List.getElem?_cons_succ, List.set_cons_zero, List.set_cons_succ, List.take_succ_cons, List.take_zero, List.drop_zero, List.drop_succ_cons, List.drop_nil, List.all_cons, List.all_nil, Bool.and_self, Bool.and_true, Bool.true_and, Bool.and_false, Bool.false_and, splice, fillI, Nat.reduceLeDiff, strA, Nat.add_assoc, beq_self_eq_true, Bool.false_eq_true, bq_ft, bq_tf, Bool.not_true, Bool.not_false, Nat.le_refl, List.map_cons, List.map_nil, isNilA, nilPtr, nilSl, nilIf, nilFn, nilMap, nilCheckA, if_true, if_false, lt_lit, le_lit, lt_lit2, le_lit2, le_sub1, le_sub2]; rfl
      apply evI_true rfl
      simp only [b14, c4, q3, List.append_nil, List.nil_append, List.cons_append, List.getD_cons_zero, List.getD_cons_succ, evI, opsI, stepI, wantI, opI, AAct.evI, look, AAct.put, mkVal, mkVM, intOpA, intA, shiftA, unA, decide_true, decide_false, Option.map_some, Option.map_none, reduceIte, Nat.reduceEqDiff, Nat.reduceLT, Option.bind_some, Option.bind_none, true_and, and_true, and_self, Nat.zero_lt_succ, cellsAt, List.length_append, Nat.le_add_right, List.length_cons, List.length_nil, Nat.zero_add, Nat.add_zero, Nat.reduceAdd, Nat.reduceMul, Nat.zero_mul, AV.cells, AV.one, known, List.append_assoc, getE_0, getE_k, setE_0, setE_k, List.getElem?_cons_zero, List.getElem?_cons_succ, List.set_cons_zero, List.set_cons_succ, List.take_succ_cons, List.take_zero, List.drop_zero, List.drop_succ_cons, List.drop_nil, List.all_cons, List.all_nil, Bool.and_self, Bool.and_true, Bool.true_and, Bool.and_false, Bool.false_and, splice, fillI, Nat.reduceLeDiff, strA, Nat.add_assoc, beq_self_eq_true, Bool.false_eq_true, bq_ft, bq_tf, Bool.not_true, Bool.not_false, Nat.le_refl, List.map_cons, List.map_nil, isNilA, nilPtr, nilSl, nilIf, nilFn, nilMap, nilCheckA, if_true, if_false, lt_lit, le_lit, lt_lit2, le_lit2, le_sub1, le_sub2]; rfl
    case hd => rfl
    case hr => rfl
    case hz => rfl
end
end Go.Proofs.YtmnajffpmbidiaaGreatDoor.Ev
