/- Parts of one proof, one behind the other: The reader of xml: blanks, names, what stands beside an element, reckoned with letters. -/
import Derived.Test.YtmnajffpmbidiaaGreatDoorMdc
/- The reader of xml: blanks, names, what stands beside an element, reckoned with letters. -/
namespace Go.Proofs.YtmnajffpmbidiaaGreatDoor.Ev
set_option linter.all false
variable {ml : Int}
open Go.Proofs.YtmnajffpmbidiaaGreatDoor.Ic
set_option maxRecDepth 100000
set_option maxHeartbeats 2000000
set_option linter.unusedSimpArgs false
set_option linter.unusedSectionVars false
def isBl (c : UInt8) : Bool := c == 32 || c == 9 || c == 10
def blN (t : List UInt8) : Nat := (t.takeWhile isBl).length
def nmN (t : List UInt8) : Nat := (t.takeWhile nxt8).length
theorem bl_index : ∀ x : Fin 256, decide (Lib.indexByte [32, 9, 10] (UInt8.ofNat x.val) ≥ 0) = isBl (UInt8.ofNat x.val) := by decide +kernel
theorem bl_is (b : UInt8) : decide (Lib.indexByte [32, 9, 10] b ≥ 0) = isBl b := by
  have h := bl_index ⟨b.toNat, b.toNat_lt⟩
  simp only [UInt8.ofNat_toNat] at h
  exact h
theorem fst_nxt (b : UInt8) (h : fst8 b = true) : nxt8 b = true := by
  unfold nxt8 nameNext; unfold fst8 at h; rw [h]; rfl
theorem re_len {l : List Tmp} {a : AAct} {H H' : Mem} (h : H'.length = H.length) : roundEnd (some l) H a H' = (a.keepT l, H') := by
  unfold roundEnd
  simp only []
  split
  · rw [List.take_of_length_le (by omega)]
  · rfl
theorem takeWhile_le {α : Type} (p : α → Bool) (t : List α) : (t.takeWhile p).length ≤ t.length := by
  induction t with
  | nil => simp
  | cons a t ih => rw [List.takeWhile_cons]; split <;> simp; omega
section
variable {P : Program} {N : Nat}
variable (s : List UInt8) (many : Nat) (A B : Mem) (hs : s.length < 4294967281)
noncomputable def loopBl : IC := (I60.c.loops).getD 0 .bad
include hs
theorem blank_loop (n at0 : Nat) : ∀ (fuel k : Nat), k ≤ s.length → s.length - k < fuel →
    ∃ t, loopA (fun a H => evI P (cfg ml) (evFI P (cfg ml) T N (n + 1)) N loopBl a H) (some [0, 3]) fuel ⟨44, [(0, .ptr A.length 0 0), (3, .int .i64 at0)], []⟩ (A ++ rdr s k many :: B) = some (.exit 0, ⟨44, t, []⟩, A ++ rdr s (k + blN (s.drop k)) many :: B) ∧ look t 0 = .ptr A.length 0 0 ∧ look t 3 = .int .i64 at0
  | 0, _, _, h => by omega
  | fuel + 1, k, hk, hf => by
    rcases Nat.lt_or_ge k s.length with hlt | hge
    · obtain ⟨b, hb⟩ := all_drop hlt
      have hget : s[k]? = some b := by
        have := congrArg (·[0]?) hb
        simpa using this
      have hi : decide ((k : Int) < (s.length : Int)) = true := decide_eq_true (by omega)
      have hn := natOf_nat k .i64
      have hlib : evFI P (cfg ml) T N (n + 1) 87 [.str [32, 9, 10], .int .u8 (b.toNat : Int)] (A ++ rdr s k many :: B) = some (.ret (.int .i64 (Lib.indexByte [32, 9, 10] b)), A ++ rdr s k many :: B) := by
        have hl : (cfg ml).lib 87 = some idxByteLib := rfl
        have e : (b.toNat : Int).toNat.toUInt8 = b := by simp
        simp only [evFI, hl, idxByteLib, Option.map_some, e]
      have hbl := bl_is b
      simp only [rdr] at hlib
      cases hc : isBl b
      · rw [hc] at hbl
        have e : blN (s.drop k) = 0 := by rw [hb]; unfold blN; rw [List.takeWhile_cons, hc]; rfl
        rw [e, Nat.add_zero]
        exact ⟨_, loopA_exit (by simp only [loopBl, I60, IC.loops, List.getD_cons_zero, rdr, hi, hn, hget, hlib, hbl, List.append_nil, List.nil_append, List.cons_append, List.getD_cons_zero, List.getD_cons_succ, evI, opsI, stepI, wantI, opI, AAct.evI, look, AAct.put, mkVal, mkVM, intOpA, intA, shiftA, unA, decide_true, decide_false, Option.map_some, Option.map_none, reduceIte, Nat.reduceEqDiff, Nat.reduceLT, Option.bind_some, Option.bind_none, true_and, and_true, and_self, Nat.zero_lt_succ, cellsAt, List.length_append, Nat.le_add_right, List.length_cons, List.length_nil, Nat.zero_add, Nat.add_zero, Nat.reduceAdd, Nat.reduceMul, Nat.zero_mul, AV.cells, AV.one, known, List.append_assoc, getE_0, getE_k, setE_0, setE_k, List.getElem?_cons_zero, List.getElem?_cons_succ, List.set_cons_zero, List.set_cons_succ, List.take_succ_cons, List.take_zero, List.drop_zero, List.drop_succ_cons, List.drop_nil, List.all_cons, List.all_nil, Bool.and_self, Bool.and_true, Bool.true_and, Bool.and_false, Bool.false_and, splice, fillI, Nat.reduceLeDiff, strA, Nat.add_assoc, beq_self_eq_true, Bool.false_eq_true, bq_ft, bq_tf, Bool.not_true, Bool.not_false, Nat.le_refl, List.map_cons, List.map_nil, isNilA, nilPtr, nilSl, nilIf, nilFn, nilMap, nilCheckA, if_true, if_false, lt_lit, le_lit, lt_lit2, le_lit2, le_sub1, le_sub2, drawI, drawI2, drawI0, drawI20, lexD, valD, valI, putD, okD, roD, memAt, lastM, wantI, eqv_refl, eqM_refl, eqM_app, eqB, eqvL, eqv, List.getLast?_cons_cons, List.getLast?_singleton, Option.getD_some, Bool.or_true, Bool.true_or, beq_self_eq_true, resvV]; rfl), rfl, rfl⟩
      · rw [hc] at hbl
        have e : k + blN (s.drop k) = k + 1 + blN (s.drop (k + 1)) := by rw [hb]; unfold blN; rw [List.takeWhile_cons, hc]; simp; omega
        obtain ⟨t, ht, h0, h3⟩ := blank_loop n at0 fuel (k + 1) (by omega) (by omega)
        have hw : IntKind.wrap .i64 ((k : Int) + 1) = ((k + 1 : Nat) : Int) := by rw [wrap64] <;> omega
        rw [e]
        refine ⟨t, ?_, h0, h3⟩
        refine loopA_go (H' := A ++ rdr s (k + 1) many :: B) (by simp only [loopBl, I60, IC.loops, List.getD_cons_zero, rdr, hi, hn, hget, hlib, hbl, hw, List.append_nil, List.nil_append, List.cons_append, List.getD_cons_zero, List.getD_cons_succ, evI, opsI, stepI, wantI, opI, AAct.evI, look, AAct.put, mkVal, mkVM, intOpA, intA, shiftA, unA, decide_true, decide_false, Option.map_some, Option.map_none, reduceIte, Nat.reduceEqDiff, Nat.reduceLT, Option.bind_some, Option.bind_none, true_and, and_true, and_self, Nat.zero_lt_succ, cellsAt, List.length_append, Nat.le_add_right, List.length_cons, List.length_nil, Nat.zero_add, Nat.add_zero, Nat.reduceAdd, Nat.reduceMul, Nat.zero_mul, AV.cells, AV.one, known, List.append_assoc, getE_0, getE_k, setE_0, setE_k, List.getElem?_cons_zero, List.getElem?_cons_succ, List.set_cons_zero, List.set_cons_succ, List.take_succ_cons, List.take_zero, List.drop_zero, List.drop_succ_cons, List.drop_nil, List.all_cons, List.all_nil, Bool.and_self, Bool.and_true, Bool.true_and, Bool.and_false, Bool.false_and, splice, fillI, Nat.reduceLeDiff, strA, Nat.add_assoc, beq_self_eq_true, Bool.false_eq_true, bq_ft, bq_tf, Bool.not_true, Bool.not_false, Nat.le_refl, List.map_cons, List.map_nil, isNilA, nilPtr, nilSl, nilIf, nilFn, nilMap, nilCheckA, if_true, if_false, lt_lit, le_lit, lt_lit2, le_lit2, le_sub1, le_sub2, drawI, drawI2, drawI0, drawI20, lexD, valD, valI, putD, okD, roD, memAt, lastM, wantI, eqv_refl, eqM_refl, eqM_app, eqB, eqvL, eqv, List.getLast?_cons_cons, List.getLast?_singleton, Option.getD_some, Bool.or_true, Bool.true_or, beq_self_eq_true, resvV]; rfl) ?_
        rw [re_len (by simp)]
        exact ht
    · have hi : decide ((k : Int) < (s.length : Int)) = false := decide_eq_false (by omega)
      have e : blN (s.drop k) = 0 := by rw [List.drop_eq_nil_of_le hge]; rfl
      rw [e, Nat.add_zero]
      exact ⟨_, loopA_exit (by simp only [loopBl, I60, IC.loops, List.getD_cons_zero, rdr, hi, List.append_nil, List.nil_append, List.cons_append, List.getD_cons_zero, List.getD_cons_succ, evI, opsI, stepI, wantI, opI, AAct.evI, look, AAct.put, mkVal, mkVM, intOpA, intA, shiftA, unA, decide_true, decide_false, Option.map_some, Option.map_none, reduceIte, Nat.reduceEqDiff, Nat.reduceLT, Option.bind_some, Option.bind_none, true_and, and_true, and_self, Nat.zero_lt_succ, cellsAt, List.length_append, Nat.le_add_right, List.length_cons, List.length_nil, Nat.zero_add, Nat.add_zero, Nat.reduceAdd, Nat.reduceMul, Nat.zero_mul, AV.cells, AV.one, known, List.append_assoc, getE_0, getE_k, setE_0, setE_k, List.getElem?_cons_zero, List.getElem?_cons_succ, List.set_cons_zero, List.set_cons_succ, List.take_succ_cons, List.take_zero, List.drop_zero, List.drop_succ_cons, List.drop_nil, List.all_cons, List.all_nil, Bool.and_self, Bool.and_true, Bool.true_and, Bool.and_false, Bool.false_and, splice, fillI, Nat.reduceLeDiff, strA, Nat.add_assoc, beq_self_eq_true, Bool.false_eq_true, bq_ft, bq_tf, Bool.not_true, Bool.not_false, Nat.le_refl, List.map_cons, List.map_nil, isNilA, nilPtr, nilSl, nilIf, nilFn, nilMap, nilCheckA, if_true, if_false, lt_lit, le_lit, lt_lit2, le_lit2, le_sub1, le_sub2, drawI, drawI2, drawI0, drawI20, lexD, valD, valI, putD, okD, roD, memAt, lastM, wantI, eqv_refl, eqM_refl, eqM_app, eqB, eqvL, eqv, List.getLast?_cons_cons, List.getLast?_singleton, Option.getD_some, Bool.or_true, Bool.true_or, beq_self_eq_true, resvV]; rfl), rfl, rfl⟩
theorem blank_eq (hN : s.length < N) (at_ : Nat) (hat : at_ ≤ s.length) (d : Nat) (hd : 2 ≤ d) :
    evFI P (cfg ml) T N d 60 [.ptr A.length 0 0] (A ++ rdr s at_ many :: B) = some (.ret (.bool (decide (0 < blN (s.drop at_)))), A ++ rdr s (at_ + blN (s.drop at_)) many :: B) := by
  obtain ⟨n, rfl⟩ : ∃ n, d = n + 2 := ⟨d - 2, by omega⟩
  obtain ⟨t, ht, h0, h3⟩ := blank_loop (P := P) (N := N) (ml := ml) s many A B hs n at_ N at_ hat (by omega)
  have hg : decide (((at_ + blN (s.drop at_) : Nat) : Int) > (at_ : Int)) = decide (0 < blN (s.drop at_)) := by
    congr 1; apply propext; omega
  generalize hq : decide (0 < blN (s.drop at_)) = q at *
  refine evF_ret (m := 44) (v := .bool q) (a := ?aa) (H1 := A ++ rdr s (at_ + blN (s.drop at_)) many :: B) rfl t60 rfl ?hb ?hd ?hr ?hz
  case hb =>
    apply evI_seq
    · simp only [List.length_cons, List.length_nil, idx, I60, List.append_nil, List.nil_append, List.cons_append, List.getD_cons_zero, List.getD_cons_succ, evI, opsI, stepI, wantI, opI, AAct.evI, look, AAct.put, mkVal, mkVM, intOpA, intA, shiftA, unA, decide_true, decide_false, Option.map_some, Option.map_none, reduceIte, Nat.reduceEqDiff, Nat.reduceLT, Option.bind_some, Option.bind_none, true_and, and_true, and_self, Nat.zero_lt_succ, cellsAt, List.length_append, Nat.le_add_right, List.length_cons, List.length_nil, Nat.zero_add, Nat.add_zero, Nat.reduceAdd, Nat.reduceMul, Nat.zero_mul, AV.cells, AV.one, known, List.append_assoc, getE_0, getE_k, setE_0, setE_k, List.getElem?_cons_zero, List.getElem?_cons_succ, List.set_cons_zero, List.set_cons_succ, List.take_succ_cons, List.take_zero, List.drop_zero, List.drop_succ_cons, List.drop_nil, List.all_cons, List.all_nil, Bool.and_self, Bool.and_true, Bool.true_and, Bool.and_false, Bool.false_and, splice, fillI, Nat.reduceLeDiff, strA, Nat.add_assoc, beq_self_eq_true, Bool.false_eq_true, bq_ft, bq_tf, Bool.not_true, Bool.not_false, Nat.le_refl, List.map_cons, List.map_nil, isNilA, nilPtr, nilSl, nilIf, nilFn, nilMap, nilCheckA, if_true, if_false, lt_lit, le_lit, lt_lit2, le_lit2, le_sub1, le_sub2]; rfl
    apply evI_seq
    · simp only [rdr, List.append_nil, List.nil_append, List.cons_append, List.getD_cons_zero, List.getD_cons_succ, evI, opsI, stepI, wantI, opI, AAct.evI, look, AAct.put, mkVal, mkVM, intOpA, intA, shiftA, unA, decide_true, decide_false, Option.map_some, Option.map_none, reduceIte, Nat.reduceEqDiff, Nat.reduceLT, Option.bind_some, Option.bind_none, true_and, and_true, and_self, Nat.zero_lt_succ, cellsAt, List.length_append, Nat.le_add_right, List.length_cons, List.length_nil, Nat.zero_add, Nat.add_zero, Nat.reduceAdd, Nat.reduceMul, Nat.zero_mul, AV.cells, AV.one, known, List.append_assoc, getE_0, getE_k, setE_0, setE_k, List.getElem?_cons_zero, List.getElem?_cons_succ, List.set_cons_zero, List.set_cons_succ, List.take_succ_cons, List.take_zero, List.drop_zero, List.drop_succ_cons, List.drop_nil, List.all_cons, List.all_nil, Bool.and_self, Bool.and_true, Bool.true_and, Bool.and_false, Bool.false_and, splice, fillI, Nat.reduceLeDiff, strA, Nat.add_assoc, beq_self_eq_true, Bool.false_eq_true, bq_ft, bq_tf, Bool.not_true, Bool.not_false, Nat.le_refl, List.map_cons, List.map_nil, isNilA, nilPtr, nilSl, nilIf, nilFn, nilMap, nilCheckA, if_true, if_false, lt_lit, le_lit, lt_lit2, le_lit2, le_sub1, le_sub2]; rfl
    apply evI_seq
    · apply evI_block_exit
      apply evI_loop
      exact ht
    simp only [rdr, h0, h3, hg, List.append_nil, List.nil_append, List.cons_append, List.getD_cons_zero, List.getD_cons_succ, evI, opsI, stepI, wantI, opI, AAct.evI, look, AAct.put, mkVal, mkVM, intOpA, intA, shiftA, unA, decide_true, decide_false, Option.map_some, Option.map_none, reduceIte, Nat.reduceEqDiff, Nat.reduceLT, Option.bind_some, Option.bind_none, true_and, and_true, and_self, Nat.zero_lt_succ, cellsAt, List.length_append, Nat.le_add_right, List.length_cons, List.length_nil, Nat.zero_add, Nat.add_zero, Nat.reduceAdd, Nat.reduceMul, Nat.zero_mul, AV.cells, AV.one, known, List.append_assoc, getE_0, getE_k, setE_0, setE_k, List.getElem?_cons_zero, List.getElem?_cons_succ, List.set_cons_zero, List.set_cons_succ, List.take_succ_cons, List.take_zero, List.drop_zero, List.drop_succ_cons, List.drop_nil, List.all_cons, List.all_nil, Bool.and_self, Bool.and_true, Bool.true_and, Bool.and_false, Bool.false_and, splice, fillI, Nat.reduceLeDiff, strA, Nat.add_assoc, beq_self_eq_true, Bool.false_eq_true, bq_ft, bq_tf, Bool.not_true, Bool.not_false, Nat.le_refl, List.map_cons, List.map_nil, isNilA, nilPtr, nilSl, nilIf, nilFn, nilMap, nilCheckA, if_true, if_false, lt_lit, le_lit, lt_lit2, le_lit2, le_sub1, le_sub2]; rfl
  case hd => rfl
  case hr => simp only [I60, resI, resLI, look, reduceIte, Nat.reduceEqDiff, Option.map_some]
  case hz => exact fin_len rfl (by simp)
noncomputable def loopNm : IC := (I57.c.loops).getD 0 .bad
theorem name_loop (n at0 : Nat) : ∀ (fuel k : Nat), k ≤ s.length → s.length - k < fuel →
    ∃ t, loopA (fun a H => evI P (cfg ml) (evFI P (cfg ml) T N (n + 2)) N loopNm a H) (some [0, 3]) fuel ⟨70, [(0, .ptr A.length 0 0), (3, .int .i64 at0)], []⟩ (A ++ rdr s k many :: B) = some (.exit 0, ⟨70, t, []⟩, A ++ rdr s (k + nmN (s.drop k)) many :: B) ∧ look t 0 = .ptr A.length 0 0 ∧ look t 3 = .int .i64 at0
  | 0, _, _, h => by omega
  | fuel + 1, k, hk, hf => by
    rcases Nat.lt_or_ge k s.length with hlt | hge
    · obtain ⟨b, hb⟩ := all_drop hlt
      have hget : s[k]? = some b := by
        have := congrArg (·[0]?) hb
        simpa using this
      have hi : decide ((k : Int) < (s.length : Int)) = true := decide_eq_true (by omega)
      have hn := natOf_nat k .i64
      have hX := fun H => isNext_eq (ml := ml) P N n (b.toNat : Int) H
      have hbl : nameNext (b.toNat : Int) = nxt8 b := rfl
      rw [hbl] at hX
      cases hc : nxt8 b
      · rw [hc] at hX
        have e : nmN (s.drop k) = 0 := by rw [hb]; unfold nmN; rw [List.takeWhile_cons, hc]; rfl
        rw [e, Nat.add_zero]
        exact ⟨_, loopA_exit (by simp only [loopNm, I57, IC.loops, List.getD_cons_zero, rdr, hi, hn, hget, hX, List.append_nil, List.nil_append, List.cons_append, List.getD_cons_zero, List.getD_cons_succ, evI, opsI, stepI, wantI, opI, AAct.evI, look, AAct.put, mkVal, mkVM, intOpA, intA, shiftA, unA, decide_true, decide_false, Option.map_some, Option.map_none, reduceIte, Nat.reduceEqDiff, Nat.reduceLT, Option.bind_some, Option.bind_none, true_and, and_true, and_self, Nat.zero_lt_succ, cellsAt, List.length_append, Nat.le_add_right, List.length_cons, List.length_nil, Nat.zero_add, Nat.add_zero, Nat.reduceAdd, Nat.reduceMul, Nat.zero_mul, AV.cells, AV.one, known, List.append_assoc, getE_0, getE_k, setE_0, setE_k, List.getElem?_cons_zero, List.getElem?_cons_succ, List.set_cons_zero, List.set_cons_succ, List.take_succ_cons, List.take_zero, List.drop_zero, List.drop_succ_cons, List.drop_nil, List.all_cons, List.all_nil, Bool.and_self, Bool.and_true, Bool.true_and, Bool.and_false, Bool.false_and, splice, fillI, Nat.reduceLeDiff, strA, Nat.add_assoc, beq_self_eq_true, Bool.false_eq_true, bq_ft, bq_tf, Bool.not_true, Bool.not_false, Nat.le_refl, List.map_cons, List.map_nil, isNilA, nilPtr, nilSl, nilIf, nilFn, nilMap, nilCheckA, if_true, if_false, lt_lit, le_lit, lt_lit2, le_lit2, le_sub1, le_sub2, drawI, drawI2, drawI0, drawI20, lexD, valD, valI, putD, okD, roD, memAt, lastM, wantI, eqv_refl, eqM_refl, eqM_app, eqB, eqvL, eqv, List.getLast?_cons_cons, List.getLast?_singleton, Option.getD_some, Bool.or_true, Bool.true_or, beq_self_eq_true, resvV]; rfl), rfl, rfl⟩
      · rw [hc] at hX
        have e : k + nmN (s.drop k) = k + 1 + nmN (s.drop (k + 1)) := by rw [hb]; unfold nmN; rw [List.takeWhile_cons, hc]; simp; omega
        obtain ⟨t, ht, h0, h3⟩ := name_loop n at0 fuel (k + 1) (by omega) (by omega)
        have hw : IntKind.wrap .i64 ((k : Int) + 1) = ((k + 1 : Nat) : Int) := by rw [wrap64] <;> omega
        rw [e]
        refine ⟨t, ?_, h0, h3⟩
        refine loopA_go (H' := A ++ rdr s (k + 1) many :: B) (by simp only [loopNm, I57, IC.loops, List.getD_cons_zero, rdr, hi, hn, hget, hX, hw, List.append_nil, List.nil_append, List.cons_append, List.getD_cons_zero, List.getD_cons_succ, evI, opsI, stepI, wantI, opI, AAct.evI, look, AAct.put, mkVal, mkVM, intOpA, intA, shiftA, unA, decide_true, decide_false, Option.map_some, Option.map_none, reduceIte, Nat.reduceEqDiff, Nat.reduceLT, Option.bind_some, Option.bind_none, true_and, and_true, and_self, Nat.zero_lt_succ, cellsAt, List.length_append, Nat.le_add_right, List.length_cons, List.length_nil, Nat.zero_add, Nat.add_zero, Nat.reduceAdd, Nat.reduceMul, Nat.zero_mul, AV.cells, AV.one, known, List.append_assoc, getE_0, getE_k, setE_0, setE_k, List.getElem?_cons_zero, List.getElem?_cons_succ, List.set_cons_zero, List.set_cons_succ, List.take_succ_cons, List.take_zero, List.drop_zero, List.drop_succ_cons, List.drop_nil, List.all_cons, List.all_nil, Bool.and_self, Bool.and_true, Bool.true_and, Bool.and_false, Bool.false_and, splice, fillI, Nat.reduceLeDiff, strA, Nat.add_assoc, beq_self_eq_true, Bool.false_eq_true, bq_ft, bq_tf, Bool.not_true, Bool.not_false, Nat.le_refl, List.map_cons, List.map_nil, isNilA, nilPtr, nilSl, nilIf, nilFn, nilMap, nilCheckA, if_true, if_false, lt_lit, le_lit, lt_lit2, le_lit2, le_sub1, le_sub2, drawI, drawI2, drawI0, drawI20, lexD, valD, valI, putD, okD, roD, memAt, lastM, wantI, eqv_refl, eqM_refl, eqM_app, eqB, eqvL, eqv, List.getLast?_cons_cons, List.getLast?_singleton, Option.getD_some, Bool.or_true, Bool.true_or, beq_self_eq_true, resvV]; rfl) ?_
        rw [re_len (by simp)]
        exact ht
    · have hi : decide ((k : Int) < (s.length : Int)) = false := decide_eq_false (by omega)
      have e : nmN (s.drop k) = 0 := by rw [List.drop_eq_nil_of_le hge]; rfl
      rw [e, Nat.add_zero]
      exact ⟨_, loopA_exit (by simp only [loopNm, I57, IC.loops, List.getD_cons_zero, rdr, hi, List.append_nil, List.nil_append, List.cons_append, List.getD_cons_zero, List.getD_cons_succ, evI, opsI, stepI, wantI, opI, AAct.evI, look, AAct.put, mkVal, mkVM, intOpA, intA, shiftA, unA, decide_true, decide_false, Option.map_some, Option.map_none, reduceIte, Nat.reduceEqDiff, Nat.reduceLT, Option.bind_some, Option.bind_none, true_and, and_true, and_self, Nat.zero_lt_succ, cellsAt, List.length_append, Nat.le_add_right, List.length_cons, List.length_nil, Nat.zero_add, Nat.add_zero, Nat.reduceAdd, Nat.reduceMul, Nat.zero_mul, AV.cells, AV.one, known, List.append_assoc, getE_0, getE_k, setE_0, setE_k, List.getElem?_cons_zero, List.getElem?_cons_succ, List.set_cons_zero, List.set_cons_succ, List.take_succ_cons, List.take_zero, List.drop_zero, List.drop_succ_cons, List.drop_nil, List.all_cons, List.all_nil, Bool.and_self, Bool.and_true, Bool.true_and, Bool.and_false, Bool.false_and, splice, fillI, Nat.reduceLeDiff, strA, Nat.add_assoc, beq_self_eq_true, Bool.false_eq_true, bq_ft, bq_tf, Bool.not_true, Bool.not_false, Nat.le_refl, List.map_cons, List.map_nil, isNilA, nilPtr, nilSl, nilIf, nilFn, nilMap, nilCheckA, if_true, if_false, lt_lit, le_lit, lt_lit2, le_lit2, le_sub1, le_sub2, drawI, drawI2, drawI0, drawI20, lexD, valD, valI, putD, okD, roD, memAt, lastM, wantI, eqv_refl, eqM_refl, eqM_app, eqB, eqvL, eqv, List.getLast?_cons_cons, List.getLast?_singleton, Option.getD_some, Bool.or_true, Bool.true_or, beq_self_eq_true, resvV]; rfl), rfl, rfl⟩
theorem name_eq (hN : s.length < N) (at_ : Nat) (b : UInt8) (hb : s[at_]? = some b) (hf : fst8 b = true) (d : Nat) (hd : 3 ≤ d) :
    evFI P (cfg ml) T N d 57 [.ptr A.length 0 0] (A ++ rdr s at_ many :: B) = some (.ret (.str ((s.drop at_).take (nmN (s.drop at_)))), A ++ rdr s (at_ + nmN (s.drop at_)) many :: B) := by
  obtain ⟨n, rfl⟩ : ∃ n, d = n + 3 := ⟨d - 3, by omega⟩
  have hlt : at_ < s.length := (List.getElem?_eq_some_iff.1 hb).1
  obtain ⟨t, ht, h0, h3⟩ := name_loop (P := P) (N := N) (ml := ml) s many A B hs n at_ N at_ (by omega) (by omega)
  have hle : nmN (s.drop at_) ≤ s.length - at_ := by
    have := takeWhile_le nxt8 (s.drop at_)
    rw [List.length_drop] at this
    exact this
  have hi : decide ((at_ : Int) < (s.length : Int)) = true := decide_eq_true (by omega)
  have hn := natOf_nat at_ .i64
  have hX := fun H => isFirst_eq (ml := ml) P N (n + 1) (b.toNat : Int) H
  have hbl : nameFirst (b.toNat : Int) = true := hf
  rw [hbl] at hX
  have hM := fun H => must_t (P := P) (N := N) (ml := ml) (n + 2) (by omega) 10 H
  generalize nmN (s.drop at_) = m at *
  have hn2 := natOf_nat (at_ + m) .i64
  have h1 : at_ ≤ at_ + m := by omega
  have h2 : at_ + m ≤ s.length := by omega
  have h4 : at_ + m - at_ = m := by omega
  refine evF_ret (m := 70) (v := .str ((s.drop at_).take m)) (a := ?aa) (H1 := A ++ rdr s (at_ + m) many :: B) rfl t57 rfl ?hb ?hd ?hr ?hz
  case hb =>
    apply evI_seq
    · simp only [List.length_cons, List.length_nil, idx, I57, List.append_nil, List.nil_append, List.cons_append, List.getD_cons_zero, List.getD_cons_succ, evI, opsI, stepI, wantI, opI, AAct.evI, look, AAct.put, mkVal, mkVM, intOpA, intA, shiftA, unA, decide_true, decide_false, Option.map_some, Option.map_none, reduceIte, Nat.reduceEqDiff, Nat.reduceLT, Option.bind_some, Option.bind_none, true_and, and_true, and_self, Nat.zero_lt_succ, cellsAt, List.length_append, Nat.le_add_right, List.length_cons, List.length_nil, Nat.zero_add, Nat.add_zero, Nat.reduceAdd, Nat.reduceMul, Nat.zero_mul, AV.cells, AV.one, known, List.append_assoc, getE_0, getE_k, setE_0, setE_k, List.getElem?_cons_zero, List.getElem?_cons_succ, List.set_cons_zero, List.set_cons_succ, List.take_succ_cons, List.take_zero, List.drop_zero, List.drop_succ_cons, List.drop_nil, List.all_cons, List.all_nil, Bool.and_self, Bool.and_true, Bool.true_and, Bool.and_false, Bool.false_and, splice, fillI, Nat.reduceLeDiff, strA, Nat.add_assoc, beq_self_eq_true, Bool.false_eq_true, bq_ft, bq_tf, Bool.not_true, Bool.not_false, Nat.le_refl, List.map_cons, List.map_nil, isNilA, nilPtr, nilSl, nilIf, nilFn, nilMap, nilCheckA, if_true, if_false, lt_lit, le_lit, lt_lit2, le_lit2, le_sub1, le_sub2]; rfl
    apply evI_seq
    · simp only [rdr, List.append_nil, List.nil_append, List.cons_append, List.getD_cons_zero, List.getD_cons_succ, evI, opsI, stepI, wantI, opI, AAct.evI, look, AAct.put, mkVal, mkVM, intOpA, intA, shiftA, unA, decide_true, decide_false, Option.map_some, Option.map_none, reduceIte, Nat.reduceEqDiff, Nat.reduceLT, Option.bind_some, Option.bind_none, true_and, and_true, and_self, Nat.zero_lt_succ, cellsAt, List.length_append, Nat.le_add_right, List.length_cons, List.length_nil, Nat.zero_add, Nat.add_zero, Nat.reduceAdd, Nat.reduceMul, Nat.zero_mul, AV.cells, AV.one, known, List.append_assoc, getE_0, getE_k, setE_0, setE_k, List.getElem?_cons_zero, List.getElem?_cons_succ, List.set_cons_zero, List.set_cons_succ, List.take_succ_cons, List.take_zero, List.drop_zero, List.drop_succ_cons, List.drop_nil, List.all_cons, List.all_nil, Bool.and_self, Bool.and_true, Bool.true_and, Bool.and_false, Bool.false_and, splice, fillI, Nat.reduceLeDiff, strA, Nat.add_assoc, beq_self_eq_true, Bool.false_eq_true, bq_ft, bq_tf, Bool.not_true, Bool.not_false, Nat.le_refl, List.map_cons, List.map_nil, isNilA, nilPtr, nilSl, nilIf, nilFn, nilMap, nilCheckA, if_true, if_false, lt_lit, le_lit, lt_lit2, le_lit2, le_sub1, le_sub2]; rfl
    apply evI_seq
    · simp only [rdr, hi, hn, hb, hX, hM, List.append_nil, List.nil_append, List.cons_append, List.getD_cons_zero, List.getD_cons_succ, evI, opsI, stepI, wantI, opI, AAct.evI, look, AAct.put, mkVal, mkVM, intOpA, intA, shiftA, unA, decide_true, decide_false, Option.map_some, Option.map_none, reduceIte, Nat.reduceEqDiff, Nat.reduceLT, Option.bind_some, Option.bind_none, true_and, and_true, and_self, Nat.zero_lt_succ, cellsAt, List.length_append, Nat.le_add_right, List.length_cons, List.length_nil, Nat.zero_add, Nat.add_zero, Nat.reduceAdd, Nat.reduceMul, Nat.zero_mul, AV.cells, AV.one, known, List.append_assoc, getE_0, getE_k, setE_0, setE_k, List.getElem?_cons_zero, List.getElem?_cons_succ, List.set_cons_zero, List.set_cons_succ, List.take_succ_cons, List.take_zero, List.drop_zero, List.drop_succ_cons, List.drop_nil, List.all_cons, List.all_nil, Bool.and_self, Bool.and_true, Bool.true_and, Bool.and_false, Bool.false_and, splice, fillI, Nat.reduceLeDiff, strA, Nat.add_assoc, beq_self_eq_true, Bool.false_eq_true, bq_ft, bq_tf, Bool.not_true, Bool.not_false, Nat.le_refl, List.map_cons, List.map_nil, isNilA, nilPtr, nilSl, nilIf, nilFn, nilMap, nilCheckA, if_true, if_false, lt_lit, le_lit, lt_lit2, le_lit2, le_sub1, le_sub2, drawI, drawI2, drawI0, drawI20, lexD, valD, valI, putD, okD, roD, memAt, lastM, wantI, eqv_refl, eqM_refl, eqM_app, eqB, eqvL, eqv, List.getLast?_cons_cons, List.getLast?_singleton, Option.getD_some, Bool.or_true, Bool.true_or, beq_self_eq_true, resvV]; rfl
    apply evI_seq
    · apply evI_block_exit
      apply evI_loop
      exact ht
    simp only [rdr, h0, h3, bound, hn, hn2, h1, h2, h4, List.append_nil, List.nil_append, List.cons_append, List.getD_cons_zero, List.getD_cons_succ, evI, opsI, stepI, wantI, opI, AAct.evI, look, AAct.put, mkVal, mkVM, intOpA, intA, shiftA, unA, decide_true, decide_false, Option.map_some, Option.map_none, reduceIte, Nat.reduceEqDiff, Nat.reduceLT, Option.bind_some, Option.bind_none, true_and, and_true, and_self, Nat.zero_lt_succ, cellsAt, List.length_append, Nat.le_add_right, List.length_cons, List.length_nil, Nat.zero_add, Nat.add_zero, Nat.reduceAdd, Nat.reduceMul, Nat.zero_mul, AV.cells, AV.one, known, List.append_assoc, getE_0, getE_k, setE_0, setE_k, List.getElem?_cons_zero, List.getElem?_cons_succ, List.set_cons_zero, List.set_cons_succ, List.take_succ_cons, List.take_zero, List.drop_zero, List.drop_succ_cons, List.drop_nil, List.all_cons, List.all_nil, Bool.and_self, Bool.and_true, Bool.true_and, Bool.and_false, Bool.false_and, splice, fillI, Nat.reduceLeDiff, strA, Nat.add_assoc, beq_self_eq_true, Bool.false_eq_true, bq_ft, bq_tf, Bool.not_true, Bool.not_false, Nat.le_refl, List.map_cons, List.map_nil, isNilA, nilPtr, nilSl, nilIf, nilFn, nilMap, nilCheckA, if_true, if_false, lt_lit, le_lit, lt_lit2, le_lit2, le_sub1, le_sub2, drawI, drawI2, drawI0, drawI20, lexD, valD, valI, putD, okD, roD, memAt, lastM, wantI, eqv_refl, eqM_refl, eqM_app, eqB, eqvL, eqv, List.getLast?_cons_cons, List.getLast?_singleton, Option.getD_some, Bool.or_true, Bool.true_or, beq_self_eq_true, resvV]; rfl
  case hd => rfl
  case hr => simp only [I57, resI, resLI, look, reduceIte, Nat.reduceEqDiff, Option.map_some]
  case hz => exact fin_len rfl (by simp)
/-- A name that no colon follows. -/
theorem qual_plain (hN : s.length < N) (at_ : Nat) (b : UInt8) (hb : s[at_]? = some b) (hf : fst8 b = true) (hq : hasP (s.drop (at_ + nmN (s.drop at_))) [58] = false) (d : Nat) (hd : 5 ≤ d) :
    evFI P (cfg ml) T N d 64 [.ptr A.length 0 0] (A ++ rdr s at_ many :: B) = some (.ret (.tup [.str [], .str ((s.drop at_).take (nmN (s.drop at_)))]), A ++ rdr s (at_ + nmN (s.drop at_)) many :: B) := by
  obtain ⟨n, rfl⟩ : ∃ n, d = n + 5 := ⟨d - 5, by omega⟩
  have hlt : at_ < s.length := (List.getElem?_eq_some_iff.1 hb).1
  have hle : nmN (s.drop at_) ≤ s.length - at_ := by
    have := takeWhile_le nxt8 (s.drop at_)
    rw [List.length_drop] at this
    exact this
  have h1 := name_eq (P := P) (N := N) (ml := ml) s many A B hs hN at_ b hb hf (n + 4) (by omega)
  have h2 := take_f (P := P) (N := N) (ml := ml) s (at_ + nmN (s.drop at_)) many A B hs (by omega) (n + 4) (by omega) [58] hq
  refine evF_ret (m := 12) (v := .tup [.str [], .str ((s.drop at_).take (nmN (s.drop at_)))]) (a := ?aa) (H1 := A ++ rdr s (at_ + nmN (s.drop at_)) many :: B) rfl t64 rfl ?hb ?hd ?hr ?hz
  case hb => simp only [List.length_cons, List.length_nil, idx, I64, h1, h2, List.append_nil, List.nil_append, List.cons_append, List.getD_cons_zero, List.getD_cons_succ, evI, opsI, stepI, wantI, opI, AAct.evI, look, AAct.put, mkVal, mkVM, intOpA, intA, shiftA, unA, decide_true, decide_false, Option.map_some, Option.map_none, reduceIte, Nat.reduceEqDiff, Nat.reduceLT, Option.bind_some, Option.bind_none, true_and, and_true, and_self, Nat.zero_lt_succ, cellsAt, List.length_append, Nat.le_add_right, List.length_cons, List.length_nil, Nat.zero_add, Nat.add_zero, Nat.reduceAdd, Nat.reduceMul, Nat.zero_mul, AV.cells, AV.one, known, List.append_assoc, getE_0, getE_k, setE_0, setE_k, List.getElem?_cons_zero, List.getElem?_cons_succ, List.set_cons_zero, List.set_cons_succ, List.take_succ_cons, List.take_zero, List.drop_zero, List.drop_succ_cons, List.drop_nil, List.all_cons, List.all_nil, Bool.and_self, Bool.and_true, Bool.true_and, Bool.and_false, Bool.false_and, splice, fillI, Nat.reduceLeDiff, strA, Nat.add_assoc, beq_self_eq_true, Bool.false_eq_true, bq_ft, bq_tf, Bool.not_true, Bool.not_false, Nat.le_refl, List.map_cons, List.map_nil, isNilA, nilPtr, nilSl, nilIf, nilFn, nilMap, nilCheckA, if_true, if_false, lt_lit, le_lit, lt_lit2, le_lit2, le_sub1, le_sub2]; rfl
  case hd => rfl
  case hr => simp only [I64, resI, resLI, look, reduceIte, Nat.reduceEqDiff, Option.map_some]
  case hz => exact fin_len rfl (by simp)
/-- A name behind a prefix. -/
theorem qual_pre (hN : s.length < N) (at_ : Nat) (b c : UInt8) (hb : s[at_]? = some b) (hf : fst8 b = true) (hq : hasP (s.drop (at_ + nmN (s.drop at_))) [58] = true) (at2 : Nat) (h2a : at2 = at_ + nmN (s.drop at_) + 1) (hc : s[at2]? = some c) (hf2 : fst8 c = true) (d : Nat) (hd : 5 ≤ d) :
    evFI P (cfg ml) T N d 64 [.ptr A.length 0 0] (A ++ rdr s at_ many :: B) = some (.ret (.tup [.str ((s.drop at_).take (nmN (s.drop at_))), .str ((s.drop at2).take (nmN (s.drop at2)))]), A ++ rdr s (at2 + nmN (s.drop at2)) many :: B) := by
  obtain ⟨n, rfl⟩ : ∃ n, d = n + 5 := ⟨d - 5, by omega⟩
  have hlt : at_ < s.length := (List.getElem?_eq_some_iff.1 hb).1
  have hle : nmN (s.drop at_) ≤ s.length - at_ := by
    have := takeWhile_le nxt8 (s.drop at_)
    rw [List.length_drop] at this
    exact this
  have h1 := name_eq (P := P) (N := N) (ml := ml) s many A B hs hN at_ b hb hf (n + 4) (by omega)
  have h2 := take_t (P := P) (N := N) (ml := ml) s (at_ + nmN (s.drop at_)) many A B hs (by omega) (n + 4) (by omega) [58] hq
  have h3 := name_eq (P := P) (N := N) (ml := ml) s many A B hs hN at2 c hc hf2 (n + 4) (by omega)
  simp only [List.length_cons, List.length_nil, Nat.zero_add] at h2
  rw [← h2a] at h2
  refine evF_ret (m := 12) (v := .tup [.str ((s.drop at_).take (nmN (s.drop at_))), .str ((s.drop at2).take (nmN (s.drop at2)))]) (a := ?aa) (H1 := A ++ rdr s (at2 + nmN (s.drop at2)) many :: B) rfl t64 rfl ?hb ?hd ?hr ?hz
  case hb => simp only [List.length_cons, List.length_nil, idx, I64, h1, h2, h3, List.append_nil, List.nil_append, List.cons_append, List.getD_cons_zero, List.getD_cons_succ, evI, opsI, stepI, wantI, opI, AAct.evI, look, AAct.put, mkVal, mkVM, intOpA, intA, shiftA, unA, decide_true, decide_false, Option.map_some, Option.map_none, reduceIte, Nat.reduceEqDiff, Nat.reduceLT, Option.bind_some, Option.bind_none, true_and, and_true, and_self, Nat.zero_lt_succ, cellsAt, List.length_append, Nat.le_add_right, List.length_cons, List.length_nil, Nat.zero_add, Nat.add_zero, Nat.reduceAdd, Nat.reduceMul, Nat.zero_mul, AV.cells, AV.one, known, List.append_assoc, getE_0, getE_k, setE_0, setE_k, List.getElem?_cons_zero, List.getElem?_cons_succ, List.set_cons_zero, List.set_cons_succ, List.take_succ_cons, List.take_zero, List.drop_zero, List.drop_succ_cons, List.drop_nil, List.all_cons, List.all_nil, Bool.and_self, Bool.and_true, Bool.true_and, Bool.and_false, Bool.false_and, splice, fillI, Nat.reduceLeDiff, strA, Nat.add_assoc, beq_self_eq_true, Bool.false_eq_true, bq_ft, bq_tf, Bool.not_true, Bool.not_false, Nat.le_refl, List.map_cons, List.map_nil, isNilA, nilPtr, nilSl, nilIf, nilFn, nilMap, nilCheckA, if_true, if_false, lt_lit, le_lit, lt_lit2, le_lit2, le_sub1, le_sub2]; rfl
  case hd => rfl
  case hr => simp only [I64, resI, resLI, look, reduceIte, Nat.reduceEqDiff, Option.map_some]
  case hz => exact fin_len rfl (by simp)
noncomputable def loopMi : IC := (I37.c.loops).getD 0 .bad
/-- No misc stands here. -/
theorem misc_no (hN : s.length < N) (at_ : Nat) (hat : at_ ≤ s.length) (ah : Bool) (h0 : blN (s.drop at_) = 0) (h1 : hasP (s.drop at_) [60, 33, 45, 45] = false) (h2 : hasP (s.drop at_) [60, 63] = false) (h3 : ah = true → hasP (s.drop at_) [60, 33, 68, 79, 67, 84, 89, 80, 69] = false) (d : Nat) (hd : 5 ≤ d) :
    evFI P (cfg ml) T N d 37 [.ptr A.length 0 0, .bool ah] (A ++ rdr s at_ many :: B) = some (.ret (.tup []), A ++ rdr s at_ many :: B) := by
  obtain ⟨n, rfl⟩ : ∃ n, d = n + 5 := ⟨d - 5, by omega⟩
  have e0 := blank_eq (P := P) (N := N) (ml := ml) s many A B hs hN at_ hat (n + 4) (by omega)
  rw [h0] at e0
  simp only [Nat.add_zero, Nat.lt_irrefl, decide_false] at e0
  have e1 := has_eq (P := P) (N := N) (ml := ml) s at_ many A B hat (n + 4) (by omega) [60, 33, 45, 45]
  have e2 := has_eq (P := P) (N := N) (ml := ml) s at_ many A B hat (n + 4) (by omega) [60, 63]
  have e3 := has_eq (P := P) (N := N) (ml := ml) s at_ many A B hat (n + 4) (by omega) [60, 33, 68, 79, 67, 84, 89, 80, 69]
  rw [h1] at e1
  rw [h2] at e2
  obtain ⟨N, rfl⟩ : ∃ m, N = m + 1 := ⟨N - 1, by omega⟩
  cases ah
  · refine evF_ret (m := 24) (v := .tup []) (a := ?aa) (H1 := A ++ rdr s at_ many :: B) rfl t37 rfl ?hb ?hd ?hr ?hz
    case hb =>
      apply evI_block_ret
      apply evI_loop
      apply loopA_ret
      simp only [List.length_cons, List.length_nil, idx, I37, AAct.keepT, e0, e1, e2, List.append_nil, List.nil_append, List.cons_append, List.getD_cons_zero, List.getD_cons_succ, evI, opsI, stepI, wantI, opI, AAct.evI, look, AAct.put, mkVal, mkVM, intOpA, intA, shiftA, unA, decide_true, decide_false, Option.map_some, Option.map_none, reduceIte, Nat.reduceEqDiff, Nat.reduceLT, Option.bind_some, Option.bind_none, true_and, and_true, and_self, Nat.zero_lt_succ, cellsAt, List.length_append, Nat.le_add_right, List.length_cons, List.length_nil, Nat.zero_add, Nat.add_zero, Nat.reduceAdd, Nat.reduceMul, Nat.zero_mul, AV.cells, AV.one, known, List.append_assoc, getE_0, getE_k, setE_0, setE_k, List.getElem?_cons_zero, List.getElem?_cons_succ, List.set_cons_zero, List.set_cons_succ, List.take_succ_cons, List.take_zero, List.drop_zero, List.drop_succ_cons, List.drop_nil, List.all_cons, List.all_nil, Bool.and_self, Bool.and_true, Bool.true_and, Bool.and_false, Bool.false_and, splice, fillI, Nat.reduceLeDiff, strA, Nat.add_assoc, beq_self_eq_true, Bool.false_eq_true, bq_ft, bq_tf, Bool.not_true, Bool.not_false, Nat.le_refl, List.map_cons, List.map_nil, isNilA, nilPtr, nilSl, nilIf, nilFn, nilMap, nilCheckA, if_true, if_false, lt_lit, le_lit, lt_lit2, le_lit2, le_sub1, le_sub2]; rfl
    case hd => rfl
    case hr => simp only [I37, resI, resLI, look, reduceIte, Nat.reduceEqDiff, Option.map_some]
    case hz => exact fin_len rfl rfl
  · rw [h3 rfl] at e3
    refine evF_ret (m := 24) (v := .tup []) (a := ?ab) (H1 := A ++ rdr s at_ many :: B) rfl t37 rfl ?hb ?hd ?hr ?hz
    case hb =>
      apply evI_block_ret
      apply evI_loop
      apply loopA_ret
      simp only [List.length_cons, List.length_nil, idx, I37, AAct.keepT, e0, e1, e2, e3, List.append_nil, List.nil_append, List.cons_append, List.getD_cons_zero, List.getD_cons_succ, evI, opsI, stepI, wantI, opI, AAct.evI, look, AAct.put, mkVal, mkVM, intOpA, intA, shiftA, unA, decide_true, decide_false, Option.map_some, Option.map_none, reduceIte, Nat.reduceEqDiff, Nat.reduceLT, Option.bind_some, Option.bind_none, true_and, and_true, and_self, Nat.zero_lt_succ, cellsAt, List.length_append, Nat.le_add_right, List.length_cons, List.length_nil, Nat.zero_add, Nat.add_zero, Nat.reduceAdd, Nat.reduceMul, Nat.zero_mul, AV.cells, AV.one, known, List.append_assoc, getE_0, getE_k, setE_0, setE_k, List.getElem?_cons_zero, List.getElem?_cons_succ, List.set_cons_zero, List.set_cons_succ, List.take_succ_cons, List.take_zero, List.drop_zero, List.drop_succ_cons, List.drop_nil, List.all_cons, List.all_nil, Bool.and_self, Bool.and_true, Bool.true_and, Bool.and_false, Bool.false_and, splice, fillI, Nat.reduceLeDiff, strA, Nat.add_assoc, beq_self_eq_true, Bool.false_eq_true, bq_ft, bq_tf, Bool.not_true, Bool.not_false, Nat.le_refl, List.map_cons, List.map_nil, isNilA, nilPtr, nilSl, nilIf, nilFn, nilMap, nilCheckA, if_true, if_false, lt_lit, le_lit, lt_lit2, le_lit2, le_sub1, le_sub2]; rfl
    case hd => rfl
    case hr => simp only [I37, resI, resLI, look, reduceIte, Nat.reduceEqDiff, Option.map_some]
    case hz => exact fin_len rfl rfl
end
end Go.Proofs.YtmnajffpmbidiaaGreatDoor.Ev
