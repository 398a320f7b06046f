/- Parts of one proof, one behind the other: The reader of xml: an element that is too deep, or whose content is none, reckoned with letters. -/
import Derived.Test.YtmnajffpmbidiaaGreatDoorMdg
/- The reader of xml: an element that is too deep, or whose content is none, reckoned with letters. -/
namespace Go.Proofs.YtmnajffpmbidiaaGreatDoor.Ev
set_option linter.all false
variable {ml : Int}
open Go.Proofs.YtmnajffpmbidiaaGreatDoor.Ic
set_option maxRecDepth 100000
set_option maxHeartbeats 4000000
set_option linter.unusedSimpArgs false
set_option linter.unusedSectionVars false
set_option linter.unusedVariables false
section
variable {N : Nat}
variable (s : List UInt8) (hs : s.length < 4294967281) (hN : s.length < N)
include hs hN
theorem elem_full (at_ many : Nat) (A B : Mem) (mi : Nat) (dp : Nat) (b : UInt8)
    (h1 : s[at_]? = some 60) (at1 : Nat) (e1 : at1 = at_ + 1) (h2 : s[at1]? = some b) (hf : fst8 b = true) (hmany : many < 16384) (hdp : 256 < dp) (d : Nat) (hd : 7 ≤ d) :
    ∃ M, evFI Tryz.prog (cfg ml) T N d 38 [.ptr A.length 0 0, .map mi, .int .i64 (dp : Nat)] (A ++ rdr s at_ many :: B) = some (.pan (failv 6), M) ∧ M.take A.length = A := by
  obtain ⟨n, rfl⟩ : ∃ n, d = n + 7 := ⟨d - 7, by omega⟩
  have hlt : at1 < s.length := (List.getElem?_eq_some_iff.1 h2).1
  have h22 : s[at_ + 1]? = some b := by rw [← e1]; exact h2
  let B1 : Mem := B ++ [r27 [] []]
  have q1 := has_eq (P := Tryz.prog) (N := N) (ml := ml) s at_ many A B1 (by omega) (n + 6) (by omega) [60]
  rw [hasP_head s at_ 60 h1] at q1
  have q2 : evFI Tryz.prog (cfg ml) T N (n + 6) 35 [.ptr A.length 0 0, .int .i64 1] (A ++ rdr s at_ many :: B1) = some (.ret (.int .u8 b.toNat), A ++ rdr s at_ many :: B1) := byteAt_in (P := Tryz.prog) (N := N) (ml := ml) s at_ many A B1 (by omega) (n + 6) (by omega) 1 b h22 hs
  have q3 := fun H => isFirst_eq (ml := ml) Tryz.prog N (n + 5) (b.toNat : Int) H
  rw [show nameFirst (b.toNat : Int) = true from hf] at q3
  have q4 := fun e H => must_t (P := Tryz.prog) (N := N) (ml := ml) (n + 6) (by omega) e H
  have q5 := fun e H => must_f (P := Tryz.prog) (N := N) (ml := ml) (n + 6) (by omega) e H
  have c1 : decide ((many : Int) < 16384) = true := decide_eq_true (by omega)
  have c2 : decide ((dp : Int) ≤ 256) = false := decide_eq_false (by omega)
  simp only [B1] at q1 q2
  obtain ⟨M, hM, hMA⟩ := fin_fail 6 (A := A) (H0 := A ++ rdr s at_ many :: B) (H1 := A ++ rdr s at_ many :: (B ++ [r27 [] []])) (take_A _ _) (by simp)
  refine ⟨M, ?_, hMA⟩
  refine evF_pan (m := 126) (v := failv 6) (a := ?aa) (H1 := A ++ rdr s at_ many :: (B ++ [r27 [] []])) rfl t38 rfl ?hb ?hd hM
  case hb =>
    rw [elem_split]
    apply evI_seq
    · simp only [List.length_cons, List.length_nil, idx, pcE, IC.nb, IC.hd, I38, List.append_nil, List.nil_append, List.cons_append, List.getD_cons_zero, List.getD_cons_succ, evI, opsI, stepI, wantI, opI, AAct.evI, look, AAct.put, mkVal, mkVM, intOpA, intA, shiftA, unA, decide_true, decide_false, Option.map_some, Option.map_none, reduceIte, Nat.reduceEqDiff, Nat.reduceLT, Option.bind_some, Option.bind_none, true_and, and_true, and_self, Nat.zero_lt_succ, cellsAt, List.length_append, Nat.le_add_right, List.length_cons, List.length_nil, Nat.zero_add, Nat.add_zero, Nat.reduceAdd, Nat.reduceMul, Nat.zero_mul, AV.cells, AV.one, known, List.append_assoc, getE_0, getE_k, setE_0, setE_k, List.getElem?_cons_zero, List.getElem?_cons_succ, List.set_cons_zero, List.set_cons_succ, List.take_succ_cons, List.take_zero, List.drop_zero, List.drop_succ_cons, List.drop_nil, List.all_cons, List.all_nil, Bool.and_self, Bool.and_true, Bool.true_and, Bool.and_false, Bool.false_and, splice, fillI, Nat.reduceLeDiff, strA, Nat.add_assoc, beq_self_eq_true, Bool.false_eq_true, bq_ft, bq_tf, Bool.not_true, Bool.not_false, Nat.le_refl, List.map_cons, List.map_nil, isNilA, nilPtr, nilSl, nilIf, nilFn, nilMap, nilCheckA, if_true, if_false, lt_lit, le_lit, lt_lit2, le_lit2, le_sub1, le_sub2]; rfl
    apply evI_seq
    · simp only [pcE, IC.nb, IC.hd, I38, q1, q2, q3, q4, List.append_nil, List.nil_append, List.cons_append, List.getD_cons_zero, List.getD_cons_succ, evI, opsI, stepI, wantI, opI, AAct.evI, look, AAct.put, mkVal, mkVM, intOpA, intA, shiftA, unA, decide_true, decide_false, Option.map_some, Option.map_none, reduceIte, Nat.reduceEqDiff, Nat.reduceLT, Option.bind_some, Option.bind_none, true_and, and_true, and_self, Nat.zero_lt_succ, cellsAt, List.length_append, Nat.le_add_right, List.length_cons, List.length_nil, Nat.zero_add, Nat.add_zero, Nat.reduceAdd, Nat.reduceMul, Nat.zero_mul, AV.cells, AV.one, known, List.append_assoc, getE_0, getE_k, setE_0, setE_k, List.getElem?_cons_zero, List.getElem?_cons_succ, List.set_cons_zero, List.set_cons_succ, List.take_succ_cons, List.take_zero, List.drop_zero, List.drop_succ_cons, List.drop_nil, List.all_cons, List.all_nil, Bool.and_self, Bool.and_true, Bool.true_and, Bool.and_false, Bool.false_and, splice, fillI, Nat.reduceLeDiff, strA, Nat.add_assoc, beq_self_eq_true, Bool.false_eq_true, bq_ft, bq_tf, Bool.not_true, Bool.not_false, Nat.le_refl, List.map_cons, List.map_nil, isNilA, nilPtr, nilSl, nilIf, nilFn, nilMap, nilCheckA, if_true, if_false, lt_lit, le_lit, lt_lit2, le_lit2, le_sub1, le_sub2]; rfl
    apply evI_seq_pan
    simp only [pcE, IC.nb, IC.hd, I38, rdr, c1, c2, q5, List.append_nil, List.nil_append, List.cons_append, List.getD_cons_zero, List.getD_cons_succ, evI, opsI, stepI, wantI, opI, AAct.evI, look, AAct.put, mkVal, mkVM, intOpA, intA, shiftA, unA, decide_true, decide_false, Option.map_some, Option.map_none, reduceIte, Nat.reduceEqDiff, Nat.reduceLT, Option.bind_some, Option.bind_none, true_and, and_true, and_self, Nat.zero_lt_succ, cellsAt, List.length_append, Nat.le_add_right, List.length_cons, List.length_nil, Nat.zero_add, Nat.add_zero, Nat.reduceAdd, Nat.reduceMul, Nat.zero_mul, AV.cells, AV.one, known, List.append_assoc, getE_0, getE_k, setE_0, setE_k, List.getElem?_cons_zero, List.getElem?_cons_succ, List.set_cons_zero, List.set_cons_succ, List.take_succ_cons, List.take_zero, List.drop_zero, List.drop_succ_cons, List.drop_nil, List.all_cons, List.all_nil, Bool.and_self, Bool.and_true, Bool.true_and, Bool.and_false, Bool.false_and, splice, fillI, Nat.reduceLeDiff, strA, Nat.add_assoc, beq_self_eq_true, Bool.false_eq_true, bq_ft, bq_tf, Bool.not_true, Bool.not_false, Nat.le_refl, List.map_cons, List.map_nil, isNilA, nilPtr, nilSl, nilIf, nilFn, nilMap, nilCheckA, if_true, if_false, lt_lit, le_lit, lt_lit2, le_lit2, le_sub1, le_sub2]; rfl
  case hd => rfl
theorem elem_cpan (at_ many : Nat) (A B : Mem) (mi : Nat) (nsv : List UInt8) (dp : Nat) (hm : ∀ L : Mem, ∀ a m, (A ++ rdr s a m :: (B ++ L))[mi]? = some (scope1 nsv)) (b : UInt8)
    (h1 : s[at_]? = some 60) (at1 : Nat) (e1 : at1 = at_ + 1) (h2 : s[at1]? = some b) (hf : fst8 b = true) (m : Nat) (hmn : m = nmN (s.drop at1)) (at2 : Nat) (e2 : at2 = at1 + m) (hq : hasP (s.drop at2) [58] = false)
    (hk : 0 = blN (s.drop at2)) (hc : s[at2]? = some 62) (hmany : many < 16384) (hdp : dp ≤ 256) (at4 : Nat) (e4 : at4 = at2 + 1) (d : Nat) (hd : 7 ≤ d) (er : Int)
    (hC : ∀ dd, dd + 1 = d → ∃ M, evFI Tryz.prog (cfg ml) T N dd 67 [.ptr A.length 0 0, .map (A.length + (B.length + 2)), .int .i64 (dp : Nat)] (A ++ rdr s at4 (many + 1) :: (B ++ [r27 [] [], scope1 nsv, .miter mi 1, r27 [] ((s.drop at1).take m)])) = some (.pan (failv er), M) ∧ M.take A.length = A) :
    ∃ M, evFI Tryz.prog (cfg ml) T N d 38 [.ptr A.length 0 0, .map mi, .int .i64 (dp : Nat)] (A ++ rdr s at_ many :: B) = some (.pan (failv er), M) ∧ M.take A.length = A := by
  obtain ⟨n, rfl⟩ : ∃ n, d = n + 7 := ⟨d - 7, by omega⟩
  obtain ⟨t, l0, l2, l6, l7, l8, l10, l11, l13, hpre⟩ := elem_pre (ml := ml) s hs hN n at_ many A B mi nsv dp hm b false h1 at1 e1 h2 hf m hmn at2 e2 hq 0 hk at2 rfl 62 hc (by decide) (hasP_other s at2 62 47 [62] hc (by decide)) (fun _ => rfl) at4 e4 hmany hdp
  obtain ⟨M1, qC, hM1⟩ := hC (n + 6) rfl
  generalize hNM : (s.drop at1).take m = nm at *
  have hle : ∀ {A M : Mem}, M.take A.length = A → A.length ≤ M.length := fun {A M} h => by
    have := congrArg List.length h
    rw [List.length_take] at this
    omega
  obtain ⟨M, hM, hMA⟩ := fin_fail er (A := A) (H0 := A ++ rdr s at_ many :: B) (H1 := M1) hM1 (by simp)
  refine ⟨M, ?_, hMA⟩
  refine evF_pan (m := 126) (v := failv er) (a := ?aa) (H1 := M1) rfl t38 rfl ?hb ?hd hM
  case hb =>
    refine hpre.trans ?_
    rw [rest_split]
    apply evI_seq_pan
    · apply evI_seq
      · simp only [pcE, IC.nb, IC.hd, I38, l10, List.append_nil, List.nil_append, List.cons_append, List.getD_cons_zero, List.getD_cons_succ, evI, opsI, stepI, wantI, opI, AAct.evI, look, AAct.put, mkVal, mkVM, intOpA, intA, shiftA, unA, decide_true, decide_false, Option.map_some, Option.map_none, reduceIte, Nat.reduceEqDiff, Nat.reduceLT, Option.bind_some, Option.bind_none, true_and, and_true, and_self, Nat.zero_lt_succ, cellsAt, List.length_append, Nat.le_add_right, List.length_cons, List.length_nil, Nat.zero_add, Nat.add_zero, Nat.reduceAdd, Nat.reduceMul, Nat.zero_mul, AV.cells, AV.one, known, List.append_assoc, getE_0, getE_k, setE_0, setE_k, List.getElem?_cons_zero, List.getElem?_cons_succ, List.set_cons_zero, List.set_cons_succ, List.take_succ_cons, List.take_zero, List.drop_zero, List.drop_succ_cons, List.drop_nil, List.all_cons, List.all_nil, Bool.and_self, Bool.and_true, Bool.true_and, Bool.and_false, Bool.false_and, splice, fillI, Nat.reduceLeDiff, strA, Nat.add_assoc, beq_self_eq_true, Bool.false_eq_true, bq_ft, bq_tf, Bool.not_true, Bool.not_false, Nat.le_refl, List.map_cons, List.map_nil, isNilA, nilPtr, nilSl, nilIf, nilFn, nilMap, nilCheckA, if_true, if_false, lt_lit, le_lit, lt_lit2, le_lit2, le_sub1, le_sub2]; rfl
      apply evI_true rfl
      apply evI_seq_pan
      simp only [ccE, pcE, IC.nb, IC.hd, IC.sx, I38, l0, l2, l11, l13, qC, List.append_nil, List.nil_append, List.cons_append, List.getD_cons_zero, List.getD_cons_succ, evI, opsI, stepI, wantI, opI, AAct.evI, look, AAct.put, mkVal, mkVM, intOpA, intA, shiftA, unA, decide_true, decide_false, Option.map_some, Option.map_none, reduceIte, Nat.reduceEqDiff, Nat.reduceLT, Option.bind_some, Option.bind_none, true_and, and_true, and_self, Nat.zero_lt_succ, cellsAt, List.length_append, Nat.le_add_right, List.length_cons, List.length_nil, Nat.zero_add, Nat.add_zero, Nat.reduceAdd, Nat.reduceMul, Nat.zero_mul, AV.cells, AV.one, known, List.append_assoc, getE_0, getE_k, setE_0, setE_k, List.getElem?_cons_zero, List.getElem?_cons_succ, List.set_cons_zero, List.set_cons_succ, List.take_succ_cons, List.take_zero, List.drop_zero, List.drop_succ_cons, List.drop_nil, List.all_cons, List.all_nil, Bool.and_self, Bool.and_true, Bool.true_and, Bool.and_false, Bool.false_and, splice, fillI, Nat.reduceLeDiff, strA, Nat.add_assoc, beq_self_eq_true, Bool.false_eq_true, bq_ft, bq_tf, Bool.not_true, Bool.not_false, Nat.le_refl, List.map_cons, List.map_nil, isNilA, nilPtr, nilSl, nilIf, nilFn, nilMap, nilCheckA, if_true, if_false, lt_lit, le_lit, lt_lit2, le_lit2, le_sub1, le_sub2]; rfl
  case hd => rfl
end
end Go.Proofs.YtmnajffpmbidiaaGreatDoor.Ev
