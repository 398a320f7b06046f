/- Parts of one proof. -/
import Derived.Test.YtmnajffpmbidiaaGreatDoorMdd
import Derived.Test.YtmnajffpmbidiaaGreatDoorMdb
import Derived.Lib.DecodeN
import Derived.Lib.ValidLaws
set_option linter.all false
namespace Go.Proofs.YtmnajffpmbidiaaGreatDoor.Ev
variable {ml : Int}
open Go.Proofs.YtmnajffpmbidiaaGreatDoor.Ic
set_option maxRecDepth 100000
set_option maxHeartbeats 4000000
def IC.sx : IC → IC
  | .cond _ x _ => x
  | c => c
noncomputable def ccE (n : Nat) : IC := ((((pcE 12).nb 1).sx).nb n).hd
noncomputable def ccL : IC := (((pcE 12).nb 1).sx).nb 5
noncomputable def endE : IC := I38.c.nb 13
theorem rest_split : restE = .seq (.seq (pcE 12).hd (.cond (.tmp 99) (.seq (ccE 0) (.seq (ccE 1) (.seq (ccE 2) (.seq (ccE 3) (.seq (ccE 4) ccL))))) .skip)) endE := rfl
theorem take_rdr (A B C : Mem) (x y : Blk) : (A ++ x :: (B ++ C)).take (A ++ y :: B).length = A ++ x :: B := by
  have h : A ++ x :: (B ++ C) = (A ++ x :: B) ++ C := by simp
  rw [h]
  exact List.take_left' (by simp)
theorem take_A (A L : Mem) : (A ++ L).take A.length = A := by simp
section
variable {N : Nat}
variable (s : List UInt8) (hs : s.length < 4294967281) (hN : s.length < N)
include hs hN
theorem elem_short (at_ many : Nat) (A B : Mem) (hlo : LoM A B) (mi : Nat) (nsv : List UInt8) (dp : Nat) (hm : ∀ L : Mem, ∀ a m, (A ++ rdr s a m :: (B ++ L))[mi]? = some (scope1 nsv)) (b : UInt8)
    (h1 : s[at_]? = some 60) (at1 : Nat) (e1 : at1 = at_ + 1) (h2 : s[at1]? = some b) (hf : fst8 b = true) (m : Nat) (hmn : m = nmN (s.drop at1)) (at2 : Nat) (e2 : at2 = at1 + m) (hq : hasP (s.drop at2) [58] = false)
    (k : Nat) (hk : k = blN (s.drop at2)) (at3 : Nat) (e3 : at3 = at2 + k) (hc : s[at3]? = some 47)
    (he : hasP (s.drop at3) [47, 62] = true) (hmany : many < 16384) (hdp : dp ≤ 256) (d : Nat) (hd : 7 ≤ d) :
    evFI Tryz.prog (cfg ml) T N d 38 [.ptr A.length 0 0, .map mi, .int .i64 (dp : Nat)] (A ++ rdr s at_ many :: B) = some (.ret (.agg [.str [], .str ((s.drop at1).take m), .str [], .lst 0 [], .lst 0 []]), A ++ rdr s (at3 + 2) (many + 1) :: B) := by
  obtain ⟨n, rfl⟩ : ∃ n, d = n + 7 := ⟨d - 7, by omega⟩
  obtain ⟨t, l0, l2, l6, l7, l8, l10, l11, l13, hpre⟩ := elem_pre (ml := ml) s hs hN n at_ many A B mi nsv dp hm b true h1 at1 e1 h2 hf m hmn at2 e2 hq k hk at3 e3 47 hc (by decide) he (fun h => by cases h) (at3 + 2) rfl hmany hdp
  generalize (s.drop at1).take m = nm at *
  generalize at3 + 2 = at4 at *
  refine evF_ret (m := 126) (v := .agg [.str [], .str nm, .str [], .nilS, .nilS]) (a := ?aa) (H1 := A ++ rdr s at4 (many + 1) :: (B ++ [r27 [] nm, scope1 nsv, .miter mi 1, r27 [] nm])) rfl t38 rfl ?hb ?hd ?hr ?hz
  case hb =>
    refine hpre.trans ?_
    rw [rest_split]
    apply evI_seq
    · apply evI_seq
      · simp only [pcE, IC.nb, IC.hd, I38, l10, List.append_nil, List.nil_append, List.cons_append, List.getD_cons_zero, List.getD_cons_succ, evI, opsI, stepI, wantI, opI, AAct.evI, look, AAct.put, mkVal, mkVM, intOpA, intA, shiftA, unA, decide_true, decide_false, Option.map_some, Option.map_none, reduceIte, Nat.reduceEqDiff, Nat.reduceLT, Option.bind_some, Option.bind_none, true_and, and_true, and_self, Nat.zero_lt_succ, cellsAt, List.length_append, Nat.le_add_right, List.length_cons, List.length_nil, Nat.zero_add, Nat.add_zero, Nat.reduceAdd, Nat.reduceMul, Nat.zero_mul, AV.cells, AV.one, known, List.append_assoc, getE_0, getE_k, setE_0, setE_k, List.getElem?_cons_zero, List.getElem?_cons_succ, List.set_cons_zero, List.set_cons_succ, List.take_succ_cons, List.take_zero, List.drop_zero, List.drop_succ_cons, List.drop_nil, List.all_cons, List.all_nil, Bool.and_self, Bool.and_true, Bool.true_and, Bool.and_false, Bool.false_and, splice, fillI, Nat.reduceLeDiff, strA, Nat.add_assoc, beq_self_eq_true, Bool.false_eq_true, bq_ft, bq_tf, Bool.not_true, Bool.not_false, Nat.le_refl, List.map_cons, List.map_nil, isNilA, nilPtr, nilSl, nilIf, nilFn, nilMap, nilCheckA, if_true, if_false, lt_lit, le_lit, lt_lit2, le_lit2, le_sub1, le_sub2]; rfl
      apply evI_false rfl
      rfl
    simp only [endE, IC.nb, IC.hd, I38, l6, l13, List.append_nil, List.nil_append, List.cons_append, List.getD_cons_zero, List.getD_cons_succ, evI, opsI, stepI, wantI, opI, AAct.evI, look, AAct.put, mkVal, mkVM, intOpA, intA, shiftA, unA, decide_true, decide_false, Option.map_some, Option.map_none, reduceIte, Nat.reduceEqDiff, Nat.reduceLT, Option.bind_some, Option.bind_none, true_and, and_true, and_self, Nat.zero_lt_succ, cellsAt, List.length_append, Nat.le_add_right, List.length_cons, List.length_nil, Nat.zero_add, Nat.add_zero, Nat.reduceAdd, Nat.reduceMul, Nat.zero_mul, AV.cells, AV.one, known, List.append_assoc, getE_0, getE_k, setE_0, setE_k, List.getElem?_cons_zero, List.getElem?_cons_succ, List.set_cons_zero, List.set_cons_succ, List.take_succ_cons, List.take_zero, List.drop_zero, List.drop_succ_cons, List.drop_nil, List.all_cons, List.all_nil, Bool.and_self, Bool.and_true, Bool.true_and, Bool.and_false, Bool.false_and, splice, fillI, Nat.reduceLeDiff, strA, Nat.add_assoc, beq_self_eq_true, Bool.false_eq_true, bq_ft, bq_tf, Bool.not_true, Bool.not_false, Nat.le_refl, List.map_cons, List.map_nil, isNilA, nilPtr, nilSl, nilIf, nilFn, nilMap, nilCheckA, if_true, if_false, lt_lit, le_lit, lt_lit2, le_lit2, le_sub1, le_sub2]; rfl
  case hd => rfl
  case hr => simp only [I38, resI, resLI, l6, List.append_nil, List.nil_append, List.cons_append, List.getD_cons_zero, List.getD_cons_succ, evI, opsI, stepI, wantI, opI, AAct.evI, look, AAct.put, mkVal, mkVM, intOpA, intA, shiftA, unA, decide_true, decide_false, Option.map_some, Option.map_none, reduceIte, Nat.reduceEqDiff, Nat.reduceLT, Option.bind_some, Option.bind_none, true_and, and_true, and_self, Nat.zero_lt_succ, cellsAt, List.length_append, Nat.le_add_right, List.length_cons, List.length_nil, Nat.zero_add, Nat.add_zero, Nat.reduceAdd, Nat.reduceMul, Nat.zero_mul, AV.cells, AV.one, known, List.append_assoc, getE_0, getE_k, setE_0, setE_k, List.getElem?_cons_zero, List.getElem?_cons_succ, List.set_cons_zero, List.set_cons_succ, List.take_succ_cons, List.take_zero, List.drop_zero, List.drop_succ_cons, List.drop_nil, List.all_cons, List.all_nil, Bool.and_self, Bool.and_true, Bool.true_and, Bool.and_false, Bool.false_and, splice, fillI, Nat.reduceLeDiff, strA, Nat.add_assoc, beq_self_eq_true, Bool.false_eq_true, bq_ft, bq_tf, Bool.not_true, Bool.not_false, Nat.le_refl, List.map_cons, List.map_nil, isNilA, nilPtr, nilSl, nilIf, nilFn, nilMap, nilCheckA, if_true, if_false, lt_lit, le_lit, lt_lit2, le_lit2, le_sub1, le_sub2]
  case hz => exact fin_cut rfl rfl rfl (take_rdr _ _ _ _ _) (by
      have := hlo.whole s at4 (many + 1)
      simp only [List.length_append, List.length_cons] at this ⊢
      exact this)
theorem elem_open (at_ many : Nat) (A B : Mem) (hlo : LoM A B) (mi : Nat) (nsv : List UInt8) (dp : Nat) (hm : ∀ L : Mem, ∀ a m, (A ++ rdr s a m :: (B ++ L))[mi]? = some (scope1 nsv)) (b : UInt8)
    (h1 : s[at_]? = some 60) (at1 : Nat) (e1 : at1 = at_ + 1) (h2 : s[at1]? = some b) (hf : fst8 b = true) (m : Nat) (hmn : m = nmN (s.drop at1)) (at2 : Nat) (e2 : at2 = at1 + m) (hq : hasP (s.drop at2) [58] = false)
    (hk : 0 = blN (s.drop at2)) (hc : s[at2]? = some 62) (hmany : many < 16384) (hdp : dp ≤ 256) (at4 : Nat) (e4 : at4 = at2 + 1) (d : Nat) (hd : 7 ≤ d)
    (kn : Nat) (kc : List AV) (hkc : lowL 0 kc = true) (at5 many5 : Nat)
    (hC : ∀ dd, dd + 1 = d → evFI Tryz.prog (cfg ml) T N dd 67 [.ptr A.length 0 0, .map (A.length + (B.length + 2)), .int .i64 (dp : Nat)] (A ++ rdr s at4 (many + 1) :: (B ++ [r27 [] [], scope1 nsv, .miter mi 1, r27 [] ((s.drop at1).take m)])) = some (.ret (.lst kn kc), A ++ rdr s at5 many5 :: (B ++ [r27 [] [], scope1 nsv, .miter mi 1, r27 [] ((s.drop at1).take m)])))
    (h5 : hasP (s.drop at5) [60, 47] = true) (at6 : Nat) (e6 : at6 = at5 + 2) (b2 : UInt8) (h6 : s[at6]? = some b2) (hf2 : fst8 b2 = true) (m2 : Nat) (hm2 : m2 = nmN (s.drop at6)) (at7 : Nat) (e7 : at7 = at6 + m2) (hq2 : hasP (s.drop at7) [58] = false)
    (hnm : (s.drop at6).take m2 = (s.drop at1).take m) (k2 : Nat) (hk2 : k2 = blN (s.drop at7)) (at8 : Nat) (e8 : at8 = at7 + k2) (h8 : s[at8]? = some 62) :
    evFI Tryz.prog (cfg ml) T N d 38 [.ptr A.length 0 0, .map mi, .int .i64 (dp : Nat)] (A ++ rdr s at_ many :: B) = some (.ret (.agg [.str [], .str ((s.drop at1).take m), .str [], .lst 0 [], .lst kn kc]), A ++ rdr s (at8 + 1) many5 :: B) := by
  obtain ⟨n, rfl⟩ : ∃ n, d = n + 7 := ⟨d - 7, by omega⟩
  have hlt6 : at6 < s.length := (List.getElem?_eq_some_iff.1 h6).1
  have hlt8 : at8 < s.length := (List.getElem?_eq_some_iff.1 h8).1
  obtain ⟨t, l0, l2, l6, l7, l8, l10, l11, l13, hpre⟩ := elem_pre (ml := ml) s hs hN n at_ many A B mi nsv dp hm b false h1 at1 e1 h2 hf m hmn at2 e2 hq 0 hk at2 rfl 62 hc (by decide) (hasP_other s at2 62 47 [62] hc (by decide)) (fun _ => rfl) at4 e4 hmany hdp
  have qC := hC (n + 6) rfl
  generalize hNM : (s.drop at1).take m = nm at *
  let B4 : Mem := B ++ [r27 [] [], scope1 nsv, .miter mi 1, .row [.str [], .str nm, .str [], .nilS, .lst kn kc] 0 (27 + 1)]
  have q1 : evFI Tryz.prog (cfg ml) T N (n + 6) 56 [.ptr A.length 0 0, .str [60, 47]] (A ++ rdr s at5 many5 :: B4) = some (.ret (.tup []), A ++ rdr s at6 many5 :: B4) := by
    rw [e6]; exact wants_t (P := Tryz.prog) (N := N) (ml := ml) s at5 many5 A B4 hs (by omega) (n + 6) (by omega) [60, 47] h5
  have q2 := qual_plain (P := Tryz.prog) (N := N) (ml := ml) s many5 A B4 hs hN at6 b2 h6 hf2 (by rw [← hm2, ← e7]; exact hq2) (n + 6) (by omega)
  rw [← hm2, ← e7, hnm] at q2
  have q3 := fun e H => must_t (P := Tryz.prog) (N := N) (ml := ml) (n + 6) (by omega) e H
  have q4 := blank_eq (P := Tryz.prog) (N := N) (ml := ml) s many5 A B4 hs hN at7 (by omega) (n + 6) (by omega)
  rw [← hk2, ← e8] at q4
  have q5 := wants_t (P := Tryz.prog) (N := N) (ml := ml) s at8 many5 A B4 hs (by omega) (n + 6) (by omega) [62] (hasP_head s at8 62 h8)
  simp only [B4, List.length_cons, List.length_nil, Nat.zero_add] at q1 q2 q4 q5
  have hb1 : ∀ x : List UInt8, (x == x) = true := fun x => beq_self_eq_true x
  refine evF_ret (m := 126) (v := .agg [.str [], .str nm, .str [], .nilS, .lst kn kc]) (a := ?aa) (H1 := A ++ rdr s (at8 + 1) many5 :: (B ++ [.row [.str [], .str nm, .str [], .nilS, .lst kn kc] 0 (27 + 1), scope1 nsv, .miter mi 1, .row [.str [], .str nm, .str [], .nilS, .lst kn kc] 0 (27 + 1)])) rfl t38 rfl ?hb ?hd ?hr ?hz
  case hb =>
    refine hpre.trans ?_
    rw [rest_split]
    apply evI_seq
    · apply evI_seq
      · simp only [pcE, IC.nb, IC.hd, I38, l10, List.append_nil, List.nil_append, List.cons_append, List.getD_cons_zero, List.getD_cons_succ, evI, opsI, stepI, wantI, opI, AAct.evI, look, AAct.put, mkVal, mkVM, intOpA, intA, shiftA, unA, decide_true, decide_false, Option.map_some, Option.map_none, reduceIte, Nat.reduceEqDiff, Nat.reduceLT, Option.bind_some, Option.bind_none, true_and, and_true, and_self, Nat.zero_lt_succ, cellsAt, List.length_append, Nat.le_add_right, List.length_cons, List.length_nil, Nat.zero_add, Nat.add_zero, Nat.reduceAdd, Nat.reduceMul, Nat.zero_mul, AV.cells, AV.one, known, List.append_assoc, getE_0, getE_k, setE_0, setE_k, List.getElem?_cons_zero, List.getElem?_cons_succ, List.set_cons_zero, List.set_cons_succ, List.take_succ_cons, List.take_zero, List.drop_zero, List.drop_succ_cons, List.drop_nil, List.all_cons, List.all_nil, Bool.and_self, Bool.and_true, Bool.true_and, Bool.and_false, Bool.false_and, splice, fillI, Nat.reduceLeDiff, strA, Nat.add_assoc, beq_self_eq_true, Bool.false_eq_true, bq_ft, bq_tf, Bool.not_true, Bool.not_false, Nat.le_refl, List.map_cons, List.map_nil, isNilA, nilPtr, nilSl, nilIf, nilFn, nilMap, nilCheckA, if_true, if_false, lt_lit, le_lit, lt_lit2, le_lit2, le_sub1, le_sub2]; rfl
      apply evI_true rfl
      apply evI_seq
      · simp only [ccE, pcE, IC.nb, IC.hd, IC.sx, I38, l0, l2, l11, l13, qC, List.append_nil, List.nil_append, List.cons_append, List.getD_cons_zero, List.getD_cons_succ, evI, opsI, stepI, wantI, opI, AAct.evI, look, AAct.put, mkVal, mkVM, intOpA, intA, shiftA, unA, decide_true, decide_false, Option.map_some, Option.map_none, reduceIte, Nat.reduceEqDiff, Nat.reduceLT, Option.bind_some, Option.bind_none, true_and, and_true, and_self, Nat.zero_lt_succ, cellsAt, List.length_append, Nat.le_add_right, List.length_cons, List.length_nil, Nat.zero_add, Nat.add_zero, Nat.reduceAdd, Nat.reduceMul, Nat.zero_mul, AV.cells, AV.one, known, List.append_assoc, getE_0, getE_k, setE_0, setE_k, List.getElem?_cons_zero, List.getElem?_cons_succ, List.set_cons_zero, List.set_cons_succ, List.take_succ_cons, List.take_zero, List.drop_zero, List.drop_succ_cons, List.drop_nil, List.all_cons, List.all_nil, Bool.and_self, Bool.and_true, Bool.true_and, Bool.and_false, Bool.false_and, splice, fillI, Nat.reduceLeDiff, strA, Nat.add_assoc, beq_self_eq_true, Bool.false_eq_true, bq_ft, bq_tf, Bool.not_true, Bool.not_false, Nat.le_refl, List.map_cons, List.map_nil, isNilA, nilPtr, nilSl, nilIf, nilFn, nilMap, nilCheckA, if_true, if_false, lt_lit, le_lit, lt_lit2, le_lit2, le_sub1, le_sub2]; rfl
      apply evI_seq
      · simp only [ccE, pcE, IC.nb, IC.hd, IC.sx, I38, l0, q1, List.append_nil, List.nil_append, List.cons_append, List.getD_cons_zero, List.getD_cons_succ, evI, opsI, stepI, wantI, opI, AAct.evI, look, AAct.put, mkVal, mkVM, intOpA, intA, shiftA, unA, decide_true, decide_false, Option.map_some, Option.map_none, reduceIte, Nat.reduceEqDiff, Nat.reduceLT, Option.bind_some, Option.bind_none, true_and, and_true, and_self, Nat.zero_lt_succ, cellsAt, List.length_append, Nat.le_add_right, List.length_cons, List.length_nil, Nat.zero_add, Nat.add_zero, Nat.reduceAdd, Nat.reduceMul, Nat.zero_mul, AV.cells, AV.one, known, List.append_assoc, getE_0, getE_k, setE_0, setE_k, List.getElem?_cons_zero, List.getElem?_cons_succ, List.set_cons_zero, List.set_cons_succ, List.take_succ_cons, List.take_zero, List.drop_zero, List.drop_succ_cons, List.drop_nil, List.all_cons, List.all_nil, Bool.and_self, Bool.and_true, Bool.true_and, Bool.and_false, Bool.false_and, splice, fillI, Nat.reduceLeDiff, strA, Nat.add_assoc, beq_self_eq_true, Bool.false_eq_true, bq_ft, bq_tf, Bool.not_true, Bool.not_false, Nat.le_refl, List.map_cons, List.map_nil, isNilA, nilPtr, nilSl, nilIf, nilFn, nilMap, nilCheckA, if_true, if_false, lt_lit, le_lit, lt_lit2, le_lit2, le_sub1, le_sub2]; rfl
      apply evI_seq
      · simp only [ccE, pcE, IC.nb, IC.hd, IC.sx, I38, l0, q2, List.append_nil, List.nil_append, List.cons_append, List.getD_cons_zero, List.getD_cons_succ, evI, opsI, stepI, wantI, opI, AAct.evI, look, AAct.put, mkVal, mkVM, intOpA, intA, shiftA, unA, decide_true, decide_false, Option.map_some, Option.map_none, reduceIte, Nat.reduceEqDiff, Nat.reduceLT, Option.bind_some, Option.bind_none, true_and, and_true, and_self, Nat.zero_lt_succ, cellsAt, List.length_append, Nat.le_add_right, List.length_cons, List.length_nil, Nat.zero_add, Nat.add_zero, Nat.reduceAdd, Nat.reduceMul, Nat.zero_mul, AV.cells, AV.one, known, List.append_assoc, getE_0, getE_k, setE_0, setE_k, List.getElem?_cons_zero, List.getElem?_cons_succ, List.set_cons_zero, List.set_cons_succ, List.take_succ_cons, List.take_zero, List.drop_zero, List.drop_succ_cons, List.drop_nil, List.all_cons, List.all_nil, Bool.and_self, Bool.and_true, Bool.true_and, Bool.and_false, Bool.false_and, splice, fillI, Nat.reduceLeDiff, strA, Nat.add_assoc, beq_self_eq_true, Bool.false_eq_true, bq_ft, bq_tf, Bool.not_true, Bool.not_false, Nat.le_refl, List.map_cons, List.map_nil, isNilA, nilPtr, nilSl, nilIf, nilFn, nilMap, nilCheckA, if_true, if_false, lt_lit, le_lit, lt_lit2, le_lit2, le_sub1, le_sub2]; rfl
      apply evI_seq
      · simp only [ccE, pcE, IC.nb, IC.hd, IC.sx, I38, l7, l8, hb1, q3, List.append_nil, List.nil_append, List.cons_append, List.getD_cons_zero, List.getD_cons_succ, evI, opsI, stepI, wantI, opI, AAct.evI, look, AAct.put, mkVal, mkVM, intOpA, intA, shiftA, unA, decide_true, decide_false, Option.map_some, Option.map_none, reduceIte, Nat.reduceEqDiff, Nat.reduceLT, Option.bind_some, Option.bind_none, true_and, and_true, and_self, Nat.zero_lt_succ, cellsAt, List.length_append, Nat.le_add_right, List.length_cons, List.length_nil, Nat.zero_add, Nat.add_zero, Nat.reduceAdd, Nat.reduceMul, Nat.zero_mul, AV.cells, AV.one, known, List.append_assoc, getE_0, getE_k, setE_0, setE_k, List.getElem?_cons_zero, List.getElem?_cons_succ, List.set_cons_zero, List.set_cons_succ, List.take_succ_cons, List.take_zero, List.drop_zero, List.drop_succ_cons, List.drop_nil, List.all_cons, List.all_nil, Bool.and_self, Bool.and_true, Bool.true_and, Bool.and_false, Bool.false_and, splice, fillI, Nat.reduceLeDiff, strA, Nat.add_assoc, beq_self_eq_true, Bool.false_eq_true, bq_ft, bq_tf, Bool.not_true, Bool.not_false, Nat.le_refl, List.map_cons, List.map_nil, isNilA, nilPtr, nilSl, nilIf, nilFn, nilMap, nilCheckA, if_true, if_false, lt_lit, le_lit, lt_lit2, le_lit2, le_sub1, le_sub2]; rfl
      apply evI_seq
      · simp only [ccE, pcE, IC.nb, IC.hd, IC.sx, I38, l0, q4, List.append_nil, List.nil_append, List.cons_append, List.getD_cons_zero, List.getD_cons_succ, evI, opsI, stepI, wantI, opI, AAct.evI, look, AAct.put, mkVal, mkVM, intOpA, intA, shiftA, unA, decide_true, decide_false, Option.map_some, Option.map_none, reduceIte, Nat.reduceEqDiff, Nat.reduceLT, Option.bind_some, Option.bind_none, true_and, and_true, and_self, Nat.zero_lt_succ, cellsAt, List.length_append, Nat.le_add_right, List.length_cons, List.length_nil, Nat.zero_add, Nat.add_zero, Nat.reduceAdd, Nat.reduceMul, Nat.zero_mul, AV.cells, AV.one, known, List.append_assoc, getE_0, getE_k, setE_0, setE_k, List.getElem?_cons_zero, List.getElem?_cons_succ, List.set_cons_zero, List.set_cons_succ, List.take_succ_cons, List.take_zero, List.drop_zero, List.drop_succ_cons, List.drop_nil, List.all_cons, List.all_nil, Bool.and_self, Bool.and_true, Bool.true_and, Bool.and_false, Bool.false_and, splice, fillI, Nat.reduceLeDiff, strA, Nat.add_assoc, beq_self_eq_true, Bool.false_eq_true, bq_ft, bq_tf, Bool.not_true, Bool.not_false, Nat.le_refl, List.map_cons, List.map_nil, isNilA, nilPtr, nilSl, nilIf, nilFn, nilMap, nilCheckA, if_true, if_false, lt_lit, le_lit, lt_lit2, le_lit2, le_sub1, le_sub2]; rfl
      simp only [ccL, pcE, IC.nb, IC.hd, IC.sx, I38, l0, q5, List.append_nil, List.nil_append, List.cons_append, List.getD_cons_zero, List.getD_cons_succ, evI, opsI, stepI, wantI, opI, AAct.evI, look, AAct.put, mkVal, mkVM, intOpA, intA, shiftA, unA, decide_true, decide_false, Option.map_some, Option.map_none, reduceIte, Nat.reduceEqDiff, Nat.reduceLT, Option.bind_some, Option.bind_none, true_and, and_true, and_self, Nat.zero_lt_succ, cellsAt, List.length_append, Nat.le_add_right, List.length_cons, List.length_nil, Nat.zero_add, Nat.add_zero, Nat.reduceAdd, Nat.reduceMul, Nat.zero_mul, AV.cells, AV.one, known, List.append_assoc, getE_0, getE_k, setE_0, setE_k, List.getElem?_cons_zero, List.getElem?_cons_succ, List.set_cons_zero, List.set_cons_succ, List.take_succ_cons, List.take_zero, List.drop_zero, List.drop_succ_cons, List.drop_nil, List.all_cons, List.all_nil, Bool.and_self, Bool.and_true, Bool.true_and, Bool.and_false, Bool.false_and, splice, fillI, Nat.reduceLeDiff, strA, Nat.add_assoc, beq_self_eq_true, Bool.false_eq_true, bq_ft, bq_tf, Bool.not_true, Bool.not_false, Nat.le_refl, List.map_cons, List.map_nil, isNilA, nilPtr, nilSl, nilIf, nilFn, nilMap, nilCheckA, if_true, if_false, lt_lit, le_lit, lt_lit2, le_lit2, le_sub1, le_sub2]; rfl
    simp only [endE, IC.nb, IC.hd, I38, l6, l13, List.append_nil, List.nil_append, List.cons_append, List.getD_cons_zero, List.getD_cons_succ, evI, opsI, stepI, wantI, opI, AAct.evI, look, AAct.put, mkVal, mkVM, intOpA, intA, shiftA, unA, decide_true, decide_false, Option.map_some, Option.map_none, reduceIte, Nat.reduceEqDiff, Nat.reduceLT, Option.bind_some, Option.bind_none, true_and, and_true, and_self, Nat.zero_lt_succ, cellsAt, List.length_append, Nat.le_add_right, List.length_cons, List.length_nil, Nat.zero_add, Nat.add_zero, Nat.reduceAdd, Nat.reduceMul, Nat.zero_mul, AV.cells, AV.one, known, List.append_assoc, getE_0, getE_k, setE_0, setE_k, List.getElem?_cons_zero, List.getElem?_cons_succ, List.set_cons_zero, List.set_cons_succ, List.take_succ_cons, List.take_zero, List.drop_zero, List.drop_succ_cons, List.drop_nil, List.all_cons, List.all_nil, Bool.and_self, Bool.and_true, Bool.true_and, Bool.and_false, Bool.false_and, splice, fillI, Nat.reduceLeDiff, strA, Nat.add_assoc, beq_self_eq_true, Bool.false_eq_true, bq_ft, bq_tf, Bool.not_true, Bool.not_false, Nat.le_refl, List.map_cons, List.map_nil, isNilA, nilPtr, nilSl, nilIf, nilFn, nilMap, nilCheckA, if_true, if_false, lt_lit, le_lit, lt_lit2, le_lit2, le_sub1, le_sub2]; rfl
  case hd => rfl
  case hr => simp only [I38, resI, resLI, l6, List.append_nil, List.nil_append, List.cons_append, List.getD_cons_zero, List.getD_cons_succ, evI, opsI, stepI, wantI, opI, AAct.evI, look, AAct.put, mkVal, mkVM, intOpA, intA, shiftA, unA, decide_true, decide_false, Option.map_some, Option.map_none, reduceIte, Nat.reduceEqDiff, Nat.reduceLT, Option.bind_some, Option.bind_none, true_and, and_true, and_self, Nat.zero_lt_succ, cellsAt, List.length_append, Nat.le_add_right, List.length_cons, List.length_nil, Nat.zero_add, Nat.add_zero, Nat.reduceAdd, Nat.reduceMul, Nat.zero_mul, AV.cells, AV.one, known, List.append_assoc, getE_0, getE_k, setE_0, setE_k, List.getElem?_cons_zero, List.getElem?_cons_succ, List.set_cons_zero, List.set_cons_succ, List.take_succ_cons, List.take_zero, List.drop_zero, List.drop_succ_cons, List.drop_nil, List.all_cons, List.all_nil, Bool.and_self, Bool.and_true, Bool.true_and, Bool.and_false, Bool.false_and, splice, fillI, Nat.reduceLeDiff, strA, Nat.add_assoc, beq_self_eq_true, Bool.false_eq_true, bq_ft, bq_tf, Bool.not_true, Bool.not_false, Nat.le_refl, List.map_cons, List.map_nil, isNilA, nilPtr, nilSl, nilIf, nilFn, nilMap, nilCheckA, if_true, if_false, lt_lit, le_lit, lt_lit2, le_lit2, le_sub1, le_sub2]
  case hz =>
    have hl : ∀ j, lowL j kc = true := fun j => pureL_low hkc j
    refine fin_cut rfl (v' := .agg [.str [], .str nm, .str [], .lst 0 [], .lst kn kc]) ?_ ?_ (take_rdr _ _ _ _ _) (by
      have := hlo.whole s (at8 + 1) many5
      simp only [List.length_append, List.length_cons] at this ⊢
      exact this)
    · simp only [frz, frzL, low, hl, if_true, Option.map_some]
    · simp only [low, lowL, hl, Bool.and_self]
end
set_option maxHeartbeats 2000000
def dec (s : List UInt8) (pos : Nat) : Nat × Nat := Utf8.decode ⟨s.toArray⟩ pos
theorem dec_pos (s : List UInt8) (pos : Nat) : 1 ≤ (dec s pos).2 := by
  unfold dec
  rw [Lib.decode_at]
  unfold Lib.decodeN
  repeat' split
  all_goals simp
def runesFrom (s : List UInt8) : Nat → Nat → Bool
  | 0, _ => true
  | f + 1, pos => if pos < s.length then runeOk ((dec s pos).1 : Int) && runesFrom s f (pos + (dec s pos).2) else true
noncomputable def loopPT : IC := (I19.c.loops).getD 0 .bad
theorem ptext_loop (P : Program) (N n : Nat) (s : List UInt8) (H : Mem) : ∀ (fuel pos : Nat), s.length - pos < fuel →
    ∃ t p, loopA (fun a H => evI P (cfg ml) (evFI P (cfg ml) T N (n + 1)) N loopPT a H) (some [0, 6]) fuel ⟨16, [(0, .str s), (6, .ptr H.length 0 0)], []⟩ (H ++ [.siter s pos]) =
      (if runesFrom s fuel pos = true then some (.exit 0, ⟨16, t, []⟩, H ++ [.siter s p]) else some (.ret, ⟨16, (2, .bool false) :: t, []⟩, H ++ [.siter s p])) ∧ look t 0 = .str s
  | 0, _, h => by omega
  | fuel + 1, pos, hf => by
    rcases Nat.lt_or_ge pos s.length with hlt | hge
    · have hR := fun H => isRune_eq (ml := ml) P N n ((dec s pos).1 : Int) H
      have hw := dec_pos s pos
      obtain ⟨t, p, ht, h0⟩ := ptext_loop P N n s H fuel (pos + (dec s pos).2) (by omega)
      simp only [runesFrom, if_pos hlt]
      have hd : Utf8.decode ⟨s.toArray⟩ pos = dec s pos := rfl
      cases hc : runeOk ((dec s pos).1 : Int)
      · rw [hc] at hR
        simp only [Bool.false_and, Bool.false_eq_true, if_false]
        exact ⟨_, _, loopA_ret (by simp only [loopPT, I19, IC.loops, nextA, hd, hlt, hR, eC_len, eC_take, eC_one, eC_0, eC_1, eC_2, eC_3, eC_4, eCr, eCr_0, eCr_1, eCr_2, eCr_3, eCr_4, List.length_drop, Nat.reduceSub, Nat.add_sub_cancel_left, atr, List.append_nil, List.nil_append, List.cons_append, List.getD_cons_zero, List.getD_cons_succ, evI, opsI, stepI, wantI, opI, AAct.evI, look, AAct.put, mkVal, mkVM, intOpA, intA, shiftA, unA, decide_true, decide_false, Option.map_some, Option.map_none, reduceIte, Nat.reduceEqDiff, Nat.reduceLT, Option.bind_some, Option.bind_none, true_and, and_true, and_self, Nat.zero_lt_succ, cellsAt, List.length_append, Nat.le_add_right, List.length_cons, List.length_nil, Nat.zero_add, Nat.add_zero, Nat.reduceAdd, Nat.reduceMul, Nat.zero_mul, AV.cells, AV.one, known, List.append_assoc, getE_0, getE_k, setE_0, setE_k, List.getElem?_cons_zero, List.getElem?_cons_succ, List.set_cons_zero, List.set_cons_succ, List.take_succ_cons, List.take_zero, List.drop_zero, List.drop_succ_cons, List.drop_nil, List.all_cons, List.all_nil, Bool.and_self, Bool.and_true, Bool.true_and, Bool.and_false, Bool.false_and, splice, fillI, Nat.reduceLeDiff, strA, Nat.add_assoc, beq_self_eq_true, Bool.false_eq_true, bq_ft, bq_tf, Bool.not_true, Bool.not_false, Nat.le_refl, List.map_cons, List.map_nil, isNilA, nilPtr, nilSl, nilIf, nilFn, nilMap, nilCheckA, if_true, if_false, lt_lit, le_lit, lt_lit2, le_lit2, le_sub1, le_sub2]; rfl), rfl⟩
      · rw [hc] at hR
        refine ⟨t, p, ?_, h0⟩
        simp only [Bool.true_and]
        refine loopA_go (by simp only [loopPT, I19, IC.loops, nextA, hd, hlt, hR, eC_len, eC_take, eC_one, eC_0, eC_1, eC_2, eC_3, eC_4, eCr, eCr_0, eCr_1, eCr_2, eCr_3, eCr_4, List.length_drop, Nat.reduceSub, Nat.add_sub_cancel_left, atr, List.append_nil, List.nil_append, List.cons_append, List.getD_cons_zero, List.getD_cons_succ, evI, opsI, stepI, wantI, opI, AAct.evI, look, AAct.put, mkVal, mkVM, intOpA, intA, shiftA, unA, decide_true, decide_false, Option.map_some, Option.map_none, reduceIte, Nat.reduceEqDiff, Nat.reduceLT, Option.bind_some, Option.bind_none, true_and, and_true, and_self, Nat.zero_lt_succ, cellsAt, List.length_append, Nat.le_add_right, List.length_cons, List.length_nil, Nat.zero_add, Nat.add_zero, Nat.reduceAdd, Nat.reduceMul, Nat.zero_mul, AV.cells, AV.one, known, List.append_assoc, getE_0, getE_k, setE_0, setE_k, List.getElem?_cons_zero, List.getElem?_cons_succ, List.set_cons_zero, List.set_cons_succ, List.take_succ_cons, List.take_zero, List.drop_zero, List.drop_succ_cons, List.drop_nil, List.all_cons, List.all_nil, Bool.and_self, Bool.and_true, Bool.true_and, Bool.and_false, Bool.false_and, splice, fillI, Nat.reduceLeDiff, strA, Nat.add_assoc, beq_self_eq_true, Bool.false_eq_true, bq_ft, bq_tf, Bool.not_true, Bool.not_false, Nat.le_refl, List.map_cons, List.map_nil, isNilA, nilPtr, nilSl, nilIf, nilFn, nilMap, nilCheckA, if_true, if_false, lt_lit, le_lit, lt_lit2, le_lit2, le_sub1, le_sub2]; rfl) ?_
        simp only [ite_self, roundEnd, AAct.keepT, List.map_cons, List.map_nil, look, reduceIte, Nat.reduceEqDiff, lowT, List.all_cons, List.all_nil, low, lowL, lowD, mayCut, List.length_append, List.length_cons, List.length_nil, Nat.zero_add, Nat.reduceAdd, takeS, takeE_0, takeE_k, List.take_succ_cons, List.take_zero, eqM_app, eqM_refl, Bool.true_or, Bool.and_self, Bool.and_true, Bool.true_and, decide_true, Nat.lt_succ_self, Nat.lt_add_right_iff_pos, Nat.add_lt_add_iff_left, Nat.reduceLT, if_true, lt_k, List.append_assoc, List.cons_append, List.nil_append]
        exact ht
    · simp only [runesFrom, if_neg (show ¬ pos < s.length by omega), if_true]
      exact ⟨_, _, loopA_exit (by simp only [loopPT, I19, IC.loops, nextA, if_neg (show ¬ pos < s.length by omega), eC_len, eC_take, eC_one, eC_0, eC_1, eC_2, eC_3, eC_4, eCr, eCr_0, eCr_1, eCr_2, eCr_3, eCr_4, List.length_drop, Nat.reduceSub, Nat.add_sub_cancel_left, atr, List.append_nil, List.nil_append, List.cons_append, List.getD_cons_zero, List.getD_cons_succ, evI, opsI, stepI, wantI, opI, AAct.evI, look, AAct.put, mkVal, mkVM, intOpA, intA, shiftA, unA, decide_true, decide_false, Option.map_some, Option.map_none, reduceIte, Nat.reduceEqDiff, Nat.reduceLT, Option.bind_some, Option.bind_none, true_and, and_true, and_self, Nat.zero_lt_succ, cellsAt, List.length_append, Nat.le_add_right, List.length_cons, List.length_nil, Nat.zero_add, Nat.add_zero, Nat.reduceAdd, Nat.reduceMul, Nat.zero_mul, AV.cells, AV.one, known, List.append_assoc, getE_0, getE_k, setE_0, setE_k, List.getElem?_cons_zero, List.getElem?_cons_succ, List.set_cons_zero, List.set_cons_succ, List.take_succ_cons, List.take_zero, List.drop_zero, List.drop_succ_cons, List.drop_nil, List.all_cons, List.all_nil, Bool.and_self, Bool.and_true, Bool.true_and, Bool.and_false, Bool.false_and, splice, fillI, Nat.reduceLeDiff, strA, Nat.add_assoc, beq_self_eq_true, Bool.false_eq_true, bq_ft, bq_tf, Bool.not_true, Bool.not_false, Nat.le_refl, List.map_cons, List.map_nil, isNilA, nilPtr, nilSl, nilIf, nilFn, nilMap, nilCheckA, if_true, if_false, lt_lit, le_lit, lt_lit2, le_lit2, le_sub1, le_sub2]; rfl), rfl⟩
theorem wrapU {n : Nat} (h : n < 18446744073709551616) : IntKind.wrap .u64 (n : Int) = (n : Int) := by
  simp [IntKind.wrap, IntKind.bits, IntKind.signed]
  omega
theorem or64 {x y k : Nat} (hx : x < 2 ^ k) (hy : x + y * 2 ^ k < 18446744073709551616) : IntKind.wrap .u64 ((BitVec.ofInt (IntKind.bits .u64) (x : Int) ||| BitVec.ofInt (IntKind.bits .u64) ((y * 2 ^ k : Nat) : Int)).toNat : Int) = ((x + y * 2 ^ k : Nat) : Int) := by
  have e : (BitVec.ofInt (IntKind.bits .u64) (x : Int) ||| BitVec.ofInt (IntKind.bits .u64) ((y * 2 ^ k : Nat) : Int)).toNat = x + y * 2 ^ k := by
    rw [BitVec.ofInt_natCast, BitVec.ofInt_natCast, BitVec.toNat_or, BitVec.toNat_ofNat, BitVec.toNat_ofNat]
    have e1 : x % 2 ^ (IntKind.bits .u64) = x := Nat.mod_eq_of_lt (by simp [IntKind.bits]; omega)
    have e2 : y * 2 ^ k % 2 ^ (IntKind.bits .u64) = y * 2 ^ k := Nat.mod_eq_of_lt (by simp [IntKind.bits]; omega)
    rw [e1, e2, Nat.or_comm, Nat.mul_comm, ← Nat.two_pow_add_eq_or_of_lt hx y, Nat.add_comm]
  rw [e, wrapU hy]
theorem bytes_at {s r : List UInt8} {off : Nat} {b : UInt8} (h : s.drop off = b :: r) : ((ofBytes s).drop off).take 1 = [.int .u8 b.toNat] ∧ off + 1 ≤ (ofBytes s).length ∧ s.drop (off + 1) = r := by
  refine ⟨by unfold ofBytes; rw [← List.map_drop, h]; rfl, ?_, by rw [← List.drop_drop, h]; rfl⟩
  have := congrArg List.length h
  simp only [List.length_drop, List.length_cons] at this
  unfold ofBytes
  rw [List.length_map]; omega
theorem word_eq (P : Program) (N n0 : Nat) (M : Mem) (q off n : Nat) (ty : Nat) (s r : List UInt8) (b0 b1 b2 b3 b4 b5 b6 b7 : UInt8) (hs : s.drop off = b0 :: b1 :: b2 :: b3 :: b4 :: b5 :: b6 :: b7 :: r) (hq : M[q]? = some (.row (ofBytes s) 0 ty)) (hn : 8 ≤ n) :
    evFI P (cfg ml) T N (n0 + 1) 102 [.slc q off n 1 0] M = some (.ret (.int .u64 (Lib.leNat [b0, b1, b2, b3, b4, b5, b6, b7] : Nat)), M) := by
  obtain ⟨d0, l0, z0⟩ := bytes_at hs
  obtain ⟨d1, l1, z1⟩ := bytes_at z0
  obtain ⟨d2, l2, z2⟩ := bytes_at z1
  obtain ⟨d3, l3, z3⟩ := bytes_at z2
  obtain ⟨d4, l4, z4⟩ := bytes_at z3
  obtain ⟨d5, l5, z5⟩ := bytes_at z4
  obtain ⟨d6, l6, z6⟩ := bytes_at z5
  obtain ⟨d7, l7, z7⟩ := bytes_at z6
  simp only [Nat.add_assoc, Nat.reduceAdd] at d1 l1
  simp only [Nat.add_assoc, Nat.reduceAdd] at d2 l2
  simp only [Nat.add_assoc, Nat.reduceAdd] at d3 l3
  simp only [Nat.add_assoc, Nat.reduceAdd] at d4 l4
  simp only [Nat.add_assoc, Nat.reduceAdd] at d5 l5
  simp only [Nat.add_assoc, Nat.reduceAdd] at d6 l6
  simp only [Nat.add_assoc, Nat.reduceAdd] at d7 l7
  have h0 := b0.toNat_lt
  have i0 : 0 < n := by omega
  have n0 : natOf (.int .i64 0) = some 0 := rfl
  have c0 : IntKind.wrap .u64 (b0.toNat : Int) = (b0.toNat : Int) := wrapU (by omega)
  have h1 := b1.toNat_lt
  have i1 : 1 < n := by omega
  have n1 : natOf (.int .i64 1) = some 1 := rfl
  have c1 : IntKind.wrap .u64 (b1.toNat : Int) = (b1.toNat : Int) := wrapU (by omega)
  have h2 := b2.toNat_lt
  have i2 : 2 < n := by omega
  have n2 : natOf (.int .i64 2) = some 2 := rfl
  have c2 : IntKind.wrap .u64 (b2.toNat : Int) = (b2.toNat : Int) := wrapU (by omega)
  have h3 := b3.toNat_lt
  have i3 : 3 < n := by omega
  have n3 : natOf (.int .i64 3) = some 3 := rfl
  have c3 : IntKind.wrap .u64 (b3.toNat : Int) = (b3.toNat : Int) := wrapU (by omega)
  have h4 := b4.toNat_lt
  have i4 : 4 < n := by omega
  have n4 : natOf (.int .i64 4) = some 4 := rfl
  have c4 : IntKind.wrap .u64 (b4.toNat : Int) = (b4.toNat : Int) := wrapU (by omega)
  have h5 := b5.toNat_lt
  have i5 : 5 < n := by omega
  have n5 : natOf (.int .i64 5) = some 5 := rfl
  have c5 : IntKind.wrap .u64 (b5.toNat : Int) = (b5.toNat : Int) := wrapU (by omega)
  have h6 := b6.toNat_lt
  have i6 : 6 < n := by omega
  have n6 : natOf (.int .i64 6) = some 6 := rfl
  have c6 : IntKind.wrap .u64 (b6.toNat : Int) = (b6.toNat : Int) := wrapU (by omega)
  have h7 := b7.toNat_lt
  have i7 : 7 < n := by omega
  have n7 : natOf (.int .i64 7) = some 7 := rfl
  have c7 : IntKind.wrap .u64 (b7.toNat : Int) = (b7.toNat : Int) := wrapU (by omega)
  have s1 : IntKind.wrap .u64 ((b1.toNat : Int) * 2 ^ min (Int.toNat 8) (IntKind.bits .u64)) = ((b1.toNat * 2 ^ 8 : Nat) : Int) := by
    have e : ((b1.toNat : Int) * 2 ^ min (Int.toNat 8) (IntKind.bits .u64)) = ((b1.toNat * 2 ^ 8 : Nat) : Int) := by
      have : min (Int.toNat 8) (IntKind.bits .u64) = 8 := rfl
      rw [this]; omega
    rw [e, wrapU (by omega)]
  have o1 := or64 (x := b0.toNat) (y := b1.toNat) (k := 8) (by omega) (by omega)
  obtain ⟨x1, e1⟩ : ∃ x, b0.toNat + b1.toNat * 2 ^ 8 = x := ⟨_, rfl⟩
  rw [e1] at o1
  have s2 : IntKind.wrap .u64 ((b2.toNat : Int) * 2 ^ min (Int.toNat 16) (IntKind.bits .u64)) = ((b2.toNat * 2 ^ 16 : Nat) : Int) := by
    have e : ((b2.toNat : Int) * 2 ^ min (Int.toNat 16) (IntKind.bits .u64)) = ((b2.toNat * 2 ^ 16 : Nat) : Int) := by
      have : min (Int.toNat 16) (IntKind.bits .u64) = 16 := rfl
      rw [this]; omega
    rw [e, wrapU (by omega)]
  have o2 := or64 (x := x1) (y := b2.toNat) (k := 16) (by omega) (by omega)
  obtain ⟨x2, e2⟩ : ∃ x, x1 + b2.toNat * 2 ^ 16 = x := ⟨_, rfl⟩
  rw [e2] at o2
  have s3 : IntKind.wrap .u64 ((b3.toNat : Int) * 2 ^ min (Int.toNat 24) (IntKind.bits .u64)) = ((b3.toNat * 2 ^ 24 : Nat) : Int) := by
    have e : ((b3.toNat : Int) * 2 ^ min (Int.toNat 24) (IntKind.bits .u64)) = ((b3.toNat * 2 ^ 24 : Nat) : Int) := by
      have : min (Int.toNat 24) (IntKind.bits .u64) = 24 := rfl
      rw [this]; omega
    rw [e, wrapU (by omega)]
  have o3 := or64 (x := x2) (y := b3.toNat) (k := 24) (by omega) (by omega)
  obtain ⟨x3, e3⟩ : ∃ x, x2 + b3.toNat * 2 ^ 24 = x := ⟨_, rfl⟩
  rw [e3] at o3
  have s4 : IntKind.wrap .u64 ((b4.toNat : Int) * 2 ^ min (Int.toNat 32) (IntKind.bits .u64)) = ((b4.toNat * 2 ^ 32 : Nat) : Int) := by
    have e : ((b4.toNat : Int) * 2 ^ min (Int.toNat 32) (IntKind.bits .u64)) = ((b4.toNat * 2 ^ 32 : Nat) : Int) := by
      have : min (Int.toNat 32) (IntKind.bits .u64) = 32 := rfl
      rw [this]; omega
    rw [e, wrapU (by omega)]
  have o4 := or64 (x := x3) (y := b4.toNat) (k := 32) (by omega) (by omega)
  obtain ⟨x4, e4⟩ : ∃ x, x3 + b4.toNat * 2 ^ 32 = x := ⟨_, rfl⟩
  rw [e4] at o4
  have s5 : IntKind.wrap .u64 ((b5.toNat : Int) * 2 ^ min (Int.toNat 40) (IntKind.bits .u64)) = ((b5.toNat * 2 ^ 40 : Nat) : Int) := by
    have e : ((b5.toNat : Int) * 2 ^ min (Int.toNat 40) (IntKind.bits .u64)) = ((b5.toNat * 2 ^ 40 : Nat) : Int) := by
      have : min (Int.toNat 40) (IntKind.bits .u64) = 40 := rfl
      rw [this]; omega
    rw [e, wrapU (by omega)]
  have o5 := or64 (x := x4) (y := b5.toNat) (k := 40) (by omega) (by omega)
  obtain ⟨x5, e5⟩ : ∃ x, x4 + b5.toNat * 2 ^ 40 = x := ⟨_, rfl⟩
  rw [e5] at o5
  have s6 : IntKind.wrap .u64 ((b6.toNat : Int) * 2 ^ min (Int.toNat 48) (IntKind.bits .u64)) = ((b6.toNat * 2 ^ 48 : Nat) : Int) := by
    have e : ((b6.toNat : Int) * 2 ^ min (Int.toNat 48) (IntKind.bits .u64)) = ((b6.toNat * 2 ^ 48 : Nat) : Int) := by
      have : min (Int.toNat 48) (IntKind.bits .u64) = 48 := rfl
      rw [this]; omega
    rw [e, wrapU (by omega)]
  have o6 := or64 (x := x5) (y := b6.toNat) (k := 48) (by omega) (by omega)
  obtain ⟨x6, e6⟩ : ∃ x, x5 + b6.toNat * 2 ^ 48 = x := ⟨_, rfl⟩
  rw [e6] at o6
  have s7 : IntKind.wrap .u64 ((b7.toNat : Int) * 2 ^ min (Int.toNat 56) (IntKind.bits .u64)) = ((b7.toNat * 2 ^ 56 : Nat) : Int) := by
    have e : ((b7.toNat : Int) * 2 ^ min (Int.toNat 56) (IntKind.bits .u64)) = ((b7.toNat * 2 ^ 56 : Nat) : Int) := by
      have : min (Int.toNat 56) (IntKind.bits .u64) = 56 := rfl
      rw [this]; omega
    rw [e, wrapU (by omega)]
  have o7 := or64 (x := x6) (y := b7.toNat) (k := 56) (by omega) (by omega)
  obtain ⟨x7, e7⟩ : ∃ x, x6 + b7.toNat * 2 ^ 56 = x := ⟨_, rfl⟩
  rw [e7] at o7
  have et : Lib.leNat [b0, b1, b2, b3, b4, b5, b6, b7] = x7 := by simp only [Lib.leNat]; omega
  have w1 : ((8 : Int) < 0) = False := by simp
  have w2 : ((16 : Int) < 0) = False := by simp
  have w3 : ((24 : Int) < 0) = False := by simp
  have w4 : ((32 : Int) < 0) = False := by simp
  have w5 : ((40 : Int) < 0) = False := by simp
  have w6 : ((48 : Int) < 0) = False := by simp
  have w7 : ((56 : Int) < 0) = False := by simp
  rw [et]
  refine evF_ret (m := 71) (v := .int .u64 (x7 : Int)) (a := ?aa) (H1 := ?Ha) rfl t102 rfl ?hb ?hd ?hr ?hz
  case hb =>
    simp only [List.length_cons, List.length_nil, idx, I102, hq, d0, l0, i0, n0, c0, d1, l1, i1, n1, c1, d2, l2, i2, n2, c2, d3, l3, i3, n3, c3, d4, l4, i4, n4, c4, d5, l5, i5, n5, c5, d6, l6, i6, n6, c6, d7, l7, i7, n7, c7, s1, o1, s2, o2, s3, o3, s4, o4, s5, o5, s6, o6, s7, o7, w1, w2, w3, w4, w5, w6, w7, eC_len, eC_take, eC_one, eC_0, eC_1, eC_2, eC_3, eC_4, eCr, eCr_0, eCr_1, eCr_2, eCr_3, eCr_4, List.length_drop, Nat.reduceSub, Nat.add_sub_cancel_left, atr, List.append_nil, List.nil_append, List.cons_append, List.getD_cons_zero, List.getD_cons_succ, evI, opsI, stepI, wantI, opI, AAct.evI, look, AAct.put, mkVal, mkVM, intOpA, intA, shiftA, unA, decide_true, decide_false, Option.map_some, Option.map_none, reduceIte, Nat.reduceEqDiff, Nat.reduceLT, Option.bind_some, Option.bind_none, true_and, and_true, and_self, Nat.zero_lt_succ, cellsAt, List.length_append, Nat.le_add_right, List.length_cons, List.length_nil, Nat.zero_add, Nat.add_zero, Nat.reduceAdd, Nat.reduceMul, Nat.zero_mul, AV.cells, AV.one, known, List.append_assoc, getE_0, getE_k, setE_0, setE_k, List.getElem?_cons_zero, List.getElem?_cons_succ, List.set_cons_zero, List.set_cons_succ, List.take_succ_cons, List.take_zero, List.drop_zero, List.drop_succ_cons, List.drop_nil, List.all_cons, List.all_nil, Bool.and_self, Bool.and_true, Bool.true_and, Bool.and_false, Bool.false_and, splice, fillI, Nat.reduceLeDiff, strA, Nat.add_assoc, beq_self_eq_true, Bool.false_eq_true, bq_ft, bq_tf, Bool.not_true, Bool.not_false, Nat.le_refl, List.map_cons, List.map_nil, isNilA, nilPtr, nilSl, nilIf, nilFn, nilMap, nilCheckA, if_true, if_false, lt_lit, le_lit, lt_lit2, le_lit2, le_sub1, le_sub2, drawI, drawI2, drawI0, drawI20, lexD, valD, valI, putD, okD, roD, memAt, lastM, wantI, eqv_refl, eqM_refl, eqM_app, eqB, eqvL, eqv, List.getLast?_cons_cons, List.getLast?_singleton, Option.getD_some, Bool.or_true, Bool.true_or, beq_self_eq_true, resvV]; rfl
  case hd => rfl
  case hr => simp only [I102, resI, resLI, List.append_nil, List.nil_append, List.cons_append, List.getD_cons_zero, List.getD_cons_succ, evI, opsI, stepI, wantI, opI, AAct.evI, look, AAct.put, mkVal, mkVM, intOpA, intA, shiftA, unA, decide_true, decide_false, Option.map_some, Option.map_none, reduceIte, Nat.reduceEqDiff, Nat.reduceLT, Option.bind_some, Option.bind_none, true_and, and_true, and_self, Nat.zero_lt_succ, cellsAt, List.length_append, Nat.le_add_right, List.length_cons, List.length_nil, Nat.zero_add, Nat.add_zero, Nat.reduceAdd, Nat.reduceMul, Nat.zero_mul, AV.cells, AV.one, known, List.append_assoc, getE_0, getE_k, setE_0, setE_k, List.getElem?_cons_zero, List.getElem?_cons_succ, List.set_cons_zero, List.set_cons_succ, List.take_succ_cons, List.take_zero, List.drop_zero, List.drop_succ_cons, List.drop_nil, List.all_cons, List.all_nil, Bool.and_self, Bool.and_true, Bool.true_and, Bool.and_false, Bool.false_and, splice, fillI, Nat.reduceLeDiff, strA, Nat.add_assoc, beq_self_eq_true, Bool.false_eq_true, bq_ft, bq_tf, Bool.not_true, Bool.not_false, Nat.le_refl, List.map_cons, List.map_nil, isNilA, nilPtr, nilSl, nilIf, nilFn, nilMap, nilCheckA, if_true, if_false, lt_lit, le_lit, lt_lit2, le_lit2, le_sub1, le_sub2]
  case hz => exact fin_len rfl rfl
theorem maskU {w : Nat} (hw : w < 18446744073709551616) : IntKind.wrap .u64 ((BitVec.ofInt (IntKind.bits .u64) (w : Int) &&& BitVec.ofInt (IntKind.bits .u64) 9259542123273814144).toNat : Int) = ((w &&& 9259542123273814144 : Nat) : Int) := by
  have e : (BitVec.ofInt (IntKind.bits .u64) (w : Int) &&& BitVec.ofInt (IntKind.bits .u64) 9259542123273814144).toNat = w &&& 9259542123273814144 := by
    have : (9259542123273814144 : Int) = ((9259542123273814144 : Nat) : Int) := rfl
    rw [this, BitVec.ofInt_natCast, BitVec.ofInt_natCast, BitVec.toNat_and, BitVec.toNat_ofNat, BitVec.toNat_ofNat]
    have e1 : w % 2 ^ (IntKind.bits .u64) = w := Nat.mod_eq_of_lt (by simp [IntKind.bits]; omega)
    have e2 : 9259542123273814144 % 2 ^ (IntKind.bits .u64) = 9259542123273814144 := by decide
    rw [e1, e2]
  rw [e, wrapU]
  exact Nat.lt_of_le_of_lt Nat.and_le_left hw
theorem orU {a b : Nat} (ha : a < 18446744073709551616) (hb : b < 18446744073709551616) : IntKind.wrap .u64 ((BitVec.ofInt (IntKind.bits .u64) (a : Int) ||| BitVec.ofInt (IntKind.bits .u64) (b : Int)).toNat : Int) = ((a ||| b : Nat) : Int) := by
  have hlt : a ||| b < 2 ^ 64 := Nat.or_lt_two_pow (by omega) (by omega)
  have e : (BitVec.ofInt (IntKind.bits .u64) (a : Int) ||| BitVec.ofInt (IntKind.bits .u64) (b : Int)).toNat = a ||| b := by
    rw [BitVec.ofInt_natCast, BitVec.ofInt_natCast, BitVec.toNat_or, BitVec.toNat_ofNat, BitVec.toNat_ofNat]
    have e1 : a % 2 ^ (IntKind.bits .u64) = a := Nat.mod_eq_of_lt (by simp [IntKind.bits]; omega)
    have e2 : b % 2 ^ (IntKind.bits .u64) = b := Nat.mod_eq_of_lt (by simp [IntKind.bits]; omega)
    rw [e1, e2]
  rw [e, wrapU]
  omega
theorem skip8 {l r : List UInt8} {b0 b1 b2 b3 b4 b5 b6 b7 : UInt8} (h : l = b0 :: b1 :: b2 :: b3 :: b4 :: b5 :: b6 :: b7 :: r) (hw : Lib.leNat [b0, b1, b2, b3, b4, b5, b6, b7] &&& 9259542123273814144 = 0) : Lib.validD l = Lib.validD r := by
  have h8 := (Lib.leNat_mask [b0, b1, b2, b3, b4, b5, b6, b7]).1 (by rw [show [b0, b1, b2, b3, b4, b5, b6, b7].length = 8 from rfl, Lib.maskN8]; exact hw)
  subst h
  exact Lib.validD_ascii 8 _ h8
theorem word_lt8 (b0 b1 b2 b3 b4 b5 b6 b7 : UInt8) : Lib.leNat [b0, b1, b2, b3, b4, b5, b6, b7] < 18446744073709551616 := by
  have h := Lib.leNat_lt [b0, b1, b2, b3, b4, b5, b6, b7]
  have e : 256 ^ [b0, b1, b2, b3, b4, b5, b6, b7].length = 18446744073709551616 := by
    show 256 ^ 8 = _
    decide +kernel
  rw [e] at h
  exact h
theorem eight {l : List UInt8} (h : 8 ≤ l.length) : ∃ b0 b1 b2 b3 b4 b5 b6 b7, l = b0 :: b1 :: b2 :: b3 :: b4 :: b5 :: b6 :: b7 :: l.drop 8 := by
  match l, h with
  | b0 :: b1 :: b2 :: b3 :: b4 :: b5 :: b6 :: b7 :: r, _ => exact ⟨b0, b1, b2, b3, b4, b5, b6, b7, rfl⟩
theorem drop8 {s : List UInt8} {off : Nat} (h : off + 8 ≤ s.length) : ∃ b0 b1 b2 b3 b4 b5 b6 b7, s.drop off = b0 :: b1 :: b2 :: b3 :: b4 :: b5 :: b6 :: b7 :: s.drop (off + 8) := by
  obtain ⟨b0, b1, b2, b3, b4, b5, b6, b7, e⟩ := eight (l := s.drop off) (by rw [List.length_drop]; omega)
  exact ⟨b0, b1, b2, b3, b4, b5, b6, b7, by rw [List.drop_drop] at e; exact e⟩
theorem word_at (P : Program) (N n0 : Nat) (M : Mem) (q ty : Nat) (s : List UInt8) (hq : M[q]? = some (.row (ofBytes s) 0 ty)) (off : Nat) (h : off + 8 ≤ s.length) :
    ∃ w : Nat, w < 18446744073709551616 ∧ (∀ n, 8 ≤ n → evFI P (cfg ml) T N (n0 + 1) 102 [.slc q off n 1 0] M = some (.ret (.int .u64 (w : Int)), M)) ∧ (w &&& 9259542123273814144 = 0 → Lib.validD (s.drop off) = Lib.validD (s.drop (off + 8))) := by
  obtain ⟨b0, b1, b2, b3, b4, b5, b6, b7, e⟩ := drop8 h
  exact ⟨_, word_lt8 b0 b1 b2 b3 b4 b5 b6 b7, fun n hn => word_eq P N n0 M q off n ty s _ b0 b1 b2 b3 b4 b5 b6 b7 e hq hn, fun hw => skip8 e hw⟩
noncomputable def loopV2 : IC := (I79.c.loops).getD 1 .bad
theorem v2_loop (P : Program) (N n0 : Nat) (M : Mem) (q ty : Nat) (s : List UInt8) (hl : s.length ≤ 1099511627776) (hq : M[q]? = some (.row (ofBytes s) 0 ty)) : ∀ (fuel off n : Nat), off + n = s.length → n < fuel →
    ∃ t off' n', loopA (fun a H => evI P (cfg ml) (evFI P (cfg ml) T N (n0 + 1)) N loopV2 a H) (some [0]) fuel ⟨188, [(0, .slc q off n 1 0)], []⟩ M = some (.exit 2, ⟨188, t, []⟩, M) ∧ look t 0 = .slc q off' n' 1 0 ∧ off' + n' = s.length ∧ n' ≤ n ∧ Lib.validD (s.drop off) = Lib.validD (s.drop off')
  | 0, _, _, _, h => by omega
  | fuel + 1, off, n, ho, hf => by
    rcases Nat.lt_or_ge 32 n with hlt | hge
    · obtain ⟨w0, l0, c0, v0⟩ := word_at (ml := ml) P N n0 M q ty s hq off (by omega)
      obtain ⟨w1, l1, c1, v1⟩ := word_at (ml := ml) P N n0 M q ty s hq (off + 8) (by omega)
      obtain ⟨w2, l2, c2, v2⟩ := word_at (ml := ml) P N n0 M q ty s hq (off + 16) (by omega)
      obtain ⟨w3, l3, c3, v3⟩ := word_at (ml := ml) P N n0 M q ty s hq (off + 24) (by omega)
      have hi : decide ((n : Int) > 32) = true := decide_eq_true (by omega)
      have n8 : natOf (.int .i64 8) = some 8 := rfl
      have n16 : natOf (.int .i64 16) = some 16 := rfl
      have n24 : natOf (.int .i64 24) = some 24 := rfl
      have n32 : natOf (.int .i64 32) = some 32 := rfl
      have g8 : 8 ≤ n := by omega
      have g16 : 16 ≤ n := by omega
      have g24 : 24 ≤ n := by omega
      have g32 : 32 ≤ n := by omega
      have k0 := c0 n (by omega)
      have k1 := c1 (n - 8) (by omega)
      have k2 := c2 (n - 16) (by omega)
      have k3 := c3 (n - 24) (by omega)
      have o1 := orU l0 l1
      have o2 := orU l2 l3
      have m1 : w0 ||| w1 < 18446744073709551616 := Nat.or_lt_two_pow (n := 64) l0 l1
      have m2 : w2 ||| w3 < 18446744073709551616 := Nat.or_lt_two_pow (n := 64) l2 l3
      have o3 := orU m1 m2
      have m3 : w0 ||| w1 ||| (w2 ||| w3) < 18446744073709551616 := Nat.or_lt_two_pow (n := 64) m1 m2
      have mm := maskU m3
      have hz : ((((w0 ||| w1 ||| (w2 ||| w3)) &&& 9259542123273814144 : Nat) : Int) == 0) = decide ((w0 ||| w1 ||| (w2 ||| w3)) &&& 9259542123273814144 = 0) := by
        cases hd : decide ((w0 ||| w1 ||| (w2 ||| w3)) &&& 9259542123273814144 = 0)
        · exact beq_false_of_ne (by have := of_decide_eq_false hd; omega)
        · exact beq_iff_eq.2 (by have := of_decide_eq_true hd; omega)
      cases hd : decide ((w0 ||| w1 ||| (w2 ||| w3)) &&& 9259542123273814144 = 0)
      · rw [hd] at hz
        refine ⟨_, off, n, loopA_exit (by simp only [loopV2, I79, IC.loops, bound, cutSD, hi, n8, n16, n24, n32, g8, g16, g24, g32, k0, k1, k2, k3, o1, o2, o3, mm, hz, eC_len, eC_take, eC_one, eC_0, eC_1, eC_2, eC_3, eC_4, eCr, eCr_0, eCr_1, eCr_2, eCr_3, eCr_4, List.length_drop, Nat.reduceSub, Nat.add_sub_cancel_left, atr, List.append_nil, List.nil_append, List.cons_append, List.getD_cons_zero, List.getD_cons_succ, evI, opsI, stepI, wantI, opI, AAct.evI, look, AAct.put, mkVal, mkVM, intOpA, intA, shiftA, unA, decide_true, decide_false, Option.map_some, Option.map_none, reduceIte, Nat.reduceEqDiff, Nat.reduceLT, Option.bind_some, Option.bind_none, true_and, and_true, and_self, Nat.zero_lt_succ, cellsAt, List.length_append, Nat.le_add_right, List.length_cons, List.length_nil, Nat.zero_add, Nat.add_zero, Nat.reduceAdd, Nat.reduceMul, Nat.zero_mul, AV.cells, AV.one, known, List.append_assoc, getE_0, getE_k, setE_0, setE_k, List.getElem?_cons_zero, List.getElem?_cons_succ, List.set_cons_zero, List.set_cons_succ, List.take_succ_cons, List.take_zero, List.drop_zero, List.drop_succ_cons, List.drop_nil, List.all_cons, List.all_nil, Bool.and_self, Bool.and_true, Bool.true_and, Bool.and_false, Bool.false_and, splice, fillI, Nat.reduceLeDiff, strA, Nat.add_assoc, beq_self_eq_true, Bool.false_eq_true, bq_ft, bq_tf, Bool.not_true, Bool.not_false, Nat.le_refl, List.map_cons, List.map_nil, isNilA, nilPtr, nilSl, nilIf, nilFn, nilMap, nilCheckA, if_true, if_false, lt_lit, le_lit, lt_lit2, le_lit2, le_sub1, le_sub2, drawI, drawI2, drawI0, drawI20, lexD, valD, valI, putD, okD, roD, memAt, lastM, wantI, eqv_refl, eqM_refl, eqM_app, eqB, eqvL, eqv, List.getLast?_cons_cons, List.getLast?_singleton, Option.getD_some, Bool.or_true, Bool.true_or, beq_self_eq_true, resvV]; rfl), rfl, ho, Nat.le_refl _, rfl⟩
      · rw [hd] at hz
        have hz' := of_decide_eq_true hd
        rw [Lib.or_mask, Lib.or_mask, Lib.or_mask] at hz'
        obtain ⟨t, off', n', hr, ht, h1, h2, h3⟩ := v2_loop P N n0 M q ty s hl hq fuel (off + 32) (n - 32) (by omega) (by omega)
        refine ⟨t, off', n', ?_, ht, h1, by omega, ?_⟩
        · refine loopA_go (by simp only [loopV2, I79, IC.loops, bound, cutSD, hi, n8, n16, n24, n32, g8, g16, g24, g32, k0, k1, k2, k3, o1, o2, o3, mm, hz, eC_len, eC_take, eC_one, eC_0, eC_1, eC_2, eC_3, eC_4, eCr, eCr_0, eCr_1, eCr_2, eCr_3, eCr_4, List.length_drop, Nat.reduceSub, Nat.add_sub_cancel_left, atr, List.append_nil, List.nil_append, List.cons_append, List.getD_cons_zero, List.getD_cons_succ, evI, opsI, stepI, wantI, opI, AAct.evI, look, AAct.put, mkVal, mkVM, intOpA, intA, shiftA, unA, decide_true, decide_false, Option.map_some, Option.map_none, reduceIte, Nat.reduceEqDiff, Nat.reduceLT, Option.bind_some, Option.bind_none, true_and, and_true, and_self, Nat.zero_lt_succ, cellsAt, List.length_append, Nat.le_add_right, List.length_cons, List.length_nil, Nat.zero_add, Nat.add_zero, Nat.reduceAdd, Nat.reduceMul, Nat.zero_mul, AV.cells, AV.one, known, List.append_assoc, getE_0, getE_k, setE_0, setE_k, List.getElem?_cons_zero, List.getElem?_cons_succ, List.set_cons_zero, List.set_cons_succ, List.take_succ_cons, List.take_zero, List.drop_zero, List.drop_succ_cons, List.drop_nil, List.all_cons, List.all_nil, Bool.and_self, Bool.and_true, Bool.true_and, Bool.and_false, Bool.false_and, splice, fillI, Nat.reduceLeDiff, strA, Nat.add_assoc, beq_self_eq_true, Bool.false_eq_true, bq_ft, bq_tf, Bool.not_true, Bool.not_false, Nat.le_refl, List.map_cons, List.map_nil, isNilA, nilPtr, nilSl, nilIf, nilFn, nilMap, nilCheckA, if_true, if_false, lt_lit, le_lit, lt_lit2, le_lit2, le_sub1, le_sub2, drawI, drawI2, drawI0, drawI20, lexD, valD, valI, putD, okD, roD, memAt, lastM, wantI, eqv_refl, eqM_refl, eqM_app, eqB, eqvL, eqv, List.getLast?_cons_cons, List.getLast?_singleton, Option.getD_some, Bool.or_true, Bool.true_or, beq_self_eq_true, resvV]; rfl) ?_
          simp only [ite_self, roundEnd, AAct.keepT, List.map_cons, List.map_nil, look, reduceIte, Nat.reduceEqDiff, lowT, List.all_cons, List.all_nil, low, lowL, lowD, mayCut, List.length_append, List.length_cons, List.length_nil, Nat.zero_add, Nat.reduceAdd, takeS, takeE_0, takeE_k, List.take_succ_cons, List.take_zero, eqM_app, eqM_refl, Bool.true_or, Bool.and_self, Bool.and_true, Bool.true_and, decide_true, Nat.lt_succ_self, Nat.lt_add_right_iff_pos, Nat.add_lt_add_iff_left, Nat.reduceLT, if_true, lt_k, List.append_assoc, List.cons_append, List.nil_append]
          exact hr
        · rw [v0 hz'.1.1, v1 hz'.1.2, v2 hz'.2.1, v3 hz'.2.2]
          exact h3
    · have hi : decide ((n : Int) > 32) = false := decide_eq_false (by omega)
      exact ⟨_, off, n, loopA_exit (by simp only [loopV2, I79, IC.loops, hi, eC_len, eC_take, eC_one, eC_0, eC_1, eC_2, eC_3, eC_4, eCr, eCr_0, eCr_1, eCr_2, eCr_3, eCr_4, List.length_drop, Nat.reduceSub, Nat.add_sub_cancel_left, atr, List.append_nil, List.nil_append, List.cons_append, List.getD_cons_zero, List.getD_cons_succ, evI, opsI, stepI, wantI, opI, AAct.evI, look, AAct.put, mkVal, mkVM, intOpA, intA, shiftA, unA, decide_true, decide_false, Option.map_some, Option.map_none, reduceIte, Nat.reduceEqDiff, Nat.reduceLT, Option.bind_some, Option.bind_none, true_and, and_true, and_self, Nat.zero_lt_succ, cellsAt, List.length_append, Nat.le_add_right, List.length_cons, List.length_nil, Nat.zero_add, Nat.add_zero, Nat.reduceAdd, Nat.reduceMul, Nat.zero_mul, AV.cells, AV.one, known, List.append_assoc, getE_0, getE_k, setE_0, setE_k, List.getElem?_cons_zero, List.getElem?_cons_succ, List.set_cons_zero, List.set_cons_succ, List.take_succ_cons, List.take_zero, List.drop_zero, List.drop_succ_cons, List.drop_nil, List.all_cons, List.all_nil, Bool.and_self, Bool.and_true, Bool.true_and, Bool.and_false, Bool.false_and, splice, fillI, Nat.reduceLeDiff, strA, Nat.add_assoc, beq_self_eq_true, Bool.false_eq_true, bq_ft, bq_tf, Bool.not_true, Bool.not_false, Nat.le_refl, List.map_cons, List.map_nil, isNilA, nilPtr, nilSl, nilIf, nilFn, nilMap, nilCheckA, if_true, if_false, lt_lit, le_lit, lt_lit2, le_lit2, le_sub1, le_sub2, drawI, drawI2, drawI0, drawI20, lexD, valD, valI, putD, okD, roD, memAt, lastM, wantI, eqv_refl, eqM_refl, eqM_app, eqB, eqvL, eqv, List.getLast?_cons_cons, List.getLast?_singleton, Option.getD_some, Bool.or_true, Bool.true_or, beq_self_eq_true, resvV]; rfl), rfl, ho, Nat.le_refl _, rfl⟩
end Go.Proofs.YtmnajffpmbidiaaGreatDoor.Ev
