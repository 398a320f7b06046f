/- Parts of one proof, one behind the other: The reader of xml: content that is one element, whole, reckoned with letters. -/
import Derived.Test.YtmnajffpmbidiaaGreatDoorMee
/- The reader of xml: content that is one element, whole, reckoned with letters. -/
namespace Go.Proofs.YtmnajffpmbidiaaGreatDoor.Ev
set_option linter.all false
variable {ml : Int}
open Go.Proofs.YtmnajffpmbidiaaGreatDoor.Ic
set_option maxRecDepth 100000
set_option maxHeartbeats 4000000
set_option linter.unusedSimpArgs false
set_option linter.unusedSectionVars false
set_option linter.unusedVariables false
theorem evI_block_congr {P : Program} {g : Cfg} {F : FSem} {N id : Nat} {c c2 : IC} {a a2 : AAct} {H H2 : Mem} (h : evI P g F N c a H = evI P g F N c2 a2 H2) : evI P g F N (.block id c) a H = evI P g F N (.block id c2) a2 H2 := by simp only [evI, h]
section
variable {N : Nat}
variable (s : List UInt8) (hs : s.length < 4294967281)
include hs
/-- The round's start: up to the region in which the element is read. -/
theorem ct_pre (n at_ many : Nat) (A B : Mem) (mi dp : Nat) (b : UInt8) (r : List UInt8) (hd : s.drop at_ = 60 :: b :: r) (hb1 : b ≠ 47) (hb2 : b ≠ 33) (hb3 : b ≠ 63) :
    ∃ t, look t 0 = .ptr A.length 0 0 ∧ look t 1 = .map mi ∧ look t 2 = .int .i64 (dp : Nat) ∧ look t 7 = .ptr (A.length + (B.length + 1)) 0 0 ∧ look t 8 = .ptr (A.length + (B.length + 2)) 0 0 ∧ look t 9 = .fn (.func 94) [.ptr (A.length + (B.length + 2)) 0 0, .ptr (A.length + (B.length + 1)) 0 0] ∧
      evI Tryz.prog (cfg ml) (evFI Tryz.prog (cfg ml) T N (n + 7)) N loopCt ⟨87, ctS A B mi dp, []⟩ (A ++ rdr s at_ many :: (B ++ [rowL .nilS, rowB])) = evI Tryz.prog (cfg ml) (evFI Tryz.prog (cfg ml) T N (n + 7)) N (.block 1 (.block 2 (.draw2 10 11 [r27 [] []] regCt))) ⟨87, t, []⟩ (A ++ rdr s at_ many :: (B ++ [rowL .nilS, rowB])) := by
  have hat : at_ ≤ s.length := by
    rcases Nat.lt_or_ge s.length at_ with h | h
    · rw [List.drop_eq_nil_of_le (by omega)] at hd; cases hd
    · exact h
  have q1 := has_eq (P := Tryz.prog) (N := N) (ml := ml) s at_ many A (B ++ [rowL .nilS, rowB]) hat (n + 7) (by omega) [60, 47]
  have q2 := has_eq (P := Tryz.prog) (N := N) (ml := ml) s at_ many A (B ++ [rowL .nilS, rowB]) hat (n + 7) (by omega) [60, 33, 45, 45]
  have q3 := has_eq (P := Tryz.prog) (N := N) (ml := ml) s at_ many A (B ++ [rowL .nilS, rowB]) hat (n + 7) (by omega) [60, 63]
  have q4 := take_f (P := Tryz.prog) (N := N) (ml := ml) s at_ many A (B ++ [rowL .nilS, rowB]) hs hat (n + 7) (by omega) [60, 33, 91, 67, 68, 65, 84, 65, 91] (by rw [hd]; exact hasP_two _ _ _ _ _ hb2)
  have q5 := has_eq (P := Tryz.prog) (N := N) (ml := ml) s at_ many A (B ++ [rowL .nilS, rowB]) hat (n + 7) (by omega) [60]
  rw [hd, hasP_two _ _ _ _ _ hb1] at q1
  rw [hd, hasP_two _ _ _ _ _ hb2] at q2
  rw [hd, hasP_two _ _ _ _ _ hb3] at q3
  rw [hd, show hasP (60 :: b :: r) [60] = true by simp [hasP]] at q5
  have q6 := flush_no (N := N) (ml := ml) (n + 7) (by omega) (A ++ rdr s at_ many :: (B ++ [rowL .nilS, rowB])) (A.length + (B.length + 2)) (A.length + (B.length + 1)) (104 + 1) (by rw [getE_k, List.getElem?_cons_succ, getE_k]; rfl)
  have hcl := callable94
  refine ⟨?t, ?g0, ?g1, ?g2, ?g7, ?g8, ?g9, ?main⟩
  case main =>
    apply evI_seq
    · apply evI_seq
      · simp only [q1, List.append_nil, List.nil_append, List.cons_append, List.getD_cons_zero, List.getD_cons_succ, evI, opsI, stepI, wantI, opI, AAct.evI, look, AAct.put, mkVal, mkVM, intOpA, intA, shiftA, unA, decide_true, decide_false, Option.map_some, Option.map_none, reduceIte, Nat.reduceEqDiff, Nat.reduceLT, Option.bind_some, Option.bind_none, true_and, and_true, and_self, Nat.zero_lt_succ, cellsAt, List.length_append, Nat.le_add_right, List.length_cons, List.length_nil, Nat.zero_add, Nat.add_zero, Nat.reduceAdd, Nat.reduceMul, Nat.zero_mul, AV.cells, AV.one, known, List.append_assoc, getE_0, getE_k, setE_0, setE_k, List.getElem?_cons_zero, List.getElem?_cons_succ, List.set_cons_zero, List.set_cons_succ, List.take_succ_cons, List.take_zero, List.drop_zero, List.drop_succ_cons, List.drop_nil, List.all_cons, List.all_nil, Bool.and_self, Bool.and_true, Bool.true_and, Bool.and_false, Bool.false_and, splice, fillI, Nat.reduceLeDiff, strA, Nat.add_assoc, beq_self_eq_true, Bool.false_eq_true, bq_ft, bq_tf, Bool.not_true, Bool.not_false, Nat.le_refl, List.map_cons, List.map_nil, isNilA, nilPtr, nilSl, nilIf, nilFn, nilMap, nilCheckA, if_true, if_false, lt_lit, le_lit, lt_lit2, le_lit2, le_sub1, le_sub2]; rfl
      apply evI_true rfl
      rfl
    apply evI_block_congr
    apply evI_block_congr
    apply evI_seq
    · simp only [q2, List.append_nil, List.nil_append, List.cons_append, List.getD_cons_zero, List.getD_cons_succ, evI, opsI, stepI, wantI, opI, AAct.evI, look, AAct.put, mkVal, mkVM, intOpA, intA, shiftA, unA, decide_true, decide_false, Option.map_some, Option.map_none, reduceIte, Nat.reduceEqDiff, Nat.reduceLT, Option.bind_some, Option.bind_none, true_and, and_true, and_self, Nat.zero_lt_succ, cellsAt, List.length_append, Nat.le_add_right, List.length_cons, List.length_nil, Nat.zero_add, Nat.add_zero, Nat.reduceAdd, Nat.reduceMul, Nat.zero_mul, AV.cells, AV.one, known, List.append_assoc, getE_0, getE_k, setE_0, setE_k, List.getElem?_cons_zero, List.getElem?_cons_succ, List.set_cons_zero, List.set_cons_succ, List.take_succ_cons, List.take_zero, List.drop_zero, List.drop_succ_cons, List.drop_nil, List.all_cons, List.all_nil, Bool.and_self, Bool.and_true, Bool.true_and, Bool.and_false, Bool.false_and, splice, fillI, Nat.reduceLeDiff, strA, Nat.add_assoc, beq_self_eq_true, Bool.false_eq_true, bq_ft, bq_tf, Bool.not_true, Bool.not_false, Nat.le_refl, List.map_cons, List.map_nil, isNilA, nilPtr, nilSl, nilIf, nilFn, nilMap, nilCheckA, if_true, if_false, lt_lit, le_lit, lt_lit2, le_lit2, le_sub1, le_sub2]; rfl
    apply evI_false rfl
    apply evI_seq
    · simp only [q3, List.append_nil, List.nil_append, List.cons_append, List.getD_cons_zero, List.getD_cons_succ, evI, opsI, stepI, wantI, opI, AAct.evI, look, AAct.put, mkVal, mkVM, intOpA, intA, shiftA, unA, decide_true, decide_false, Option.map_some, Option.map_none, reduceIte, Nat.reduceEqDiff, Nat.reduceLT, Option.bind_some, Option.bind_none, true_and, and_true, and_self, Nat.zero_lt_succ, cellsAt, List.length_append, Nat.le_add_right, List.length_cons, List.length_nil, Nat.zero_add, Nat.add_zero, Nat.reduceAdd, Nat.reduceMul, Nat.zero_mul, AV.cells, AV.one, known, List.append_assoc, getE_0, getE_k, setE_0, setE_k, List.getElem?_cons_zero, List.getElem?_cons_succ, List.set_cons_zero, List.set_cons_succ, List.take_succ_cons, List.take_zero, List.drop_zero, List.drop_succ_cons, List.drop_nil, List.all_cons, List.all_nil, Bool.and_self, Bool.and_true, Bool.true_and, Bool.and_false, Bool.false_and, splice, fillI, Nat.reduceLeDiff, strA, Nat.add_assoc, beq_self_eq_true, Bool.false_eq_true, bq_ft, bq_tf, Bool.not_true, Bool.not_false, Nat.le_refl, List.map_cons, List.map_nil, isNilA, nilPtr, nilSl, nilIf, nilFn, nilMap, nilCheckA, if_true, if_false, lt_lit, le_lit, lt_lit2, le_lit2, le_sub1, le_sub2]; rfl
    apply evI_false rfl
    apply evI_seq
    · simp only [q4, List.append_nil, List.nil_append, List.cons_append, List.getD_cons_zero, List.getD_cons_succ, evI, opsI, stepI, wantI, opI, AAct.evI, look, AAct.put, mkVal, mkVM, intOpA, intA, shiftA, unA, decide_true, decide_false, Option.map_some, Option.map_none, reduceIte, Nat.reduceEqDiff, Nat.reduceLT, Option.bind_some, Option.bind_none, true_and, and_true, and_self, Nat.zero_lt_succ, cellsAt, List.length_append, Nat.le_add_right, List.length_cons, List.length_nil, Nat.zero_add, Nat.add_zero, Nat.reduceAdd, Nat.reduceMul, Nat.zero_mul, AV.cells, AV.one, known, List.append_assoc, getE_0, getE_k, setE_0, setE_k, List.getElem?_cons_zero, List.getElem?_cons_succ, List.set_cons_zero, List.set_cons_succ, List.take_succ_cons, List.take_zero, List.drop_zero, List.drop_succ_cons, List.drop_nil, List.all_cons, List.all_nil, Bool.and_self, Bool.and_true, Bool.true_and, Bool.and_false, Bool.false_and, splice, fillI, Nat.reduceLeDiff, strA, Nat.add_assoc, beq_self_eq_true, Bool.false_eq_true, bq_ft, bq_tf, Bool.not_true, Bool.not_false, Nat.le_refl, List.map_cons, List.map_nil, isNilA, nilPtr, nilSl, nilIf, nilFn, nilMap, nilCheckA, if_true, if_false, lt_lit, le_lit, lt_lit2, le_lit2, le_sub1, le_sub2]; rfl
    apply evI_false rfl
    apply evI_seq
    · simp only [q5, List.append_nil, List.nil_append, List.cons_append, List.getD_cons_zero, List.getD_cons_succ, evI, opsI, stepI, wantI, opI, AAct.evI, look, AAct.put, mkVal, mkVM, intOpA, intA, shiftA, unA, decide_true, decide_false, Option.map_some, Option.map_none, reduceIte, Nat.reduceEqDiff, Nat.reduceLT, Option.bind_some, Option.bind_none, true_and, and_true, and_self, Nat.zero_lt_succ, cellsAt, List.length_append, Nat.le_add_right, List.length_cons, List.length_nil, Nat.zero_add, Nat.add_zero, Nat.reduceAdd, Nat.reduceMul, Nat.zero_mul, AV.cells, AV.one, known, List.append_assoc, getE_0, getE_k, setE_0, setE_k, List.getElem?_cons_zero, List.getElem?_cons_succ, List.set_cons_zero, List.set_cons_succ, List.take_succ_cons, List.take_zero, List.drop_zero, List.drop_succ_cons, List.drop_nil, List.all_cons, List.all_nil, Bool.and_self, Bool.and_true, Bool.true_and, Bool.and_false, Bool.false_and, splice, fillI, Nat.reduceLeDiff, strA, Nat.add_assoc, beq_self_eq_true, Bool.false_eq_true, bq_ft, bq_tf, Bool.not_true, Bool.not_false, Nat.le_refl, List.map_cons, List.map_nil, isNilA, nilPtr, nilSl, nilIf, nilFn, nilMap, nilCheckA, if_true, if_false, lt_lit, le_lit, lt_lit2, le_lit2, le_sub1, le_sub2]; rfl
    apply evI_true rfl
    apply evI_seq
    · simp only [hcl, q6, List.append_nil, List.nil_append, List.cons_append, List.getD_cons_zero, List.getD_cons_succ, evI, opsI, stepI, wantI, opI, AAct.evI, look, AAct.put, mkVal, mkVM, intOpA, intA, shiftA, unA, decide_true, decide_false, Option.map_some, Option.map_none, reduceIte, Nat.reduceEqDiff, Nat.reduceLT, Option.bind_some, Option.bind_none, true_and, and_true, and_self, Nat.zero_lt_succ, cellsAt, List.length_append, Nat.le_add_right, List.length_cons, List.length_nil, Nat.zero_add, Nat.add_zero, Nat.reduceAdd, Nat.reduceMul, Nat.zero_mul, AV.cells, AV.one, known, List.append_assoc, getE_0, getE_k, setE_0, setE_k, List.getElem?_cons_zero, List.getElem?_cons_succ, List.set_cons_zero, List.set_cons_succ, List.take_succ_cons, List.take_zero, List.drop_zero, List.drop_succ_cons, List.drop_nil, List.all_cons, List.all_nil, Bool.and_self, Bool.and_true, Bool.true_and, Bool.and_false, Bool.false_and, splice, fillI, Nat.reduceLeDiff, strA, Nat.add_assoc, beq_self_eq_true, Bool.false_eq_true, bq_ft, bq_tf, Bool.not_true, Bool.not_false, Nat.le_refl, List.map_cons, List.map_nil, isNilA, nilPtr, nilSl, nilIf, nilFn, nilMap, nilCheckA, if_true, if_false, lt_lit, le_lit, lt_lit2, le_lit2, le_sub1, le_sub2]; rfl
    rfl
  all_goals rfl
end
theorem keep_regT {A B : Mem} {mi dp : Nat} {ec : List AV} {t : List (Nat × AV)} (l0 : look t 0 = .ptr A.length 0 0) (l1 : look t 1 = .map mi) (l2 : look t 2 = .int .i64 (dp : Nat)) (l7 : look t 7 = .ptr (A.length + (B.length + 1)) 0 0) (l8 : look t 8 = .ptr (A.length + (B.length + 2)) 0 0) (l9 : look t 9 = .fn (.func 94) [.ptr (A.length + (B.length + 2)) 0 0, .ptr (A.length + (B.length + 1)) 0 0]) : (⟨87, regT A B mi dp ec t, []⟩ : AAct).keepT [0, 1, 2, 7, 8, 9] = ⟨87, ctS A B mi dp, []⟩ := by
  simp only [AAct.keepT, List.map_cons, List.map_nil, regT, look, reduceIte, Nat.reduceEqDiff, l0, l1, l2, l7, l8, l9]
theorem frz_row {n0 k q off len sz st ty : Nat} {H : Mem} {cs cs' : List AV} (h : ¬ q < n0) (hq : H[q]? = some (.row cs st ty)) (hl : off + len * sz ≤ cs.length) (hf : frzL (frz n0 H k) ((cs.drop off).take (len * sz)) = some cs') : frz n0 H (k + 1) (.slc q off len sz st) = some (.lst len cs') := by
  show (if q < n0 then _ else _) = _
  rw [if_neg h, hq]
  show (if st = st ∧ _ then _ else _) = _
  rw [if_pos ⟨rfl, hl⟩, hf]; rfl
/-- What the loop holds once the element is read. -/
theorem ct_next {A B : Mem} {s : List UInt8} {at_ many at2 many2 : Nat} {ec : List AV} {x : AAct} : roundEnd (some [0, 1, 2, 7, 8, 9]) (A ++ rdr s at_ many :: (B ++ [rowL .nilS, rowB])) x (A ++ rdr s at2 many2 :: (B ++ [rowL (.slc (A.length + (B.length + 4)) 0 1 5 0), rowB, r27 [] [], rowC ec])) = (x.keepT [0, 1, 2, 7, 8, 9], A ++ rdr s at2 many2 :: (B ++ [rowL (.slc (A.length + (B.length + 4)) 0 1 5 0), rowB, r27 [] [], rowC ec])) := by
  have ht : (A ++ rdr s at2 many2 :: (B ++ [rowL (.slc (A.length + (B.length + 4)) 0 1 5 0), rowB, r27 [] [], rowC ec])).take (A ++ rdr s at_ many :: (B ++ [rowL .nilS, rowB])).length = A ++ rdr s at2 many2 :: (B ++ [rowL (.slc (A.length + (B.length + 4)) 0 1 5 0), rowB]) := by
    rw [show A ++ rdr s at2 many2 :: (B ++ [rowL (.slc (A.length + (B.length + 4)) 0 1 5 0), rowB, r27 [] [], rowC ec]) = (A ++ rdr s at2 many2 :: (B ++ [rowL (.slc (A.length + (B.length + 4)) 0 1 5 0), rowB])) ++ [r27 [] [], rowC ec] by simp]
    exact List.take_left' (by simp)
  refine re_keep (b := rowL (.slc (A.length + (B.length + 4)) 0 1 5 0)) ?_ ?_ ?_
  · rw [ht]; simp
  · simp only [lowB, lowL, low, Bool.and_true, List.length_append, List.length_cons, List.length_nil]
    exact decide_eq_false (by omega)
  · rw [ht]
    intro h
    have h1 := congrArg (fun M : Mem => M[A.length + (B.length + 1)]?) h
    simp only [getE_k, List.getElem?_cons_succ, getE_0] at h1
    simp at h1
section
variable {N : Nat}
variable (s : List UInt8) (hs : s.length < 4294967281)
include hs
theorem content_one (hN : 2 ≤ N) (at_ many : Nat) (A B : Mem) (hlo : LoM A B) (mi dp : Nat) (hdp : dp ≤ 1000) (b : UInt8) (r : List UInt8) (hd : s.drop at_ = 60 :: b :: r) (hb1 : b ≠ 47) (hb2 : b ≠ 33) (hb3 : b ≠ 63)
    (at2 many2 : Nat) (c0 c1 c2 : List UInt8) (an kn : Nat) (ac kc : List AV) (hac : lowL 0 ac = true) (hkc : lowL 0 kc = true) (d : Nat) (hd8 : 8 ≤ d)
    (hE : ∀ dd, dd + 1 = d → evFI Tryz.prog (cfg ml) T N dd 38 [.ptr A.length 0 0, .map mi, .int .i64 ((dp + 1 : Nat) : Int)] (A ++ rdr s at_ many :: (B ++ [rowL .nilS, rowB, r27 [] []])) = some (.ret (.agg [.str c0, .str c1, .str c2, .lst an ac, .lst kn kc]), A ++ rdr s at2 many2 :: (B ++ [rowL .nilS, rowB, r27 [] []])))
    (hat2 : at2 ≤ s.length) (h2 : hasP (s.drop at2) [60, 47] = true) :
    evFI Tryz.prog (cfg ml) T N d 67 [.ptr A.length 0 0, .map mi, .int .i64 (dp : Nat)] (A ++ rdr s at_ many :: B) = some (.ret (.lst 1 [.str c0, .str c1, .str c2, .lst an ac, .lst kn kc]), A ++ rdr s at2 many2 :: B) := by
  obtain ⟨n, rfl⟩ : ∃ n, d = n + 8 := ⟨d - 8, by omega⟩
  obtain ⟨N, rfl⟩ : ∃ m, N = m + 2 := ⟨N - 2, by omega⟩
  have hE1 := hE (n + 7) rfl
  obtain ⟨t, l0, l1, l2, l7, l8, l9, hpre⟩ := ct_pre (N := N + 2) (ml := ml) s hs n at_ many A B mi dp b r hd hb1 hb2 hb3
  have hreg := reg_ok (P := Tryz.prog) (ml := ml) s (evFI Tryz.prog (cfg ml) T (N + 2) (n + 7)) at_ many A B mi dp hdp at2 many2 c0 c1 c2 an kn ac kc t l0 l1 l2 l7 hE1
  let ec : List AV := [.str c0, .str c1, .str c2, .lst an ac, .lst kn kc]
  let M2 : Mem := A ++ rdr s at2 many2 :: (B ++ [rowL (.slc (A.length + (B.length + 4)) 0 1 5 0), rowB, r27 [] [], rowC ec])
  have hround : evI Tryz.prog (cfg ml) (evFI Tryz.prog (cfg ml) T (N + 2) (n + 7)) (N + 2) loopCt ⟨87, ctS A B mi dp, []⟩ (A ++ rdr s at_ many :: (B ++ [rowL .nilS, rowB])) = some (.normal, ⟨87, regT A B mi dp ec t, []⟩, M2) := by
    rw [hpre]
    apply evI_block
    apply evI_block
    simp only [evI, List.length_append, List.length_cons, List.length_nil, Nat.add_assoc, Nat.zero_add, Nat.reduceAdd, List.append_assoc, List.cons_append, List.nil_append]
    exact hreg
  have q1 := has_eq (P := Tryz.prog) (N := N + 2) (ml := ml) s at2 many2 A (B ++ [rowL (.slc (A.length + (B.length + 4)) 0 1 5 0), rowB, r27 [] [], rowC ec]) hat2 (n + 7) (by omega) [60, 47]
  rw [h2] at q1
  have q2 := flush_no (N := N + 2) (ml := ml) (n + 7) (by omega) M2 (A.length + (B.length + 2)) (A.length + (B.length + 1)) (104 + 1) (by simp only [M2]; rw [getE_k, List.getElem?_cons_succ, getE_k]; rfl)
  have hcl := callable94
  have hl : M2[A.length + (B.length + 1)]? = some (rowL (.slc (A.length + (B.length + 4)) 0 1 5 0)) := by simp only [M2]; rw [getE_k, List.getElem?_cons_succ, getE_0]; rfl
  have hrow : M2[A.length + (B.length + 4)]? = some (rowC ec) := by simp only [M2]; rw [getE_k, List.getElem?_cons_succ, getE_k]; rfl
  have htk : M2.take (A ++ rdr s at_ many :: B).length = A ++ rdr s at2 many2 :: B := take_rdr _ _ _ _ _
  have hq1 : evFI Tryz.prog (cfg ml) T (N + 2) (n + 7) 62 [.ptr A.length 0 0, .str [60, 47]] M2 = some (.ret (.bool true), M2) := q1
  have hnext := fun x => @ct_next A B s at_ many at2 many2 ec x
  change ∀ x, roundEnd _ _ x M2 = (_, M2) at hnext
  clear_value M2
  refine evF_ret (m := 87) (v := .slc (A.length + (B.length + 4)) 0 1 5 0) (a := ?aa) (H1 := M2) rfl t67 rfl ?hb ?hd ?hr ?hz
  case hb =>
    apply evI_seq
    · simp only [List.length_cons, List.length_nil, idx, I67, List.append_nil, List.nil_append, List.cons_append, List.getD_cons_zero, List.getD_cons_succ, evI, opsI, stepI, wantI, opI, AAct.evI, look, AAct.put, mkVal, mkVM, intOpA, intA, shiftA, unA, decide_true, decide_false, Option.map_some, Option.map_none, reduceIte, Nat.reduceEqDiff, Nat.reduceLT, Option.bind_some, Option.bind_none, true_and, and_true, and_self, Nat.zero_lt_succ, cellsAt, List.length_append, Nat.le_add_right, List.length_cons, List.length_nil, Nat.zero_add, Nat.add_zero, Nat.reduceAdd, Nat.reduceMul, Nat.zero_mul, AV.cells, AV.one, known, List.append_assoc, getE_0, getE_k, setE_0, setE_k, List.getElem?_cons_zero, List.getElem?_cons_succ, List.set_cons_zero, List.set_cons_succ, List.take_succ_cons, List.take_zero, List.drop_zero, List.drop_succ_cons, List.drop_nil, List.all_cons, List.all_nil, Bool.and_self, Bool.and_true, Bool.true_and, Bool.and_false, Bool.false_and, splice, fillI, Nat.reduceLeDiff, strA, Nat.add_assoc, beq_self_eq_true, Bool.false_eq_true, bq_ft, bq_tf, Bool.not_true, Bool.not_false, Nat.le_refl, List.map_cons, List.map_nil, isNilA, nilPtr, nilSl, nilIf, nilFn, nilMap, nilCheckA, if_true, if_false, lt_lit, le_lit, lt_lit2, le_lit2, le_sub1, le_sub2]; rfl
    apply evI_seq
    · simp only [List.append_nil, List.nil_append, List.cons_append, List.getD_cons_zero, List.getD_cons_succ, evI, opsI, stepI, wantI, opI, AAct.evI, look, AAct.put, mkVal, mkVM, intOpA, intA, shiftA, unA, decide_true, decide_false, Option.map_some, Option.map_none, reduceIte, Nat.reduceEqDiff, Nat.reduceLT, Option.bind_some, Option.bind_none, true_and, and_true, and_self, Nat.zero_lt_succ, cellsAt, List.length_append, Nat.le_add_right, List.length_cons, List.length_nil, Nat.zero_add, Nat.add_zero, Nat.reduceAdd, Nat.reduceMul, Nat.zero_mul, AV.cells, AV.one, known, List.append_assoc, getE_0, getE_k, setE_0, setE_k, List.getElem?_cons_zero, List.getElem?_cons_succ, List.set_cons_zero, List.set_cons_succ, List.take_succ_cons, List.take_zero, List.drop_zero, List.drop_succ_cons, List.drop_nil, List.all_cons, List.all_nil, Bool.and_self, Bool.and_true, Bool.true_and, Bool.and_false, Bool.false_and, splice, fillI, Nat.reduceLeDiff, strA, Nat.add_assoc, beq_self_eq_true, Bool.false_eq_true, bq_ft, bq_tf, Bool.not_true, Bool.not_false, Nat.le_refl, List.map_cons, List.map_nil, isNilA, nilPtr, nilSl, nilIf, nilFn, nilMap, nilCheckA, if_true, if_false, lt_lit, le_lit, lt_lit2, le_lit2, le_sub1, le_sub2]; rfl
    apply evI_seq
    · simp only [List.append_nil, List.nil_append, List.cons_append, List.getD_cons_zero, List.getD_cons_succ, evI, opsI, stepI, wantI, opI, AAct.evI, look, AAct.put, mkVal, mkVM, intOpA, intA, shiftA, unA, decide_true, decide_false, Option.map_some, Option.map_none, reduceIte, Nat.reduceEqDiff, Nat.reduceLT, Option.bind_some, Option.bind_none, true_and, and_true, and_self, Nat.zero_lt_succ, cellsAt, List.length_append, Nat.le_add_right, List.length_cons, List.length_nil, Nat.zero_add, Nat.add_zero, Nat.reduceAdd, Nat.reduceMul, Nat.zero_mul, AV.cells, AV.one, known, List.append_assoc, getE_0, getE_k, setE_0, setE_k, List.getElem?_cons_zero, List.getElem?_cons_succ, List.set_cons_zero, List.set_cons_succ, List.take_succ_cons, List.take_zero, List.drop_zero, List.drop_succ_cons, List.drop_nil, List.all_cons, List.all_nil, Bool.and_self, Bool.and_true, Bool.true_and, Bool.and_false, Bool.false_and, splice, fillI, Nat.reduceLeDiff, strA, Nat.add_assoc, beq_self_eq_true, Bool.false_eq_true, bq_ft, bq_tf, Bool.not_true, Bool.not_false, Nat.le_refl, List.map_cons, List.map_nil, isNilA, nilPtr, nilSl, nilIf, nilFn, nilMap, nilCheckA, if_true, if_false, lt_lit, le_lit, lt_lit2, le_lit2, le_sub1, le_sub2]; rfl
    apply evI_seq
    · simp only [List.append_nil, List.nil_append, List.cons_append, List.getD_cons_zero, List.getD_cons_succ, evI, opsI, stepI, wantI, opI, AAct.evI, look, AAct.put, mkVal, mkVM, intOpA, intA, shiftA, unA, decide_true, decide_false, Option.map_some, Option.map_none, reduceIte, Nat.reduceEqDiff, Nat.reduceLT, Option.bind_some, Option.bind_none, true_and, and_true, and_self, Nat.zero_lt_succ, cellsAt, List.length_append, Nat.le_add_right, List.length_cons, List.length_nil, Nat.zero_add, Nat.add_zero, Nat.reduceAdd, Nat.reduceMul, Nat.zero_mul, AV.cells, AV.one, known, List.append_assoc, getE_0, getE_k, setE_0, setE_k, List.getElem?_cons_zero, List.getElem?_cons_succ, List.set_cons_zero, List.set_cons_succ, List.take_succ_cons, List.take_zero, List.drop_zero, List.drop_succ_cons, List.drop_nil, List.all_cons, List.all_nil, Bool.and_self, Bool.and_true, Bool.true_and, Bool.and_false, Bool.false_and, splice, fillI, Nat.reduceLeDiff, strA, Nat.add_assoc, beq_self_eq_true, Bool.false_eq_true, bq_ft, bq_tf, Bool.not_true, Bool.not_false, Nat.le_refl, List.map_cons, List.map_nil, isNilA, nilPtr, nilSl, nilIf, nilFn, nilMap, nilCheckA, if_true, if_false, lt_lit, le_lit, lt_lit2, le_lit2, le_sub1, le_sub2]; rfl
    apply evI_seq
    · apply evI_block_exit
      apply evI_loop
      refine loopA_go (a' := ⟨87, regT A B mi dp ec t, []⟩) (H' := M2) hround ?_
      rw [hnext, keep_regT l0 l1 l2 l7 l8 l9]
      apply loopA_exit
      simp only [AAct.keepT, hq1, List.append_nil, List.nil_append, List.cons_append, List.getD_cons_zero, List.getD_cons_succ, evI, opsI, stepI, wantI, opI, AAct.evI, look, AAct.put, mkVal, mkVM, intOpA, intA, shiftA, unA, decide_true, decide_false, Option.map_some, Option.map_none, reduceIte, Nat.reduceEqDiff, Nat.reduceLT, Option.bind_some, Option.bind_none, true_and, and_true, and_self, Nat.zero_lt_succ, cellsAt, List.length_append, Nat.le_add_right, List.length_cons, List.length_nil, Nat.zero_add, Nat.add_zero, Nat.reduceAdd, Nat.reduceMul, Nat.zero_mul, AV.cells, AV.one, known, List.append_assoc, getE_0, getE_k, setE_0, setE_k, List.getElem?_cons_zero, List.getElem?_cons_succ, List.set_cons_zero, List.set_cons_succ, List.take_succ_cons, List.take_zero, List.drop_zero, List.drop_succ_cons, List.drop_nil, List.all_cons, List.all_nil, Bool.and_self, Bool.and_true, Bool.true_and, Bool.and_false, Bool.false_and, splice, fillI, Nat.reduceLeDiff, strA, Nat.add_assoc, beq_self_eq_true, Bool.false_eq_true, bq_ft, bq_tf, Bool.not_true, Bool.not_false, Nat.le_refl, List.map_cons, List.map_nil, isNilA, nilPtr, nilSl, nilIf, nilFn, nilMap, nilCheckA, if_true, if_false, lt_lit, le_lit, lt_lit2, le_lit2, le_sub1, le_sub2]; rfl
    apply evI_seq
    · simp only [hcl, q2, List.append_nil, List.nil_append, List.cons_append, List.getD_cons_zero, List.getD_cons_succ, evI, opsI, stepI, wantI, opI, AAct.evI, look, AAct.put, mkVal, mkVM, intOpA, intA, shiftA, unA, decide_true, decide_false, Option.map_some, Option.map_none, reduceIte, Nat.reduceEqDiff, Nat.reduceLT, Option.bind_some, Option.bind_none, true_and, and_true, and_self, Nat.zero_lt_succ, cellsAt, List.length_append, Nat.le_add_right, List.length_cons, List.length_nil, Nat.zero_add, Nat.add_zero, Nat.reduceAdd, Nat.reduceMul, Nat.zero_mul, AV.cells, AV.one, known, List.append_assoc, getE_0, getE_k, setE_0, setE_k, List.getElem?_cons_zero, List.getElem?_cons_succ, List.set_cons_zero, List.set_cons_succ, List.take_succ_cons, List.take_zero, List.drop_zero, List.drop_succ_cons, List.drop_nil, List.all_cons, List.all_nil, Bool.and_self, Bool.and_true, Bool.true_and, Bool.and_false, Bool.false_and, splice, fillI, Nat.reduceLeDiff, strA, Nat.add_assoc, beq_self_eq_true, Bool.false_eq_true, bq_ft, bq_tf, Bool.not_true, Bool.not_false, Nat.le_refl, List.map_cons, List.map_nil, isNilA, nilPtr, nilSl, nilIf, nilFn, nilMap, nilCheckA, if_true, if_false, lt_lit, le_lit, lt_lit2, le_lit2, le_sub1, le_sub2]; rfl
    simp only [hl, List.append_nil, List.nil_append, List.cons_append, List.getD_cons_zero, List.getD_cons_succ, evI, opsI, stepI, wantI, opI, AAct.evI, look, AAct.put, mkVal, mkVM, intOpA, intA, shiftA, unA, decide_true, decide_false, Option.map_some, Option.map_none, reduceIte, Nat.reduceEqDiff, Nat.reduceLT, Option.bind_some, Option.bind_none, true_and, and_true, and_self, Nat.zero_lt_succ, cellsAt, List.length_append, Nat.le_add_right, List.length_cons, List.length_nil, Nat.zero_add, Nat.add_zero, Nat.reduceAdd, Nat.reduceMul, Nat.zero_mul, AV.cells, AV.one, known, List.append_assoc, getE_0, getE_k, setE_0, setE_k, List.getElem?_cons_zero, List.getElem?_cons_succ, List.set_cons_zero, List.set_cons_succ, List.take_succ_cons, List.take_zero, List.drop_zero, List.drop_succ_cons, List.drop_nil, List.all_cons, List.all_nil, Bool.and_self, Bool.and_true, Bool.true_and, Bool.and_false, Bool.false_and, splice, fillI, Nat.reduceLeDiff, strA, Nat.add_assoc, beq_self_eq_true, Bool.false_eq_true, bq_ft, bq_tf, Bool.not_true, Bool.not_false, Nat.le_refl, List.map_cons, List.map_nil, isNilA, nilPtr, nilSl, nilIf, nilFn, nilMap, nilCheckA, if_true, if_false, lt_lit, le_lit, lt_lit2, le_lit2, le_sub1, le_sub2]; rfl
  case hd => rfl
  case hr => simp only [I67, resI, resLI, look, reduceIte, Nat.reduceEqDiff, Option.map_some]
  case hz =>
    have hl1 : ∀ j, lowL j ac = true := fun j => pureL_low hac j
    have hl2 : ∀ j, lowL j kc = true := fun j => pureL_low hkc j
    refine fin_cut rfl (v' := .lst 1 ec) ?_ ?_ htk (by
      have := hlo.whole s at2 many2
      simp only [List.length_append, List.length_cons] at this ⊢
      exact this)
    · refine frz_row (by simp only [List.length_append, List.length_cons]; omega) hrow (Nat.le_refl 5) ?_
      simp only [ec, List.drop_zero, List.take_succ_cons, List.take_zero, frz, frzL, low, hl1, hl2, if_true]
    · simp only [ec, low, lowL, hl1, hl2, Bool.and_self]
theorem content_cpan (hN : 2 ≤ N) (at_ many : Nat) (A B : Mem) (mi dp : Nat) (hdp : dp ≤ 1000) (b : UInt8) (r : List UInt8) (hd : s.drop at_ = 60 :: b :: r) (hb1 : b ≠ 47) (hb2 : b ≠ 33) (hb3 : b ≠ 63) (er : Int) (d : Nat) (hd8 : 8 ≤ d)
    (hE : ∀ dd, dd + 1 = d → ∃ M, evFI Tryz.prog (cfg ml) T N dd 38 [.ptr A.length 0 0, .map mi, .int .i64 ((dp + 1 : Nat) : Int)] (A ++ rdr s at_ many :: (B ++ [rowL .nilS, rowB, r27 [] []])) = some (.pan (failv er), M) ∧ M.take A.length = A) :
    ∃ M, evFI Tryz.prog (cfg ml) T N d 67 [.ptr A.length 0 0, .map mi, .int .i64 (dp : Nat)] (A ++ rdr s at_ many :: B) = some (.pan (failv er), M) ∧ M.take A.length = A := by
  obtain ⟨n, rfl⟩ : ∃ n, d = n + 8 := ⟨d - 8, by omega⟩
  obtain ⟨N, rfl⟩ : ∃ m, N = m + 2 := ⟨N - 2, by omega⟩
  obtain ⟨M1, hE1, hM1⟩ := hE (n + 7) rfl
  obtain ⟨t, l0, l1, l2, l7, l8, l9, hpre⟩ := ct_pre (N := N + 2) (ml := ml) s hs n at_ many A B mi dp b r hd hb1 hb2 hb3
  have hreg := reg_pan (P := Tryz.prog) (ml := ml) s (evFI Tryz.prog (cfg ml) T (N + 2) (n + 7)) at_ many A B mi dp hdp t l0 l1 l2 l7 er M1 hE1
  have hround : evI Tryz.prog (cfg ml) (evFI Tryz.prog (cfg ml) T (N + 2) (n + 7)) (N + 2) loopCt ⟨87, ctS A B mi dp, []⟩ (A ++ rdr s at_ many :: (B ++ [rowL .nilS, rowB])) = some (.pan (failv er), badD regCt ⟨87, t, []⟩, M1) := by
    rw [hpre]
    apply evI_block_pan
    apply evI_block_pan
    simp only [evI, List.length_append, List.length_cons, List.length_nil, Nat.add_assoc, Nat.zero_add, Nat.reduceAdd, List.append_assoc, List.cons_append, List.nil_append]
    exact hreg
  obtain ⟨M, hM, hMA⟩ := fin_fail er (A := A) (H0 := A ++ rdr s at_ many :: B) (H1 := M1) hM1 (by simp)
  refine ⟨M, ?_, hMA⟩
  refine evF_pan (m := 87) (v := failv er) (a := badD regCt ⟨87, t, []⟩) (H1 := M1) rfl t67 rfl ?hb ?hd hM
  case hb =>
    apply evI_seq
    · simp only [List.length_cons, List.length_nil, idx, I67, List.append_nil, List.nil_append, List.cons_append, List.getD_cons_zero, List.getD_cons_succ, evI, opsI, stepI, wantI, opI, AAct.evI, look, AAct.put, mkVal, mkVM, intOpA, intA, shiftA, unA, decide_true, decide_false, Option.map_some, Option.map_none, reduceIte, Nat.reduceEqDiff, Nat.reduceLT, Option.bind_some, Option.bind_none, true_and, and_true, and_self, Nat.zero_lt_succ, cellsAt, List.length_append, Nat.le_add_right, List.length_cons, List.length_nil, Nat.zero_add, Nat.add_zero, Nat.reduceAdd, Nat.reduceMul, Nat.zero_mul, AV.cells, AV.one, known, List.append_assoc, getE_0, getE_k, setE_0, setE_k, List.getElem?_cons_zero, List.getElem?_cons_succ, List.set_cons_zero, List.set_cons_succ, List.take_succ_cons, List.take_zero, List.drop_zero, List.drop_succ_cons, List.drop_nil, List.all_cons, List.all_nil, Bool.and_self, Bool.and_true, Bool.true_and, Bool.and_false, Bool.false_and, splice, fillI, Nat.reduceLeDiff, strA, Nat.add_assoc, beq_self_eq_true, Bool.false_eq_true, bq_ft, bq_tf, Bool.not_true, Bool.not_false, Nat.le_refl, List.map_cons, List.map_nil, isNilA, nilPtr, nilSl, nilIf, nilFn, nilMap, nilCheckA, if_true, if_false, lt_lit, le_lit, lt_lit2, le_lit2, le_sub1, le_sub2]; rfl
    apply evI_seq
    · simp only [List.append_nil, List.nil_append, List.cons_append, List.getD_cons_zero, List.getD_cons_succ, evI, opsI, stepI, wantI, opI, AAct.evI, look, AAct.put, mkVal, mkVM, intOpA, intA, shiftA, unA, decide_true, decide_false, Option.map_some, Option.map_none, reduceIte, Nat.reduceEqDiff, Nat.reduceLT, Option.bind_some, Option.bind_none, true_and, and_true, and_self, Nat.zero_lt_succ, cellsAt, List.length_append, Nat.le_add_right, List.length_cons, List.length_nil, Nat.zero_add, Nat.add_zero, Nat.reduceAdd, Nat.reduceMul, Nat.zero_mul, AV.cells, AV.one, known, List.append_assoc, getE_0, getE_k, setE_0, setE_k, List.getElem?_cons_zero, List.getElem?_cons_succ, List.set_cons_zero, List.set_cons_succ, List.take_succ_cons, List.take_zero, List.drop_zero, List.drop_succ_cons, List.drop_nil, List.all_cons, List.all_nil, Bool.and_self, Bool.and_true, Bool.true_and, Bool.and_false, Bool.false_and, splice, fillI, Nat.reduceLeDiff, strA, Nat.add_assoc, beq_self_eq_true, Bool.false_eq_true, bq_ft, bq_tf, Bool.not_true, Bool.not_false, Nat.le_refl, List.map_cons, List.map_nil, isNilA, nilPtr, nilSl, nilIf, nilFn, nilMap, nilCheckA, if_true, if_false, lt_lit, le_lit, lt_lit2, le_lit2, le_sub1, le_sub2]; rfl
    apply evI_seq
    · simp only [List.append_nil, List.nil_append, List.cons_append, List.getD_cons_zero, List.getD_cons_succ, evI, opsI, stepI, wantI, opI, AAct.evI, look, AAct.put, mkVal, mkVM, intOpA, intA, shiftA, unA, decide_true, decide_false, Option.map_some, Option.map_none, reduceIte, Nat.reduceEqDiff, Nat.reduceLT, Option.bind_some, Option.bind_none, true_and, and_true, and_self, Nat.zero_lt_succ, cellsAt, List.length_append, Nat.le_add_right, List.length_cons, List.length_nil, Nat.zero_add, Nat.add_zero, Nat.reduceAdd, Nat.reduceMul, Nat.zero_mul, AV.cells, AV.one, known, List.append_assoc, getE_0, getE_k, setE_0, setE_k, List.getElem?_cons_zero, List.getElem?_cons_succ, List.set_cons_zero, List.set_cons_succ, List.take_succ_cons, List.take_zero, List.drop_zero, List.drop_succ_cons, List.drop_nil, List.all_cons, List.all_nil, Bool.and_self, Bool.and_true, Bool.true_and, Bool.and_false, Bool.false_and, splice, fillI, Nat.reduceLeDiff, strA, Nat.add_assoc, beq_self_eq_true, Bool.false_eq_true, bq_ft, bq_tf, Bool.not_true, Bool.not_false, Nat.le_refl, List.map_cons, List.map_nil, isNilA, nilPtr, nilSl, nilIf, nilFn, nilMap, nilCheckA, if_true, if_false, lt_lit, le_lit, lt_lit2, le_lit2, le_sub1, le_sub2]; rfl
    apply evI_seq
    · simp only [List.append_nil, List.nil_append, List.cons_append, List.getD_cons_zero, List.getD_cons_succ, evI, opsI, stepI, wantI, opI, AAct.evI, look, AAct.put, mkVal, mkVM, intOpA, intA, shiftA, unA, decide_true, decide_false, Option.map_some, Option.map_none, reduceIte, Nat.reduceEqDiff, Nat.reduceLT, Option.bind_some, Option.bind_none, true_and, and_true, and_self, Nat.zero_lt_succ, cellsAt, List.length_append, Nat.le_add_right, List.length_cons, List.length_nil, Nat.zero_add, Nat.add_zero, Nat.reduceAdd, Nat.reduceMul, Nat.zero_mul, AV.cells, AV.one, known, List.append_assoc, getE_0, getE_k, setE_0, setE_k, List.getElem?_cons_zero, List.getElem?_cons_succ, List.set_cons_zero, List.set_cons_succ, List.take_succ_cons, List.take_zero, List.drop_zero, List.drop_succ_cons, List.drop_nil, List.all_cons, List.all_nil, Bool.and_self, Bool.and_true, Bool.true_and, Bool.and_false, Bool.false_and, splice, fillI, Nat.reduceLeDiff, strA, Nat.add_assoc, beq_self_eq_true, Bool.false_eq_true, bq_ft, bq_tf, Bool.not_true, Bool.not_false, Nat.le_refl, List.map_cons, List.map_nil, isNilA, nilPtr, nilSl, nilIf, nilFn, nilMap, nilCheckA, if_true, if_false, lt_lit, le_lit, lt_lit2, le_lit2, le_sub1, le_sub2]; rfl
    apply evI_seq_pan
    apply evI_block_pan
    apply evI_loop
    exact loopA_pan hround
  case hd => rfl
end
end Go.Proofs.YtmnajffpmbidiaaGreatDoor.Ev
