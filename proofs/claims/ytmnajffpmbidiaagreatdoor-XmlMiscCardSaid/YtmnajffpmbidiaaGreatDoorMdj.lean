/- Parts of one proof. -/
import Derived.Test.YtmnajffpmbidiaaGreatDoorMdi
set_option linter.all false
namespace Go.Proofs.YtmnajffpmbidiaaGreatDoor.Ev
variable {ml : Int}
open Go.Proofs.YtmnajffpmbidiaaGreatDoor.Ic
set_option maxRecDepth 100000
set_option maxHeartbeats 4000000
theorem evI_block_congr {P : Program} {g : Cfg} {F : FSem} {N id : Nat} {c c2 : IC} {a a2 : AAct} {H H2 : Mem} (h : evI P g F N c a H = evI P g F N c2 a2 H2) : evI P g F N (.block id c) a H = evI P g F N (.block id c2) a2 H2 := by simp only [evI, h]
section
variable {N : Nat}
variable (s : List UInt8) (hs : s.length < 4294967281)
include hs
theorem ct_pre (n at_ many : Nat) (A B : Mem) (mi dp : Nat) (b : UInt8) (r : List UInt8) (hd : s.drop at_ = 60 :: b :: r) (hb1 : b ≠ 47) (hb2 : b ≠ 33) (hb3 : b ≠ 63) :
    ∃ t, look t 0 = .ptr A.length 0 0 ∧ look t 1 = .map mi ∧ look t 2 = .int .i64 (dp : Nat) ∧ look t 7 = .ptr (A.length + (B.length + 1)) 0 0 ∧ look t 8 = .ptr (A.length + (B.length + 2)) 0 0 ∧ look t 9 = .fn (.func 94) [.ptr (A.length + (B.length + 2)) 0 0, .ptr (A.length + (B.length + 1)) 0 0] ∧
      evI Tryz.prog (cfg ml) (evFI Tryz.prog (cfg ml) T N (n + 7)) N loopCt ⟨87, ctS A B mi dp, []⟩ (A ++ rdr s at_ many :: (B ++ [rowL .nilS, rowB])) = evI Tryz.prog (cfg ml) (evFI Tryz.prog (cfg ml) T N (n + 7)) N (.block 1 (.block 2 (.draw2 10 11 [r27 [] []] regCt))) ⟨87, t, []⟩ (A ++ rdr s at_ many :: (B ++ [rowL .nilS, rowB])) := by
  have hat : at_ ≤ s.length := by
    rcases Nat.lt_or_ge s.length at_ with h | h
    · rw [List.drop_eq_nil_of_le (by omega)] at hd; cases hd
    · exact h
  have q1 := has_eq (P := Tryz.prog) (N := N) (ml := ml) s at_ many A (B ++ [rowL .nilS, rowB]) hat (n + 7) (by omega) [60, 47]
  have q2 := has_eq (P := Tryz.prog) (N := N) (ml := ml) s at_ many A (B ++ [rowL .nilS, rowB]) hat (n + 7) (by omega) [60, 33, 45, 45]
  have q3 := has_eq (P := Tryz.prog) (N := N) (ml := ml) s at_ many A (B ++ [rowL .nilS, rowB]) hat (n + 7) (by omega) [60, 63]
  have q4 := take_f (P := Tryz.prog) (N := N) (ml := ml) s at_ many A (B ++ [rowL .nilS, rowB]) hs hat (n + 7) (by omega) [60, 33, 91, 67, 68, 65, 84, 65, 91] (by rw [hd]; exact hasP_two _ _ _ _ _ hb2)
  have q5 := has_eq (P := Tryz.prog) (N := N) (ml := ml) s at_ many A (B ++ [rowL .nilS, rowB]) hat (n + 7) (by omega) [60]
  rw [hd, hasP_two _ _ _ _ _ hb1] at q1
  rw [hd, hasP_two _ _ _ _ _ hb2] at q2
  rw [hd, hasP_two _ _ _ _ _ hb3] at q3
  rw [hd, show hasP (60 :: b :: r) [60] = true by simp [hasP]] at q5
  have q6 := flush_no (N := N) (ml := ml) (n + 7) (by omega) (A ++ rdr s at_ many :: (B ++ [rowL .nilS, rowB])) (A.length + (B.length + 2)) (A.length + (B.length + 1)) (104 + 1) (by rw [getE_k, List.getElem?_cons_succ, getE_k]; rfl)
  have hcl := callable94
  refine ⟨?t, ?g0, ?g1, ?g2, ?g7, ?g8, ?g9, ?main⟩
  case main =>
    apply evI_seq
    · apply evI_seq
      · simp only [q1, List.append_nil, List.nil_append, List.cons_append, List.getD_cons_zero, List.getD_cons_succ, evI, opsI, stepI, wantI, opI, AAct.evI, look, AAct.put, mkVal, mkVM, intOpA, intA, shiftA, unA, decide_true, decide_false, Option.map_some, Option.map_none, reduceIte, Nat.reduceEqDiff, Nat.reduceLT, Option.bind_some, Option.bind_none, true_and, and_true, and_self, Nat.zero_lt_succ, cellsAt, List.length_append, Nat.le_add_right, List.length_cons, List.length_nil, Nat.zero_add, Nat.add_zero, Nat.reduceAdd, Nat.reduceMul, Nat.zero_mul, AV.cells, AV.one, known, List.append_assoc, getE_0, getE_k, setE_0, setE_k, List.getElem?_cons_zero, List.getElem?_cons_succ, List.set_cons_zero, List.set_cons_succ, List.take_succ_cons, List.take_zero, List.drop_zero, List.drop_succ_cons, List.drop_nil, List.all_cons, List.all_nil, Bool.and_self, Bool.and_true, Bool.true_and, Bool.and_false, Bool.false_and, splice, fillI, Nat.reduceLeDiff, strA, Nat.add_assoc, beq_self_eq_true, Bool.false_eq_true, bq_ft, bq_tf, Bool.not_true, Bool.not_false, Nat.le_refl, List.map_cons, List.map_nil, isNilA, nilPtr, nilSl, nilIf, nilFn, nilMap, nilCheckA, if_true, if_false, lt_lit, le_lit, lt_lit2, le_lit2, le_sub1, le_sub2]; rfl
      apply evI_true rfl
      rfl
    apply evI_block_congr
    apply evI_block_congr
    apply evI_seq
    · simp only [q2, List.append_nil, List.nil_append, List.cons_append, List.getD_cons_zero, List.getD_cons_succ, evI, opsI, stepI, wantI, opI, AAct.evI, look, AAct.put, mkVal, mkVM, intOpA, intA, shiftA, unA, decide_true, decide_false, Option.map_some, Option.map_none, reduceIte, Nat.reduceEqDiff, Nat.reduceLT, Option.bind_some, Option.bind_none, true_and, and_true, and_self, Nat.zero_lt_succ, cellsAt, List.length_append, Nat.le_add_right, List.length_cons, List.length_nil, Nat.zero_add, Nat.add_zero, Nat.reduceAdd, Nat.reduceMul, Nat.zero_mul, AV.cells, AV.one, known, List.append_assoc, getE_0, getE_k, setE_0, setE_k, List.getElem?_cons_zero, List.getElem?_cons_succ, List.set_cons_zero, List.set_cons_succ, List.take_succ_cons, List.take_zero, List.drop_zero, List.drop_succ_cons, List.drop_nil, List.all_cons, List.all_nil, Bool.and_self, Bool.and_true, Bool.true_and, Bool.and_false, Bool.false_and, splice, fillI, Nat.reduceLeDiff, strA, Nat.add_assoc, beq_self_eq_true, Bool.false_eq_true, bq_ft, bq_tf, Bool.not_true, Bool.not_false, Nat.le_refl, List.map_cons, List.map_nil, isNilA, nilPtr, nilSl, nilIf, nilFn, nilMap, nilCheckA, if_true, if_false, lt_lit, le_lit, lt_lit2, le_lit2, le_sub1, le_sub2]; rfl
    apply evI_false rfl
    apply evI_seq
    · simp only [q3, List.append_nil, List.nil_append, List.cons_append, List.getD_cons_zero, List.getD_cons_succ, evI, opsI, stepI, wantI, opI, AAct.evI, look, AAct.put, mkVal, mkVM, intOpA, intA, shiftA, unA, decide_true, decide_false, Option.map_some, Option.map_none, reduceIte, Nat.reduceEqDiff, Nat.reduceLT, Option.bind_some, Option.bind_none, true_and, and_true, and_self, Nat.zero_lt_succ, cellsAt, List.length_append, Nat.le_add_right, List.length_cons, List.length_nil, Nat.zero_add, Nat.add_zero, Nat.reduceAdd, Nat.reduceMul, Nat.zero_mul, AV.cells, AV.one, known, List.append_assoc, getE_0, getE_k, setE_0, setE_k, List.getElem?_cons_zero, List.getElem?_cons_succ, List.set_cons_zero, List.set_cons_succ, List.take_succ_cons, List.take_zero, List.drop_zero, List.drop_succ_cons, List.drop_nil, List.all_cons, List.all_nil, Bool.and_self, Bool.and_true, Bool.true_and, Bool.and_false, Bool.false_and, splice, fillI, Nat.reduceLeDiff, strA, Nat.add_assoc, beq_self_eq_true, Bool.false_eq_true, bq_ft, bq_tf, Bool.not_true, Bool.not_false, Nat.le_refl, List.map_cons, List.map_nil, isNilA, nilPtr, nilSl, nilIf, nilFn, nilMap, nilCheckA, if_true, if_false, lt_lit, le_lit, lt_lit2, le_lit2, le_sub1, le_sub2]; rfl
    apply evI_false rfl
    apply evI_seq
    · simp only [q4, List.append_nil, List.nil_append, List.cons_append, List.getD_cons_zero, List.getD_cons_succ, evI, opsI, stepI, wantI, opI, AAct.evI, look, AAct.put, mkVal, mkVM, intOpA, intA, shiftA, unA, decide_true, decide_false, Option.map_some, Option.map_none, reduceIte, Nat.reduceEqDiff, Nat.reduceLT, Option.bind_some, Option.bind_none, true_and, and_true, and_self, Nat.zero_lt_succ, cellsAt, List.length_append, Nat.le_add_right, List.length_cons, List.length_nil, Nat.zero_add, Nat.add_zero, Nat.reduceAdd, Nat.reduceMul, Nat.zero_mul, AV.cells, AV.one, known, List.append_assoc, getE_0, getE_k, setE_0, setE_k, List.getElem?_cons_zero, List.getElem?_cons_succ, List.set_cons_zero, List.set_cons_succ, List.take_succ_cons, List.take_zero, List.drop_zero, List.drop_succ_cons, List.drop_nil, List.all_cons, List.all_nil, Bool.and_self, Bool.and_true, Bool.true_and, Bool.and_false, Bool.false_and, splice, fillI, Nat.reduceLeDiff, strA, Nat.add_assoc, beq_self_eq_true, Bool.false_eq_true, bq_ft, bq_tf, Bool.not_true, Bool.not_false, Nat.le_refl, List.map_cons, List.map_nil, isNilA, nilPtr, nilSl, nilIf, nilFn, nilMap, nilCheckA, if_true, if_false, lt_lit, le_lit, lt_lit2, le_lit2, le_sub1, le_sub2]; rfl
    apply evI_false rfl
    apply evI_seq
    · simp only [q5, List.append_nil, List.nil_append, List.cons_append, List.getD_cons_zero, List.getD_cons_succ, evI, opsI, stepI, wantI, opI, AAct.evI, look, AAct.put, mkVal, mkVM, intOpA, intA, shiftA, unA, decide_true, decide_false, Option.map_some, Option.map_none, reduceIte, Nat.reduceEqDiff, Nat.reduceLT, Option.bind_some, Option.bind_none, true_and, and_true, and_self, Nat.zero_lt_succ, cellsAt, List.length_append, Nat.le_add_right, List.length_cons, List.length_nil, Nat.zero_add, Nat.add_zero, Nat.reduceAdd, Nat.reduceMul, Nat.zero_mul, AV.cells, AV.one, known, List.append_assoc, getE_0, getE_k, setE_0, setE_k, List.getElem?_cons_zero, List.getElem?_cons_succ, List.set_cons_zero, List.set_cons_succ, List.take_succ_cons, List.take_zero, List.drop_zero, List.drop_succ_cons, List.drop_nil, List.all_cons, List.all_nil, Bool.and_self, Bool.and_true, Bool.true_and, Bool.and_false, Bool.false_and, splice, fillI, Nat.reduceLeDiff, strA, Nat.add_assoc, beq_self_eq_true, Bool.false_eq_true, bq_ft, bq_tf, Bool.not_true, Bool.not_false, Nat.le_refl, List.map_cons, List.map_nil, isNilA, nilPtr, nilSl, nilIf, nilFn, nilMap, nilCheckA, if_true, if_false, lt_lit, le_lit, lt_lit2, le_lit2, le_sub1, le_sub2]; rfl
    apply evI_true rfl
    apply evI_seq
    · simp only [hcl, q6, List.append_nil, List.nil_append, List.cons_append, List.getD_cons_zero, List.getD_cons_succ, evI, opsI, stepI, wantI, opI, AAct.evI, look, AAct.put, mkVal, mkVM, intOpA, intA, shiftA, unA, decide_true, decide_false, Option.map_some, Option.map_none, reduceIte, Nat.reduceEqDiff, Nat.reduceLT, Option.bind_some, Option.bind_none, true_and, and_true, and_self, Nat.zero_lt_succ, cellsAt, List.length_append, Nat.le_add_right, List.length_cons, List.length_nil, Nat.zero_add, Nat.add_zero, Nat.reduceAdd, Nat.reduceMul, Nat.zero_mul, AV.cells, AV.one, known, List.append_assoc, getE_0, getE_k, setE_0, setE_k, List.getElem?_cons_zero, List.getElem?_cons_succ, List.set_cons_zero, List.set_cons_succ, List.take_succ_cons, List.take_zero, List.drop_zero, List.drop_succ_cons, List.drop_nil, List.all_cons, List.all_nil, Bool.and_self, Bool.and_true, Bool.true_and, Bool.and_false, Bool.false_and, splice, fillI, Nat.reduceLeDiff, strA, Nat.add_assoc, beq_self_eq_true, Bool.false_eq_true, bq_ft, bq_tf, Bool.not_true, Bool.not_false, Nat.le_refl, List.map_cons, List.map_nil, isNilA, nilPtr, nilSl, nilIf, nilFn, nilMap, nilCheckA, if_true, if_false, lt_lit, le_lit, lt_lit2, le_lit2, le_sub1, le_sub2]; rfl
    rfl
  all_goals rfl
end
theorem keep_regT {A B : Mem} {mi dp : Nat} {ec : List AV} {t : List (Nat × AV)} (l0 : look t 0 = .ptr A.length 0 0) (l1 : look t 1 = .map mi) (l2 : look t 2 = .int .i64 (dp : Nat)) (l7 : look t 7 = .ptr (A.length + (B.length + 1)) 0 0) (l8 : look t 8 = .ptr (A.length + (B.length + 2)) 0 0) (l9 : look t 9 = .fn (.func 94) [.ptr (A.length + (B.length + 2)) 0 0, .ptr (A.length + (B.length + 1)) 0 0]) : (⟨87, regT A B mi dp ec t, []⟩ : AAct).keepT [0, 1, 2, 7, 8, 9] = ⟨87, ctS A B mi dp, []⟩ := by
  simp only [AAct.keepT, List.map_cons, List.map_nil, regT, look, reduceIte, Nat.reduceEqDiff, l0, l1, l2, l7, l8, l9]
theorem frz_row {n0 k q off len sz st ty : Nat} {H : Mem} {cs cs' : List AV} (h : ¬ q < n0) (hq : H[q]? = some (.row cs st ty)) (hl : off + len * sz ≤ cs.length) (hf : frzL (frz n0 H k) ((cs.drop off).take (len * sz)) = some cs') : frz n0 H (k + 1) (.slc q off len sz st) = some (.lst len cs') := by
  show (if q < n0 then _ else _) = _
  rw [if_neg h, hq]
  show (if st = st ∧ _ then _ else _) = _
  rw [if_pos ⟨rfl, hl⟩, hf]; rfl
theorem ct_next {A B : Mem} {s : List UInt8} {at_ many at2 many2 : Nat} {ec : List AV} {x : AAct} : roundEnd (some [0, 1, 2, 7, 8, 9]) (A ++ rdr s at_ many :: (B ++ [rowL .nilS, rowB])) x (A ++ rdr s at2 many2 :: (B ++ [rowL (.slc (A.length + (B.length + 4)) 0 1 5 0), rowB, r27 [] [], rowC ec])) = (x.keepT [0, 1, 2, 7, 8, 9], A ++ rdr s at2 many2 :: (B ++ [rowL (.slc (A.length + (B.length + 4)) 0 1 5 0), rowB, r27 [] [], rowC ec])) := by
  have ht : (A ++ rdr s at2 many2 :: (B ++ [rowL (.slc (A.length + (B.length + 4)) 0 1 5 0), rowB, r27 [] [], rowC ec])).take (A ++ rdr s at_ many :: (B ++ [rowL .nilS, rowB])).length = A ++ rdr s at2 many2 :: (B ++ [rowL (.slc (A.length + (B.length + 4)) 0 1 5 0), rowB]) := by
    rw [show A ++ rdr s at2 many2 :: (B ++ [rowL (.slc (A.length + (B.length + 4)) 0 1 5 0), rowB, r27 [] [], rowC ec]) = (A ++ rdr s at2 many2 :: (B ++ [rowL (.slc (A.length + (B.length + 4)) 0 1 5 0), rowB])) ++ [r27 [] [], rowC ec] by simp]
    exact List.take_left' (by simp)
  refine re_keep (b := rowL (.slc (A.length + (B.length + 4)) 0 1 5 0)) ?_ ?_ ?_
  · rw [ht]; simp
  · simp only [lowB, lowL, low, Bool.and_true, List.length_append, List.length_cons, List.length_nil]
    exact decide_eq_false (by omega)
  · rw [ht]
    intro h
    have h1 := congrArg (fun M : Mem => M[A.length + (B.length + 1)]?) h
    simp only [getE_k, List.getElem?_cons_succ, getE_0] at h1
    simp at h1
section
variable {N : Nat}
variable (s : List UInt8) (hs : s.length < 4294967281)
include hs
theorem content_one (hN : 2 ≤ N) (at_ many : Nat) (A B : Mem) (hlo : LoM A B) (mi dp : Nat) (hdp : dp ≤ 1000) (b : UInt8) (r : List UInt8) (hd : s.drop at_ = 60 :: b :: r) (hb1 : b ≠ 47) (hb2 : b ≠ 33) (hb3 : b ≠ 63)
    (at2 many2 : Nat) (c0 c1 c2 : List UInt8) (an kn : Nat) (ac kc : List AV) (hac : lowL 0 ac = true) (hkc : lowL 0 kc = true) (d : Nat) (hd8 : 8 ≤ d)
    (hE : ∀ dd, dd + 1 = d → evFI Tryz.prog (cfg ml) T N dd 38 [.ptr A.length 0 0, .map mi, .int .i64 ((dp + 1 : Nat) : Int)] (A ++ rdr s at_ many :: (B ++ [rowL .nilS, rowB, r27 [] []])) = some (.ret (.agg [.str c0, .str c1, .str c2, .lst an ac, .lst kn kc]), A ++ rdr s at2 many2 :: (B ++ [rowL .nilS, rowB, r27 [] []])))
    (hat2 : at2 ≤ s.length) (h2 : hasP (s.drop at2) [60, 47] = true) :
    evFI Tryz.prog (cfg ml) T N d 67 [.ptr A.length 0 0, .map mi, .int .i64 (dp : Nat)] (A ++ rdr s at_ many :: B) = some (.ret (.lst 1 [.str c0, .str c1, .str c2, .lst an ac, .lst kn kc]), A ++ rdr s at2 many2 :: B) := by
  obtain ⟨n, rfl⟩ : ∃ n, d = n + 8 := ⟨d - 8, by omega⟩
  obtain ⟨N, rfl⟩ : ∃ m, N = m + 2 := ⟨N - 2, by omega⟩
  have hE1 := hE (n + 7) rfl
  obtain ⟨t, l0, l1, l2, l7, l8, l9, hpre⟩ := ct_pre (N := N + 2) (ml := ml) s hs n at_ many A B mi dp b r hd hb1 hb2 hb3
  have hreg := reg_ok (P := Tryz.prog) (ml := ml) s (evFI Tryz.prog (cfg ml) T (N + 2) (n + 7)) at_ many A B mi dp hdp at2 many2 c0 c1 c2 an kn ac kc t l0 l1 l2 l7 hE1
  let ec : List AV := [.str c0, .str c1, .str c2, .lst an ac, .lst kn kc]
  let M2 : Mem := A ++ rdr s at2 many2 :: (B ++ [rowL (.slc (A.length + (B.length + 4)) 0 1 5 0), rowB, r27 [] [], rowC ec])
  have hround : evI Tryz.prog (cfg ml) (evFI Tryz.prog (cfg ml) T (N + 2) (n + 7)) (N + 2) loopCt ⟨87, ctS A B mi dp, []⟩ (A ++ rdr s at_ many :: (B ++ [rowL .nilS, rowB])) = some (.normal, ⟨87, regT A B mi dp ec t, []⟩, M2) := by
    rw [hpre]
    apply evI_block
    apply evI_block
    simp only [evI, List.length_append, List.length_cons, List.length_nil, Nat.add_assoc, Nat.zero_add, Nat.reduceAdd, List.append_assoc, List.cons_append, List.nil_append]
    exact hreg
  have q1 := has_eq (P := Tryz.prog) (N := N + 2) (ml := ml) s at2 many2 A (B ++ [rowL (.slc (A.length + (B.length + 4)) 0 1 5 0), rowB, r27 [] [], rowC ec]) hat2 (n + 7) (by omega) [60, 47]
  rw [h2] at q1
  have q2 := flush_no (N := N + 2) (ml := ml) (n + 7) (by omega) M2 (A.length + (B.length + 2)) (A.length + (B.length + 1)) (104 + 1) (by simp only [M2]; rw [getE_k, List.getElem?_cons_succ, getE_k]; rfl)
  have hcl := callable94
  have hl : M2[A.length + (B.length + 1)]? = some (rowL (.slc (A.length + (B.length + 4)) 0 1 5 0)) := by simp only [M2]; rw [getE_k, List.getElem?_cons_succ, getE_0]; rfl
  have hrow : M2[A.length + (B.length + 4)]? = some (rowC ec) := by simp only [M2]; rw [getE_k, List.getElem?_cons_succ, getE_k]; rfl
  have htk : M2.take (A ++ rdr s at_ many :: B).length = A ++ rdr s at2 many2 :: B := take_rdr _ _ _ _ _
  have hq1 : evFI Tryz.prog (cfg ml) T (N + 2) (n + 7) 62 [.ptr A.length 0 0, .str [60, 47]] M2 = some (.ret (.bool true), M2) := q1
  have hnext := fun x => @ct_next A B s at_ many at2 many2 ec x
  change ∀ x, roundEnd _ _ x M2 = (_, M2) at hnext
  clear_value M2
  refine evF_ret (m := 87) (v := .slc (A.length + (B.length + 4)) 0 1 5 0) (a := ?aa) (H1 := M2) rfl t67 rfl ?hb ?hd ?hr ?hz
  case hb =>
    apply evI_seq
    · simp only [List.length_cons, List.length_nil, idx, I67, List.append_nil, List.nil_append, List.cons_append, List.getD_cons_zero, List.getD_cons_succ, evI, opsI, stepI, wantI, opI, AAct.evI, look, AAct.put, mkVal, mkVM, intOpA, intA, shiftA, unA, decide_true, decide_false, Option.map_some, Option.map_none, reduceIte, Nat.reduceEqDiff, Nat.reduceLT, Option.bind_some, Option.bind_none, true_and, and_true, and_self, Nat.zero_lt_succ, cellsAt, List.length_append, Nat.le_add_right, List.length_cons, List.length_nil, Nat.zero_add, Nat.add_zero, Nat.reduceAdd, Nat.reduceMul, Nat.zero_mul, AV.cells, AV.one, known, List.append_assoc, getE_0, getE_k, setE_0, setE_k, List.getElem?_cons_zero, List.getElem?_cons_succ, List.set_cons_zero, List.set_cons_succ, List.take_succ_cons, List.take_zero, List.drop_zero, List.drop_succ_cons, List.drop_nil, List.all_cons, List.all_nil, Bool.and_self, Bool.and_true, Bool.true_and, Bool.and_false, Bool.false_and, splice, fillI, Nat.reduceLeDiff, strA, Nat.add_assoc, beq_self_eq_true, Bool.false_eq_true, bq_ft, bq_tf, Bool.not_true, Bool.not_false, Nat.le_refl, List.map_cons, List.map_nil, isNilA, nilPtr, nilSl, nilIf, nilFn, nilMap, nilCheckA, if_true, if_false, lt_lit, le_lit, lt_lit2, le_lit2, le_sub1, le_sub2]; rfl
    apply evI_seq
    · simp only [List.append_nil, List.nil_append, List.cons_append, List.getD_cons_zero, List.getD_cons_succ, evI, opsI, stepI, wantI, opI, AAct.evI, look, AAct.put, mkVal, mkVM, intOpA, intA, shiftA, unA, decide_true, decide_false, Option.map_some, Option.map_none, reduceIte, Nat.reduceEqDiff, Nat.reduceLT, Option.bind_some, Option.bind_none, true_and, and_true, and_self, Nat.zero_lt_succ, cellsAt, List.length_append, Nat.le_add_right, List.length_cons, List.length_nil, Nat.zero_add, Nat.add_zero, Nat.reduceAdd, Nat.reduceMul, Nat.zero_mul, AV.cells, AV.one, known, List.append_assoc, getE_0, getE_k, setE_0, setE_k, List.getElem?_cons_zero, List.getElem?_cons_succ, List.set_cons_zero, List.set_cons_succ, List.take_succ_cons, List.take_zero, List.drop_zero, List.drop_succ_cons, List.drop_nil, List.all_cons, List.all_nil, Bool.and_self, Bool.and_true, Bool.true_and, Bool.and_false, Bool.false_and, splice, fillI, Nat.reduceLeDiff, strA, Nat.add_assoc, beq_self_eq_true, Bool.false_eq_true, bq_ft, bq_tf, Bool.not_true, Bool.not_false, Nat.le_refl, List.map_cons, List.map_nil, isNilA, nilPtr, nilSl, nilIf, nilFn, nilMap, nilCheckA, if_true, if_false, lt_lit, le_lit, lt_lit2, le_lit2, le_sub1, le_sub2]; rfl
    apply evI_seq
    · simp only [List.append_nil, List.nil_append, List.cons_append, List.getD_cons_zero, List.getD_cons_succ, evI, opsI, stepI, wantI, opI, AAct.evI, look, AAct.put, mkVal, mkVM, intOpA, intA, shiftA, unA, decide_true, decide_false, Option.map_some, Option.map_none, reduceIte, Nat.reduceEqDiff, Nat.reduceLT, Option.bind_some, Option.bind_none, true_and, and_true, and_self, Nat.zero_lt_succ, cellsAt, List.length_append, Nat.le_add_right, List.length_cons, List.length_nil, Nat.zero_add, Nat.add_zero, Nat.reduceAdd, Nat.reduceMul, Nat.zero_mul, AV.cells, AV.one, known, List.append_assoc, getE_0, getE_k, setE_0, setE_k, List.getElem?_cons_zero, List.getElem?_cons_succ, List.set_cons_zero, List.set_cons_succ, List.take_succ_cons, List.take_zero, List.drop_zero, List.drop_succ_cons, List.drop_nil, List.all_cons, List.all_nil, Bool.and_self, Bool.and_true, Bool.true_and, Bool.and_false, Bool.false_and, splice, fillI, Nat.reduceLeDiff, strA, Nat.add_assoc, beq_self_eq_true, Bool.false_eq_true, bq_ft, bq_tf, Bool.not_true, Bool.not_false, Nat.le_refl, List.map_cons, List.map_nil, isNilA, nilPtr, nilSl, nilIf, nilFn, nilMap, nilCheckA, if_true, if_false, lt_lit, le_lit, lt_lit2, le_lit2, le_sub1, le_sub2]; rfl
    apply evI_seq
    · simp only [List.append_nil, List.nil_append, List.cons_append, List.getD_cons_zero, List.getD_cons_succ, evI, opsI, stepI, wantI, opI, AAct.evI, look, AAct.put, mkVal, mkVM, intOpA, intA, shiftA, unA, decide_true, decide_false, Option.map_some, Option.map_none, reduceIte, Nat.reduceEqDiff, Nat.reduceLT, Option.bind_some, Option.bind_none, true_and, and_true, and_self, Nat.zero_lt_succ, cellsAt, List.length_append, Nat.le_add_right, List.length_cons, List.length_nil, Nat.zero_add, Nat.add_zero, Nat.reduceAdd, Nat.reduceMul, Nat.zero_mul, AV.cells, AV.one, known, List.append_assoc, getE_0, getE_k, setE_0, setE_k, List.getElem?_cons_zero, List.getElem?_cons_succ, List.set_cons_zero, List.set_cons_succ, List.take_succ_cons, List.take_zero, List.drop_zero, List.drop_succ_cons, List.drop_nil, List.all_cons, List.all_nil, Bool.and_self, Bool.and_true, Bool.true_and, Bool.and_false, Bool.false_and, splice, fillI, Nat.reduceLeDiff, strA, Nat.add_assoc, beq_self_eq_true, Bool.false_eq_true, bq_ft, bq_tf, Bool.not_true, Bool.not_false, Nat.le_refl, List.map_cons, List.map_nil, isNilA, nilPtr, nilSl, nilIf, nilFn, nilMap, nilCheckA, if_true, if_false, lt_lit, le_lit, lt_lit2, le_lit2, le_sub1, le_sub2]; rfl
    apply evI_seq
    · apply evI_block_exit
      apply evI_loop
      refine loopA_go (a' := ⟨87, regT A B mi dp ec t, []⟩) (H' := M2) hround ?_
      rw [hnext, keep_regT l0 l1 l2 l7 l8 l9]
      apply loopA_exit
      simp only [AAct.keepT, hq1, List.append_nil, List.nil_append, List.cons_append, List.getD_cons_zero, List.getD_cons_succ, evI, opsI, stepI, wantI, opI, AAct.evI, look, AAct.put, mkVal, mkVM, intOpA, intA, shiftA, unA, decide_true, decide_false, Option.map_some, Option.map_none, reduceIte, Nat.reduceEqDiff, Nat.reduceLT, Option.bind_some, Option.bind_none, true_and, and_true, and_self, Nat.zero_lt_succ, cellsAt, List.length_append, Nat.le_add_right, List.length_cons, List.length_nil, Nat.zero_add, Nat.add_zero, Nat.reduceAdd, Nat.reduceMul, Nat.zero_mul, AV.cells, AV.one, known, List.append_assoc, getE_0, getE_k, setE_0, setE_k, List.getElem?_cons_zero, List.getElem?_cons_succ, List.set_cons_zero, List.set_cons_succ, List.take_succ_cons, List.take_zero, List.drop_zero, List.drop_succ_cons, List.drop_nil, List.all_cons, List.all_nil, Bool.and_self, Bool.and_true, Bool.true_and, Bool.and_false, Bool.false_and, splice, fillI, Nat.reduceLeDiff, strA, Nat.add_assoc, beq_self_eq_true, Bool.false_eq_true, bq_ft, bq_tf, Bool.not_true, Bool.not_false, Nat.le_refl, List.map_cons, List.map_nil, isNilA, nilPtr, nilSl, nilIf, nilFn, nilMap, nilCheckA, if_true, if_false, lt_lit, le_lit, lt_lit2, le_lit2, le_sub1, le_sub2]; rfl
    apply evI_seq
    · simp only [hcl, q2, List.append_nil, List.nil_append, List.cons_append, List.getD_cons_zero, List.getD_cons_succ, evI, opsI, stepI, wantI, opI, AAct.evI, look, AAct.put, mkVal, mkVM, intOpA, intA, shiftA, unA, decide_true, decide_false, Option.map_some, Option.map_none, reduceIte, Nat.reduceEqDiff, Nat.reduceLT, Option.bind_some, Option.bind_none, true_and, and_true, and_self, Nat.zero_lt_succ, cellsAt, List.length_append, Nat.le_add_right, List.length_cons, List.length_nil, Nat.zero_add, Nat.add_zero, Nat.reduceAdd, Nat.reduceMul, Nat.zero_mul, AV.cells, AV.one, known, List.append_assoc, getE_0, getE_k, setE_0, setE_k, List.getElem?_cons_zero, List.getElem?_cons_succ, List.set_cons_zero, List.set_cons_succ, List.take_succ_cons, List.take_zero, List.drop_zero, List.drop_succ_cons, List.drop_nil, List.all_cons, List.all_nil, Bool.and_self, Bool.and_true, Bool.true_and, Bool.and_false, Bool.false_and, splice, fillI, Nat.reduceLeDiff, strA, Nat.add_assoc, beq_self_eq_true, Bool.false_eq_true, bq_ft, bq_tf, Bool.not_true, Bool.not_false, Nat.le_refl, List.map_cons, List.map_nil, isNilA, nilPtr, nilSl, nilIf, nilFn, nilMap, nilCheckA, if_true, if_false, lt_lit, le_lit, lt_lit2, le_lit2, le_sub1, le_sub2]; rfl
    simp only [hl, List.append_nil, List.nil_append, List.cons_append, List.getD_cons_zero, List.getD_cons_succ, evI, opsI, stepI, wantI, opI, AAct.evI, look, AAct.put, mkVal, mkVM, intOpA, intA, shiftA, unA, decide_true, decide_false, Option.map_some, Option.map_none, reduceIte, Nat.reduceEqDiff, Nat.reduceLT, Option.bind_some, Option.bind_none, true_and, and_true, and_self, Nat.zero_lt_succ, cellsAt, List.length_append, Nat.le_add_right, List.length_cons, List.length_nil, Nat.zero_add, Nat.add_zero, Nat.reduceAdd, Nat.reduceMul, Nat.zero_mul, AV.cells, AV.one, known, List.append_assoc, getE_0, getE_k, setE_0, setE_k, List.getElem?_cons_zero, List.getElem?_cons_succ, List.set_cons_zero, List.set_cons_succ, List.take_succ_cons, List.take_zero, List.drop_zero, List.drop_succ_cons, List.drop_nil, List.all_cons, List.all_nil, Bool.and_self, Bool.and_true, Bool.true_and, Bool.and_false, Bool.false_and, splice, fillI, Nat.reduceLeDiff, strA, Nat.add_assoc, beq_self_eq_true, Bool.false_eq_true, bq_ft, bq_tf, Bool.not_true, Bool.not_false, Nat.le_refl, List.map_cons, List.map_nil, isNilA, nilPtr, nilSl, nilIf, nilFn, nilMap, nilCheckA, if_true, if_false, lt_lit, le_lit, lt_lit2, le_lit2, le_sub1, le_sub2]; rfl
  case hd => rfl
  case hr => simp only [I67, resI, resLI, look, reduceIte, Nat.reduceEqDiff, Option.map_some]
  case hz =>
    have hl1 : ∀ j, lowL j ac = true := fun j => pureL_low hac j
    have hl2 : ∀ j, lowL j kc = true := fun j => pureL_low hkc j
    refine fin_cut rfl (v' := .lst 1 ec) ?_ ?_ htk (by
      have := hlo.whole s at2 many2
      simp only [List.length_append, List.length_cons] at this ⊢
      exact this)
    · refine frz_row (by simp only [List.length_append, List.length_cons]; omega) hrow (Nat.le_refl 5) ?_
      simp only [ec, List.drop_zero, List.take_succ_cons, List.take_zero, frz, frzL, low, hl1, hl2, if_true]
    · simp only [ec, low, lowL, hl1, hl2, Bool.and_self]
end
abbrev addE (mi : Nat) (nsv : List UInt8) : Mem := [r27 [] [], scope1 nsv, .miter mi 1, r27 [] [97]]
abbrev addC : Mem := [rowL .nilS, rowB, r27 [] []]
theorem LoM.addE {A B : Mem} (h : LoM A B) {mi : Nat} {nsv : List UInt8} (hmi : mi < A.length + (B.length + 1)) : LoM A (B ++ addE mi nsv) := by
  refine h.more fun x hx => ?_
  simp only [Ev.addE, List.mem_cons, List.not_mem_nil, or_false] at hx
  rcases hx with rfl | rfl | rfl | rfl
  · rfl
  · rfl
  · exact decide_eq_true hmi
  · rfl
theorem LoM.addC {A B : Mem} (h : LoM A B) : LoM A (B ++ addC) := by
  refine h.more fun x hx => ?_
  simp only [Ev.addC, List.mem_cons, List.not_mem_nil, or_false] at hx
  rcases hx with rfl | rfl | rfl <;> rfl
section
variable {N : Nat}
variable (s : List UInt8) (hs : s.length < 4294967281) (hN : s.length < N)
include hs hN
end
section
variable {N : Nat}
variable (s : List UInt8) (hs : s.length < 4294967281)
include hs
theorem elem_no (at_ many : Nat) (A B : Mem) (mi : Nat) (dp : Nat) (hat : at_ ≤ s.length) (h : hasP (s.drop at_) [60] = false ∨ (hasP (s.drop at_) [60] = true ∧ ∃ b, s[at_ + 1]? = some b ∧ fst8 b = false)) (d : Nat) (hd : 7 ≤ d) :
    ∃ M, evFI Tryz.prog (cfg ml) T N d 38 [.ptr A.length 0 0, .map mi, .int .i64 (dp : Nat)] (A ++ rdr s at_ many :: B) = some (.pan (failv 10), M) ∧ M.take A.length = A := by
  obtain ⟨n, rfl⟩ : ∃ n, d = n + 7 := ⟨d - 7, by omega⟩
  let B1 : Mem := B ++ [r27 [] []]
  have q1 := has_eq (P := Tryz.prog) (N := N) (ml := ml) s at_ many A B1 hat (n + 6) (by omega) [60]
  have q5 := fun e H => must_f (P := Tryz.prog) (N := N) (ml := ml) (n + 6) (by omega) e H
  obtain ⟨M, hM, hMA⟩ := fin_fail 10 (A := A) (H0 := A ++ rdr s at_ many :: B) (H1 := A ++ rdr s at_ many :: (B ++ [r27 [] []])) (take_A _ _) (by simp)
  rcases h with h | ⟨h, b, h2, hf⟩
  · rw [h] at q1
    simp only [B1] at q1
    refine ⟨M, ?_, hMA⟩
    refine evF_pan (m := 126) (v := failv 10) (a := ?aa) (H1 := A ++ rdr s at_ many :: (B ++ [r27 [] []])) rfl t38 rfl ?hb ?hd hM
    case hb =>
      rw [elem_split]
      apply evI_seq
      · simp only [List.length_cons, List.length_nil, idx, pcE, IC.nb, IC.hd, I38, List.append_nil, List.nil_append, List.cons_append, List.getD_cons_zero, List.getD_cons_succ, evI, opsI, stepI, wantI, opI, AAct.evI, look, AAct.put, mkVal, mkVM, intOpA, intA, shiftA, unA, decide_true, decide_false, Option.map_some, Option.map_none, reduceIte, Nat.reduceEqDiff, Nat.reduceLT, Option.bind_some, Option.bind_none, true_and, and_true, and_self, Nat.zero_lt_succ, cellsAt, List.length_append, Nat.le_add_right, List.length_cons, List.length_nil, Nat.zero_add, Nat.add_zero, Nat.reduceAdd, Nat.reduceMul, Nat.zero_mul, AV.cells, AV.one, known, List.append_assoc, getE_0, getE_k, setE_0, setE_k, List.getElem?_cons_zero, List.getElem?_cons_succ, List.set_cons_zero, List.set_cons_succ, List.take_succ_cons, List.take_zero, List.drop_zero, List.drop_succ_cons, List.drop_nil, List.all_cons, List.all_nil, Bool.and_self, Bool.and_true, Bool.true_and, Bool.and_false, Bool.false_and, splice, fillI, Nat.reduceLeDiff, strA, Nat.add_assoc, beq_self_eq_true, Bool.false_eq_true, bq_ft, bq_tf, Bool.not_true, Bool.not_false, Nat.le_refl, List.map_cons, List.map_nil, isNilA, nilPtr, nilSl, nilIf, nilFn, nilMap, nilCheckA, if_true, if_false, lt_lit, le_lit, lt_lit2, le_lit2, le_sub1, le_sub2]; rfl
      apply evI_seq_pan
      simp only [pcE, IC.nb, IC.hd, I38, q1, q5, List.append_nil, List.nil_append, List.cons_append, List.getD_cons_zero, List.getD_cons_succ, evI, opsI, stepI, wantI, opI, AAct.evI, look, AAct.put, mkVal, mkVM, intOpA, intA, shiftA, unA, decide_true, decide_false, Option.map_some, Option.map_none, reduceIte, Nat.reduceEqDiff, Nat.reduceLT, Option.bind_some, Option.bind_none, true_and, and_true, and_self, Nat.zero_lt_succ, cellsAt, List.length_append, Nat.le_add_right, List.length_cons, List.length_nil, Nat.zero_add, Nat.add_zero, Nat.reduceAdd, Nat.reduceMul, Nat.zero_mul, AV.cells, AV.one, known, List.append_assoc, getE_0, getE_k, setE_0, setE_k, List.getElem?_cons_zero, List.getElem?_cons_succ, List.set_cons_zero, List.set_cons_succ, List.take_succ_cons, List.take_zero, List.drop_zero, List.drop_succ_cons, List.drop_nil, List.all_cons, List.all_nil, Bool.and_self, Bool.and_true, Bool.true_and, Bool.and_false, Bool.false_and, splice, fillI, Nat.reduceLeDiff, strA, Nat.add_assoc, beq_self_eq_true, Bool.false_eq_true, bq_ft, bq_tf, Bool.not_true, Bool.not_false, Nat.le_refl, List.map_cons, List.map_nil, isNilA, nilPtr, nilSl, nilIf, nilFn, nilMap, nilCheckA, if_true, if_false, lt_lit, le_lit, lt_lit2, le_lit2, le_sub1, le_sub2]; rfl
    case hd => rfl
  · rw [h] at q1
    have q2 : evFI Tryz.prog (cfg ml) T N (n + 6) 35 [.ptr A.length 0 0, .int .i64 1] (A ++ rdr s at_ many :: B1) = some (.ret (.int .u8 b.toNat), A ++ rdr s at_ many :: B1) := byteAt_in (P := Tryz.prog) (N := N) (ml := ml) s at_ many A B1 hat (n + 6) (by omega) 1 b h2 hs
    have q3 := fun H => isFirst_eq (ml := ml) Tryz.prog N (n + 5) (b.toNat : Int) H
    rw [show nameFirst (b.toNat : Int) = false from hf] at q3
    simp only [B1] at q1 q2
    refine ⟨M, ?_, hMA⟩
    refine evF_pan (m := 126) (v := failv 10) (a := ?ab) (H1 := A ++ rdr s at_ many :: (B ++ [r27 [] []])) rfl t38 rfl ?hb ?hd hM
    case hb =>
      rw [elem_split]
      apply evI_seq
      · simp only [List.length_cons, List.length_nil, idx, pcE, IC.nb, IC.hd, I38, List.append_nil, List.nil_append, List.cons_append, List.getD_cons_zero, List.getD_cons_succ, evI, opsI, stepI, wantI, opI, AAct.evI, look, AAct.put, mkVal, mkVM, intOpA, intA, shiftA, unA, decide_true, decide_false, Option.map_some, Option.map_none, reduceIte, Nat.reduceEqDiff, Nat.reduceLT, Option.bind_some, Option.bind_none, true_and, and_true, and_self, Nat.zero_lt_succ, cellsAt, List.length_append, Nat.le_add_right, List.length_cons, List.length_nil, Nat.zero_add, Nat.add_zero, Nat.reduceAdd, Nat.reduceMul, Nat.zero_mul, AV.cells, AV.one, known, List.append_assoc, getE_0, getE_k, setE_0, setE_k, List.getElem?_cons_zero, List.getElem?_cons_succ, List.set_cons_zero, List.set_cons_succ, List.take_succ_cons, List.take_zero, List.drop_zero, List.drop_succ_cons, List.drop_nil, List.all_cons, List.all_nil, Bool.and_self, Bool.and_true, Bool.true_and, Bool.and_false, Bool.false_and, splice, fillI, Nat.reduceLeDiff, strA, Nat.add_assoc, beq_self_eq_true, Bool.false_eq_true, bq_ft, bq_tf, Bool.not_true, Bool.not_false, Nat.le_refl, List.map_cons, List.map_nil, isNilA, nilPtr, nilSl, nilIf, nilFn, nilMap, nilCheckA, if_true, if_false, lt_lit, le_lit, lt_lit2, le_lit2, le_sub1, le_sub2]; rfl
      apply evI_seq_pan
      simp only [pcE, IC.nb, IC.hd, I38, q1, q2, q3, q5, List.append_nil, List.nil_append, List.cons_append, List.getD_cons_zero, List.getD_cons_succ, evI, opsI, stepI, wantI, opI, AAct.evI, look, AAct.put, mkVal, mkVM, intOpA, intA, shiftA, unA, decide_true, decide_false, Option.map_some, Option.map_none, reduceIte, Nat.reduceEqDiff, Nat.reduceLT, Option.bind_some, Option.bind_none, true_and, and_true, and_self, Nat.zero_lt_succ, cellsAt, List.length_append, Nat.le_add_right, List.length_cons, List.length_nil, Nat.zero_add, Nat.add_zero, Nat.reduceAdd, Nat.reduceMul, Nat.zero_mul, AV.cells, AV.one, known, List.append_assoc, getE_0, getE_k, setE_0, setE_k, List.getElem?_cons_zero, List.getElem?_cons_succ, List.set_cons_zero, List.set_cons_succ, List.take_succ_cons, List.take_zero, List.drop_zero, List.drop_succ_cons, List.drop_nil, List.all_cons, List.all_nil, Bool.and_self, Bool.and_true, Bool.true_and, Bool.and_false, Bool.false_and, splice, fillI, Nat.reduceLeDiff, strA, Nat.add_assoc, beq_self_eq_true, Bool.false_eq_true, bq_ft, bq_tf, Bool.not_true, Bool.not_false, Nat.le_refl, List.map_cons, List.map_nil, isNilA, nilPtr, nilSl, nilIf, nilFn, nilMap, nilCheckA, if_true, if_false, lt_lit, le_lit, lt_lit2, le_lit2, le_sub1, le_sub2]; rfl
    case hd => rfl
end
section
variable {N : Nat} (x : List UInt8) (hs : x.length < 4294967281) (hN : x.length < N) (hp : ∀ b ∈ x, plainB b = true)
variable (n q ty : Nat) (H : Mem) (hq : H[q]? = some (.row (ofBytes x) 0 ty))
variable (hx1 : hasP x [239, 187, 191] = false) (hx2 : hasP x [60, 63, 120, 109, 108] = false)
include hs hN hp hq hx1 hx2
theorem read_pre0 (hn : 4 ≤ n) :
    ∃ t, look t 2 = .ptr H.length 0 0 ∧ look t 3 = .ptr (H.length + 1) 0 0 ∧ look t 5 = .ptr (H.length + 2) 0 0 ∧
      evI Tryz.prog (cfg ml) (evFI Tryz.prog (cfg ml) T N n) N I13.c ⟨51, [(0, .slc q 0 x.length 1 0)], []⟩ H = evI Tryz.prog (cfg ml) (evFI Tryz.prog (cfg ml) T N n) N (.seq (pcR 6) (.seq (pcR 7) (.seq (pcR 8) (.seq (pcR 9) (.seq (pcR 10) .ret))))) ⟨51, t, [(.fn (.func 29) [.ptr H.length 0 0, .ptr (H.length + 1) 0 0], [])]⟩ (H ++ [r27 [] [], rowE 0, rdr x 0 0]) := by
  obtain ⟨n, rfl⟩ : ∃ k, n = k + 4 := ⟨n - 4, by omega⟩
  have hql : q < H.length := (List.getElem?_eq_some_iff.1 hq).1
  have hq2 : ∀ L : Mem, (H ++ L)[q]? = some (.row (ofBytes x) 0 ty) := fun L => by rw [List.getElem?_append_left hql]; exact hq
  have hol : (ofBytes x).length = x.length := by simp [ofBytes]
  have hle : x.length ≤ (ofBytes x).length := by omega
  have htk : (ofBytes x).take x.length = ofBytes x := List.take_of_length_le (by omega)
  have htb := toBytes_of x
  have hm1 : ∀ k : Nat, k * 1 = k := Nat.mul_one
  have q1 := fun H => trim_mark (ml := ml) Tryz.prog N (n + 4) (by omega) x [239, 187, 191] hx1 H
  have q2 := fun H => plain_text (ml := ml) Tryz.prog N n x hN (by omega) hp H
  have q3 := fun e H => must_t (P := Tryz.prog) (N := N) (ml := ml) (n + 4) (by omega) e H
  have hl : (cfg ml).lib 32 = some replLib := rfl
  have q4 : ∀ (r u : List UInt8) H, evFI Tryz.prog (cfg ml) T N (n + 4) 32 [.str x, .str (13 :: r), .str u] H = some (.ret (.str x), H) := fun r u H => by
    simp only [evFI, hl, repl_lib r u x (fun b hb => plainB_13 (hp b hb)) hs, Option.map_some]
  have q5 := fun H => hasPrefix_eq (P := Tryz.prog) (N := N) (ml := ml) (n + 4) (by omega) x [60, 63, 120, 109, 108] H
  rw [hx2] at q5
  refine ⟨?t, ?g2, ?g3, ?g5, ?main⟩
  case main =>
    rw [read_split]
    apply evI_seq
    · simp only [pcR, IC.nb, IC.hd, I13, List.append_nil, List.nil_append, List.cons_append, List.getD_cons_zero, List.getD_cons_succ, evI, opsI, stepI, wantI, opI, AAct.evI, look, AAct.put, mkVal, mkVM, intOpA, intA, shiftA, unA, decide_true, decide_false, Option.map_some, Option.map_none, reduceIte, Nat.reduceEqDiff, Nat.reduceLT, Option.bind_some, Option.bind_none, true_and, and_true, and_self, Nat.zero_lt_succ, cellsAt, List.length_append, Nat.le_add_right, List.length_cons, List.length_nil, Nat.zero_add, Nat.add_zero, Nat.reduceAdd, Nat.reduceMul, Nat.zero_mul, AV.cells, AV.one, known, List.append_assoc, getE_0, getE_k, setE_0, setE_k, List.getElem?_cons_zero, List.getElem?_cons_succ, List.set_cons_zero, List.set_cons_succ, List.take_succ_cons, List.take_zero, List.drop_zero, List.drop_succ_cons, List.drop_nil, List.all_cons, List.all_nil, Bool.and_self, Bool.and_true, Bool.true_and, Bool.and_false, Bool.false_and, splice, fillI, Nat.reduceLeDiff, strA, Nat.add_assoc, beq_self_eq_true, Bool.false_eq_true, bq_ft, bq_tf, Bool.not_true, Bool.not_false, Nat.le_refl, List.map_cons, List.map_nil, isNilA, nilPtr, nilSl, nilIf, nilFn, nilMap, nilCheckA, if_true, if_false, lt_lit, le_lit, lt_lit2, le_lit2, le_sub1, le_sub2]; rfl
    apply evI_seq
    · simp only [pcR, IC.nb, IC.hd, I13, AAct.eval, exec_defer, List.append_nil, List.nil_append, List.cons_append, List.getD_cons_zero, List.getD_cons_succ, evI, opsI, stepI, wantI, opI, AAct.evI, look, AAct.put, mkVal, mkVM, intOpA, intA, shiftA, unA, decide_true, decide_false, Option.map_some, Option.map_none, reduceIte, Nat.reduceEqDiff, Nat.reduceLT, Option.bind_some, Option.bind_none, true_and, and_true, and_self, Nat.zero_lt_succ, cellsAt, List.length_append, Nat.le_add_right, List.length_cons, List.length_nil, Nat.zero_add, Nat.add_zero, Nat.reduceAdd, Nat.reduceMul, Nat.zero_mul, AV.cells, AV.one, known, List.append_assoc, getE_0, getE_k, setE_0, setE_k, List.getElem?_cons_zero, List.getElem?_cons_succ, List.set_cons_zero, List.set_cons_succ, List.take_succ_cons, List.take_zero, List.drop_zero, List.drop_succ_cons, List.drop_nil, List.all_cons, List.all_nil, Bool.and_self, Bool.and_true, Bool.true_and, Bool.and_false, Bool.false_and, splice, fillI, Nat.reduceLeDiff, strA, Nat.add_assoc, beq_self_eq_true, Bool.false_eq_true, bq_ft, bq_tf, Bool.not_true, Bool.not_false, Nat.le_refl, List.map_cons, List.map_nil, isNilA, nilPtr, nilSl, nilIf, nilFn, nilMap, nilCheckA, if_true, if_false, lt_lit, le_lit, lt_lit2, le_lit2, le_sub1, le_sub2]; rfl
    apply evI_seq
    · simp only [pcR, IC.nb, IC.hd, I13, held, hq2, hm1, hle, htk, htb, q1, List.append_nil, List.nil_append, List.cons_append, List.getD_cons_zero, List.getD_cons_succ, evI, opsI, stepI, wantI, opI, AAct.evI, look, AAct.put, mkVal, mkVM, intOpA, intA, shiftA, unA, decide_true, decide_false, Option.map_some, Option.map_none, reduceIte, Nat.reduceEqDiff, Nat.reduceLT, Option.bind_some, Option.bind_none, true_and, and_true, and_self, Nat.zero_lt_succ, cellsAt, List.length_append, Nat.le_add_right, List.length_cons, List.length_nil, Nat.zero_add, Nat.add_zero, Nat.reduceAdd, Nat.reduceMul, Nat.zero_mul, AV.cells, AV.one, known, List.append_assoc, getE_0, getE_k, setE_0, setE_k, List.getElem?_cons_zero, List.getElem?_cons_succ, List.set_cons_zero, List.set_cons_succ, List.take_succ_cons, List.take_zero, List.drop_zero, List.drop_succ_cons, List.drop_nil, List.all_cons, List.all_nil, Bool.and_self, Bool.and_true, Bool.true_and, Bool.and_false, Bool.false_and, splice, fillI, Nat.reduceLeDiff, strA, Nat.add_assoc, beq_self_eq_true, Bool.false_eq_true, bq_ft, bq_tf, Bool.not_true, Bool.not_false, Nat.le_refl, List.map_cons, List.map_nil, isNilA, nilPtr, nilSl, nilIf, nilFn, nilMap, nilCheckA, if_true, if_false, lt_lit, le_lit, lt_lit2, le_lit2, le_sub1, le_sub2]; rfl
    apply evI_seq
    · simp only [pcR, IC.nb, IC.hd, I13, q2, q3, List.append_nil, List.nil_append, List.cons_append, List.getD_cons_zero, List.getD_cons_succ, evI, opsI, stepI, wantI, opI, AAct.evI, look, AAct.put, mkVal, mkVM, intOpA, intA, shiftA, unA, decide_true, decide_false, Option.map_some, Option.map_none, reduceIte, Nat.reduceEqDiff, Nat.reduceLT, Option.bind_some, Option.bind_none, true_and, and_true, and_self, Nat.zero_lt_succ, cellsAt, List.length_append, Nat.le_add_right, List.length_cons, List.length_nil, Nat.zero_add, Nat.add_zero, Nat.reduceAdd, Nat.reduceMul, Nat.zero_mul, AV.cells, AV.one, known, List.append_assoc, getE_0, getE_k, setE_0, setE_k, List.getElem?_cons_zero, List.getElem?_cons_succ, List.set_cons_zero, List.set_cons_succ, List.take_succ_cons, List.take_zero, List.drop_zero, List.drop_succ_cons, List.drop_nil, List.all_cons, List.all_nil, Bool.and_self, Bool.and_true, Bool.true_and, Bool.and_false, Bool.false_and, splice, fillI, Nat.reduceLeDiff, strA, Nat.add_assoc, beq_self_eq_true, Bool.false_eq_true, bq_ft, bq_tf, Bool.not_true, Bool.not_false, Nat.le_refl, List.map_cons, List.map_nil, isNilA, nilPtr, nilSl, nilIf, nilFn, nilMap, nilCheckA, if_true, if_false, lt_lit, le_lit, lt_lit2, le_lit2, le_sub1, le_sub2]; rfl
    apply evI_seq (H' := H ++ [r27 [] [], rowE 0, rdr x 0 0])
    · simp only [pcR, IC.nb, IC.hd, I13, q4, rdr, List.append_nil, List.nil_append, List.cons_append, List.getD_cons_zero, List.getD_cons_succ, evI, opsI, stepI, wantI, opI, AAct.evI, look, AAct.put, mkVal, mkVM, intOpA, intA, shiftA, unA, decide_true, decide_false, Option.map_some, Option.map_none, reduceIte, Nat.reduceEqDiff, Nat.reduceLT, Option.bind_some, Option.bind_none, true_and, and_true, and_self, Nat.zero_lt_succ, cellsAt, List.length_append, Nat.le_add_right, List.length_cons, List.length_nil, Nat.zero_add, Nat.add_zero, Nat.reduceAdd, Nat.reduceMul, Nat.zero_mul, AV.cells, AV.one, known, List.append_assoc, getE_0, getE_k, setE_0, setE_k, List.getElem?_cons_zero, List.getElem?_cons_succ, List.set_cons_zero, List.set_cons_succ, List.take_succ_cons, List.take_zero, List.drop_zero, List.drop_succ_cons, List.drop_nil, List.all_cons, List.all_nil, Bool.and_self, Bool.and_true, Bool.true_and, Bool.and_false, Bool.false_and, splice, fillI, Nat.reduceLeDiff, strA, Nat.add_assoc, beq_self_eq_true, Bool.false_eq_true, bq_ft, bq_tf, Bool.not_true, Bool.not_false, Nat.le_refl, List.map_cons, List.map_nil, isNilA, nilPtr, nilSl, nilIf, nilFn, nilMap, nilCheckA, if_true, if_false, lt_lit, le_lit, lt_lit2, le_lit2, le_sub1, le_sub2]; rfl
    apply evI_seq (H' := H ++ [r27 [] [], rowE 0, rdr x 0 0])
    · simp only [pcR, IC.nb, IC.hd, I13, rdr, q5, List.append_nil, List.nil_append, List.cons_append, List.getD_cons_zero, List.getD_cons_succ, evI, opsI, stepI, wantI, opI, AAct.evI, look, AAct.put, mkVal, mkVM, intOpA, intA, shiftA, unA, decide_true, decide_false, Option.map_some, Option.map_none, reduceIte, Nat.reduceEqDiff, Nat.reduceLT, Option.bind_some, Option.bind_none, true_and, and_true, and_self, Nat.zero_lt_succ, cellsAt, List.length_append, Nat.le_add_right, List.length_cons, List.length_nil, Nat.zero_add, Nat.add_zero, Nat.reduceAdd, Nat.reduceMul, Nat.zero_mul, AV.cells, AV.one, known, List.append_assoc, getE_0, getE_k, setE_0, setE_k, List.getElem?_cons_zero, List.getElem?_cons_succ, List.set_cons_zero, List.set_cons_succ, List.take_succ_cons, List.take_zero, List.drop_zero, List.drop_succ_cons, List.drop_nil, List.all_cons, List.all_nil, Bool.and_self, Bool.and_true, Bool.true_and, Bool.and_false, Bool.false_and, splice, fillI, Nat.reduceLeDiff, strA, Nat.add_assoc, beq_self_eq_true, Bool.false_eq_true, bq_ft, bq_tf, Bool.not_true, Bool.not_false, Nat.le_refl, List.map_cons, List.map_nil, isNilA, nilPtr, nilSl, nilIf, nilFn, nilMap, nilCheckA, if_true, if_false, lt_lit, le_lit, lt_lit2, le_lit2, le_sub1, le_sub2]; rfl
    rfl
  case g2 => rfl
  case g3 => rfl
  case g5 => rfl
theorem read_mpan (hn : 4 ≤ n) (er : Int) (at1 : Nat) (hM1 : ∀ A : Mem, evFI Tryz.prog (cfg ml) T N n 37 [.ptr A.length 0 0, .bool true] (A ++ rdr x 0 0 :: []) = some (.pan (failv er), A ++ rdr x at1 0 :: [])) (hlo : lowM H.length H = true) :
    evFI Tryz.prog (cfg ml) T N (n + 1) 13 [.slc q 0 x.length 1 0] H = some (.ret (.tup [.agg [.str [], .str [], .str [], .lst 0 [], .lst 0 []], .int .i64 er]), H) := by
  obtain ⟨t, l2, l3, l5, hpre⟩ := read_pre0 (ml := ml) x hs hN hp n q ty H hq hx1 hx2 hn
  have q1 := hM1 (H ++ [r27 [] [], rowE 0])
  simp only [List.length_append, List.length_cons, List.length_nil, Nat.zero_add, Nat.add_assoc, Nat.reduceAdd, List.append_assoc, List.cons_append, List.nil_append] at q1
  have hT : T 29 = some I29 := t29
  refine evF_panD (m := 51) (v := failv er) (a := ?aa) (H1 := H ++ [r27 [] [], rowE 0, rdr x at1 0]) rfl t13 rfl ?hb ?hd ?hz
  case hb =>
    refine hpre.trans ?_
    apply evI_seq_pan
    simp only [pcR, IC.nb, IC.hd, I13, l2, l5, q1, List.append_nil, List.nil_append, List.cons_append, List.getD_cons_zero, List.getD_cons_succ, evI, opsI, stepI, wantI, opI, AAct.evI, look, AAct.put, mkVal, mkVM, intOpA, intA, shiftA, unA, decide_true, decide_false, Option.map_some, Option.map_none, reduceIte, Nat.reduceEqDiff, Nat.reduceLT, Option.bind_some, Option.bind_none, true_and, and_true, and_self, Nat.zero_lt_succ, cellsAt, List.length_append, Nat.le_add_right, List.length_cons, List.length_nil, Nat.zero_add, Nat.add_zero, Nat.reduceAdd, Nat.reduceMul, Nat.zero_mul, AV.cells, AV.one, known, List.append_assoc, getE_0, getE_k, setE_0, setE_k, List.getElem?_cons_zero, List.getElem?_cons_succ, List.set_cons_zero, List.set_cons_succ, List.take_succ_cons, List.take_zero, List.drop_zero, List.drop_succ_cons, List.drop_nil, List.all_cons, List.all_nil, Bool.and_self, Bool.and_true, Bool.true_and, Bool.and_false, Bool.false_and, splice, fillI, Nat.reduceLeDiff, strA, Nat.add_assoc, beq_self_eq_true, Bool.false_eq_true, bq_ft, bq_tf, Bool.not_true, Bool.not_false, Nat.le_refl, List.map_cons, List.map_nil, isNilA, nilPtr, nilSl, nilIf, nilFn, nilMap, nilCheckA, if_true, if_false, lt_lit, le_lit, lt_lit2, le_lit2, le_sub1, le_sub2]; rfl
  case hd => rfl
  case hz =>
    have hk : (cfg ml).keep 13 = false := rfl
    have hmax : max 2 14 = 14 := rfl
    have e55 : (55 = 55) = True := by simp
    simp only [hmax, failv, assertD, e55, takeE_0, takeS, eqM_refl, tailI, defI, hT, I29, I13, resI, resLI, Option.getD_some, List.length_cons, List.length_nil, idx, hk, l2, l3, List.isEmpty_nil, finish, frz, frzL, low, lowL, mayCut, List.append_nil, List.nil_append, List.cons_append, List.getD_cons_zero, List.getD_cons_succ, evI, opsI, stepI, wantI, opI, AAct.evI, look, AAct.put, mkVal, mkVM, intOpA, intA, shiftA, unA, decide_true, decide_false, Option.map_some, Option.map_none, reduceIte, Nat.reduceEqDiff, Nat.reduceLT, Option.bind_some, Option.bind_none, true_and, and_true, and_self, Nat.zero_lt_succ, cellsAt, List.length_append, Nat.le_add_right, List.length_cons, List.length_nil, Nat.zero_add, Nat.add_zero, Nat.reduceAdd, Nat.reduceMul, Nat.zero_mul, AV.cells, AV.one, known, List.append_assoc, getE_0, getE_k, setE_0, setE_k, List.getElem?_cons_zero, List.getElem?_cons_succ, List.set_cons_zero, List.set_cons_succ, List.take_succ_cons, List.take_zero, List.drop_zero, List.drop_succ_cons, List.drop_nil, List.all_cons, List.all_nil, Bool.and_self, Bool.and_true, Bool.true_and, Bool.and_false, Bool.false_and, splice, fillI, Nat.reduceLeDiff, strA, Nat.add_assoc, beq_self_eq_true, Bool.false_eq_true, bq_ft, bq_tf, Bool.not_true, Bool.not_false, Nat.le_refl, List.map_cons, List.map_nil, isNilA, nilPtr, nilSl, nilIf, nilFn, nilMap, nilCheckA, if_true, if_false, lt_lit, le_lit, lt_lit2, le_lit2, le_sub1, le_sub2, drawI, drawI2, drawI0, drawI20, lexD, valD, valI, putD, okD, roD, memAt, lastM, wantI, eqv_refl, eqM_refl, eqM_app, eqB, eqvL, eqv, List.getLast?_cons_cons, List.getLast?_singleton, Option.getD_some, Bool.or_true, Bool.true_or, beq_self_eq_true, resvV]
theorem read_bad (hn : 4 ≤ n) (at1 : Nat) (hM1 : ∀ A : Mem, evFI Tryz.prog (cfg ml) T N n 37 [.ptr A.length 0 0, .bool true] (A ++ rdr x 0 0 :: []) = some (.ret (.tup []), A ++ rdr x at1 0 :: []))
    (sp nm tx : List UInt8) (at2 at3 many kn an : Nat) (ac kc : List AV) (hac : lowL 0 ac = true) (hkc : lowL 0 kc = true)
    (hE : ∀ A : Mem, LoM A [scope1 nsX] → evFI Tryz.prog (cfg ml) T N n 38 [.ptr A.length 0 0, .map (A.length + 1), .int .i64 0] (A ++ rdr x at1 0 :: [scope1 nsX]) = some (.ret (.agg [.str sp, .str nm, .str tx, .lst an ac, .lst kn kc]), A ++ rdr x at2 many :: [scope1 nsX]))
    (hM2 : ∀ A B : Mem, evFI Tryz.prog (cfg ml) T N n 37 [.ptr A.length 0 0, .bool false] (A ++ rdr x at2 many :: B) = some (.ret (.tup []), A ++ rdr x at3 many :: B)) (h3 : at3 < x.length) (hlo : lowM H.length H = true) :
    evFI Tryz.prog (cfg ml) T N (n + 1) 13 [.slc q 0 x.length 1 0] H = some (.ret (.tup [.agg [.str [], .str [], .str [], .lst 0 [], .lst 0 []], .int .i64 10]), H) := by
  obtain ⟨t, l2, l3, l5, hpre⟩ := read_pre (ml := ml) x hs hN hp n q ty H hq hx1 hx2 at1 hM1 hn
  have hlA : LoM (H ++ [r27 [] [], rowE 0]) [scope1 nsX] := by
    refine ⟨?_, rfl⟩
    unfold lowM at *
    rw [List.all_append, List.all_eq_true.2 fun y hy => lowB_mono (by simp; omega) (List.all_eq_true.1 hlo y hy)]
    rfl
  have q1 := hE (H ++ [r27 [] [], rowE 0]) hlA
  have q2 := hM2 (H ++ [.row [.str sp, .str nm, .str tx, .lst an ac, .lst kn kc] 0 (27 + 1), rowE 0]) [scope1 nsX]
  have q3 := fun e H => must_f (P := Tryz.prog) (N := N) (ml := ml) n (by omega) e H
  have hbq : ((at3 : Int) == (x.length : Int)) = false := beq_false_of_ne (by omega)
  simp only [nsX, List.length_append, List.length_cons, List.length_nil, Nat.zero_add, Nat.add_assoc, Nat.reduceAdd, List.append_assoc, List.cons_append, List.nil_append] at q1 q2
  have hT : T 29 = some I29 := t29
  refine evF_panD (m := 51) (v := failv 10) (a := ?aa) (H1 := H ++ [.row [.str sp, .str nm, .str tx, .lst an ac, .lst kn kc] 0 (27 + 1), rowE 0, rdr x at3 many, scope1 nsX]) rfl t13 rfl ?hb ?hd ?hz
  case hb =>
    refine hpre.trans ?_
    apply evI_seq
    · simp only [pcR, IC.nb, IC.hd, I13, l2, l5, updateD, findA, isKey, mkM, q1, List.append_nil, List.nil_append, List.cons_append, List.getD_cons_zero, List.getD_cons_succ, evI, opsI, stepI, wantI, opI, AAct.evI, look, AAct.put, mkVal, mkVM, intOpA, intA, shiftA, unA, decide_true, decide_false, Option.map_some, Option.map_none, reduceIte, Nat.reduceEqDiff, Nat.reduceLT, Option.bind_some, Option.bind_none, true_and, and_true, and_self, Nat.zero_lt_succ, cellsAt, List.length_append, Nat.le_add_right, List.length_cons, List.length_nil, Nat.zero_add, Nat.add_zero, Nat.reduceAdd, Nat.reduceMul, Nat.zero_mul, AV.cells, AV.one, known, List.append_assoc, getE_0, getE_k, setE_0, setE_k, List.getElem?_cons_zero, List.getElem?_cons_succ, List.set_cons_zero, List.set_cons_succ, List.take_succ_cons, List.take_zero, List.drop_zero, List.drop_succ_cons, List.drop_nil, List.all_cons, List.all_nil, Bool.and_self, Bool.and_true, Bool.true_and, Bool.and_false, Bool.false_and, splice, fillI, Nat.reduceLeDiff, strA, Nat.add_assoc, beq_self_eq_true, Bool.false_eq_true, bq_ft, bq_tf, Bool.not_true, Bool.not_false, Nat.le_refl, List.map_cons, List.map_nil, isNilA, nilPtr, nilSl, nilIf, nilFn, nilMap, nilCheckA, if_true, if_false, lt_lit, le_lit, lt_lit2, le_lit2, le_sub1, le_sub2]; rfl
    apply evI_seq
    · simp only [pcR, IC.nb, IC.hd, I13, l5, q2, List.append_nil, List.nil_append, List.cons_append, List.getD_cons_zero, List.getD_cons_succ, evI, opsI, stepI, wantI, opI, AAct.evI, look, AAct.put, mkVal, mkVM, intOpA, intA, shiftA, unA, decide_true, decide_false, Option.map_some, Option.map_none, reduceIte, Nat.reduceEqDiff, Nat.reduceLT, Option.bind_some, Option.bind_none, true_and, and_true, and_self, Nat.zero_lt_succ, cellsAt, List.length_append, Nat.le_add_right, List.length_cons, List.length_nil, Nat.zero_add, Nat.add_zero, Nat.reduceAdd, Nat.reduceMul, Nat.zero_mul, AV.cells, AV.one, known, List.append_assoc, getE_0, getE_k, setE_0, setE_k, List.getElem?_cons_zero, List.getElem?_cons_succ, List.set_cons_zero, List.set_cons_succ, List.take_succ_cons, List.take_zero, List.drop_zero, List.drop_succ_cons, List.drop_nil, List.all_cons, List.all_nil, Bool.and_self, Bool.and_true, Bool.true_and, Bool.and_false, Bool.false_and, splice, fillI, Nat.reduceLeDiff, strA, Nat.add_assoc, beq_self_eq_true, Bool.false_eq_true, bq_ft, bq_tf, Bool.not_true, Bool.not_false, Nat.le_refl, List.map_cons, List.map_nil, isNilA, nilPtr, nilSl, nilIf, nilFn, nilMap, nilCheckA, if_true, if_false, lt_lit, le_lit, lt_lit2, le_lit2, le_sub1, le_sub2]; rfl
    apply evI_seq_pan
    simp only [pcR, IC.nb, IC.hd, I13, rdr, l5, hbq, q3, panI, panD, mayPan, seqD, badD, List.foldl_cons, List.foldl_nil, Option.isNone_none, List.append_nil, List.nil_append, List.cons_append, List.getD_cons_zero, List.getD_cons_succ, evI, opsI, stepI, wantI, opI, AAct.evI, look, AAct.put, mkVal, mkVM, intOpA, intA, shiftA, unA, decide_true, decide_false, Option.map_some, Option.map_none, reduceIte, Nat.reduceEqDiff, Nat.reduceLT, Option.bind_some, Option.bind_none, true_and, and_true, and_self, Nat.zero_lt_succ, cellsAt, List.length_append, Nat.le_add_right, List.length_cons, List.length_nil, Nat.zero_add, Nat.add_zero, Nat.reduceAdd, Nat.reduceMul, Nat.zero_mul, AV.cells, AV.one, known, List.append_assoc, getE_0, getE_k, setE_0, setE_k, List.getElem?_cons_zero, List.getElem?_cons_succ, List.set_cons_zero, List.set_cons_succ, List.take_succ_cons, List.take_zero, List.drop_zero, List.drop_succ_cons, List.drop_nil, List.all_cons, List.all_nil, Bool.and_self, Bool.and_true, Bool.true_and, Bool.and_false, Bool.false_and, splice, fillI, Nat.reduceLeDiff, strA, Nat.add_assoc, beq_self_eq_true, Bool.false_eq_true, bq_ft, bq_tf, Bool.not_true, Bool.not_false, Nat.le_refl, List.map_cons, List.map_nil, isNilA, nilPtr, nilSl, nilIf, nilFn, nilMap, nilCheckA, if_true, if_false, lt_lit, le_lit, lt_lit2, le_lit2, le_sub1, le_sub2, drawI, drawI2, drawI0, drawI20, lexD, valD, valI, putD, okD, roD, memAt, lastM, wantI, eqv_refl, eqM_refl, eqM_app, eqB, eqvL, eqv, List.getLast?_cons_cons, List.getLast?_singleton, Option.getD_some, Bool.or_true, Bool.true_or, beq_self_eq_true, resvV]; rfl
  case hd => rfl
  case hz =>
    have hk : (cfg ml).keep 13 = false := rfl
    have hmax : max 2 14 = 14 := rfl
    have e55 : (55 = 55) = True := by simp
    simp only [hmax, failv, assertD, e55, takeE_0, takeS, eqM_refl, tailI, defI, hT, I29, I13, resI, resLI, Option.getD_some, List.length_cons, List.length_nil, idx, hk, l2, l3, List.isEmpty_nil, finish, frz, frzL, low, lowL, mayCut, List.append_nil, List.nil_append, List.cons_append, List.getD_cons_zero, List.getD_cons_succ, evI, opsI, stepI, wantI, opI, AAct.evI, look, AAct.put, mkVal, mkVM, intOpA, intA, shiftA, unA, decide_true, decide_false, Option.map_some, Option.map_none, reduceIte, Nat.reduceEqDiff, Nat.reduceLT, Option.bind_some, Option.bind_none, true_and, and_true, and_self, Nat.zero_lt_succ, cellsAt, List.length_append, Nat.le_add_right, List.length_cons, List.length_nil, Nat.zero_add, Nat.add_zero, Nat.reduceAdd, Nat.reduceMul, Nat.zero_mul, AV.cells, AV.one, known, List.append_assoc, getE_0, getE_k, setE_0, setE_k, List.getElem?_cons_zero, List.getElem?_cons_succ, List.set_cons_zero, List.set_cons_succ, List.take_succ_cons, List.take_zero, List.drop_zero, List.drop_succ_cons, List.drop_nil, List.all_cons, List.all_nil, Bool.and_self, Bool.and_true, Bool.true_and, Bool.and_false, Bool.false_and, splice, fillI, Nat.reduceLeDiff, strA, Nat.add_assoc, beq_self_eq_true, Bool.false_eq_true, bq_ft, bq_tf, Bool.not_true, Bool.not_false, Nat.le_refl, List.map_cons, List.map_nil, isNilA, nilPtr, nilSl, nilIf, nilFn, nilMap, nilCheckA, if_true, if_false, lt_lit, le_lit, lt_lit2, le_lit2, le_sub1, le_sub2, drawI, drawI2, drawI0, drawI20, lexD, valD, valI, putD, okD, roD, memAt, lastM, wantI, eqv_refl, eqM_refl, eqM_app, eqB, eqvL, eqv, List.getLast?_cons_cons, List.getLast?_singleton, Option.getD_some, Bool.or_true, Bool.true_or, beq_self_eq_true, resvV]
end
end Go.Proofs.YtmnajffpmbidiaaGreatDoor.Ev
