/- Parts of one proof, one behind the other: The reader of xml: an element without attributes, reckoned with letters. -/
import Derived.Test.YtmnajffpmbidiaaGreatDoorMde
/- The reader of xml: an element without attributes, reckoned with letters. -/
namespace Go.Proofs.YtmnajffpmbidiaaGreatDoor.Ev
set_option linter.all false
variable {ml : Int}
open Go.Proofs.YtmnajffpmbidiaaGreatDoor.Ic
set_option maxRecDepth 100000
set_option maxHeartbeats 4000000
set_option linter.unusedSimpArgs false
set_option linter.unusedSectionVars false
def IC.nb : Nat → IC → IC
  | n + 1, .seq _ y => y.nb n
  | _, c => c
def IC.hd : IC → IC
  | .seq x _ => x
  | c => c
def LoM (A B : Mem) : Prop := lowM (A.length + (B.length + 1)) A = true ∧ lowM (A.length + (B.length + 1)) B = true
theorem LoM.whole {A B : Mem} (h : LoM A B) (s : List UInt8) (at_ many : Nat) : lowM (A ++ rdr s at_ many :: B).length (A ++ rdr s at_ many :: B) = true := by
  obtain ⟨h1, h2⟩ := h
  unfold lowM at *
  have hl : (A ++ rdr s at_ many :: B).length = A.length + (B.length + 1) := by simp
  rw [hl, List.all_append, h1, List.all_cons, h2]; rfl
theorem LoM.more {A B C : Mem} (h : LoM A B) (hC : ∀ x ∈ C, lowB (A.length + (B.length + 1)) x = true) : LoM A (B ++ C) := by
  have hle : A.length + (B.length + 1) ≤ A.length + ((B ++ C).length + 1) := by rw [List.length_append]; omega
  have up : ∀ (M : Mem), lowM (A.length + (B.length + 1)) M = true → lowM (A.length + ((B ++ C).length + 1)) M = true := fun M hM => by
    unfold lowM at *
    rw [List.all_eq_true] at *
    exact fun x hx => lowB_mono hle (hM x hx)
  refine ⟨up _ h.1, ?_⟩
  have h2 := up _ h.2
  unfold lowM at *
  rw [List.all_append, h2, Bool.true_and, List.all_eq_true]
  exact fun x hx => lowB_mono hle (hC x hx)
theorem fin_cut {keep : Bool} {v v' : AV} {H0 H1 H2 : Mem} (hk : keep = false) (hf : frz H0.length H1 12 v = some v') (hl : low H0.length v' = true) (ht : H1.take H0.length = H2) (hm : lowM H0.length H2 = true) : finish keep H0 v H1 = (v', H2) := by
  subst hk
  unfold finish
  simp only [Bool.false_eq_true, if_false, hf, mayCut, ht, hl, hm, Bool.or_true, Bool.and_true, if_true]
abbrev r27 (a b : List UInt8) : Blk := .row [.str a, .str b, .str [], .nilS, .nilS] 0 (27 + 1)
def ownK : List UInt8 := [120, 109, 108]
abbrev scope1 (v : List UInt8) : Blk := .map [(.str [120, 109, 108], .str v)]
noncomputable def restE : IC := I38.c.nb 12
noncomputable def pcE (n : Nat) : IC := (I38.c.nb n).hd
theorem elem_split : I38.c = .seq (pcE 0) (.seq (pcE 1) (.seq (pcE 2) (.seq (pcE 3) (.seq (pcE 4) (.seq (pcE 5) (.seq (pcE 6) (.seq (pcE 7) (.seq (pcE 8) (.seq (pcE 9) (.seq (pcE 10) (.seq (pcE 11) restE))))))))))) := rfl
theorem hasP_head (s : List UInt8) (at_ : Nat) (b : UInt8) (h : s[at_]? = some b) : hasP (s.drop at_) [b] = true := by
  obtain ⟨hlt, e⟩ := List.getElem?_eq_some_iff.1 h
  rw [List.drop_eq_getElem_cons hlt, e]
  simp [hasP]
theorem hasP_other (s : List UInt8) (at_ : Nat) (b c : UInt8) (p : List UInt8) (h : s[at_]? = some b) (hne : b ≠ c) : hasP (s.drop at_) (c :: p) = false := by
  obtain ⟨hlt, e⟩ := List.getElem?_eq_some_iff.1 h
  rw [List.drop_eq_getElem_cons hlt, e]
  simp [hasP, hne]
theorem hasP_end (s : List UInt8) (at_ : Nat) (c : UInt8) (p : List UInt8) (h : s.length ≤ at_) : hasP (s.drop at_) (c :: p) = false := by
  rw [List.drop_eq_nil_of_le h]
  simp [hasP]
theorem drop_next {s l r : List UInt8} {k : Nat} (h : s.drop k = l ++ r) : s.drop (k + l.length) = r := by
  rw [← List.drop_drop, h, List.drop_left]
theorem get_at {s r : List UInt8} {k : Nat} {c : UInt8} (h : s.drop k = c :: r) : s[k]? = some c := by
  have := congrArg (·[0]?) h
  simpa using this
theorem drop_one {s r : List UInt8} {k : Nat} {c : UInt8} (h : s.drop k = c :: r) : s.drop (k + 1) = r := by
  rw [← List.drop_drop, h]; rfl
theorem nmN_app (a r : List UInt8) (d : UInt8) (ha : ∀ c ∈ a, nxt8 c = true) (hd : nxt8 d = false) : nmN (a ++ d :: r) = a.length := by
  unfold nmN
  induction a with
  | nil => rw [List.nil_append, List.takeWhile_cons, hd]; rfl
  | cons c a ih =>
    rw [List.cons_append, List.takeWhile_cons, ha c (by simp)]
    simp only [if_true, List.length_cons]
    rw [ih fun e he => ha e (by simp [he])]
theorem hasP_two (c a0 d : UInt8) (r p : List UInt8) (h : a0 ≠ d) : hasP (c :: a0 :: r) (c :: d :: p) = false := by
  unfold hasP
  have : ((c :: a0 :: r).take (c :: d :: p).length == c :: d :: p) = false := by
    refine beq_false_of_ne fun e => h ?_
    simp only [List.length_cons, List.take_succ_cons, List.cons.injEq] at e
    exact e.2.1
  rw [this, Bool.and_false]
section
variable {N : Nat}
variable (s : List UInt8) (hs : s.length < 4294967281) (hN : s.length < N)
include hs hN
/-- Up to the tag's end. -/
theorem elem_pre1 (n at_ many : Nat) (A B : Mem) (mi : Nat) (nsv : List UInt8) (dp : Nat) (hm : ∀ L : Mem, ∀ a m, (A ++ rdr s a m :: (B ++ L))[mi]? = some (scope1 nsv)) (b : UInt8) (emp : Bool)
    (h1 : s[at_]? = some 60) (at1 : Nat) (e1 : at1 = at_ + 1) (h2 : s[at1]? = some b) (hf : fst8 b = true) (m : Nat) (hmn : m = nmN (s.drop at1)) (at2 : Nat) (e2 : at2 = at1 + m) (hq : hasP (s.drop at2) [58] = false)
    (k : Nat) (hk : k = blN (s.drop at2)) (at3 : Nat) (e3 : at3 = at2 + k) (c : UInt8) (hc : s[at3]? = some c) (hc2 : fst8 c = false)
    (he : hasP (s.drop at3) [47, 62] = emp) (he2 : emp = false → c = 62) (at4 : Nat) (e4 : at4 = at3 + if emp then 2 else 1) (hmany : many < 16384) (hdp : dp ≤ 256) :
    ∃ t, look t 0 = .ptr A.length 0 0 ∧ look t 1 = .map mi ∧ look t 2 = .int .i64 (dp : Nat) ∧ look t 6 = .ptr (A.length + (B.length + 1)) 0 0 ∧ look t 7 = .str [] ∧ look t 8 = .str ((s.drop at1).take m) ∧ look t 9 = .nilS ∧
      evI Tryz.prog (cfg ml) (evFI Tryz.prog (cfg ml) T N (n + 6)) N I38.c ⟨126, [(0, .ptr A.length 0 0), (1, .map mi), (2, .int .i64 (dp : Nat))], []⟩ (A ++ rdr s at_ many :: B) = evI Tryz.prog (cfg ml) (evFI Tryz.prog (cfg ml) T N (n + 6)) N (.seq (pcE 8) (.seq (pcE 9) (.seq (pcE 10) (.seq (pcE 11) restE)))) ⟨126, t, []⟩ (A ++ rdr s at3 (many + 1) :: (B ++ [r27 [] []])) := by
  have hlt : at1 < s.length := (List.getElem?_eq_some_iff.1 h2).1
  have hlt2 : at3 < s.length := (List.getElem?_eq_some_iff.1 hc).1
  have h22 : s[at_ + 1]? = some b := by rw [← e1]; exact h2
  let B1 : Mem := B ++ [r27 [] []]
  have q1 := has_eq (P := Tryz.prog) (N := N) (ml := ml) s at_ many A B1 (by omega) (n + 6) (by omega) [60]
  rw [hasP_head s at_ 60 h1] at q1
  have q2 : evFI Tryz.prog (cfg ml) T N (n + 6) 35 [.ptr A.length 0 0, .int .i64 1] (A ++ rdr s at_ many :: B1) = some (.ret (.int .u8 b.toNat), A ++ rdr s at_ many :: B1) := byteAt_in (P := Tryz.prog) (N := N) (ml := ml) s at_ many A B1 (by omega) (n + 6) (by omega) 1 b h22 hs
  have q3 := fun H => isFirst_eq (ml := ml) Tryz.prog N (n + 5) (b.toNat : Int) H
  rw [show nameFirst (b.toNat : Int) = true from hf] at q3
  have q4 := fun e H => must_t (P := Tryz.prog) (N := N) (ml := ml) (n + 6) (by omega) e H
  have c1 : decide ((many : Int) < 16384) = true := decide_eq_true (by omega)
  have c2 : decide ((dp : Int) ≤ 256) = true := decide_eq_true (by omega)
  have w1 : IntKind.wrap .i64 ((many : Int) + 1) = ((many + 1 : Nat) : Int) := by rw [wrap64] <;> omega
  have q5 := wants_t (P := Tryz.prog) (N := N) (ml := ml) s at_ (many + 1) A B1 hs (by omega) (n + 6) (by omega) [60] (hasP_head s at_ 60 h1)
  have q6 := qual_plain (P := Tryz.prog) (N := N) (ml := ml) s (many + 1) A B1 hs hN at1 b h2 hf (by rw [← hmn, ← e2]; exact hq) (n + 6) (by omega)
  rw [← hmn, ← e2] at q6
  have q7 := blank_eq (P := Tryz.prog) (N := N) (ml := ml) s (many + 1) A B1 hs hN at2 (by omega) (n + 6) (by omega)
  rw [← hk, ← e3] at q7
  have c3 : decide ((at3 : Int) < (s.length : Int)) = true := decide_eq_true (by omega)
  have n3 := natOf_nat at3 .i64
  have q8 := fun H => isFirst_eq (ml := ml) Tryz.prog N (n + 5) (c.toNat : Int) H
  rw [show nameFirst (c.toNat : Int) = false from hc2] at q8
  obtain ⟨N', rfl⟩ : ∃ q, N = q + 2 := ⟨N - 2, by omega⟩
  have q5' : evFI Tryz.prog (cfg ml) T (N' + 2) (n + 6) 56 [.ptr A.length 0 0, .str [60]] (A ++ rdr s at_ (many + 1) :: B1) = some (.ret (.tup []), A ++ rdr s at1 (many + 1) :: B1) := by rw [e1]; exact q5
  simp only [B1] at q1 q2 q5' q6 q7
  clear q5
  cases hk0 : decide (0 < k)
  · rw [hk0] at q7
    refine ⟨?t, ?g0, ?g1, ?g2, ?g6, ?g7, ?g8, ?g9, ?main⟩
    case main =>
      rw [elem_split]
      apply evI_seq
      · simp only [pcE, IC.nb, IC.hd, I38, List.append_nil, List.nil_append, List.cons_append, List.getD_cons_zero, List.getD_cons_succ, evI, opsI, stepI, wantI, opI, AAct.evI, look, AAct.put, mkVal, mkVM, intOpA, intA, shiftA, unA, decide_true, decide_false, Option.map_some, Option.map_none, reduceIte, Nat.reduceEqDiff, Nat.reduceLT, Option.bind_some, Option.bind_none, true_and, and_true, and_self, Nat.zero_lt_succ, cellsAt, List.length_append, Nat.le_add_right, List.length_cons, List.length_nil, Nat.zero_add, Nat.add_zero, Nat.reduceAdd, Nat.reduceMul, Nat.zero_mul, AV.cells, AV.one, known, List.append_assoc, getE_0, getE_k, setE_0, setE_k, List.getElem?_cons_zero, List.getElem?_cons_succ, List.set_cons_zero, List.set_cons_succ, List.take_succ_cons, List.take_zero, List.drop_zero, List.drop_succ_cons, List.drop_nil, List.all_cons, List.all_nil, Bool.and_self, Bool.and_true, Bool.true_and, Bool.and_false, Bool.false_and, splice, fillI, Nat.reduceLeDiff, strA, Nat.add_assoc, beq_self_eq_true, Bool.false_eq_true, bq_ft, bq_tf, Bool.not_true, Bool.not_false, Nat.le_refl, List.map_cons, List.map_nil, isNilA, nilPtr, nilSl, nilIf, nilFn, nilMap, nilCheckA, if_true, if_false, lt_lit, le_lit, lt_lit2, le_lit2, le_sub1, le_sub2]; rfl
      apply evI_seq
      · simp only [pcE, IC.nb, IC.hd, I38, q1, q2, q3, q4, List.append_nil, List.nil_append, List.cons_append, List.getD_cons_zero, List.getD_cons_succ, evI, opsI, stepI, wantI, opI, AAct.evI, look, AAct.put, mkVal, mkVM, intOpA, intA, shiftA, unA, decide_true, decide_false, Option.map_some, Option.map_none, reduceIte, Nat.reduceEqDiff, Nat.reduceLT, Option.bind_some, Option.bind_none, true_and, and_true, and_self, Nat.zero_lt_succ, cellsAt, List.length_append, Nat.le_add_right, List.length_cons, List.length_nil, Nat.zero_add, Nat.add_zero, Nat.reduceAdd, Nat.reduceMul, Nat.zero_mul, AV.cells, AV.one, known, List.append_assoc, getE_0, getE_k, setE_0, setE_k, List.getElem?_cons_zero, List.getElem?_cons_succ, List.set_cons_zero, List.set_cons_succ, List.take_succ_cons, List.take_zero, List.drop_zero, List.drop_succ_cons, List.drop_nil, List.all_cons, List.all_nil, Bool.and_self, Bool.and_true, Bool.true_and, Bool.and_false, Bool.false_and, splice, fillI, Nat.reduceLeDiff, strA, Nat.add_assoc, beq_self_eq_true, Bool.false_eq_true, bq_ft, bq_tf, Bool.not_true, Bool.not_false, Nat.le_refl, List.map_cons, List.map_nil, isNilA, nilPtr, nilSl, nilIf, nilFn, nilMap, nilCheckA, if_true, if_false, lt_lit, le_lit, lt_lit2, le_lit2, le_sub1, le_sub2]; rfl
      apply evI_seq
      · simp only [pcE, IC.nb, IC.hd, I38, rdr, c1, c2, q4, List.append_nil, List.nil_append, List.cons_append, List.getD_cons_zero, List.getD_cons_succ, evI, opsI, stepI, wantI, opI, AAct.evI, look, AAct.put, mkVal, mkVM, intOpA, intA, shiftA, unA, decide_true, decide_false, Option.map_some, Option.map_none, reduceIte, Nat.reduceEqDiff, Nat.reduceLT, Option.bind_some, Option.bind_none, true_and, and_true, and_self, Nat.zero_lt_succ, cellsAt, List.length_append, Nat.le_add_right, List.length_cons, List.length_nil, Nat.zero_add, Nat.add_zero, Nat.reduceAdd, Nat.reduceMul, Nat.zero_mul, AV.cells, AV.one, known, List.append_assoc, getE_0, getE_k, setE_0, setE_k, List.getElem?_cons_zero, List.getElem?_cons_succ, List.set_cons_zero, List.set_cons_succ, List.take_succ_cons, List.take_zero, List.drop_zero, List.drop_succ_cons, List.drop_nil, List.all_cons, List.all_nil, Bool.and_self, Bool.and_true, Bool.true_and, Bool.and_false, Bool.false_and, splice, fillI, Nat.reduceLeDiff, strA, Nat.add_assoc, beq_self_eq_true, Bool.false_eq_true, bq_ft, bq_tf, Bool.not_true, Bool.not_false, Nat.le_refl, List.map_cons, List.map_nil, isNilA, nilPtr, nilSl, nilIf, nilFn, nilMap, nilCheckA, if_true, if_false, lt_lit, le_lit, lt_lit2, le_lit2, le_sub1, le_sub2]; rfl
      apply evI_seq (H' := A ++ rdr s at_ (many + 1) :: (B ++ [r27 [] []]))
      · simp only [pcE, IC.nb, IC.hd, I38, rdr, w1, List.append_nil, List.nil_append, List.cons_append, List.getD_cons_zero, List.getD_cons_succ, evI, opsI, stepI, wantI, opI, AAct.evI, look, AAct.put, mkVal, mkVM, intOpA, intA, shiftA, unA, decide_true, decide_false, Option.map_some, Option.map_none, reduceIte, Nat.reduceEqDiff, Nat.reduceLT, Option.bind_some, Option.bind_none, true_and, and_true, and_self, Nat.zero_lt_succ, cellsAt, List.length_append, Nat.le_add_right, List.length_cons, List.length_nil, Nat.zero_add, Nat.add_zero, Nat.reduceAdd, Nat.reduceMul, Nat.zero_mul, AV.cells, AV.one, known, List.append_assoc, getE_0, getE_k, setE_0, setE_k, List.getElem?_cons_zero, List.getElem?_cons_succ, List.set_cons_zero, List.set_cons_succ, List.take_succ_cons, List.take_zero, List.drop_zero, List.drop_succ_cons, List.drop_nil, List.all_cons, List.all_nil, Bool.and_self, Bool.and_true, Bool.true_and, Bool.and_false, Bool.false_and, splice, fillI, Nat.reduceLeDiff, strA, Nat.add_assoc, beq_self_eq_true, Bool.false_eq_true, bq_ft, bq_tf, Bool.not_true, Bool.not_false, Nat.le_refl, List.map_cons, List.map_nil, isNilA, nilPtr, nilSl, nilIf, nilFn, nilMap, nilCheckA, if_true, if_false, lt_lit, le_lit, lt_lit2, le_lit2, le_sub1, le_sub2]; rfl
      apply evI_seq
      · simp only [pcE, IC.nb, IC.hd, I38, q5', List.append_nil, List.nil_append, List.cons_append, List.getD_cons_zero, List.getD_cons_succ, evI, opsI, stepI, wantI, opI, AAct.evI, look, AAct.put, mkVal, mkVM, intOpA, intA, shiftA, unA, decide_true, decide_false, Option.map_some, Option.map_none, reduceIte, Nat.reduceEqDiff, Nat.reduceLT, Option.bind_some, Option.bind_none, true_and, and_true, and_self, Nat.zero_lt_succ, cellsAt, List.length_append, Nat.le_add_right, List.length_cons, List.length_nil, Nat.zero_add, Nat.add_zero, Nat.reduceAdd, Nat.reduceMul, Nat.zero_mul, AV.cells, AV.one, known, List.append_assoc, getE_0, getE_k, setE_0, setE_k, List.getElem?_cons_zero, List.getElem?_cons_succ, List.set_cons_zero, List.set_cons_succ, List.take_succ_cons, List.take_zero, List.drop_zero, List.drop_succ_cons, List.drop_nil, List.all_cons, List.all_nil, Bool.and_self, Bool.and_true, Bool.true_and, Bool.and_false, Bool.false_and, splice, fillI, Nat.reduceLeDiff, strA, Nat.add_assoc, beq_self_eq_true, Bool.false_eq_true, bq_ft, bq_tf, Bool.not_true, Bool.not_false, Nat.le_refl, List.map_cons, List.map_nil, isNilA, nilPtr, nilSl, nilIf, nilFn, nilMap, nilCheckA, if_true, if_false, lt_lit, le_lit, lt_lit2, le_lit2, le_sub1, le_sub2]; rfl
      apply evI_seq
      · simp only [pcE, IC.nb, IC.hd, I38, q6, List.append_nil, List.nil_append, List.cons_append, List.getD_cons_zero, List.getD_cons_succ, evI, opsI, stepI, wantI, opI, AAct.evI, look, AAct.put, mkVal, mkVM, intOpA, intA, shiftA, unA, decide_true, decide_false, Option.map_some, Option.map_none, reduceIte, Nat.reduceEqDiff, Nat.reduceLT, Option.bind_some, Option.bind_none, true_and, and_true, and_self, Nat.zero_lt_succ, cellsAt, List.length_append, Nat.le_add_right, List.length_cons, List.length_nil, Nat.zero_add, Nat.add_zero, Nat.reduceAdd, Nat.reduceMul, Nat.zero_mul, AV.cells, AV.one, known, List.append_assoc, getE_0, getE_k, setE_0, setE_k, List.getElem?_cons_zero, List.getElem?_cons_succ, List.set_cons_zero, List.set_cons_succ, List.take_succ_cons, List.take_zero, List.drop_zero, List.drop_succ_cons, List.drop_nil, List.all_cons, List.all_nil, Bool.and_self, Bool.and_true, Bool.true_and, Bool.and_false, Bool.false_and, splice, fillI, Nat.reduceLeDiff, strA, Nat.add_assoc, beq_self_eq_true, Bool.false_eq_true, bq_ft, bq_tf, Bool.not_true, Bool.not_false, Nat.le_refl, List.map_cons, List.map_nil, isNilA, nilPtr, nilSl, nilIf, nilFn, nilMap, nilCheckA, if_true, if_false, lt_lit, le_lit, lt_lit2, le_lit2, le_sub1, le_sub2]; rfl
      apply evI_seq
      · simp only [pcE, IC.nb, IC.hd, I38, List.append_nil, List.nil_append, List.cons_append, List.getD_cons_zero, List.getD_cons_succ, evI, opsI, stepI, wantI, opI, AAct.evI, look, AAct.put, mkVal, mkVM, intOpA, intA, shiftA, unA, decide_true, decide_false, Option.map_some, Option.map_none, reduceIte, Nat.reduceEqDiff, Nat.reduceLT, Option.bind_some, Option.bind_none, true_and, and_true, and_self, Nat.zero_lt_succ, cellsAt, List.length_append, Nat.le_add_right, List.length_cons, List.length_nil, Nat.zero_add, Nat.add_zero, Nat.reduceAdd, Nat.reduceMul, Nat.zero_mul, AV.cells, AV.one, known, List.append_assoc, getE_0, getE_k, setE_0, setE_k, List.getElem?_cons_zero, List.getElem?_cons_succ, List.set_cons_zero, List.set_cons_succ, List.take_succ_cons, List.take_zero, List.drop_zero, List.drop_succ_cons, List.drop_nil, List.all_cons, List.all_nil, Bool.and_self, Bool.and_true, Bool.true_and, Bool.and_false, Bool.false_and, splice, fillI, Nat.reduceLeDiff, strA, Nat.add_assoc, beq_self_eq_true, Bool.false_eq_true, bq_ft, bq_tf, Bool.not_true, Bool.not_false, Nat.le_refl, List.map_cons, List.map_nil, isNilA, nilPtr, nilSl, nilIf, nilFn, nilMap, nilCheckA, if_true, if_false, lt_lit, le_lit, lt_lit2, le_lit2, le_sub1, le_sub2]; rfl
      apply evI_seq (H' := A ++ rdr s at3 (many + 1) :: (B ++ [r27 [] []]))
      · apply evI_block_exit
        apply evI_loop
        apply loopA_exit
        simp only [AAct.keepT, q7, List.append_nil, List.nil_append, List.cons_append, List.getD_cons_zero, List.getD_cons_succ, evI, opsI, stepI, wantI, opI, AAct.evI, look, AAct.put, mkVal, mkVM, intOpA, intA, shiftA, unA, decide_true, decide_false, Option.map_some, Option.map_none, reduceIte, Nat.reduceEqDiff, Nat.reduceLT, Option.bind_some, Option.bind_none, true_and, and_true, and_self, Nat.zero_lt_succ, cellsAt, List.length_append, Nat.le_add_right, List.length_cons, List.length_nil, Nat.zero_add, Nat.add_zero, Nat.reduceAdd, Nat.reduceMul, Nat.zero_mul, AV.cells, AV.one, known, List.append_assoc, getE_0, getE_k, setE_0, setE_k, List.getElem?_cons_zero, List.getElem?_cons_succ, List.set_cons_zero, List.set_cons_succ, List.take_succ_cons, List.take_zero, List.drop_zero, List.drop_succ_cons, List.drop_nil, List.all_cons, List.all_nil, Bool.and_self, Bool.and_true, Bool.true_and, Bool.and_false, Bool.false_and, splice, fillI, Nat.reduceLeDiff, strA, Nat.add_assoc, beq_self_eq_true, Bool.false_eq_true, bq_ft, bq_tf, Bool.not_true, Bool.not_false, Nat.le_refl, List.map_cons, List.map_nil, isNilA, nilPtr, nilSl, nilIf, nilFn, nilMap, nilCheckA, if_true, if_false, lt_lit, le_lit, lt_lit2, le_lit2, le_sub1, le_sub2, drawI, drawI2, drawI0, drawI20, lexD, valD, valI, putD, okD, roD, memAt, lastM, wantI, eqv_refl, eqM_refl, eqM_app, eqB, eqvL, eqv, List.getLast?_cons_cons, List.getLast?_singleton, Option.getD_some, Bool.or_true, Bool.true_or, beq_self_eq_true, resvV]; rfl
      rfl
    all_goals rfl
  · rw [hk0] at q7
    simp only [rdr] at q7
    refine ⟨?u, ?k0, ?k1, ?k2, ?k6, ?k7, ?k8, ?k9, ?mainb⟩
    case mainb =>
      rw [elem_split]
      apply evI_seq
      · simp only [pcE, IC.nb, IC.hd, I38, List.append_nil, List.nil_append, List.cons_append, List.getD_cons_zero, List.getD_cons_succ, evI, opsI, stepI, wantI, opI, AAct.evI, look, AAct.put, mkVal, mkVM, intOpA, intA, shiftA, unA, decide_true, decide_false, Option.map_some, Option.map_none, reduceIte, Nat.reduceEqDiff, Nat.reduceLT, Option.bind_some, Option.bind_none, true_and, and_true, and_self, Nat.zero_lt_succ, cellsAt, List.length_append, Nat.le_add_right, List.length_cons, List.length_nil, Nat.zero_add, Nat.add_zero, Nat.reduceAdd, Nat.reduceMul, Nat.zero_mul, AV.cells, AV.one, known, List.append_assoc, getE_0, getE_k, setE_0, setE_k, List.getElem?_cons_zero, List.getElem?_cons_succ, List.set_cons_zero, List.set_cons_succ, List.take_succ_cons, List.take_zero, List.drop_zero, List.drop_succ_cons, List.drop_nil, List.all_cons, List.all_nil, Bool.and_self, Bool.and_true, Bool.true_and, Bool.and_false, Bool.false_and, splice, fillI, Nat.reduceLeDiff, strA, Nat.add_assoc, beq_self_eq_true, Bool.false_eq_true, bq_ft, bq_tf, Bool.not_true, Bool.not_false, Nat.le_refl, List.map_cons, List.map_nil, isNilA, nilPtr, nilSl, nilIf, nilFn, nilMap, nilCheckA, if_true, if_false, lt_lit, le_lit, lt_lit2, le_lit2, le_sub1, le_sub2]; rfl
      apply evI_seq
      · simp only [pcE, IC.nb, IC.hd, I38, q1, q2, q3, q4, List.append_nil, List.nil_append, List.cons_append, List.getD_cons_zero, List.getD_cons_succ, evI, opsI, stepI, wantI, opI, AAct.evI, look, AAct.put, mkVal, mkVM, intOpA, intA, shiftA, unA, decide_true, decide_false, Option.map_some, Option.map_none, reduceIte, Nat.reduceEqDiff, Nat.reduceLT, Option.bind_some, Option.bind_none, true_and, and_true, and_self, Nat.zero_lt_succ, cellsAt, List.length_append, Nat.le_add_right, List.length_cons, List.length_nil, Nat.zero_add, Nat.add_zero, Nat.reduceAdd, Nat.reduceMul, Nat.zero_mul, AV.cells, AV.one, known, List.append_assoc, getE_0, getE_k, setE_0, setE_k, List.getElem?_cons_zero, List.getElem?_cons_succ, List.set_cons_zero, List.set_cons_succ, List.take_succ_cons, List.take_zero, List.drop_zero, List.drop_succ_cons, List.drop_nil, List.all_cons, List.all_nil, Bool.and_self, Bool.and_true, Bool.true_and, Bool.and_false, Bool.false_and, splice, fillI, Nat.reduceLeDiff, strA, Nat.add_assoc, beq_self_eq_true, Bool.false_eq_true, bq_ft, bq_tf, Bool.not_true, Bool.not_false, Nat.le_refl, List.map_cons, List.map_nil, isNilA, nilPtr, nilSl, nilIf, nilFn, nilMap, nilCheckA, if_true, if_false, lt_lit, le_lit, lt_lit2, le_lit2, le_sub1, le_sub2]; rfl
      apply evI_seq
      · simp only [pcE, IC.nb, IC.hd, I38, rdr, c1, c2, q4, List.append_nil, List.nil_append, List.cons_append, List.getD_cons_zero, List.getD_cons_succ, evI, opsI, stepI, wantI, opI, AAct.evI, look, AAct.put, mkVal, mkVM, intOpA, intA, shiftA, unA, decide_true, decide_false, Option.map_some, Option.map_none, reduceIte, Nat.reduceEqDiff, Nat.reduceLT, Option.bind_some, Option.bind_none, true_and, and_true, and_self, Nat.zero_lt_succ, cellsAt, List.length_append, Nat.le_add_right, List.length_cons, List.length_nil, Nat.zero_add, Nat.add_zero, Nat.reduceAdd, Nat.reduceMul, Nat.zero_mul, AV.cells, AV.one, known, List.append_assoc, getE_0, getE_k, setE_0, setE_k, List.getElem?_cons_zero, List.getElem?_cons_succ, List.set_cons_zero, List.set_cons_succ, List.take_succ_cons, List.take_zero, List.drop_zero, List.drop_succ_cons, List.drop_nil, List.all_cons, List.all_nil, Bool.and_self, Bool.and_true, Bool.true_and, Bool.and_false, Bool.false_and, splice, fillI, Nat.reduceLeDiff, strA, Nat.add_assoc, beq_self_eq_true, Bool.false_eq_true, bq_ft, bq_tf, Bool.not_true, Bool.not_false, Nat.le_refl, List.map_cons, List.map_nil, isNilA, nilPtr, nilSl, nilIf, nilFn, nilMap, nilCheckA, if_true, if_false, lt_lit, le_lit, lt_lit2, le_lit2, le_sub1, le_sub2]; rfl
      apply evI_seq (H' := A ++ rdr s at_ (many + 1) :: (B ++ [r27 [] []]))
      · simp only [pcE, IC.nb, IC.hd, I38, rdr, w1, List.append_nil, List.nil_append, List.cons_append, List.getD_cons_zero, List.getD_cons_succ, evI, opsI, stepI, wantI, opI, AAct.evI, look, AAct.put, mkVal, mkVM, intOpA, intA, shiftA, unA, decide_true, decide_false, Option.map_some, Option.map_none, reduceIte, Nat.reduceEqDiff, Nat.reduceLT, Option.bind_some, Option.bind_none, true_and, and_true, and_self, Nat.zero_lt_succ, cellsAt, List.length_append, Nat.le_add_right, List.length_cons, List.length_nil, Nat.zero_add, Nat.add_zero, Nat.reduceAdd, Nat.reduceMul, Nat.zero_mul, AV.cells, AV.one, known, List.append_assoc, getE_0, getE_k, setE_0, setE_k, List.getElem?_cons_zero, List.getElem?_cons_succ, List.set_cons_zero, List.set_cons_succ, List.take_succ_cons, List.take_zero, List.drop_zero, List.drop_succ_cons, List.drop_nil, List.all_cons, List.all_nil, Bool.and_self, Bool.and_true, Bool.true_and, Bool.and_false, Bool.false_and, splice, fillI, Nat.reduceLeDiff, strA, Nat.add_assoc, beq_self_eq_true, Bool.false_eq_true, bq_ft, bq_tf, Bool.not_true, Bool.not_false, Nat.le_refl, List.map_cons, List.map_nil, isNilA, nilPtr, nilSl, nilIf, nilFn, nilMap, nilCheckA, if_true, if_false, lt_lit, le_lit, lt_lit2, le_lit2, le_sub1, le_sub2]; rfl
      apply evI_seq
      · simp only [pcE, IC.nb, IC.hd, I38, q5', List.append_nil, List.nil_append, List.cons_append, List.getD_cons_zero, List.getD_cons_succ, evI, opsI, stepI, wantI, opI, AAct.evI, look, AAct.put, mkVal, mkVM, intOpA, intA, shiftA, unA, decide_true, decide_false, Option.map_some, Option.map_none, reduceIte, Nat.reduceEqDiff, Nat.reduceLT, Option.bind_some, Option.bind_none, true_and, and_true, and_self, Nat.zero_lt_succ, cellsAt, List.length_append, Nat.le_add_right, List.length_cons, List.length_nil, Nat.zero_add, Nat.add_zero, Nat.reduceAdd, Nat.reduceMul, Nat.zero_mul, AV.cells, AV.one, known, List.append_assoc, getE_0, getE_k, setE_0, setE_k, List.getElem?_cons_zero, List.getElem?_cons_succ, List.set_cons_zero, List.set_cons_succ, List.take_succ_cons, List.take_zero, List.drop_zero, List.drop_succ_cons, List.drop_nil, List.all_cons, List.all_nil, Bool.and_self, Bool.and_true, Bool.true_and, Bool.and_false, Bool.false_and, splice, fillI, Nat.reduceLeDiff, strA, Nat.add_assoc, beq_self_eq_true, Bool.false_eq_true, bq_ft, bq_tf, Bool.not_true, Bool.not_false, Nat.le_refl, List.map_cons, List.map_nil, isNilA, nilPtr, nilSl, nilIf, nilFn, nilMap, nilCheckA, if_true, if_false, lt_lit, le_lit, lt_lit2, le_lit2, le_sub1, le_sub2]; rfl
      apply evI_seq
      · simp only [pcE, IC.nb, IC.hd, I38, q6, List.append_nil, List.nil_append, List.cons_append, List.getD_cons_zero, List.getD_cons_succ, evI, opsI, stepI, wantI, opI, AAct.evI, look, AAct.put, mkVal, mkVM, intOpA, intA, shiftA, unA, decide_true, decide_false, Option.map_some, Option.map_none, reduceIte, Nat.reduceEqDiff, Nat.reduceLT, Option.bind_some, Option.bind_none, true_and, and_true, and_self, Nat.zero_lt_succ, cellsAt, List.length_append, Nat.le_add_right, List.length_cons, List.length_nil, Nat.zero_add, Nat.add_zero, Nat.reduceAdd, Nat.reduceMul, Nat.zero_mul, AV.cells, AV.one, known, List.append_assoc, getE_0, getE_k, setE_0, setE_k, List.getElem?_cons_zero, List.getElem?_cons_succ, List.set_cons_zero, List.set_cons_succ, List.take_succ_cons, List.take_zero, List.drop_zero, List.drop_succ_cons, List.drop_nil, List.all_cons, List.all_nil, Bool.and_self, Bool.and_true, Bool.true_and, Bool.and_false, Bool.false_and, splice, fillI, Nat.reduceLeDiff, strA, Nat.add_assoc, beq_self_eq_true, Bool.false_eq_true, bq_ft, bq_tf, Bool.not_true, Bool.not_false, Nat.le_refl, List.map_cons, List.map_nil, isNilA, nilPtr, nilSl, nilIf, nilFn, nilMap, nilCheckA, if_true, if_false, lt_lit, le_lit, lt_lit2, le_lit2, le_sub1, le_sub2]; rfl
      apply evI_seq
      · simp only [pcE, IC.nb, IC.hd, I38, List.append_nil, List.nil_append, List.cons_append, List.getD_cons_zero, List.getD_cons_succ, evI, opsI, stepI, wantI, opI, AAct.evI, look, AAct.put, mkVal, mkVM, intOpA, intA, shiftA, unA, decide_true, decide_false, Option.map_some, Option.map_none, reduceIte, Nat.reduceEqDiff, Nat.reduceLT, Option.bind_some, Option.bind_none, true_and, and_true, and_self, Nat.zero_lt_succ, cellsAt, List.length_append, Nat.le_add_right, List.length_cons, List.length_nil, Nat.zero_add, Nat.add_zero, Nat.reduceAdd, Nat.reduceMul, Nat.zero_mul, AV.cells, AV.one, known, List.append_assoc, getE_0, getE_k, setE_0, setE_k, List.getElem?_cons_zero, List.getElem?_cons_succ, List.set_cons_zero, List.set_cons_succ, List.take_succ_cons, List.take_zero, List.drop_zero, List.drop_succ_cons, List.drop_nil, List.all_cons, List.all_nil, Bool.and_self, Bool.and_true, Bool.true_and, Bool.and_false, Bool.false_and, splice, fillI, Nat.reduceLeDiff, strA, Nat.add_assoc, beq_self_eq_true, Bool.false_eq_true, bq_ft, bq_tf, Bool.not_true, Bool.not_false, Nat.le_refl, List.map_cons, List.map_nil, isNilA, nilPtr, nilSl, nilIf, nilFn, nilMap, nilCheckA, if_true, if_false, lt_lit, le_lit, lt_lit2, le_lit2, le_sub1, le_sub2]; rfl
      apply evI_seq (H' := A ++ rdr s at3 (many + 1) :: (B ++ [r27 [] []]))
      · apply evI_block_exit
        apply evI_loop
        apply loopA_exit
        simp only [AAct.keepT, rdr, q7, c3, n3, hc, q8, List.append_nil, List.nil_append, List.cons_append, List.getD_cons_zero, List.getD_cons_succ, evI, opsI, stepI, wantI, opI, AAct.evI, look, AAct.put, mkVal, mkVM, intOpA, intA, shiftA, unA, decide_true, decide_false, Option.map_some, Option.map_none, reduceIte, Nat.reduceEqDiff, Nat.reduceLT, Option.bind_some, Option.bind_none, true_and, and_true, and_self, Nat.zero_lt_succ, cellsAt, List.length_append, Nat.le_add_right, List.length_cons, List.length_nil, Nat.zero_add, Nat.add_zero, Nat.reduceAdd, Nat.reduceMul, Nat.zero_mul, AV.cells, AV.one, known, List.append_assoc, getE_0, getE_k, setE_0, setE_k, List.getElem?_cons_zero, List.getElem?_cons_succ, List.set_cons_zero, List.set_cons_succ, List.take_succ_cons, List.take_zero, List.drop_zero, List.drop_succ_cons, List.drop_nil, List.all_cons, List.all_nil, Bool.and_self, Bool.and_true, Bool.true_and, Bool.and_false, Bool.false_and, splice, fillI, Nat.reduceLeDiff, strA, Nat.add_assoc, beq_self_eq_true, Bool.false_eq_true, bq_ft, bq_tf, Bool.not_true, Bool.not_false, Nat.le_refl, List.map_cons, List.map_nil, isNilA, nilPtr, nilSl, nilIf, nilFn, nilMap, nilCheckA, if_true, if_false, lt_lit, le_lit, lt_lit2, le_lit2, le_sub1, le_sub2, drawI, drawI2, drawI0, drawI20, lexD, valD, valI, putD, okD, roD, memAt, lastM, wantI, eqv_refl, eqM_refl, eqM_app, eqB, eqvL, eqv, List.getLast?_cons_cons, List.getLast?_singleton, Option.getD_some, Bool.or_true, Bool.true_or, beq_self_eq_true, resvV]; rfl
      rfl
    all_goals rfl
/-- Up to the content. -/
theorem elem_pre (n at_ many : Nat) (A B : Mem) (mi : Nat) (nsv : List UInt8) (dp : Nat) (hm : ∀ L : Mem, ∀ a m, (A ++ rdr s a m :: (B ++ L))[mi]? = some (scope1 nsv)) (b : UInt8) (emp : Bool)
    (h1 : s[at_]? = some 60) (at1 : Nat) (e1 : at1 = at_ + 1) (h2 : s[at1]? = some b) (hf : fst8 b = true) (m : Nat) (hmn : m = nmN (s.drop at1)) (at2 : Nat) (e2 : at2 = at1 + m) (hq : hasP (s.drop at2) [58] = false)
    (k : Nat) (hk : k = blN (s.drop at2)) (at3 : Nat) (e3 : at3 = at2 + k) (c : UInt8) (hc : s[at3]? = some c) (hc2 : fst8 c = false)
    (he : hasP (s.drop at3) [47, 62] = emp) (he2 : emp = false → c = 62) (at4 : Nat) (e4 : at4 = at3 + if emp then 2 else 1) (hmany : many < 16384) (hdp : dp ≤ 256) :
    ∃ t, look t 0 = .ptr A.length 0 0 ∧ look t 2 = .int .i64 (dp : Nat) ∧ look t 6 = .ptr (A.length + (B.length + 1)) 0 0 ∧ look t 7 = .str [] ∧ look t 8 = .str ((s.drop at1).take m) ∧ look t 10 = .bool emp ∧ look t 11 = .map (A.length + (B.length + 2)) ∧ look t 13 = .ptr (A.length + (B.length + 4)) 0 0 ∧
      evI Tryz.prog (cfg ml) (evFI Tryz.prog (cfg ml) T N (n + 6)) N I38.c ⟨126, [(0, .ptr A.length 0 0), (1, .map mi), (2, .int .i64 (dp : Nat))], []⟩ (A ++ rdr s at_ many :: B) = evI Tryz.prog (cfg ml) (evFI Tryz.prog (cfg ml) T N (n + 6)) N restE ⟨126, t, []⟩ (A ++ rdr s at4 (many + 1) :: (B ++ [r27 [] [], scope1 nsv, .miter mi 1, r27 [] ((s.drop at1).take m)])) := by
  have hlt2 : at3 < s.length := (List.getElem?_eq_some_iff.1 hc).1
  obtain ⟨t, l0, l1, l2, l6, l7, l8, l9, hpre⟩ := elem_pre1 (ml := ml) s hs hN n at_ many A B mi nsv dp hm b emp h1 at1 e1 h2 hf m hmn at2 e2 hq k hk at3 e3 c hc hc2 he he2 at4 e4 hmany hdp
  obtain ⟨N', rfl⟩ : ∃ q, N = q + 2 := ⟨N - 2, by omega⟩
  have q10 := spaced_nil (N := N' + 2) (ml := ml) (by omega) (n + 6) (by omega) (A ++ rdr s at4 (many + 1) :: (B ++ [r27 [] []])) mi ownK nsv (hm [r27 [] []] _ _)
  have hb : (([] : List UInt8) == [120, 109, 108]) = false := rfl
  simp only [List.length_append, List.length_cons, List.length_nil, Nat.zero_add, Nat.add_assoc, Nat.reduceAdd, List.append_assoc, List.cons_append, List.nil_append, ownK] at q10
  cases emp
  · have hc' : c = 62 := he2 rfl
    subst hc'
    have q9 := take_f (P := Tryz.prog) (N := N' + 2) (ml := ml) s at3 (many + 1) A (B ++ [r27 [] []]) hs (by omega) (n + 6) (by omega) [47, 62] he
    have q11 : evFI Tryz.prog (cfg ml) T (N' + 2) (n + 6) 56 [.ptr A.length 0 0, .str [62]] (A ++ rdr s at3 (many + 1) :: (B ++ [r27 [] []])) = some (.ret (.tup []), A ++ rdr s at4 (many + 1) :: (B ++ [r27 [] []])) := by
      rw [e4]; exact wants_t (P := Tryz.prog) (N := N' + 2) (ml := ml) s at3 (many + 1) A (B ++ [r27 [] []]) hs (by omega) (n + 6) (by omega) [62] (hasP_head s at3 62 hc)
    refine ⟨?t, ?g0, ?g2, ?g6, ?g7, ?g8, ?g10, ?g11, ?g13, ?main⟩
    case main =>
      refine hpre.trans ?_
      apply evI_seq
      · simp only [pcE, IC.nb, IC.hd, I38, q9, l0, List.append_nil, List.nil_append, List.cons_append, List.getD_cons_zero, List.getD_cons_succ, evI, opsI, stepI, wantI, opI, AAct.evI, look, AAct.put, mkVal, mkVM, intOpA, intA, shiftA, unA, decide_true, decide_false, Option.map_some, Option.map_none, reduceIte, Nat.reduceEqDiff, Nat.reduceLT, Option.bind_some, Option.bind_none, true_and, and_true, and_self, Nat.zero_lt_succ, cellsAt, List.length_append, Nat.le_add_right, List.length_cons, List.length_nil, Nat.zero_add, Nat.add_zero, Nat.reduceAdd, Nat.reduceMul, Nat.zero_mul, AV.cells, AV.one, known, List.append_assoc, getE_0, getE_k, setE_0, setE_k, List.getElem?_cons_zero, List.getElem?_cons_succ, List.set_cons_zero, List.set_cons_succ, List.take_succ_cons, List.take_zero, List.drop_zero, List.drop_succ_cons, List.drop_nil, List.all_cons, List.all_nil, Bool.and_self, Bool.and_true, Bool.true_and, Bool.and_false, Bool.false_and, splice, fillI, Nat.reduceLeDiff, strA, Nat.add_assoc, beq_self_eq_true, Bool.false_eq_true, bq_ft, bq_tf, Bool.not_true, Bool.not_false, Nat.le_refl, List.map_cons, List.map_nil, isNilA, nilPtr, nilSl, nilIf, nilFn, nilMap, nilCheckA, if_true, if_false, lt_lit, le_lit, lt_lit2, le_lit2, le_sub1, le_sub2]; rfl
      apply evI_seq
      · simp only [pcE, IC.nb, IC.hd, I38, q11, l0, List.append_nil, List.nil_append, List.cons_append, List.getD_cons_zero, List.getD_cons_succ, evI, opsI, stepI, wantI, opI, AAct.evI, look, AAct.put, mkVal, mkVM, intOpA, intA, shiftA, unA, decide_true, decide_false, Option.map_some, Option.map_none, reduceIte, Nat.reduceEqDiff, Nat.reduceLT, Option.bind_some, Option.bind_none, true_and, and_true, and_self, Nat.zero_lt_succ, cellsAt, List.length_append, Nat.le_add_right, List.length_cons, List.length_nil, Nat.zero_add, Nat.add_zero, Nat.reduceAdd, Nat.reduceMul, Nat.zero_mul, AV.cells, AV.one, known, List.append_assoc, getE_0, getE_k, setE_0, setE_k, List.getElem?_cons_zero, List.getElem?_cons_succ, List.set_cons_zero, List.set_cons_succ, List.take_succ_cons, List.take_zero, List.drop_zero, List.drop_succ_cons, List.drop_nil, List.all_cons, List.all_nil, Bool.and_self, Bool.and_true, Bool.true_and, Bool.and_false, Bool.false_and, splice, fillI, Nat.reduceLeDiff, strA, Nat.add_assoc, beq_self_eq_true, Bool.false_eq_true, bq_ft, bq_tf, Bool.not_true, Bool.not_false, Nat.le_refl, List.map_cons, List.map_nil, isNilA, nilPtr, nilSl, nilIf, nilFn, nilMap, nilCheckA, if_true, if_false, lt_lit, le_lit, lt_lit2, le_lit2, le_sub1, le_sub2]; rfl
      apply evI_seq
      · simp only [pcE, IC.nb, IC.hd, I38, q10, l1, l7, l9, List.append_nil, List.nil_append, List.cons_append, List.getD_cons_zero, List.getD_cons_succ, evI, opsI, stepI, wantI, opI, AAct.evI, look, AAct.put, mkVal, mkVM, intOpA, intA, shiftA, unA, decide_true, decide_false, Option.map_some, Option.map_none, reduceIte, Nat.reduceEqDiff, Nat.reduceLT, Option.bind_some, Option.bind_none, true_and, and_true, and_self, Nat.zero_lt_succ, cellsAt, List.length_append, Nat.le_add_right, List.length_cons, List.length_nil, Nat.zero_add, Nat.add_zero, Nat.reduceAdd, Nat.reduceMul, Nat.zero_mul, AV.cells, AV.one, known, List.append_assoc, getE_0, getE_k, setE_0, setE_k, List.getElem?_cons_zero, List.getElem?_cons_succ, List.set_cons_zero, List.set_cons_succ, List.take_succ_cons, List.take_zero, List.drop_zero, List.drop_succ_cons, List.drop_nil, List.all_cons, List.all_nil, Bool.and_self, Bool.and_true, Bool.true_and, Bool.and_false, Bool.false_and, splice, fillI, Nat.reduceLeDiff, strA, Nat.add_assoc, beq_self_eq_true, Bool.false_eq_true, bq_ft, bq_tf, Bool.not_true, Bool.not_false, Nat.le_refl, List.map_cons, List.map_nil, isNilA, nilPtr, nilSl, nilIf, nilFn, nilMap, nilCheckA, if_true, if_false, lt_lit, le_lit, lt_lit2, le_lit2, le_sub1, le_sub2]; rfl
      apply evI_seq
      · simp only [pcE, IC.nb, IC.hd, I38, lookupD, findA, keyEq, isKey, hb, l7, l8, List.append_nil, List.nil_append, List.cons_append, List.getD_cons_zero, List.getD_cons_succ, evI, opsI, stepI, wantI, opI, AAct.evI, look, AAct.put, mkVal, mkVM, intOpA, intA, shiftA, unA, decide_true, decide_false, Option.map_some, Option.map_none, reduceIte, Nat.reduceEqDiff, Nat.reduceLT, Option.bind_some, Option.bind_none, true_and, and_true, and_self, Nat.zero_lt_succ, cellsAt, List.length_append, Nat.le_add_right, List.length_cons, List.length_nil, Nat.zero_add, Nat.add_zero, Nat.reduceAdd, Nat.reduceMul, Nat.zero_mul, AV.cells, AV.one, known, List.append_assoc, getE_0, getE_k, setE_0, setE_k, List.getElem?_cons_zero, List.getElem?_cons_succ, List.set_cons_zero, List.set_cons_succ, List.take_succ_cons, List.take_zero, List.drop_zero, List.drop_succ_cons, List.drop_nil, List.all_cons, List.all_nil, Bool.and_self, Bool.and_true, Bool.true_and, Bool.and_false, Bool.false_and, splice, fillI, Nat.reduceLeDiff, strA, Nat.add_assoc, beq_self_eq_true, Bool.false_eq_true, bq_ft, bq_tf, Bool.not_true, Bool.not_false, Nat.le_refl, List.map_cons, List.map_nil, isNilA, nilPtr, nilSl, nilIf, nilFn, nilMap, nilCheckA, if_true, if_false, lt_lit, le_lit, lt_lit2, le_lit2, le_sub1, le_sub2]; rfl
      rfl
    case g0 => exact l0
    case g2 => exact l2
    case g6 => exact l6
    case g7 => exact l7
    case g8 => exact l8
    all_goals rfl
  · have q9 : evFI Tryz.prog (cfg ml) T (N' + 2) (n + 6) 59 [.ptr A.length 0 0, .str [47, 62]] (A ++ rdr s at3 (many + 1) :: (B ++ [r27 [] []])) = some (.ret (.bool true), A ++ rdr s at4 (many + 1) :: (B ++ [r27 [] []])) := by
      rw [e4]; exact take_t (P := Tryz.prog) (N := N' + 2) (ml := ml) s at3 (many + 1) A (B ++ [r27 [] []]) hs (by omega) (n + 6) (by omega) [47, 62] he
    refine ⟨?u, ?k0, ?k2, ?k6, ?k7, ?k8, ?k10, ?k11, ?k13, ?mainb⟩
    case mainb =>
      refine hpre.trans ?_
      apply evI_seq
      · simp only [pcE, IC.nb, IC.hd, I38, q9, l0, List.append_nil, List.nil_append, List.cons_append, List.getD_cons_zero, List.getD_cons_succ, evI, opsI, stepI, wantI, opI, AAct.evI, look, AAct.put, mkVal, mkVM, intOpA, intA, shiftA, unA, decide_true, decide_false, Option.map_some, Option.map_none, reduceIte, Nat.reduceEqDiff, Nat.reduceLT, Option.bind_some, Option.bind_none, true_and, and_true, and_self, Nat.zero_lt_succ, cellsAt, List.length_append, Nat.le_add_right, List.length_cons, List.length_nil, Nat.zero_add, Nat.add_zero, Nat.reduceAdd, Nat.reduceMul, Nat.zero_mul, AV.cells, AV.one, known, List.append_assoc, getE_0, getE_k, setE_0, setE_k, List.getElem?_cons_zero, List.getElem?_cons_succ, List.set_cons_zero, List.set_cons_succ, List.take_succ_cons, List.take_zero, List.drop_zero, List.drop_succ_cons, List.drop_nil, List.all_cons, List.all_nil, Bool.and_self, Bool.and_true, Bool.true_and, Bool.and_false, Bool.false_and, splice, fillI, Nat.reduceLeDiff, strA, Nat.add_assoc, beq_self_eq_true, Bool.false_eq_true, bq_ft, bq_tf, Bool.not_true, Bool.not_false, Nat.le_refl, List.map_cons, List.map_nil, isNilA, nilPtr, nilSl, nilIf, nilFn, nilMap, nilCheckA, if_true, if_false, lt_lit, le_lit, lt_lit2, le_lit2, le_sub1, le_sub2]; rfl
      apply evI_seq
      · simp only [pcE, IC.nb, IC.hd, I38, List.append_nil, List.nil_append, List.cons_append, List.getD_cons_zero, List.getD_cons_succ, evI, opsI, stepI, wantI, opI, AAct.evI, look, AAct.put, mkVal, mkVM, intOpA, intA, shiftA, unA, decide_true, decide_false, Option.map_some, Option.map_none, reduceIte, Nat.reduceEqDiff, Nat.reduceLT, Option.bind_some, Option.bind_none, true_and, and_true, and_self, Nat.zero_lt_succ, cellsAt, List.length_append, Nat.le_add_right, List.length_cons, List.length_nil, Nat.zero_add, Nat.add_zero, Nat.reduceAdd, Nat.reduceMul, Nat.zero_mul, AV.cells, AV.one, known, List.append_assoc, getE_0, getE_k, setE_0, setE_k, List.getElem?_cons_zero, List.getElem?_cons_succ, List.set_cons_zero, List.set_cons_succ, List.take_succ_cons, List.take_zero, List.drop_zero, List.drop_succ_cons, List.drop_nil, List.all_cons, List.all_nil, Bool.and_self, Bool.and_true, Bool.true_and, Bool.and_false, Bool.false_and, splice, fillI, Nat.reduceLeDiff, strA, Nat.add_assoc, beq_self_eq_true, Bool.false_eq_true, bq_ft, bq_tf, Bool.not_true, Bool.not_false, Nat.le_refl, List.map_cons, List.map_nil, isNilA, nilPtr, nilSl, nilIf, nilFn, nilMap, nilCheckA, if_true, if_false, lt_lit, le_lit, lt_lit2, le_lit2, le_sub1, le_sub2]; rfl
      apply evI_seq
      · simp only [pcE, IC.nb, IC.hd, I38, q10, l1, l7, l9, List.append_nil, List.nil_append, List.cons_append, List.getD_cons_zero, List.getD_cons_succ, evI, opsI, stepI, wantI, opI, AAct.evI, look, AAct.put, mkVal, mkVM, intOpA, intA, shiftA, unA, decide_true, decide_false, Option.map_some, Option.map_none, reduceIte, Nat.reduceEqDiff, Nat.reduceLT, Option.bind_some, Option.bind_none, true_and, and_true, and_self, Nat.zero_lt_succ, cellsAt, List.length_append, Nat.le_add_right, List.length_cons, List.length_nil, Nat.zero_add, Nat.add_zero, Nat.reduceAdd, Nat.reduceMul, Nat.zero_mul, AV.cells, AV.one, known, List.append_assoc, getE_0, getE_k, setE_0, setE_k, List.getElem?_cons_zero, List.getElem?_cons_succ, List.set_cons_zero, List.set_cons_succ, List.take_succ_cons, List.take_zero, List.drop_zero, List.drop_succ_cons, List.drop_nil, List.all_cons, List.all_nil, Bool.and_self, Bool.and_true, Bool.true_and, Bool.and_false, Bool.false_and, splice, fillI, Nat.reduceLeDiff, strA, Nat.add_assoc, beq_self_eq_true, Bool.false_eq_true, bq_ft, bq_tf, Bool.not_true, Bool.not_false, Nat.le_refl, List.map_cons, List.map_nil, isNilA, nilPtr, nilSl, nilIf, nilFn, nilMap, nilCheckA, if_true, if_false, lt_lit, le_lit, lt_lit2, le_lit2, le_sub1, le_sub2]; rfl
      apply evI_seq
      · simp only [pcE, IC.nb, IC.hd, I38, lookupD, findA, keyEq, isKey, hb, l7, l8, List.append_nil, List.nil_append, List.cons_append, List.getD_cons_zero, List.getD_cons_succ, evI, opsI, stepI, wantI, opI, AAct.evI, look, AAct.put, mkVal, mkVM, intOpA, intA, shiftA, unA, decide_true, decide_false, Option.map_some, Option.map_none, reduceIte, Nat.reduceEqDiff, Nat.reduceLT, Option.bind_some, Option.bind_none, true_and, and_true, and_self, Nat.zero_lt_succ, cellsAt, List.length_append, Nat.le_add_right, List.length_cons, List.length_nil, Nat.zero_add, Nat.add_zero, Nat.reduceAdd, Nat.reduceMul, Nat.zero_mul, AV.cells, AV.one, known, List.append_assoc, getE_0, getE_k, setE_0, setE_k, List.getElem?_cons_zero, List.getElem?_cons_succ, List.set_cons_zero, List.set_cons_succ, List.take_succ_cons, List.take_zero, List.drop_zero, List.drop_succ_cons, List.drop_nil, List.all_cons, List.all_nil, Bool.and_self, Bool.and_true, Bool.true_and, Bool.and_false, Bool.false_and, splice, fillI, Nat.reduceLeDiff, strA, Nat.add_assoc, beq_self_eq_true, Bool.false_eq_true, bq_ft, bq_tf, Bool.not_true, Bool.not_false, Nat.le_refl, List.map_cons, List.map_nil, isNilA, nilPtr, nilSl, nilIf, nilFn, nilMap, nilCheckA, if_true, if_false, lt_lit, le_lit, lt_lit2, le_lit2, le_sub1, le_sub2]; rfl
      rfl
    case k0 => exact l0
    case k2 => exact l2
    case k6 => exact l6
    case k7 => exact l7
    case k8 => exact l8
    all_goals rfl
end
end Go.Proofs.YtmnajffpmbidiaaGreatDoor.Ev
