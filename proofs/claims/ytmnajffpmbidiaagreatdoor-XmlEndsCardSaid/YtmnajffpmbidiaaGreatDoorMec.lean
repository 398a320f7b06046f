/- Parts of one proof, one behind the other: XmlEnds: reckoned with letters: true, whatever the texts. -/
import Derived.Test.YtmnajffpmbidiaaGreatDoorMeb
/- XmlEnds: reckoned with letters: true, whatever the texts. -/
namespace Go.Proofs.YtmnajffpmbidiaaGreatDoor.Ev
set_option linter.all false
variable {ml : Int}
open Go.Proofs.YtmnajffpmbidiaaGreatDoor.Ic
set_option maxRecDepth 100000
set_option maxHeartbeats 4000000
set_option linter.unusedSimpArgs false
set_option linter.unusedVariables false
theorem drop_next {s l r : List UInt8} {k : Nat} (h : s.drop k = l ++ r) : s.drop (k + l.length) = r := by
  rw [← List.drop_drop, h, List.drop_left]
theorem get_at {s r : List UInt8} {k : Nat} {c : UInt8} (h : s.drop k = c :: r) : s[k]? = some c := by
  have := congrArg (·[0]?) h
  simpa using this
theorem drop_one {s r : List UInt8} {k : Nat} {c : UInt8} (h : s.drop k = c :: r) : s.drop (k + 1) = r := by
  rw [← List.drop_drop, h]; rfl
theorem nmN_app (a r : List UInt8) (d : UInt8) (ha : ∀ c ∈ a, nxt8 c = true) (hd : nxt8 d = false) : nmN (a ++ d :: r) = a.length := by
  unfold nmN
  induction a with
  | nil => rw [List.nil_append, List.takeWhile_cons, hd]; rfl
  | cons c a ih =>
    rw [List.cons_append, List.takeWhile_cons, ha c (by simp)]
    simp only [if_true, List.length_cons]
    rw [ih fun e he => ha e (by simp [he])]
theorem hasP_two (c a0 d : UInt8) (r p : List UInt8) (h : a0 ≠ d) : hasP (c :: a0 :: r) (c :: d :: p) = false := by
  unfold hasP
  have : ((c :: a0 :: r).take (c :: d :: p).length == c :: d :: p) = false := by
    refine beq_false_of_ne fun e => h ?_
    simp only [List.length_cons, List.take_succ_cons, List.cons.injEq] at e
    exact e.2.1
  rw [this, Bool.and_false]
/-- A small letter. -/
def smallB (c : UInt8) : Bool := decide (97 ≤ c.toNat ∧ c.toNat ≤ 122)
theorem small_ne {c : UInt8} (h : smallB c = true) (d : UInt8) (hd : smallB d = false) : c ≠ d := fun e => by rw [e, hd] at h; cases h
theorem small_first {c : UInt8} (h : smallB c = true) : fst8 c = true := by
  unfold smallB at h
  have := of_decide_eq_true h
  unfold fst8 nameFirst
  exact decide_eq_true (.inl (by omega))
theorem small_next {c : UInt8} (h : smallB c = true) : nxt8 c = true := fst_nxt c (small_first h)
theorem small_plain {c : UInt8} (h : smallB c = true) : plainB c = true := by
  unfold smallB at h
  have := of_decide_eq_true h
  unfold plainB
  exact decide_eq_true (.inr (.inr (by omega)))
def lettersOf (s : List UInt8) : Bool := s.all smallB && (decide (0 < s.length) && decide (s.length < 50))
noncomputable def loopLt : IC := (I20.c.loops).getD 0 .bad
theorem letters_loop (P : Program) (N n : Nat) (s : List UInt8) (hl : s.length ≤ 9223372036854775807) (H : Mem) : ∀ (fuel k : Nat), k ≤ s.length → s.length - k < fuel →
    ∃ t, loopA (fun a H => evI P (cfg ml) (evFI P (cfg ml) T N n) N loopLt a H) (some [0, 3]) fuel ⟨28, [(0, .str s), (3, .int .i64 k)], []⟩ H =
      (if (s.drop k).all smallB = true then some (.exit 0, ⟨28, t, []⟩, H) else some (.ret, ⟨28, (2, .bool false) :: t, []⟩, H)) ∧ look t 0 = .str s
  | 0, k, _, h => by omega
  | fuel + 1, k, hk, hf => by
    rcases Nat.lt_or_ge k s.length with hlt | hge
    · obtain ⟨b, hb⟩ := all_drop hlt
      have hget : s[k]? = some b := get_at hb
      have hi : decide ((k : Int) < (s.length : Int)) = true := decide_eq_true (by omega)
      have hw := wrap_next hlt hl
      have hn := natOf_nat k .i64
      obtain ⟨t, ht, h0⟩ := letters_loop P N n s hl H fuel (k + 1) (by omega) (by omega)
      rw [hb, List.all_cons]
      cases c1 : decide ((b.toNat : Int) < 97)
      · cases c2 : decide ((b.toNat : Int) > 122)
        · have e : smallB b = true := by
            unfold smallB
            have h1 := of_decide_eq_false c1
            have h2 := of_decide_eq_false c2
            exact decide_eq_true (by omega)
          rw [e, Bool.true_and]
          refine ⟨t, ?_, h0⟩
          refine loopA_go (H' := H) (by simp only [loopLt, I20, IC.loops, List.getD_cons_zero, hi, hn, hget, hw, c1, c2, List.append_nil, List.nil_append, List.cons_append, List.getD_cons_zero, List.getD_cons_succ, evI, opsI, stepI, wantI, opI, AAct.evI, look, AAct.put, mkVal, mkVM, intOpA, intA, shiftA, unA, decide_true, decide_false, Option.map_some, Option.map_none, reduceIte, Nat.reduceEqDiff, Nat.reduceLT, Option.bind_some, Option.bind_none, true_and, and_true, and_self, Nat.zero_lt_succ, cellsAt, List.length_append, Nat.le_add_right, List.length_cons, List.length_nil, Nat.zero_add, Nat.add_zero, Nat.reduceAdd, Nat.reduceMul, Nat.zero_mul, AV.cells, AV.one, known, List.append_assoc, getE_0, getE_k, setE_0, setE_k, List.getElem?_cons_zero, List.getElem?_cons_succ, List.set_cons_zero, List.set_cons_succ, List.take_succ_cons, List.take_zero, List.drop_zero, List.drop_succ_cons, List.drop_nil, List.all_cons, List.all_nil, Bool.and_self, Bool.and_true, Bool.true_and, Bool.and_false, Bool.false_and, splice, fillI, Nat.reduceLeDiff, strA, Nat.add_assoc, beq_self_eq_true, Bool.false_eq_true, bq_ft, bq_tf, Bool.not_true, Bool.not_false, Nat.le_refl, List.map_cons, List.map_nil, isNilA, nilPtr, nilSl, nilIf, nilFn, nilMap, nilCheckA, if_true, if_false, lt_lit, le_lit, lt_lit2, le_lit2, le_sub1, le_sub2]; rfl) ?_
          rw [re_len rfl]
          exact ht
        · have e : smallB b = false := by
            unfold smallB
            have h2 := of_decide_eq_true c2
            exact decide_eq_false (by omega)
          rw [e, Bool.false_and]
          simp only [Bool.false_eq_true, if_false]
          exact ⟨_, loopA_ret (by simp only [loopLt, I20, IC.loops, List.getD_cons_zero, hi, hn, hget, hw, c1, c2, List.append_nil, List.nil_append, List.cons_append, List.getD_cons_zero, List.getD_cons_succ, evI, opsI, stepI, wantI, opI, AAct.evI, look, AAct.put, mkVal, mkVM, intOpA, intA, shiftA, unA, decide_true, decide_false, Option.map_some, Option.map_none, reduceIte, Nat.reduceEqDiff, Nat.reduceLT, Option.bind_some, Option.bind_none, true_and, and_true, and_self, Nat.zero_lt_succ, cellsAt, List.length_append, Nat.le_add_right, List.length_cons, List.length_nil, Nat.zero_add, Nat.add_zero, Nat.reduceAdd, Nat.reduceMul, Nat.zero_mul, AV.cells, AV.one, known, List.append_assoc, getE_0, getE_k, setE_0, setE_k, List.getElem?_cons_zero, List.getElem?_cons_succ, List.set_cons_zero, List.set_cons_succ, List.take_succ_cons, List.take_zero, List.drop_zero, List.drop_succ_cons, List.drop_nil, List.all_cons, List.all_nil, Bool.and_self, Bool.and_true, Bool.true_and, Bool.and_false, Bool.false_and, splice, fillI, Nat.reduceLeDiff, strA, Nat.add_assoc, beq_self_eq_true, Bool.false_eq_true, bq_ft, bq_tf, Bool.not_true, Bool.not_false, Nat.le_refl, List.map_cons, List.map_nil, isNilA, nilPtr, nilSl, nilIf, nilFn, nilMap, nilCheckA, if_true, if_false, lt_lit, le_lit, lt_lit2, le_lit2, le_sub1, le_sub2]; rfl), rfl⟩
      · have e : smallB b = false := by
          unfold smallB
          have h2 := of_decide_eq_true c1
          exact decide_eq_false (by omega)
        rw [e, Bool.false_and]
        simp only [Bool.false_eq_true, if_false]
        exact ⟨_, loopA_ret (by simp only [loopLt, I20, IC.loops, List.getD_cons_zero, hi, hn, hget, hw, c1, List.append_nil, List.nil_append, List.cons_append, List.getD_cons_zero, List.getD_cons_succ, evI, opsI, stepI, wantI, opI, AAct.evI, look, AAct.put, mkVal, mkVM, intOpA, intA, shiftA, unA, decide_true, decide_false, Option.map_some, Option.map_none, reduceIte, Nat.reduceEqDiff, Nat.reduceLT, Option.bind_some, Option.bind_none, true_and, and_true, and_self, Nat.zero_lt_succ, cellsAt, List.length_append, Nat.le_add_right, List.length_cons, List.length_nil, Nat.zero_add, Nat.add_zero, Nat.reduceAdd, Nat.reduceMul, Nat.zero_mul, AV.cells, AV.one, known, List.append_assoc, getE_0, getE_k, setE_0, setE_k, List.getElem?_cons_zero, List.getElem?_cons_succ, List.set_cons_zero, List.set_cons_succ, List.take_succ_cons, List.take_zero, List.drop_zero, List.drop_succ_cons, List.drop_nil, List.all_cons, List.all_nil, Bool.and_self, Bool.and_true, Bool.true_and, Bool.and_false, Bool.false_and, splice, fillI, Nat.reduceLeDiff, strA, Nat.add_assoc, beq_self_eq_true, Bool.false_eq_true, bq_ft, bq_tf, Bool.not_true, Bool.not_false, Nat.le_refl, List.map_cons, List.map_nil, isNilA, nilPtr, nilSl, nilIf, nilFn, nilMap, nilCheckA, if_true, if_false, lt_lit, le_lit, lt_lit2, le_lit2, le_sub1, le_sub2]; rfl), rfl⟩
    · have hi : decide ((k : Int) < (s.length : Int)) = false := decide_eq_false (by omega)
      rw [List.drop_eq_nil_of_le hge]
      simp only [List.all_nil, if_true]
      exact ⟨_, loopA_exit (by simp only [loopLt, I20, IC.loops, List.getD_cons_zero, hi, List.append_nil, List.nil_append, List.cons_append, List.getD_cons_zero, List.getD_cons_succ, evI, opsI, stepI, wantI, opI, AAct.evI, look, AAct.put, mkVal, mkVM, intOpA, intA, shiftA, unA, decide_true, decide_false, Option.map_some, Option.map_none, reduceIte, Nat.reduceEqDiff, Nat.reduceLT, Option.bind_some, Option.bind_none, true_and, and_true, and_self, Nat.zero_lt_succ, cellsAt, List.length_append, Nat.le_add_right, List.length_cons, List.length_nil, Nat.zero_add, Nat.add_zero, Nat.reduceAdd, Nat.reduceMul, Nat.zero_mul, AV.cells, AV.one, known, List.append_assoc, getE_0, getE_k, setE_0, setE_k, List.getElem?_cons_zero, List.getElem?_cons_succ, List.set_cons_zero, List.set_cons_succ, List.take_succ_cons, List.take_zero, List.drop_zero, List.drop_succ_cons, List.drop_nil, List.all_cons, List.all_nil, Bool.and_self, Bool.and_true, Bool.true_and, Bool.and_false, Bool.false_and, splice, fillI, Nat.reduceLeDiff, strA, Nat.add_assoc, beq_self_eq_true, Bool.false_eq_true, bq_ft, bq_tf, Bool.not_true, Bool.not_false, Nat.le_refl, List.map_cons, List.map_nil, isNilA, nilPtr, nilSl, nilIf, nilFn, nilMap, nilCheckA, if_true, if_false, lt_lit, le_lit, lt_lit2, le_lit2, le_sub1, le_sub2]; rfl), rfl⟩
theorem letters_eq (P : Program) (N d : Nat) (hd : 1 ≤ d) (s : List UInt8) (hl : s.length ≤ 9223372036854775807) (hN : s.length < N) (H : Mem) : evFI P (cfg ml) T N d 20 [.str s] H = some (.ret (.bool (lettersOf s)), H) := by
  obtain ⟨n, rfl⟩ : ∃ k, d = k + 1 := ⟨d - 1, by omega⟩
  obtain ⟨t, ht, h0⟩ := letters_loop (ml := ml) P N n s hl H N 0 (by omega) (by omega)
  rw [List.drop_zero] at ht
  unfold lettersOf
  cases hc : s.all smallB
  · simp only [hc, Bool.false_eq_true, if_false] at ht
    rw [Bool.false_and]
    refine evF_ret (m := 28) (v := .bool false) (a := ?aa) (H1 := H) rfl t20 rfl ?hb ?hd ?hr ?hz
    case hb =>
      apply evI_seq
      · simp only [List.length_cons, List.length_nil, idx, I20, List.append_nil, List.nil_append, List.cons_append, List.getD_cons_zero, List.getD_cons_succ, evI, opsI, stepI, wantI, opI, AAct.evI, look, AAct.put, mkVal, mkVM, intOpA, intA, shiftA, unA, decide_true, decide_false, Option.map_some, Option.map_none, reduceIte, Nat.reduceEqDiff, Nat.reduceLT, Option.bind_some, Option.bind_none, true_and, and_true, and_self, Nat.zero_lt_succ, cellsAt, List.length_append, Nat.le_add_right, List.length_cons, List.length_nil, Nat.zero_add, Nat.add_zero, Nat.reduceAdd, Nat.reduceMul, Nat.zero_mul, AV.cells, AV.one, known, List.append_assoc, getE_0, getE_k, setE_0, setE_k, List.getElem?_cons_zero, List.getElem?_cons_succ, List.set_cons_zero, List.set_cons_succ, List.take_succ_cons, List.take_zero, List.drop_zero, List.drop_succ_cons, List.drop_nil, List.all_cons, List.all_nil, Bool.and_self, Bool.and_true, Bool.true_and, Bool.and_false, Bool.false_and, splice, fillI, Nat.reduceLeDiff, strA, Nat.add_assoc, beq_self_eq_true, Bool.false_eq_true, bq_ft, bq_tf, Bool.not_true, Bool.not_false, Nat.le_refl, List.map_cons, List.map_nil, isNilA, nilPtr, nilSl, nilIf, nilFn, nilMap, nilCheckA, if_true, if_false, lt_lit, le_lit, lt_lit2, le_lit2, le_sub1, le_sub2]; rfl
      apply evI_seq_ret
      apply evI_seq
      · simp only [List.append_nil, List.nil_append, List.cons_append, List.getD_cons_zero, List.getD_cons_succ, evI, opsI, stepI, wantI, opI, AAct.evI, look, AAct.put, mkVal, mkVM, intOpA, intA, shiftA, unA, decide_true, decide_false, Option.map_some, Option.map_none, reduceIte, Nat.reduceEqDiff, Nat.reduceLT, Option.bind_some, Option.bind_none, true_and, and_true, and_self, Nat.zero_lt_succ, cellsAt, List.length_append, Nat.le_add_right, List.length_cons, List.length_nil, Nat.zero_add, Nat.add_zero, Nat.reduceAdd, Nat.reduceMul, Nat.zero_mul, AV.cells, AV.one, known, List.append_assoc, getE_0, getE_k, setE_0, setE_k, List.getElem?_cons_zero, List.getElem?_cons_succ, List.set_cons_zero, List.set_cons_succ, List.take_succ_cons, List.take_zero, List.drop_zero, List.drop_succ_cons, List.drop_nil, List.all_cons, List.all_nil, Bool.and_self, Bool.and_true, Bool.true_and, Bool.and_false, Bool.false_and, splice, fillI, Nat.reduceLeDiff, strA, Nat.add_assoc, beq_self_eq_true, Bool.false_eq_true, bq_ft, bq_tf, Bool.not_true, Bool.not_false, Nat.le_refl, List.map_cons, List.map_nil, isNilA, nilPtr, nilSl, nilIf, nilFn, nilMap, nilCheckA, if_true, if_false, lt_lit, le_lit, lt_lit2, le_lit2, le_sub1, le_sub2]; rfl
      apply evI_block_ret
      apply evI_loop
      exact ht
    case hd => rfl
    case hr => simp only [I20, resI, resLI, look, reduceIte, Nat.reduceEqDiff, Option.map_some]
    case hz => exact fin_len rfl rfl
  · simp only [hc, if_true] at ht
    rw [Bool.true_and]
    have e1 : decide ((s.length : Int) > 0) = decide (0 < s.length) := by congr 1; apply propext; omega
    have e2 : decide ((s.length : Int) < 50) = decide (s.length < 50) := by congr 1; apply propext; omega
    cases c1 : decide (0 < s.length)
    · rw [c1] at e1
      refine evF_ret (m := 28) (v := .bool false) (a := ?ab) (H1 := H) rfl t20 rfl ?hb ?hd ?hr ?hz
      case hb =>
        apply evI_seq
        · simp only [List.length_cons, List.length_nil, idx, I20, List.append_nil, List.nil_append, List.cons_append, List.getD_cons_zero, List.getD_cons_succ, evI, opsI, stepI, wantI, opI, AAct.evI, look, AAct.put, mkVal, mkVM, intOpA, intA, shiftA, unA, decide_true, decide_false, Option.map_some, Option.map_none, reduceIte, Nat.reduceEqDiff, Nat.reduceLT, Option.bind_some, Option.bind_none, true_and, and_true, and_self, Nat.zero_lt_succ, cellsAt, List.length_append, Nat.le_add_right, List.length_cons, List.length_nil, Nat.zero_add, Nat.add_zero, Nat.reduceAdd, Nat.reduceMul, Nat.zero_mul, AV.cells, AV.one, known, List.append_assoc, getE_0, getE_k, setE_0, setE_k, List.getElem?_cons_zero, List.getElem?_cons_succ, List.set_cons_zero, List.set_cons_succ, List.take_succ_cons, List.take_zero, List.drop_zero, List.drop_succ_cons, List.drop_nil, List.all_cons, List.all_nil, Bool.and_self, Bool.and_true, Bool.true_and, Bool.and_false, Bool.false_and, splice, fillI, Nat.reduceLeDiff, strA, Nat.add_assoc, beq_self_eq_true, Bool.false_eq_true, bq_ft, bq_tf, Bool.not_true, Bool.not_false, Nat.le_refl, List.map_cons, List.map_nil, isNilA, nilPtr, nilSl, nilIf, nilFn, nilMap, nilCheckA, if_true, if_false, lt_lit, le_lit, lt_lit2, le_lit2, le_sub1, le_sub2]; rfl
        apply evI_seq
        · apply evI_seq
          · simp only [List.append_nil, List.nil_append, List.cons_append, List.getD_cons_zero, List.getD_cons_succ, evI, opsI, stepI, wantI, opI, AAct.evI, look, AAct.put, mkVal, mkVM, intOpA, intA, shiftA, unA, decide_true, decide_false, Option.map_some, Option.map_none, reduceIte, Nat.reduceEqDiff, Nat.reduceLT, Option.bind_some, Option.bind_none, true_and, and_true, and_self, Nat.zero_lt_succ, cellsAt, List.length_append, Nat.le_add_right, List.length_cons, List.length_nil, Nat.zero_add, Nat.add_zero, Nat.reduceAdd, Nat.reduceMul, Nat.zero_mul, AV.cells, AV.one, known, List.append_assoc, getE_0, getE_k, setE_0, setE_k, List.getElem?_cons_zero, List.getElem?_cons_succ, List.set_cons_zero, List.set_cons_succ, List.take_succ_cons, List.take_zero, List.drop_zero, List.drop_succ_cons, List.drop_nil, List.all_cons, List.all_nil, Bool.and_self, Bool.and_true, Bool.true_and, Bool.and_false, Bool.false_and, splice, fillI, Nat.reduceLeDiff, strA, Nat.add_assoc, beq_self_eq_true, Bool.false_eq_true, bq_ft, bq_tf, Bool.not_true, Bool.not_false, Nat.le_refl, List.map_cons, List.map_nil, isNilA, nilPtr, nilSl, nilIf, nilFn, nilMap, nilCheckA, if_true, if_false, lt_lit, le_lit, lt_lit2, le_lit2, le_sub1, le_sub2]; rfl
          apply evI_block_exit
          apply evI_loop
          exact ht
        simp only [h0, e1, List.append_nil, List.nil_append, List.cons_append, List.getD_cons_zero, List.getD_cons_succ, evI, opsI, stepI, wantI, opI, AAct.evI, look, AAct.put, mkVal, mkVM, intOpA, intA, shiftA, unA, decide_true, decide_false, Option.map_some, Option.map_none, reduceIte, Nat.reduceEqDiff, Nat.reduceLT, Option.bind_some, Option.bind_none, true_and, and_true, and_self, Nat.zero_lt_succ, cellsAt, List.length_append, Nat.le_add_right, List.length_cons, List.length_nil, Nat.zero_add, Nat.add_zero, Nat.reduceAdd, Nat.reduceMul, Nat.zero_mul, AV.cells, AV.one, known, List.append_assoc, getE_0, getE_k, setE_0, setE_k, List.getElem?_cons_zero, List.getElem?_cons_succ, List.set_cons_zero, List.set_cons_succ, List.take_succ_cons, List.take_zero, List.drop_zero, List.drop_succ_cons, List.drop_nil, List.all_cons, List.all_nil, Bool.and_self, Bool.and_true, Bool.true_and, Bool.and_false, Bool.false_and, splice, fillI, Nat.reduceLeDiff, strA, Nat.add_assoc, beq_self_eq_true, Bool.false_eq_true, bq_ft, bq_tf, Bool.not_true, Bool.not_false, Nat.le_refl, List.map_cons, List.map_nil, isNilA, nilPtr, nilSl, nilIf, nilFn, nilMap, nilCheckA, if_true, if_false, lt_lit, le_lit, lt_lit2, le_lit2, le_sub1, le_sub2]; rfl
      case hd => rfl
      case hr => simp only [I20, resI, resLI, look, reduceIte, Nat.reduceEqDiff, Option.map_some]
      case hz => exact fin_len rfl rfl
    · rw [c1] at e1
      rw [Bool.true_and]
      generalize decide (s.length < 50) = q at *
      refine evF_ret (m := 28) (v := .bool q) (a := ?ac) (H1 := H) rfl t20 rfl ?hb ?hd ?hr ?hz
      case hb =>
        apply evI_seq
        · simp only [List.length_cons, List.length_nil, idx, I20, List.append_nil, List.nil_append, List.cons_append, List.getD_cons_zero, List.getD_cons_succ, evI, opsI, stepI, wantI, opI, AAct.evI, look, AAct.put, mkVal, mkVM, intOpA, intA, shiftA, unA, decide_true, decide_false, Option.map_some, Option.map_none, reduceIte, Nat.reduceEqDiff, Nat.reduceLT, Option.bind_some, Option.bind_none, true_and, and_true, and_self, Nat.zero_lt_succ, cellsAt, List.length_append, Nat.le_add_right, List.length_cons, List.length_nil, Nat.zero_add, Nat.add_zero, Nat.reduceAdd, Nat.reduceMul, Nat.zero_mul, AV.cells, AV.one, known, List.append_assoc, getE_0, getE_k, setE_0, setE_k, List.getElem?_cons_zero, List.getElem?_cons_succ, List.set_cons_zero, List.set_cons_succ, List.take_succ_cons, List.take_zero, List.drop_zero, List.drop_succ_cons, List.drop_nil, List.all_cons, List.all_nil, Bool.and_self, Bool.and_true, Bool.true_and, Bool.and_false, Bool.false_and, splice, fillI, Nat.reduceLeDiff, strA, Nat.add_assoc, beq_self_eq_true, Bool.false_eq_true, bq_ft, bq_tf, Bool.not_true, Bool.not_false, Nat.le_refl, List.map_cons, List.map_nil, isNilA, nilPtr, nilSl, nilIf, nilFn, nilMap, nilCheckA, if_true, if_false, lt_lit, le_lit, lt_lit2, le_lit2, le_sub1, le_sub2]; rfl
        apply evI_seq
        · apply evI_seq
          · simp only [List.append_nil, List.nil_append, List.cons_append, List.getD_cons_zero, List.getD_cons_succ, evI, opsI, stepI, wantI, opI, AAct.evI, look, AAct.put, mkVal, mkVM, intOpA, intA, shiftA, unA, decide_true, decide_false, Option.map_some, Option.map_none, reduceIte, Nat.reduceEqDiff, Nat.reduceLT, Option.bind_some, Option.bind_none, true_and, and_true, and_self, Nat.zero_lt_succ, cellsAt, List.length_append, Nat.le_add_right, List.length_cons, List.length_nil, Nat.zero_add, Nat.add_zero, Nat.reduceAdd, Nat.reduceMul, Nat.zero_mul, AV.cells, AV.one, known, List.append_assoc, getE_0, getE_k, setE_0, setE_k, List.getElem?_cons_zero, List.getElem?_cons_succ, List.set_cons_zero, List.set_cons_succ, List.take_succ_cons, List.take_zero, List.drop_zero, List.drop_succ_cons, List.drop_nil, List.all_cons, List.all_nil, Bool.and_self, Bool.and_true, Bool.true_and, Bool.and_false, Bool.false_and, splice, fillI, Nat.reduceLeDiff, strA, Nat.add_assoc, beq_self_eq_true, Bool.false_eq_true, bq_ft, bq_tf, Bool.not_true, Bool.not_false, Nat.le_refl, List.map_cons, List.map_nil, isNilA, nilPtr, nilSl, nilIf, nilFn, nilMap, nilCheckA, if_true, if_false, lt_lit, le_lit, lt_lit2, le_lit2, le_sub1, le_sub2]; rfl
          apply evI_block_exit
          apply evI_loop
          exact ht
        simp only [h0, e1, e2, List.append_nil, List.nil_append, List.cons_append, List.getD_cons_zero, List.getD_cons_succ, evI, opsI, stepI, wantI, opI, AAct.evI, look, AAct.put, mkVal, mkVM, intOpA, intA, shiftA, unA, decide_true, decide_false, Option.map_some, Option.map_none, reduceIte, Nat.reduceEqDiff, Nat.reduceLT, Option.bind_some, Option.bind_none, true_and, and_true, and_self, Nat.zero_lt_succ, cellsAt, List.length_append, Nat.le_add_right, List.length_cons, List.length_nil, Nat.zero_add, Nat.add_zero, Nat.reduceAdd, Nat.reduceMul, Nat.zero_mul, AV.cells, AV.one, known, List.append_assoc, getE_0, getE_k, setE_0, setE_k, List.getElem?_cons_zero, List.getElem?_cons_succ, List.set_cons_zero, List.set_cons_succ, List.take_succ_cons, List.take_zero, List.drop_zero, List.drop_succ_cons, List.drop_nil, List.all_cons, List.all_nil, Bool.and_self, Bool.and_true, Bool.true_and, Bool.and_false, Bool.false_and, splice, fillI, Nat.reduceLeDiff, strA, Nat.add_assoc, beq_self_eq_true, Bool.false_eq_true, bq_ft, bq_tf, Bool.not_true, Bool.not_false, Nat.le_refl, List.map_cons, List.map_nil, isNilA, nilPtr, nilSl, nilIf, nilFn, nilMap, nilCheckA, if_true, if_false, lt_lit, le_lit, lt_lit2, le_lit2, le_sub1, le_sub2]; rfl
      case hd => rfl
      case hr => simp only [I20, resI, resLI, look, reduceIte, Nat.reduceEqDiff, Option.map_some]
      case hz => exact fin_len rfl rfl
theorem known_ok (P : Program) (N d : Nat) (hd : 1 ≤ d) (H : Mem) : evFI P (cfg ml) T N d 17 [] H = some (.ret (.bool true), H) := by
  obtain ⟨n, rfl⟩ : ∃ k, d = k + 1 := ⟨d - 1, by omega⟩
  have hl : (cfg ml).lib 17 = some trueLib := rfl
  simp only [evFI, hl, trueLib, Option.map_some]
theorem ofBytes_low (n : Nat) : ∀ s : List UInt8, lowL n (ofBytes s) = true
  | [] => rfl
  | b :: s => by
    have ih := ofBytes_low n s
    unfold ofBytes at *
    simp only [List.map_cons, lowL, low, Bool.true_and, ih]
theorem bytes_row (x : List UInt8) (ty : Nat) : lowM [Blk.row (ofBytes x) 0 ty].length [Blk.row (ofBytes x) 0 ty] = true := by
  unfold lowM
  simp only [List.all_cons, List.all_nil, lowB, ofBytes_low, Bool.and_self]
section
variable {N : Nat} (hN : 4294967281 ≤ N)
include hN
theorem ends_text (a b : List UInt8) (ha : lettersOf a = true) (hb : lettersOf b = true) (ty : Nat) (x : List UInt8) (hx : x = 60 :: (a ++ 62 :: 60 :: 47 :: (b ++ [32, 62]))) (d : Nat) (hd : 9 ≤ d) :
    evFI Tryz.prog (cfg ml) T N d 13 [.slc 0 0 x.length 1 0] [.row (ofBytes x) 0 ty] = some (.ret (if a = b then .tup [.agg [.str [], .str a, .str [], .lst 0 [], .lst 0 []], .int .i64 0] else .tup [.agg [.str [], .str [], .str [], .lst 0 [], .lst 0 []], .int .i64 10]), [.row (ofBytes x) 0 ty]) := by
  obtain ⟨n, rfl⟩ : ∃ k, d = k + 9 := ⟨d - 9, by omega⟩
  unfold lettersOf at ha hb
  simp only [Bool.and_eq_true, decide_eq_true_eq] at ha hb
  obtain ⟨ha1, ha2, ha3⟩ := ha
  obtain ⟨hb1, hb2, hb3⟩ := hb
  have sa := fun c hc => List.all_eq_true.1 ha1 c hc
  have sb := fun c hc => List.all_eq_true.1 hb1 c hc
  have hlen : x.length = a.length + b.length + 6 := by rw [hx]; simp; omega
  have hp : ∀ c ∈ x, plainB c = true := by
    intro c hc
    rw [hx] at hc
    simp only [List.mem_cons, List.mem_append, List.not_mem_nil, or_false] at hc
    rcases hc with rfl | h | rfl | rfl | rfl | h | rfl | rfl <;> first | decide | exact small_plain (sa _ h) | exact small_plain (sb _ h)
  obtain ⟨a0, a', rfl⟩ : ∃ c l, a = c :: l := by cases a with | nil => simp at ha2 | cons c l => exact ⟨c, l, rfl⟩
  obtain ⟨b0, b', rfl⟩ : ∃ c l, b = c :: l := by cases b with | nil => simp at hb2 | cons c l => exact ⟨c, l, rfl⟩
  have d0 : x.drop 0 = 60 :: ((a0 :: a') ++ 62 :: 60 :: 47 :: ((b0 :: b') ++ [32, 62])) := by rw [hx]; rfl
  have d1 : x.drop 1 = (a0 :: a') ++ 62 :: 60 :: 47 :: ((b0 :: b') ++ [32, 62]) := by rw [hx]; rfl
  have d2 := drop_next d1
  have d4 := drop_one d2
  have d5 := drop_one (drop_one d4)
  have d7 := drop_next d5
  have d8 := drop_one d7
  have m1 : nmN (x.drop 1) = (a0 :: a').length := by rw [d1]; exact nmN_app _ _ _ (fun c hc => small_next (sa c hc)) (by decide)
  generalize hA2 : 1 + (a0 :: a').length = at2 at *
  generalize hA4 : at2 + 1 = at4 at *
  generalize hA6 : at4 + 1 + 1 = at6 at *
  have m6 : nmN (x.drop at6) = (b0 :: b').length := by rw [d5]; exact nmN_app _ _ _ (fun c hc => small_next (sb c hc)) (by decide)
  generalize hA7 : at6 + (b0 :: b').length = at7 at *
  generalize hA8 : at7 + 1 = at8 at *
  have hT1 : (x.drop 1).take (a0 :: a').length = a0 :: a' := by rw [d1, List.take_left]
  have hT6 : (x.drop at6).take (b0 :: b').length = b0 :: b' := by rw [d5, List.take_left]
  have l1 : (a0 :: a').length = a'.length + 1 := rfl
  have l2 : (b0 :: b').length = b'.length + 1 := rfl
  have hat4 : at4 ≤ x.length := by omega
  have h60 : x[0]? = some 60 := by rw [hx]; rfl
  have hM1 : ∀ A : Mem, evFI Tryz.prog (cfg ml) T N (n + 8) 37 [.ptr A.length 0 0, .bool true] (A ++ rdr x 0 0 :: []) = some (.ret (.tup []), A ++ rdr x 0 0 :: []) := fun A =>
    misc_no (P := Tryz.prog) (N := N) (ml := ml) x 0 A [] (by omega) (by omega) 0 (by omega) true (by rw [d0]; rfl) (by rw [d0]; exact hasP_two _ _ _ _ _ (small_ne (sa a0 (by simp)) 33 (by decide))) (by rw [d0]; exact hasP_two _ _ _ _ _ (small_ne (sa a0 (by simp)) 63 (by decide))) (fun _ => by rw [d0]; exact hasP_two _ _ _ _ _ (small_ne (sa a0 (by simp)) 33 (by decide))) (n + 8) (by omega)
  have hx2 : hasP x [60, 63, 120, 109, 108] = false := by
    have : x = x.drop 0 := rfl
    rw [this, d0]; exact hasP_two _ _ _ _ _ (small_ne (sa a0 (by simp)) 63 (by decide))
  have hmi : ∀ A : Mem, ∀ L : Mem, ∀ p m, (A ++ rdr x p m :: ([scope1 nsX] ++ L))[A.length + 1]? = some (scope1 nsX) := fun A L p m => by rw [getE_k]; rfl
  have hCn : ∀ (A : Mem) dd, dd + 1 = n + 8 → evFI Tryz.prog (cfg ml) T N dd 67 [.ptr A.length 0 0, .map (A.length + ([scope1 nsX].length + 2)), .int .i64 ((0 : Nat) : Int)] (A ++ rdr x at4 (0 + 1) :: ([scope1 nsX] ++ [r27 [] [], scope1 nsX, .miter (A.length + 1) 1, r27 [] ((x.drop 1).take (a0 :: a').length)])) = some (.ret (.lst 0 []), A ++ rdr x at4 (0 + 1) :: ([scope1 nsX] ++ [r27 [] [], scope1 nsX, .miter (A.length + 1) 1, r27 [] ((x.drop 1).take (a0 :: a').length)])) := fun A dd hdd =>
    content_none (N := N) (ml := ml) (by omega) x at4 (0 + 1) A _ hat4 (by rw [d4]; simp [hasP]) _ _ dd (by omega)
  split
  · rename_i hab
    have hE : ∀ A : Mem, LoM A [scope1 nsX] → evFI Tryz.prog (cfg ml) T N (n + 8) 38 [.ptr A.length 0 0, .map (A.length + 1), .int .i64 0] (A ++ rdr x 0 0 :: [scope1 nsX]) = some (.ret (.agg [.str [], .str (a0 :: a'), .str [], .lst 0 [], .lst 0 []]), A ++ rdr x (at8 + 1) 1 :: [scope1 nsX]) := fun A hA => by
      have h := elem_open (N := N) (ml := ml) x (by omega) (by omega) 0 0 A [scope1 nsX] hA (A.length + 1) nsX 0 (hmi A) a0 h60 1 rfl (get_at d1) (small_first (sa a0 (by simp))) (a0 :: a').length m1.symm at2 hA2.symm (by rw [d2]; simp [hasP]) (by rw [d2]; rfl) (get_at d2) (by omega) (by omega) at4 hA4.symm (n + 8) (by omega) 0 [] rfl at4 1 (hCn A) (by rw [d4]; simp [hasP]) at6 (by omega) b0 (get_at d5) (small_first (sb b0 (by simp))) (b0 :: b').length m6.symm at7 hA7.symm (by rw [d7]; simp [hasP]) (by rw [hT1, hT6, hab]) 1 (by rw [d7]; rfl) at8 hA8.symm (get_at d8)
      rw [hT1] at h
      exact h
    have hM2 : ∀ A B : Mem, evFI Tryz.prog (cfg ml) T N (n + 8) 37 [.ptr A.length 0 0, .bool false] (A ++ rdr x (at8 + 1) 1 :: B) = some (.ret (.tup []), A ++ rdr x x.length 1 :: B) := fun A B => by
      have e : at8 + 1 = x.length := by omega
      rw [e]
      have dn : x.drop x.length = [] := List.drop_length
      exact misc_no (P := Tryz.prog) (N := N) (ml := ml) x 1 A B (by omega) (by omega) x.length (by omega) false (by rw [dn]; rfl) (by rw [dn]; rfl) (by rw [dn]; rfl) (fun h => by cases h) (n + 8) (by omega)
    exact read_ok (ml := ml) x (by omega) (by omega) hp (n + 8) 0 ty [.row (ofBytes x) 0 ty] rfl (by have : x = x.drop 0 := rfl; rw [this, d0]; simp [hasP]) hx2 0 hM1 (by omega) [] (a0 :: a') [] (at8 + 1) 1 0 0 [] [] rfl rfl hE hM2 (bytes_row x ty)
  · rename_i hab
    have hE : ∀ A : Mem, LoM A [scope1 nsX] → ∃ M, evFI Tryz.prog (cfg ml) T N (n + 8) 38 [.ptr A.length 0 0, .map (A.length + 1), .int .i64 0] (A ++ rdr x 0 0 :: [scope1 nsX]) = some (.pan (failv 10), M) ∧ M.take A.length = A := fun A hA =>
      elem_bad (N := N) (ml := ml) x (by omega) (by omega) 0 0 A [scope1 nsX] (A.length + 1) nsX 0 (hmi A) a0 h60 1 rfl (get_at d1) (small_first (sa a0 (by simp))) (a0 :: a').length m1.symm at2 hA2.symm (by rw [d2]; simp [hasP]) (by rw [d2]; rfl) (get_at d2) (by omega) (by omega) at4 hA4.symm (n + 8) (by omega) 0 [] rfl at4 1 (hCn A) (by rw [d4]; simp [hasP]) at6 (by omega) b0 (get_at d5) (small_first (sb b0 (by simp))) (b0 :: b').length m6.symm at7 hA7.symm (by rw [d7]; simp [hasP]) (by rw [hT1, hT6]; exact fun h => hab h.symm)
    exact read_pan (ml := ml) x (by omega) (by omega) hp (n + 8) 0 ty [.row (ofBytes x) 0 ty] rfl (by have : x = x.drop 0 := rfl; rw [this, d0]; simp [hasP]) hx2 0 hM1 (by omega) 10 hE (bytes_row x ty)
end
end Go.Proofs.YtmnajffpmbidiaaGreatDoor.Ev
