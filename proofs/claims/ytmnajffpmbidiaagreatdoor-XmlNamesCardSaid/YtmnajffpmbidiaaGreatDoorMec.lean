/- Parts of one proof, one behind the other: utf8.Valid: the fast path's inner loop, reckoned with letters. -/
import Derived.Test.YtmnajffpmbidiaaGreatDoorMeb
/- utf8.Valid: the fast path's inner loop, reckoned with letters. -/
namespace Go.Proofs.YtmnajffpmbidiaaGreatDoor.Ev
set_option linter.all false
variable {ml : Int}
open Go.Proofs.YtmnajffpmbidiaaGreatDoor.Ic
set_option maxRecDepth 100000
set_option maxHeartbeats 4000000
set_option linter.unusedSimpArgs false
theorem drop8 {s : List UInt8} {off : Nat} (h : off + 8 ≤ s.length) : ∃ b0 b1 b2 b3 b4 b5 b6 b7, s.drop off = b0 :: b1 :: b2 :: b3 :: b4 :: b5 :: b6 :: b7 :: s.drop (off + 8) := by
  obtain ⟨b0, b1, b2, b3, b4, b5, b6, b7, e⟩ := eight (l := s.drop off) (by rw [List.length_drop]; omega)
  exact ⟨b0, b1, b2, b3, b4, b5, b6, b7, by rw [List.drop_drop] at e; exact e⟩
/-- A word, as a number; with what it tells. -/
theorem word_at (P : Program) (N n0 : Nat) (M : Mem) (q ty : Nat) (s : List UInt8) (hq : M[q]? = some (.row (ofBytes s) 0 ty)) (off : Nat) (h : off + 8 ≤ s.length) :
    ∃ w : Nat, w < 18446744073709551616 ∧ (∀ n, 8 ≤ n → evFI P (cfg ml) T N (n0 + 1) 102 [.slc q off n 1 0] M = some (.ret (.int .u64 (w : Int)), M)) ∧ (w &&& 9259542123273814144 = 0 → Lib.validD (s.drop off) = Lib.validD (s.drop (off + 8))) := by
  obtain ⟨b0, b1, b2, b3, b4, b5, b6, b7, e⟩ := drop8 h
  exact ⟨_, word_lt8 b0 b1 b2 b3 b4 b5 b6 b7, fun n hn => word_eq P N n0 M q off n ty s _ b0 b1 b2 b3 b4 b5 b6 b7 e hq hn, fun hw => skip8 e hw⟩
noncomputable def loopV2 : IC := (I79.c.loops).getD 1 .bad
theorem v2_loop (P : Program) (N n0 : Nat) (M : Mem) (q ty : Nat) (s : List UInt8) (hl : s.length ≤ 1099511627776) (hq : M[q]? = some (.row (ofBytes s) 0 ty)) : ∀ (fuel off n : Nat), off + n = s.length → n < fuel →
    ∃ t off' n', loopA (fun a H => evI P (cfg ml) (evFI P (cfg ml) T N (n0 + 1)) N loopV2 a H) (some [0]) fuel ⟨188, [(0, .slc q off n 1 0)], []⟩ M = some (.exit 2, ⟨188, t, []⟩, M) ∧ look t 0 = .slc q off' n' 1 0 ∧ off' + n' = s.length ∧ n' ≤ n ∧ Lib.validD (s.drop off) = Lib.validD (s.drop off')
  | 0, _, _, _, h => by omega
  | fuel + 1, off, n, ho, hf => by
    rcases Nat.lt_or_ge 32 n with hlt | hge
    · obtain ⟨w0, l0, c0, v0⟩ := word_at (ml := ml) P N n0 M q ty s hq off (by omega)
      obtain ⟨w1, l1, c1, v1⟩ := word_at (ml := ml) P N n0 M q ty s hq (off + 8) (by omega)
      obtain ⟨w2, l2, c2, v2⟩ := word_at (ml := ml) P N n0 M q ty s hq (off + 16) (by omega)
      obtain ⟨w3, l3, c3, v3⟩ := word_at (ml := ml) P N n0 M q ty s hq (off + 24) (by omega)
      have hi : decide ((n : Int) > 32) = true := decide_eq_true (by omega)
      have n8 : natOf (.int .i64 8) = some 8 := rfl
      have n16 : natOf (.int .i64 16) = some 16 := rfl
      have n24 : natOf (.int .i64 24) = some 24 := rfl
      have n32 : natOf (.int .i64 32) = some 32 := rfl
      have g8 : 8 ≤ n := by omega
      have g16 : 16 ≤ n := by omega
      have g24 : 24 ≤ n := by omega
      have g32 : 32 ≤ n := by omega
      have k0 := c0 n (by omega)
      have k1 := c1 (n - 8) (by omega)
      have k2 := c2 (n - 16) (by omega)
      have k3 := c3 (n - 24) (by omega)
      have o1 := orU l0 l1
      have o2 := orU l2 l3
      have m1 : w0 ||| w1 < 18446744073709551616 := Nat.or_lt_two_pow (n := 64) l0 l1
      have m2 : w2 ||| w3 < 18446744073709551616 := Nat.or_lt_two_pow (n := 64) l2 l3
      have o3 := orU m1 m2
      have m3 : w0 ||| w1 ||| (w2 ||| w3) < 18446744073709551616 := Nat.or_lt_two_pow (n := 64) m1 m2
      have mm := maskU m3
      have hz : ((((w0 ||| w1 ||| (w2 ||| w3)) &&& 9259542123273814144 : Nat) : Int) == 0) = decide ((w0 ||| w1 ||| (w2 ||| w3)) &&& 9259542123273814144 = 0) := by
        cases hd : decide ((w0 ||| w1 ||| (w2 ||| w3)) &&& 9259542123273814144 = 0)
        · exact beq_false_of_ne (by have := of_decide_eq_false hd; omega)
        · exact beq_iff_eq.2 (by have := of_decide_eq_true hd; omega)
      cases hd : decide ((w0 ||| w1 ||| (w2 ||| w3)) &&& 9259542123273814144 = 0)
      · rw [hd] at hz
        refine ⟨_, off, n, loopA_exit (by simp only [loopV2, I79, IC.loops, bound, cutSD, hi, n8, n16, n24, n32, g8, g16, g24, g32, k0, k1, k2, k3, o1, o2, o3, mm, hz, eC_len, eC_take, eC_one, eC_0, eC_1, eC_2, eC_3, eC_4, eCr, eCr_0, eCr_1, eCr_2, eCr_3, eCr_4, List.length_drop, Nat.reduceSub, Nat.add_sub_cancel_left, atr, List.append_nil, List.nil_append, List.cons_append, List.getD_cons_zero, List.getD_cons_succ, evI, opsI, stepI, wantI, opI, AAct.evI, look, AAct.put, mkVal, mkVM, intOpA, intA, shiftA, unA, decide_true, decide_false, Option.map_some, Option.map_none, reduceIte, Nat.reduceEqDiff, Nat.reduceLT, Option.bind_some, Option.bind_none, true_and, and_true, and_self, Nat.zero_lt_succ, cellsAt, List.length_append, Nat.le_add_right, List.length_cons, List.length_nil, Nat.zero_add, Nat.add_zero, Nat.reduceAdd, Nat.reduceMul, Nat.zero_mul, AV.cells, AV.one, known, List.append_assoc, getE_0, getE_k, setE_0, setE_k, List.getElem?_cons_zero, List.getElem?_cons_succ, List.set_cons_zero, List.set_cons_succ, List.take_succ_cons, List.take_zero, List.drop_zero, List.drop_succ_cons, List.drop_nil, List.all_cons, List.all_nil, Bool.and_self, Bool.and_true, Bool.true_and, Bool.and_false, Bool.false_and, splice, fillI, Nat.reduceLeDiff, strA, Nat.add_assoc, beq_self_eq_true, Bool.false_eq_true, bq_ft, bq_tf, Bool.not_true, Bool.not_false, Nat.le_refl, List.map_cons, List.map_nil, isNilA, nilPtr, nilSl, nilIf, nilFn, nilMap, nilCheckA, if_true, if_false, lt_lit, le_lit, lt_lit2, le_lit2, le_sub1, le_sub2, drawI, drawI2, lexD, valD, valI, putD, okD, roD, memAt, lastM, wantI, eqv_refl, eqM_refl, eqM_app, eqB, eqvL, eqv, List.getLast?_cons_cons, List.getLast?_singleton, Option.getD_some, Bool.or_true, Bool.true_or, beq_self_eq_true, resvV]; rfl), rfl, ho, Nat.le_refl _, rfl⟩
      · rw [hd] at hz
        have hz' := of_decide_eq_true hd
        rw [Lib.or_mask, Lib.or_mask, Lib.or_mask] at hz'
        obtain ⟨t, off', n', hr, ht, h1, h2, h3⟩ := v2_loop P N n0 M q ty s hl hq fuel (off + 32) (n - 32) (by omega) (by omega)
        refine ⟨t, off', n', ?_, ht, h1, by omega, ?_⟩
        · refine loopA_go (by simp only [loopV2, I79, IC.loops, bound, cutSD, hi, n8, n16, n24, n32, g8, g16, g24, g32, k0, k1, k2, k3, o1, o2, o3, mm, hz, eC_len, eC_take, eC_one, eC_0, eC_1, eC_2, eC_3, eC_4, eCr, eCr_0, eCr_1, eCr_2, eCr_3, eCr_4, List.length_drop, Nat.reduceSub, Nat.add_sub_cancel_left, atr, List.append_nil, List.nil_append, List.cons_append, List.getD_cons_zero, List.getD_cons_succ, evI, opsI, stepI, wantI, opI, AAct.evI, look, AAct.put, mkVal, mkVM, intOpA, intA, shiftA, unA, decide_true, decide_false, Option.map_some, Option.map_none, reduceIte, Nat.reduceEqDiff, Nat.reduceLT, Option.bind_some, Option.bind_none, true_and, and_true, and_self, Nat.zero_lt_succ, cellsAt, List.length_append, Nat.le_add_right, List.length_cons, List.length_nil, Nat.zero_add, Nat.add_zero, Nat.reduceAdd, Nat.reduceMul, Nat.zero_mul, AV.cells, AV.one, known, List.append_assoc, getE_0, getE_k, setE_0, setE_k, List.getElem?_cons_zero, List.getElem?_cons_succ, List.set_cons_zero, List.set_cons_succ, List.take_succ_cons, List.take_zero, List.drop_zero, List.drop_succ_cons, List.drop_nil, List.all_cons, List.all_nil, Bool.and_self, Bool.and_true, Bool.true_and, Bool.and_false, Bool.false_and, splice, fillI, Nat.reduceLeDiff, strA, Nat.add_assoc, beq_self_eq_true, Bool.false_eq_true, bq_ft, bq_tf, Bool.not_true, Bool.not_false, Nat.le_refl, List.map_cons, List.map_nil, isNilA, nilPtr, nilSl, nilIf, nilFn, nilMap, nilCheckA, if_true, if_false, lt_lit, le_lit, lt_lit2, le_lit2, le_sub1, le_sub2, drawI, drawI2, lexD, valD, valI, putD, okD, roD, memAt, lastM, wantI, eqv_refl, eqM_refl, eqM_app, eqB, eqvL, eqv, List.getLast?_cons_cons, List.getLast?_singleton, Option.getD_some, Bool.or_true, Bool.true_or, beq_self_eq_true, resvV]; rfl) ?_
          simp only [ite_self, roundEnd, AAct.keepT, List.map_cons, List.map_nil, look, reduceIte, Nat.reduceEqDiff, lowT, List.all_cons, List.all_nil, low, lowL, lowD, mayCut, List.length_append, List.length_cons, List.length_nil, Nat.zero_add, Nat.reduceAdd, takeS, takeE_0, takeE_k, List.take_succ_cons, List.take_zero, eqM_app, eqM_refl, Bool.true_or, Bool.and_self, Bool.and_true, Bool.true_and, decide_true, Nat.lt_succ_self, Nat.lt_add_right_iff_pos, Nat.add_lt_add_iff_left, Nat.reduceLT, if_true, lt_k, List.append_assoc, List.cons_append, List.nil_append]
          exact hr
        · rw [v0 hz'.1.1, v1 hz'.1.2, v2 hz'.2.1, v3 hz'.2.2]
          exact h3
    · have hi : decide ((n : Int) > 32) = false := decide_eq_false (by omega)
      exact ⟨_, off, n, loopA_exit (by simp only [loopV2, I79, IC.loops, hi, eC_len, eC_take, eC_one, eC_0, eC_1, eC_2, eC_3, eC_4, eCr, eCr_0, eCr_1, eCr_2, eCr_3, eCr_4, List.length_drop, Nat.reduceSub, Nat.add_sub_cancel_left, atr, List.append_nil, List.nil_append, List.cons_append, List.getD_cons_zero, List.getD_cons_succ, evI, opsI, stepI, wantI, opI, AAct.evI, look, AAct.put, mkVal, mkVM, intOpA, intA, shiftA, unA, decide_true, decide_false, Option.map_some, Option.map_none, reduceIte, Nat.reduceEqDiff, Nat.reduceLT, Option.bind_some, Option.bind_none, true_and, and_true, and_self, Nat.zero_lt_succ, cellsAt, List.length_append, Nat.le_add_right, List.length_cons, List.length_nil, Nat.zero_add, Nat.add_zero, Nat.reduceAdd, Nat.reduceMul, Nat.zero_mul, AV.cells, AV.one, known, List.append_assoc, getE_0, getE_k, setE_0, setE_k, List.getElem?_cons_zero, List.getElem?_cons_succ, List.set_cons_zero, List.set_cons_succ, List.take_succ_cons, List.take_zero, List.drop_zero, List.drop_succ_cons, List.drop_nil, List.all_cons, List.all_nil, Bool.and_self, Bool.and_true, Bool.true_and, Bool.and_false, Bool.false_and, splice, fillI, Nat.reduceLeDiff, strA, Nat.add_assoc, beq_self_eq_true, Bool.false_eq_true, bq_ft, bq_tf, Bool.not_true, Bool.not_false, Nat.le_refl, List.map_cons, List.map_nil, isNilA, nilPtr, nilSl, nilIf, nilFn, nilMap, nilCheckA, if_true, if_false, lt_lit, le_lit, lt_lit2, le_lit2, le_sub1, le_sub2, drawI, drawI2, lexD, valD, valI, putD, okD, roD, memAt, lastM, wantI, eqv_refl, eqM_refl, eqM_app, eqB, eqvL, eqv, List.getLast?_cons_cons, List.getLast?_singleton, Option.getD_some, Bool.or_true, Bool.true_or, beq_self_eq_true, resvV]; rfl), rfl, ho, Nat.le_refl _, rfl⟩
end Go.Proofs.YtmnajffpmbidiaaGreatDoor.Ev
