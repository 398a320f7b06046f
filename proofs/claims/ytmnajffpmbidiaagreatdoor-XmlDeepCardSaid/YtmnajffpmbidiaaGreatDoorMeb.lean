/- Parts of one proof, one behind the other: Plain laws for texts of plain bytes: no line end is replaced; they are a text. -/
import Derived.Test.YtmnajffpmbidiaaGreatDoorMdh
import Derived.Test.YtmnajffpmbidiaaGreatDoorMea
import Derived.Lib.CountLaws
import Derived.Laws.RangeString
/- Plain laws for texts of plain bytes: no line end is replaced; they are a text. -/
namespace Go.Proofs.YtmnajffpmbidiaaGreatDoor.Ev
set_option linter.all false
variable {ml : Int}
open Go.Proofs.YtmnajffpmbidiaaGreatDoor.Ic
set_option maxRecDepth 100000
set_option maxHeartbeats 2000000
set_option linter.unusedSimpArgs false
theorem index_no13 (r : List UInt8) : ∀ x : List UInt8, (∀ b ∈ x, b ≠ 13) → Lib.index x (13 :: r) = -1
  | [], _ => rfl
  | b :: x, h => by
    have hb : b ≠ 13 := h b (by simp)
    have ih := index_no13 r x fun c hc => h c (by simp [hc])
    unfold Lib.index
    have hp : (13 :: r).isPrefixOf (b :: x) = false := by
      simp only [List.isPrefixOf, Bool.and_eq_false_iff, beq_eq_false_iff_ne]
      exact .inl (fun e => hb e.symm)
    rw [hp, ih]; rfl
theorem replace_no13 (r u x : List UInt8) (h : ∀ b ∈ x, b ≠ 13) : Lib.replaceAll x (13 :: r) u = x := by
  have hi := index_no13 r x h
  unfold Lib.replaceAll Lib.replace
  split
  · rfl
  · generalize Lib.replaceNum x (13 :: r) (-1) = k
    cases k with
    | zero => rfl
    | succ k => rw [Lib.replaceK, hi]; rfl
theorem repl_lib (r u x : List UInt8) (h : ∀ b ∈ x, b ≠ 13) (hs : x.length < 4294967281) (H : Mem) : replLib [.str x, .str (13 :: r), .str u] H = some (.str x, H) := by
  have hc : Lib.countB ⟨x.toArray⟩ ⟨(13 :: r).toArray⟩ = 0 := Lib.count_miss (by simpa using index_no13 r x h)
  simp only [replLib]
  rw [if_pos ⟨hs, by simp, by rw [hc]; omega⟩, replace_no13 r u x h]
/-- A plain byte of a text. -/
def plainB (b : UInt8) : Bool := decide (b = 9 ∨ b = 10 ∨ (32 ≤ b.toNat ∧ b.toNat < 128))
theorem plainB_lt {b : UInt8} (h : plainB b = true) : b.toNat < 128 := by
  unfold plainB at h
  rcases of_decide_eq_true h with rfl | rfl | h
  · decide
  · decide
  · exact h.2
theorem plainB_ok {b : UInt8} (h : plainB b = true) : runeOk (b.toNat : Int) = true := by
  unfold plainB at h
  unfold runeOk
  rcases of_decide_eq_true h with rfl | rfl | h
  · decide
  · decide
  · exact decide_eq_true (by omega)
theorem plainB_13 {b : UInt8} (h : plainB b = true) : b ≠ 13 := by
  rintro rfl
  revert h; decide
theorem dec_plain (s : List UInt8) (pos : Nat) (b : UInt8) (h : s[pos]? = some b) (hb : b.toNat < 128) : dec s pos = (b.toNat, 1) := by
  obtain ⟨hlt, e⟩ := List.getElem?_eq_some_iff.1 h
  unfold dec
  have h1 : pos < (⟨s.toArray⟩ : ByteArray).size := by show pos < s.toArray.size; simpa using hlt
  have h2 : (⟨s.toArray⟩ : ByteArray)[pos]'h1 = b := by show s.toArray[pos] = b; simpa using e
  rw [decode_ascii _ pos h1 (by rw [h2]; exact hb), h2]
theorem runes_plain (s : List UInt8) (h : ∀ b ∈ s, plainB b = true) : ∀ (f pos : Nat), runesFrom s f pos = true
  | 0, _ => rfl
  | f + 1, pos => by
    simp only [runesFrom]
    by_cases hp : pos < s.length
    · have hb := h s[pos] (List.getElem_mem hp)
      rw [if_pos hp, dec_plain s pos s[pos] (List.getElem?_eq_getElem hp) (plainB_lt hb), plainB_ok hb, runes_plain s h f]; rfl
    · rw [if_neg hp]
theorem valid_plain (s : List UInt8) (h : ∀ b ∈ s, plainB b = true) : Lib.validD s = true := by
  rw [Lib.validD_ascii s.length s fun b hb => plainB_lt (h b (List.mem_of_mem_take hb)), List.drop_length]
  rfl
theorem plain_text (P : Program) (N n : Nat) (s : List UInt8) (hN : s.length < N) (hl : s.length ≤ 1099511627776) (hp : ∀ b ∈ s, plainB b = true) (H : Mem) :
    evFI P (cfg ml) T N (n + 4) 19 [.str s] H = some (.ret (.bool true), H) := by
  obtain ⟨t, p, ht, h0⟩ := ptext_loop (ml := ml) P N (n + 2) s H N 0 (by omega)
  simp only [runes_plain s hp, if_true] at ht
  have hv := uvalid_eq (ml := ml) P N n (H ++ [.siter s p, .row (ofBytes s) 0 (5 + 1)]) (H.length + 1) (5 + 1) s hN hl (by simp)
  rw [valid_plain s hp] at hv
  have h40 : s.length ≤ 2 ^ 40 := by omega
  simp only [Nat.reduceAdd] at hv
  refine evF_ret (m := 16) (v := .bool true) (a := ?ab) (H1 := ?Hb) rfl t19 rfl ?hb ?hd ?hr ?hz
  case hb =>
    apply evI_seq
    · simp only [List.length_cons, List.length_nil, idx, I19, List.append_nil, List.nil_append, List.cons_append, List.getD_cons_zero, List.getD_cons_succ, evI, opsI, stepI, wantI, opI, AAct.evI, look, AAct.put, mkVal, mkVM, intOpA, intA, shiftA, unA, decide_true, decide_false, Option.map_some, Option.map_none, reduceIte, Nat.reduceEqDiff, Nat.reduceLT, Option.bind_some, Option.bind_none, true_and, and_true, and_self, Nat.zero_lt_succ, cellsAt, List.length_append, Nat.le_add_right, List.length_cons, List.length_nil, Nat.zero_add, Nat.add_zero, Nat.reduceAdd, Nat.reduceMul, Nat.zero_mul, AV.cells, AV.one, known, List.append_assoc, getE_0, getE_k, setE_0, setE_k, List.getElem?_cons_zero, List.getElem?_cons_succ, List.set_cons_zero, List.set_cons_succ, List.take_succ_cons, List.take_zero, List.drop_zero, List.drop_succ_cons, List.drop_nil, List.all_cons, List.all_nil, Bool.and_self, Bool.and_true, Bool.true_and, Bool.and_false, Bool.false_and, splice, fillI, Nat.reduceLeDiff, strA, Nat.add_assoc, beq_self_eq_true, Bool.false_eq_true, bq_ft, bq_tf, Bool.not_true, Bool.not_false, Nat.le_refl, List.map_cons, List.map_nil, isNilA, nilPtr, nilSl, nilIf, nilFn, nilMap, nilCheckA, if_true, if_false, lt_lit, le_lit, lt_lit2, le_lit2, le_sub1, le_sub2]; rfl
    apply evI_seq
    · apply evI_seq
      · simp only [List.append_nil, List.nil_append, List.cons_append, List.getD_cons_zero, List.getD_cons_succ, evI, opsI, stepI, wantI, opI, AAct.evI, look, AAct.put, mkVal, mkVM, intOpA, intA, shiftA, unA, decide_true, decide_false, Option.map_some, Option.map_none, reduceIte, Nat.reduceEqDiff, Nat.reduceLT, Option.bind_some, Option.bind_none, true_and, and_true, and_self, Nat.zero_lt_succ, cellsAt, List.length_append, Nat.le_add_right, List.length_cons, List.length_nil, Nat.zero_add, Nat.add_zero, Nat.reduceAdd, Nat.reduceMul, Nat.zero_mul, AV.cells, AV.one, known, List.append_assoc, getE_0, getE_k, setE_0, setE_k, List.getElem?_cons_zero, List.getElem?_cons_succ, List.set_cons_zero, List.set_cons_succ, List.take_succ_cons, List.take_zero, List.drop_zero, List.drop_succ_cons, List.drop_nil, List.all_cons, List.all_nil, Bool.and_self, Bool.and_true, Bool.true_and, Bool.and_false, Bool.false_and, splice, fillI, Nat.reduceLeDiff, strA, Nat.add_assoc, beq_self_eq_true, Bool.false_eq_true, bq_ft, bq_tf, Bool.not_true, Bool.not_false, Nat.le_refl, List.map_cons, List.map_nil, isNilA, nilPtr, nilSl, nilIf, nilFn, nilMap, nilCheckA, if_true, if_false, lt_lit, le_lit, lt_lit2, le_lit2, le_sub1, le_sub2]; rfl
      apply evI_block_exit
      apply evI_loop
      exact ht
    simp only [h0, hv, h40, List.append_nil, List.nil_append, List.cons_append, List.getD_cons_zero, List.getD_cons_succ, evI, opsI, stepI, wantI, opI, AAct.evI, look, AAct.put, mkVal, mkVM, intOpA, intA, shiftA, unA, decide_true, decide_false, Option.map_some, Option.map_none, reduceIte, Nat.reduceEqDiff, Nat.reduceLT, Option.bind_some, Option.bind_none, true_and, and_true, and_self, Nat.zero_lt_succ, cellsAt, List.length_append, Nat.le_add_right, List.length_cons, List.length_nil, Nat.zero_add, Nat.add_zero, Nat.reduceAdd, Nat.reduceMul, Nat.zero_mul, AV.cells, AV.one, known, List.append_assoc, getE_0, getE_k, setE_0, setE_k, List.getElem?_cons_zero, List.getElem?_cons_succ, List.set_cons_zero, List.set_cons_succ, List.take_succ_cons, List.take_zero, List.drop_zero, List.drop_succ_cons, List.drop_nil, List.all_cons, List.all_nil, Bool.and_self, Bool.and_true, Bool.true_and, Bool.and_false, Bool.false_and, splice, fillI, Nat.reduceLeDiff, strA, Nat.add_assoc, beq_self_eq_true, Bool.false_eq_true, bq_ft, bq_tf, Bool.not_true, Bool.not_false, Nat.le_refl, List.map_cons, List.map_nil, isNilA, nilPtr, nilSl, nilIf, nilFn, nilMap, nilCheckA, if_true, if_false, lt_lit, le_lit, lt_lit2, le_lit2, le_sub1, le_sub2]; rfl
  case hd => rfl
  case hr => simp only [I19, resI, resLI, look, reduceIte, Nat.reduceEqDiff, Option.map_some]
  case hz => simp only [finish, finish, cfg, keep, Bool.false_eq_true, if_false, frz, frzL, eC_low, kC_low, atsC_low, low, lowL, decide_true, Option.map_some, roundEnd, AAct.keepT, List.map_cons, List.map_nil, look, reduceIte, Nat.reduceEqDiff, lowT, List.all_cons, List.all_nil, low, lowL, lowD, mayCut, List.length_append, List.length_cons, List.length_nil, Nat.zero_add, Nat.reduceAdd, takeS, takeE_0, takeE_k, List.take_succ_cons, List.take_zero, eqM_app, eqM_refl, Bool.true_or, Bool.and_self, Bool.and_true, Bool.true_and, decide_true, Nat.lt_succ_self, Nat.lt_add_right_iff_pos, Nat.add_lt_add_iff_left, Nat.reduceLT, if_true, lt_k, List.append_assoc, List.cons_append, List.nil_append]
end Go.Proofs.YtmnajffpmbidiaaGreatDoor.Ev
