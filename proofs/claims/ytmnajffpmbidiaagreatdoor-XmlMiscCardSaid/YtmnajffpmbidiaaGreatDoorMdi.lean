/- Parts of one proof. -/
import Derived.Test.YtmnajffpmbidiaaGreatDoorMde
import Derived.Test.YtmnajffpmbidiaaGreatDoorMdh
import Derived.Lib.CountLaws
import Derived.Laws.RangeString
set_option linter.all false
namespace Go.Proofs.YtmnajffpmbidiaaGreatDoor.Ev
variable {ml : Int}
open Go.Proofs.YtmnajffpmbidiaaGreatDoor.Ic
set_option maxRecDepth 100000
set_option maxHeartbeats 2000000
theorem index_no13 (r : List UInt8) : ∀ x : List UInt8, (∀ b ∈ x, b ≠ 13) → Lib.index x (13 :: r) = -1
  | [], _ => rfl
  | b :: x, h => by
    have hb : b ≠ 13 := h b (by simp)
    have ih := index_no13 r x fun c hc => h c (by simp [hc])
    unfold Lib.index
    have hp : (13 :: r).isPrefixOf (b :: x) = false := by
      simp only [List.isPrefixOf, Bool.and_eq_false_iff, beq_eq_false_iff_ne]
      exact .inl (fun e => hb e.symm)
    rw [hp, ih]; rfl
theorem replace_no13 (r u x : List UInt8) (h : ∀ b ∈ x, b ≠ 13) : Lib.replaceAll x (13 :: r) u = x := by
  have hi := index_no13 r x h
  unfold Lib.replaceAll Lib.replace
  split
  · rfl
  · generalize Lib.replaceNum x (13 :: r) (-1) = k
    cases k with
    | zero => rfl
    | succ k => rw [Lib.replaceK, hi]; rfl
theorem repl_lib (r u x : List UInt8) (h : ∀ b ∈ x, b ≠ 13) (hs : x.length < 4294967281) (H : Mem) : replLib [.str x, .str (13 :: r), .str u] H = some (.str x, H) := by
  have hc : Lib.countB ⟨x.toArray⟩ ⟨(13 :: r).toArray⟩ = 0 := Lib.count_miss (by simpa using index_no13 r x h)
  simp only [replLib]
  rw [if_pos ⟨hs, by simp, by rw [hc]; omega⟩, replace_no13 r u x h]
def plainB (b : UInt8) : Bool := decide (b = 9 ∨ b = 10 ∨ (32 ≤ b.toNat ∧ b.toNat < 128))
theorem plainB_lt {b : UInt8} (h : plainB b = true) : b.toNat < 128 := by
  unfold plainB at h
  rcases of_decide_eq_true h with rfl | rfl | h
  · decide
  · decide
  · exact h.2
theorem plainB_ok {b : UInt8} (h : plainB b = true) : runeOk (b.toNat : Int) = true := by
  unfold plainB at h
  unfold runeOk
  rcases of_decide_eq_true h with rfl | rfl | h
  · decide
  · decide
  · exact decide_eq_true (by omega)
theorem plainB_13 {b : UInt8} (h : plainB b = true) : b ≠ 13 := by
  rintro rfl
  revert h; decide
theorem dec_plain (s : List UInt8) (pos : Nat) (b : UInt8) (h : s[pos]? = some b) (hb : b.toNat < 128) : dec s pos = (b.toNat, 1) := by
  obtain ⟨hlt, e⟩ := List.getElem?_eq_some_iff.1 h
  unfold dec
  have h1 : pos < (⟨s.toArray⟩ : ByteArray).size := by show pos < s.toArray.size; simpa using hlt
  have h2 : (⟨s.toArray⟩ : ByteArray)[pos]'h1 = b := by show s.toArray[pos] = b; simpa using e
  rw [decode_ascii _ pos h1 (by rw [h2]; exact hb), h2]
theorem runes_plain (s : List UInt8) (h : ∀ b ∈ s, plainB b = true) : ∀ (f pos : Nat), runesFrom s f pos = true
  | 0, _ => rfl
  | f + 1, pos => by
    simp only [runesFrom]
    by_cases hp : pos < s.length
    · have hb := h s[pos] (List.getElem_mem hp)
      rw [if_pos hp, dec_plain s pos s[pos] (List.getElem?_eq_getElem hp) (plainB_lt hb), plainB_ok hb, runes_plain s h f]; rfl
    · rw [if_neg hp]
theorem valid_plain (s : List UInt8) (h : ∀ b ∈ s, plainB b = true) : Lib.validD s = true := by
  rw [Lib.validD_ascii s.length s fun b hb => plainB_lt (h b (List.mem_of_mem_take hb)), List.drop_length]
  rfl
theorem plain_text (P : Program) (N n : Nat) (s : List UInt8) (hN : s.length < N) (hl : s.length ≤ 1099511627776) (hp : ∀ b ∈ s, plainB b = true) (H : Mem) :
    evFI P (cfg ml) T N (n + 4) 19 [.str s] H = some (.ret (.bool true), H) := by
  obtain ⟨t, p, ht, h0⟩ := ptext_loop (ml := ml) P N (n + 2) s H N 0 (by omega)
  simp only [runes_plain s hp, if_true] at ht
  have hv := uvalid_eq (ml := ml) P N n (H ++ [.siter s p, .row (ofBytes s) 0 (5 + 1)]) (H.length + 1) (5 + 1) s hN hl (by simp)
  rw [valid_plain s hp] at hv
  have h40 : s.length ≤ 2 ^ 40 := by omega
  simp only [Nat.reduceAdd] at hv
  refine evF_ret (m := 16) (v := .bool true) (a := ?ab) (H1 := ?Hb) rfl t19 rfl ?hb ?hd ?hr ?hz
  case hb =>
    apply evI_seq
    · simp only [List.length_cons, List.length_nil, idx, I19, List.append_nil, List.nil_append, List.cons_append, List.getD_cons_zero, List.getD_cons_succ, evI, opsI, stepI, wantI, opI, AAct.evI, look, AAct.put, mkVal, mkVM, intOpA, intA, shiftA, unA, decide_true, decide_false, Option.map_some, Option.map_none, reduceIte, Nat.reduceEqDiff, Nat.reduceLT, Option.bind_some, Option.bind_none, true_and, and_true, and_self, Nat.zero_lt_succ, cellsAt, List.length_append, Nat.le_add_right, List.length_cons, List.length_nil, Nat.zero_add, Nat.add_zero, Nat.reduceAdd, Nat.reduceMul, Nat.zero_mul, AV.cells, AV.one, known, List.append_assoc, getE_0, getE_k, setE_0, setE_k, List.getElem?_cons_zero, List.getElem?_cons_succ, List.set_cons_zero, List.set_cons_succ, List.take_succ_cons, List.take_zero, List.drop_zero, List.drop_succ_cons, List.drop_nil, List.all_cons, List.all_nil, Bool.and_self, Bool.and_true, Bool.true_and, Bool.and_false, Bool.false_and, splice, fillI, Nat.reduceLeDiff, strA, Nat.add_assoc, beq_self_eq_true, Bool.false_eq_true, bq_ft, bq_tf, Bool.not_true, Bool.not_false, Nat.le_refl, List.map_cons, List.map_nil, isNilA, nilPtr, nilSl, nilIf, nilFn, nilMap, nilCheckA, if_true, if_false, lt_lit, le_lit, lt_lit2, le_lit2, le_sub1, le_sub2]; rfl
    apply evI_seq
    · apply evI_seq
      · simp only [List.append_nil, List.nil_append, List.cons_append, List.getD_cons_zero, List.getD_cons_succ, evI, opsI, stepI, wantI, opI, AAct.evI, look, AAct.put, mkVal, mkVM, intOpA, intA, shiftA, unA, decide_true, decide_false, Option.map_some, Option.map_none, reduceIte, Nat.reduceEqDiff, Nat.reduceLT, Option.bind_some, Option.bind_none, true_and, and_true, and_self, Nat.zero_lt_succ, cellsAt, List.length_append, Nat.le_add_right, List.length_cons, List.length_nil, Nat.zero_add, Nat.add_zero, Nat.reduceAdd, Nat.reduceMul, Nat.zero_mul, AV.cells, AV.one, known, List.append_assoc, getE_0, getE_k, setE_0, setE_k, List.getElem?_cons_zero, List.getElem?_cons_succ, List.set_cons_zero, List.set_cons_succ, List.take_succ_cons, List.take_zero, List.drop_zero, List.drop_succ_cons, List.drop_nil, List.all_cons, List.all_nil, Bool.and_self, Bool.and_true, Bool.true_and, Bool.and_false, Bool.false_and, splice, fillI, Nat.reduceLeDiff, strA, Nat.add_assoc, beq_self_eq_true, Bool.false_eq_true, bq_ft, bq_tf, Bool.not_true, Bool.not_false, Nat.le_refl, List.map_cons, List.map_nil, isNilA, nilPtr, nilSl, nilIf, nilFn, nilMap, nilCheckA, if_true, if_false, lt_lit, le_lit, lt_lit2, le_lit2, le_sub1, le_sub2]; rfl
      apply evI_block_exit
      apply evI_loop
      exact ht
    simp only [h0, hv, h40, List.append_nil, List.nil_append, List.cons_append, List.getD_cons_zero, List.getD_cons_succ, evI, opsI, stepI, wantI, opI, AAct.evI, look, AAct.put, mkVal, mkVM, intOpA, intA, shiftA, unA, decide_true, decide_false, Option.map_some, Option.map_none, reduceIte, Nat.reduceEqDiff, Nat.reduceLT, Option.bind_some, Option.bind_none, true_and, and_true, and_self, Nat.zero_lt_succ, cellsAt, List.length_append, Nat.le_add_right, List.length_cons, List.length_nil, Nat.zero_add, Nat.add_zero, Nat.reduceAdd, Nat.reduceMul, Nat.zero_mul, AV.cells, AV.one, known, List.append_assoc, getE_0, getE_k, setE_0, setE_k, List.getElem?_cons_zero, List.getElem?_cons_succ, List.set_cons_zero, List.set_cons_succ, List.take_succ_cons, List.take_zero, List.drop_zero, List.drop_succ_cons, List.drop_nil, List.all_cons, List.all_nil, Bool.and_self, Bool.and_true, Bool.true_and, Bool.and_false, Bool.false_and, splice, fillI, Nat.reduceLeDiff, strA, Nat.add_assoc, beq_self_eq_true, Bool.false_eq_true, bq_ft, bq_tf, Bool.not_true, Bool.not_false, Nat.le_refl, List.map_cons, List.map_nil, isNilA, nilPtr, nilSl, nilIf, nilFn, nilMap, nilCheckA, if_true, if_false, lt_lit, le_lit, lt_lit2, le_lit2, le_sub1, le_sub2]; rfl
  case hd => rfl
  case hr => simp only [I19, resI, resLI, look, reduceIte, Nat.reduceEqDiff, Option.map_some]
  case hz => simp only [finish, finish, cfg, keep, Bool.false_eq_true, if_false, frz, frzL, eC_low, kC_low, atsC_low, low, lowL, decide_true, Option.map_some, roundEnd, AAct.keepT, List.map_cons, List.map_nil, look, reduceIte, Nat.reduceEqDiff, lowT, List.all_cons, List.all_nil, low, lowL, lowD, mayCut, List.length_append, List.length_cons, List.length_nil, Nat.zero_add, Nat.reduceAdd, takeS, takeE_0, takeE_k, List.take_succ_cons, List.take_zero, eqM_app, eqM_refl, Bool.true_or, Bool.and_self, Bool.and_true, Bool.true_and, decide_true, Nat.lt_succ_self, Nat.lt_add_right_iff_pos, Nat.add_lt_add_iff_left, Nat.reduceLT, if_true, lt_k, List.append_assoc, List.cons_append, List.nil_append]
set_option maxHeartbeats 4000000
theorem toBytes_of : ∀ s : List UInt8, toBytes (ofBytes s) = some s
  | [] => rfl
  | b :: s => by
    have ih := toBytes_of s
    have h := b.toNat_lt
    unfold ofBytes at *
    have h1 : (0 : Int) ≤ (b.toNat : Int) := by omega
    have h2 : (b.toNat : Int) < 256 := by omega
    simp only [List.map_cons, toBytes, toByte, h1, h2, and_self, if_true, ih, Int.toNat_natCast, UInt8.ofNat_toNat]
theorem op_defer : (opAt Tryz.f13 3).op = .defer ⟨.value (.tmp 6), #[], #[]⟩ := by kernel_rfl
theorem exec_defer {ρ : Operand → AV} {H : Mem} {k : Nat} {cap : List AV} (hρ : ρ (.tmp 6) = .fn (.func k) cap) : exec1 Tryz.prog ρ (opAt Tryz.f13 3) H = some (.dfr (.fn (.func k) cap) []) := by
  unfold exec1
  rw [op_defer]
  simp only [hρ]
  rfl
def nsX : List UInt8 := [104, 116, 116, 112, 58, 47, 47, 119, 119, 119, 46, 119, 51, 46, 111, 114, 103, 47, 88, 77, 76, 47, 49, 57, 57, 56, 47, 110, 97, 109, 101, 115, 112, 97, 99, 101]
abbrev rowE (e : Int) : Blk := .row [.int .i64 e] 0 (28 + 1)
section
variable {P : Program} {g : Cfg} {T : FuncId → Option IF} {N n f m : Nat} {i : IF} {args : List AV} {H H1 H2 : Mem} {a : AAct} {v : AV} {r : End × Mem}
theorem evF_retD (hl : g.lib f = none) (hT : T f = some i) (hm : max args.length i.n = m) (hb : evI P g (evFI P g T N n) N i.c ⟨m, idx 0 args, []⟩ H = some (.ret, a, H1)) (hd : a.d.isEmpty = false) (hz : tailI P g (evFI P g T N n) T N i (g.keep f) H a none H1 = some r) :
    evFI P g T N (n + 1) f args H = some r := by
  simp only [evFI, hl, hT, hm, hb, hd, Bool.false_eq_true, if_false, hz]
theorem evF_panD (hl : g.lib f = none) (hT : T f = some i) (hm : max args.length i.n = m) (hb : evI P g (evFI P g T N n) N i.c ⟨m, idx 0 args, []⟩ H = some (.pan v, a, H1)) (hd : a.d.isEmpty = false) (hz : tailI P g (evFI P g T N n) T N i (g.keep f) H a (some v) H1 = some r) :
    evFI P g T N (n + 1) f args H = some r := by
  simp only [evFI, hl, hT, hm, hb, hd, Bool.false_eq_true, if_false, hz]
end
noncomputable def pcR (n : Nat) : IC := (I13.c.nb n).hd
theorem read_split : I13.c = .seq (pcR 0) (.seq (pcR 1) (.seq (pcR 2) (.seq (pcR 3) (.seq (pcR 4) (.seq (pcR 5) (.seq (pcR 6) (.seq (pcR 7) (.seq (pcR 8) (.seq (pcR 9) (.seq (pcR 10) .ret)))))))))) := rfl
theorem trim_mark (P : Program) (N d : Nat) (hd : 4 ≤ d) (x p : List UInt8) (h : hasP x p = false) (H : Mem) : evFI P (cfg ml) T N d 30 [.str x, .str p] H = some (.ret (.str x), H) := by
  obtain ⟨n, rfl⟩ : ∃ n, d = n + 4 := ⟨d - 4, by omega⟩
  have h1 : evFI P (cfg ml) T N (n + 2) 55 [.str x, .str p] H = some (.ret (.bool (hasP x p)), H) := slHasPrefix_eq (n + 2) (by omega) x p H
  rw [h] at h1
  have h2 : evFI P (cfg ml) T N (n + 3) 53 [.str x, .str p] H = some (.ret (.str x), H) := by
    refine evF_ret (m := 13) (v := .str x) (a := ?aa) (H1 := ?Ha) rfl t53 rfl ?hb ?hd ?hr ?hz
    case hb => simp only [List.length_cons, List.length_nil, idx, I53, h1, List.append_nil, List.nil_append, List.cons_append, List.getD_cons_zero, List.getD_cons_succ, evI, opsI, stepI, wantI, opI, AAct.evI, look, AAct.put, mkVal, mkVM, intOpA, intA, shiftA, unA, decide_true, decide_false, Option.map_some, Option.map_none, reduceIte, Nat.reduceEqDiff, Nat.reduceLT, Option.bind_some, Option.bind_none, true_and, and_true, and_self, Nat.zero_lt_succ, cellsAt, List.length_append, Nat.le_add_right, List.length_cons, List.length_nil, Nat.zero_add, Nat.add_zero, Nat.reduceAdd, Nat.reduceMul, Nat.zero_mul, AV.cells, AV.one, known, List.append_assoc, getE_0, getE_k, setE_0, setE_k, List.getElem?_cons_zero, List.getElem?_cons_succ, List.set_cons_zero, List.set_cons_succ, List.take_succ_cons, List.take_zero, List.drop_zero, List.drop_succ_cons, List.drop_nil, List.all_cons, List.all_nil, Bool.and_self, Bool.and_true, Bool.true_and, Bool.and_false, Bool.false_and, splice, fillI, Nat.reduceLeDiff, strA, Nat.add_assoc, beq_self_eq_true, Bool.false_eq_true, bq_ft, bq_tf, Bool.not_true, Bool.not_false, Nat.le_refl, List.map_cons, List.map_nil, isNilA, nilPtr, nilSl, nilIf, nilFn, nilMap, nilCheckA, if_true, if_false, lt_lit, le_lit, lt_lit2, le_lit2, le_sub1, le_sub2]; rfl
    case hd => rfl
    case hr => simp only [I53, resI, resLI, look, reduceIte, Nat.reduceEqDiff, Option.map_some]
    case hz => exact fin_len rfl rfl
  refine evF_ret (m := 8) (v := .str x) (a := ?ab) (H1 := ?Hb) rfl t30 rfl ?hb ?hd ?hr ?hz
  case hb => simp only [List.length_cons, List.length_nil, idx, I30, h2, List.append_nil, List.nil_append, List.cons_append, List.getD_cons_zero, List.getD_cons_succ, evI, opsI, stepI, wantI, opI, AAct.evI, look, AAct.put, mkVal, mkVM, intOpA, intA, shiftA, unA, decide_true, decide_false, Option.map_some, Option.map_none, reduceIte, Nat.reduceEqDiff, Nat.reduceLT, Option.bind_some, Option.bind_none, true_and, and_true, and_self, Nat.zero_lt_succ, cellsAt, List.length_append, Nat.le_add_right, List.length_cons, List.length_nil, Nat.zero_add, Nat.add_zero, Nat.reduceAdd, Nat.reduceMul, Nat.zero_mul, AV.cells, AV.one, known, List.append_assoc, getE_0, getE_k, setE_0, setE_k, List.getElem?_cons_zero, List.getElem?_cons_succ, List.set_cons_zero, List.set_cons_succ, List.take_succ_cons, List.take_zero, List.drop_zero, List.drop_succ_cons, List.drop_nil, List.all_cons, List.all_nil, Bool.and_self, Bool.and_true, Bool.true_and, Bool.and_false, Bool.false_and, splice, fillI, Nat.reduceLeDiff, strA, Nat.add_assoc, beq_self_eq_true, Bool.false_eq_true, bq_ft, bq_tf, Bool.not_true, Bool.not_false, Nat.le_refl, List.map_cons, List.map_nil, isNilA, nilPtr, nilSl, nilIf, nilFn, nilMap, nilCheckA, if_true, if_false, lt_lit, le_lit, lt_lit2, le_lit2, le_sub1, le_sub2]; rfl
  case hd => rfl
  case hr => simp only [I30, resI, resLI, look, reduceIte, Nat.reduceEqDiff, Option.map_some]
  case hz => exact fin_len rfl rfl
section
variable {N : Nat} (x : List UInt8) (hs : x.length < 4294967281) (hN : x.length < N) (hp : ∀ b ∈ x, plainB b = true)
variable (n q ty : Nat) (H : Mem) (hq : H[q]? = some (.row (ofBytes x) 0 ty))
variable (hx1 : hasP x [239, 187, 191] = false) (hx2 : hasP x [60, 63, 120, 109, 108] = false)
variable (at1 : Nat) (hM1 : ∀ A : Mem, evFI Tryz.prog (cfg ml) T N n 37 [.ptr A.length 0 0, .bool true] (A ++ rdr x 0 0 :: []) = some (.ret (.tup []), A ++ rdr x at1 0 :: []))
include hs hN hp hq hx1 hx2 hM1
theorem read_pre (hn : 4 ≤ n) :
    ∃ t, look t 2 = .ptr H.length 0 0 ∧ look t 3 = .ptr (H.length + 1) 0 0 ∧ look t 5 = .ptr (H.length + 2) 0 0 ∧
      evI Tryz.prog (cfg ml) (evFI Tryz.prog (cfg ml) T N n) N I13.c ⟨51, [(0, .slc q 0 x.length 1 0)], []⟩ H = evI Tryz.prog (cfg ml) (evFI Tryz.prog (cfg ml) T N n) N (.seq (pcR 7) (.seq (pcR 8) (.seq (pcR 9) (.seq (pcR 10) .ret)))) ⟨51, t, [(.fn (.func 29) [.ptr H.length 0 0, .ptr (H.length + 1) 0 0], [])]⟩ (H ++ [r27 [] [], rowE 0, rdr x at1 0]) := by
  obtain ⟨n, rfl⟩ : ∃ k, n = k + 4 := ⟨n - 4, by omega⟩
  have hql : q < H.length := (List.getElem?_eq_some_iff.1 hq).1
  have hq2 : ∀ L : Mem, (H ++ L)[q]? = some (.row (ofBytes x) 0 ty) := fun L => by rw [List.getElem?_append_left hql]; exact hq
  have hol : (ofBytes x).length = x.length := by simp [ofBytes]
  have hle : x.length ≤ (ofBytes x).length := by omega
  have htk : (ofBytes x).take x.length = ofBytes x := List.take_of_length_le (by omega)
  have htb := toBytes_of x
  have hm1 : ∀ k : Nat, k * 1 = k := Nat.mul_one
  have q1 := fun H => trim_mark (ml := ml) Tryz.prog N (n + 4) (by omega) x [239, 187, 191] hx1 H
  have q2 := fun H => plain_text (ml := ml) Tryz.prog N n x hN (by omega) hp H
  have q3 := fun e H => must_t (P := Tryz.prog) (N := N) (ml := ml) (n + 4) (by omega) e H
  have hl : (cfg ml).lib 32 = some replLib := rfl
  have q4 : ∀ (r u : List UInt8) H, evFI Tryz.prog (cfg ml) T N (n + 4) 32 [.str x, .str (13 :: r), .str u] H = some (.ret (.str x), H) := fun r u H => by
    simp only [evFI, hl, repl_lib r u x (fun b hb => plainB_13 (hp b hb)) hs, Option.map_some]
  have q5 := fun H => hasPrefix_eq (P := Tryz.prog) (N := N) (ml := ml) (n + 4) (by omega) x [60, 63, 120, 109, 108] H
  rw [hx2] at q5
  have q6 := hM1 (H ++ [r27 [] [], rowE 0])
  simp only [List.length_append, List.length_cons, List.length_nil, Nat.zero_add, Nat.reduceAdd, List.append_assoc, List.cons_append, List.nil_append] at q6
  refine ⟨?t, ?g2, ?g3, ?g5, ?main⟩
  case main =>
    rw [read_split]
    apply evI_seq
    · simp only [pcR, IC.nb, IC.hd, I13, List.append_nil, List.nil_append, List.cons_append, List.getD_cons_zero, List.getD_cons_succ, evI, opsI, stepI, wantI, opI, AAct.evI, look, AAct.put, mkVal, mkVM, intOpA, intA, shiftA, unA, decide_true, decide_false, Option.map_some, Option.map_none, reduceIte, Nat.reduceEqDiff, Nat.reduceLT, Option.bind_some, Option.bind_none, true_and, and_true, and_self, Nat.zero_lt_succ, cellsAt, List.length_append, Nat.le_add_right, List.length_cons, List.length_nil, Nat.zero_add, Nat.add_zero, Nat.reduceAdd, Nat.reduceMul, Nat.zero_mul, AV.cells, AV.one, known, List.append_assoc, getE_0, getE_k, setE_0, setE_k, List.getElem?_cons_zero, List.getElem?_cons_succ, List.set_cons_zero, List.set_cons_succ, List.take_succ_cons, List.take_zero, List.drop_zero, List.drop_succ_cons, List.drop_nil, List.all_cons, List.all_nil, Bool.and_self, Bool.and_true, Bool.true_and, Bool.and_false, Bool.false_and, splice, fillI, Nat.reduceLeDiff, strA, Nat.add_assoc, beq_self_eq_true, Bool.false_eq_true, bq_ft, bq_tf, Bool.not_true, Bool.not_false, Nat.le_refl, List.map_cons, List.map_nil, isNilA, nilPtr, nilSl, nilIf, nilFn, nilMap, nilCheckA, if_true, if_false, lt_lit, le_lit, lt_lit2, le_lit2, le_sub1, le_sub2]; rfl
    apply evI_seq
    · simp only [pcR, IC.nb, IC.hd, I13, AAct.eval, exec_defer, List.append_nil, List.nil_append, List.cons_append, List.getD_cons_zero, List.getD_cons_succ, evI, opsI, stepI, wantI, opI, AAct.evI, look, AAct.put, mkVal, mkVM, intOpA, intA, shiftA, unA, decide_true, decide_false, Option.map_some, Option.map_none, reduceIte, Nat.reduceEqDiff, Nat.reduceLT, Option.bind_some, Option.bind_none, true_and, and_true, and_self, Nat.zero_lt_succ, cellsAt, List.length_append, Nat.le_add_right, List.length_cons, List.length_nil, Nat.zero_add, Nat.add_zero, Nat.reduceAdd, Nat.reduceMul, Nat.zero_mul, AV.cells, AV.one, known, List.append_assoc, getE_0, getE_k, setE_0, setE_k, List.getElem?_cons_zero, List.getElem?_cons_succ, List.set_cons_zero, List.set_cons_succ, List.take_succ_cons, List.take_zero, List.drop_zero, List.drop_succ_cons, List.drop_nil, List.all_cons, List.all_nil, Bool.and_self, Bool.and_true, Bool.true_and, Bool.and_false, Bool.false_and, splice, fillI, Nat.reduceLeDiff, strA, Nat.add_assoc, beq_self_eq_true, Bool.false_eq_true, bq_ft, bq_tf, Bool.not_true, Bool.not_false, Nat.le_refl, List.map_cons, List.map_nil, isNilA, nilPtr, nilSl, nilIf, nilFn, nilMap, nilCheckA, if_true, if_false, lt_lit, le_lit, lt_lit2, le_lit2, le_sub1, le_sub2]; rfl
    apply evI_seq
    · simp only [pcR, IC.nb, IC.hd, I13, held, hq2, hm1, hle, htk, htb, q1, List.append_nil, List.nil_append, List.cons_append, List.getD_cons_zero, List.getD_cons_succ, evI, opsI, stepI, wantI, opI, AAct.evI, look, AAct.put, mkVal, mkVM, intOpA, intA, shiftA, unA, decide_true, decide_false, Option.map_some, Option.map_none, reduceIte, Nat.reduceEqDiff, Nat.reduceLT, Option.bind_some, Option.bind_none, true_and, and_true, and_self, Nat.zero_lt_succ, cellsAt, List.length_append, Nat.le_add_right, List.length_cons, List.length_nil, Nat.zero_add, Nat.add_zero, Nat.reduceAdd, Nat.reduceMul, Nat.zero_mul, AV.cells, AV.one, known, List.append_assoc, getE_0, getE_k, setE_0, setE_k, List.getElem?_cons_zero, List.getElem?_cons_succ, List.set_cons_zero, List.set_cons_succ, List.take_succ_cons, List.take_zero, List.drop_zero, List.drop_succ_cons, List.drop_nil, List.all_cons, List.all_nil, Bool.and_self, Bool.and_true, Bool.true_and, Bool.and_false, Bool.false_and, splice, fillI, Nat.reduceLeDiff, strA, Nat.add_assoc, beq_self_eq_true, Bool.false_eq_true, bq_ft, bq_tf, Bool.not_true, Bool.not_false, Nat.le_refl, List.map_cons, List.map_nil, isNilA, nilPtr, nilSl, nilIf, nilFn, nilMap, nilCheckA, if_true, if_false, lt_lit, le_lit, lt_lit2, le_lit2, le_sub1, le_sub2]; rfl
    apply evI_seq
    · simp only [pcR, IC.nb, IC.hd, I13, q2, q3, List.append_nil, List.nil_append, List.cons_append, List.getD_cons_zero, List.getD_cons_succ, evI, opsI, stepI, wantI, opI, AAct.evI, look, AAct.put, mkVal, mkVM, intOpA, intA, shiftA, unA, decide_true, decide_false, Option.map_some, Option.map_none, reduceIte, Nat.reduceEqDiff, Nat.reduceLT, Option.bind_some, Option.bind_none, true_and, and_true, and_self, Nat.zero_lt_succ, cellsAt, List.length_append, Nat.le_add_right, List.length_cons, List.length_nil, Nat.zero_add, Nat.add_zero, Nat.reduceAdd, Nat.reduceMul, Nat.zero_mul, AV.cells, AV.one, known, List.append_assoc, getE_0, getE_k, setE_0, setE_k, List.getElem?_cons_zero, List.getElem?_cons_succ, List.set_cons_zero, List.set_cons_succ, List.take_succ_cons, List.take_zero, List.drop_zero, List.drop_succ_cons, List.drop_nil, List.all_cons, List.all_nil, Bool.and_self, Bool.and_true, Bool.true_and, Bool.and_false, Bool.false_and, splice, fillI, Nat.reduceLeDiff, strA, Nat.add_assoc, beq_self_eq_true, Bool.false_eq_true, bq_ft, bq_tf, Bool.not_true, Bool.not_false, Nat.le_refl, List.map_cons, List.map_nil, isNilA, nilPtr, nilSl, nilIf, nilFn, nilMap, nilCheckA, if_true, if_false, lt_lit, le_lit, lt_lit2, le_lit2, le_sub1, le_sub2]; rfl
    apply evI_seq (H' := H ++ [r27 [] [], rowE 0, rdr x 0 0])
    · simp only [pcR, IC.nb, IC.hd, I13, q4, rdr, List.append_nil, List.nil_append, List.cons_append, List.getD_cons_zero, List.getD_cons_succ, evI, opsI, stepI, wantI, opI, AAct.evI, look, AAct.put, mkVal, mkVM, intOpA, intA, shiftA, unA, decide_true, decide_false, Option.map_some, Option.map_none, reduceIte, Nat.reduceEqDiff, Nat.reduceLT, Option.bind_some, Option.bind_none, true_and, and_true, and_self, Nat.zero_lt_succ, cellsAt, List.length_append, Nat.le_add_right, List.length_cons, List.length_nil, Nat.zero_add, Nat.add_zero, Nat.reduceAdd, Nat.reduceMul, Nat.zero_mul, AV.cells, AV.one, known, List.append_assoc, getE_0, getE_k, setE_0, setE_k, List.getElem?_cons_zero, List.getElem?_cons_succ, List.set_cons_zero, List.set_cons_succ, List.take_succ_cons, List.take_zero, List.drop_zero, List.drop_succ_cons, List.drop_nil, List.all_cons, List.all_nil, Bool.and_self, Bool.and_true, Bool.true_and, Bool.and_false, Bool.false_and, splice, fillI, Nat.reduceLeDiff, strA, Nat.add_assoc, beq_self_eq_true, Bool.false_eq_true, bq_ft, bq_tf, Bool.not_true, Bool.not_false, Nat.le_refl, List.map_cons, List.map_nil, isNilA, nilPtr, nilSl, nilIf, nilFn, nilMap, nilCheckA, if_true, if_false, lt_lit, le_lit, lt_lit2, le_lit2, le_sub1, le_sub2]; rfl
    apply evI_seq (H' := H ++ [r27 [] [], rowE 0, rdr x 0 0])
    · simp only [pcR, IC.nb, IC.hd, I13, rdr, q5, List.append_nil, List.nil_append, List.cons_append, List.getD_cons_zero, List.getD_cons_succ, evI, opsI, stepI, wantI, opI, AAct.evI, look, AAct.put, mkVal, mkVM, intOpA, intA, shiftA, unA, decide_true, decide_false, Option.map_some, Option.map_none, reduceIte, Nat.reduceEqDiff, Nat.reduceLT, Option.bind_some, Option.bind_none, true_and, and_true, and_self, Nat.zero_lt_succ, cellsAt, List.length_append, Nat.le_add_right, List.length_cons, List.length_nil, Nat.zero_add, Nat.add_zero, Nat.reduceAdd, Nat.reduceMul, Nat.zero_mul, AV.cells, AV.one, known, List.append_assoc, getE_0, getE_k, setE_0, setE_k, List.getElem?_cons_zero, List.getElem?_cons_succ, List.set_cons_zero, List.set_cons_succ, List.take_succ_cons, List.take_zero, List.drop_zero, List.drop_succ_cons, List.drop_nil, List.all_cons, List.all_nil, Bool.and_self, Bool.and_true, Bool.true_and, Bool.and_false, Bool.false_and, splice, fillI, Nat.reduceLeDiff, strA, Nat.add_assoc, beq_self_eq_true, Bool.false_eq_true, bq_ft, bq_tf, Bool.not_true, Bool.not_false, Nat.le_refl, List.map_cons, List.map_nil, isNilA, nilPtr, nilSl, nilIf, nilFn, nilMap, nilCheckA, if_true, if_false, lt_lit, le_lit, lt_lit2, le_lit2, le_sub1, le_sub2]; rfl
    apply evI_seq
    · simp only [pcR, IC.nb, IC.hd, I13, q6, List.append_nil, List.nil_append, List.cons_append, List.getD_cons_zero, List.getD_cons_succ, evI, opsI, stepI, wantI, opI, AAct.evI, look, AAct.put, mkVal, mkVM, intOpA, intA, shiftA, unA, decide_true, decide_false, Option.map_some, Option.map_none, reduceIte, Nat.reduceEqDiff, Nat.reduceLT, Option.bind_some, Option.bind_none, true_and, and_true, and_self, Nat.zero_lt_succ, cellsAt, List.length_append, Nat.le_add_right, List.length_cons, List.length_nil, Nat.zero_add, Nat.add_zero, Nat.reduceAdd, Nat.reduceMul, Nat.zero_mul, AV.cells, AV.one, known, List.append_assoc, getE_0, getE_k, setE_0, setE_k, List.getElem?_cons_zero, List.getElem?_cons_succ, List.set_cons_zero, List.set_cons_succ, List.take_succ_cons, List.take_zero, List.drop_zero, List.drop_succ_cons, List.drop_nil, List.all_cons, List.all_nil, Bool.and_self, Bool.and_true, Bool.true_and, Bool.and_false, Bool.false_and, splice, fillI, Nat.reduceLeDiff, strA, Nat.add_assoc, beq_self_eq_true, Bool.false_eq_true, bq_ft, bq_tf, Bool.not_true, Bool.not_false, Nat.le_refl, List.map_cons, List.map_nil, isNilA, nilPtr, nilSl, nilIf, nilFn, nilMap, nilCheckA, if_true, if_false, lt_lit, le_lit, lt_lit2, le_lit2, le_sub1, le_sub2]; rfl
    rfl
  case g2 => rfl
  case g3 => rfl
  case g5 => rfl
theorem read_ok (hn : 4 ≤ n) (sp nm tx : List UInt8) (at2 many kn an : Nat) (ac kc : List AV) (hac : lowL 0 ac = true) (hkc : lowL 0 kc = true)
    (hE : ∀ A : Mem, LoM A [scope1 nsX] → evFI Tryz.prog (cfg ml) T N n 38 [.ptr A.length 0 0, .map (A.length + 1), .int .i64 0] (A ++ rdr x at1 0 :: [scope1 nsX]) = some (.ret (.agg [.str sp, .str nm, .str tx, .lst an ac, .lst kn kc]), A ++ rdr x at2 many :: [scope1 nsX]))
    (hM2 : ∀ A B : Mem, evFI Tryz.prog (cfg ml) T N n 37 [.ptr A.length 0 0, .bool false] (A ++ rdr x at2 many :: B) = some (.ret (.tup []), A ++ rdr x x.length many :: B)) (hlo : lowM H.length H = true) :
    evFI Tryz.prog (cfg ml) T N (n + 1) 13 [.slc q 0 x.length 1 0] H = some (.ret (.tup [.agg [.str sp, .str nm, .str tx, .lst an ac, .lst kn kc], .int .i64 0]), H) := by
  obtain ⟨t, l2, l3, l5, hpre⟩ := read_pre (ml := ml) x hs hN hp n q ty H hq hx1 hx2 at1 hM1 hn
  have hlA : LoM (H ++ [r27 [] [], rowE 0]) [scope1 nsX] := by
    refine ⟨?_, rfl⟩
    unfold lowM at *
    rw [List.all_append, List.all_eq_true.2 fun y hy => lowB_mono (by simp; omega) (List.all_eq_true.1 hlo y hy)]
    rfl
  have q1 := hE (H ++ [r27 [] [], rowE 0]) hlA
  have q2 := hM2 (H ++ [.row [.str sp, .str nm, .str tx, .lst an ac, .lst kn kc] 0 (27 + 1), rowE 0]) [scope1 nsX]
  have q3 := fun e H => must_t (P := Tryz.prog) (N := N) (ml := ml) n (by omega) e H
  have hbq : ((x.length : Int) == (x.length : Int)) = true := beq_self_eq_true _
  simp only [nsX, List.length_append, List.length_cons, List.length_nil, Nat.zero_add, Nat.add_assoc, Nat.reduceAdd, List.append_assoc, List.cons_append, List.nil_append] at q1 q2
  have hac' : ∀ j, lowL j ac = true := fun j => pureL_low hac j
  have hkc' : ∀ j, lowL j kc = true := fun j => pureL_low hkc j
  have hT : T 29 = some I29 := t29
  refine evF_retD (m := 51) (a := ?aa) (H1 := H ++ [.row [.str sp, .str nm, .str tx, .lst an ac, .lst kn kc] 0 (27 + 1), rowE 0, rdr x x.length many, scope1 nsX]) rfl t13 rfl ?hb ?hd ?hz
  case hb =>
    refine hpre.trans ?_
    apply evI_seq
    · simp only [pcR, IC.nb, IC.hd, I13, l2, l5, updateD, findA, isKey, mkM, q1, List.append_nil, List.nil_append, List.cons_append, List.getD_cons_zero, List.getD_cons_succ, evI, opsI, stepI, wantI, opI, AAct.evI, look, AAct.put, mkVal, mkVM, intOpA, intA, shiftA, unA, decide_true, decide_false, Option.map_some, Option.map_none, reduceIte, Nat.reduceEqDiff, Nat.reduceLT, Option.bind_some, Option.bind_none, true_and, and_true, and_self, Nat.zero_lt_succ, cellsAt, List.length_append, Nat.le_add_right, List.length_cons, List.length_nil, Nat.zero_add, Nat.add_zero, Nat.reduceAdd, Nat.reduceMul, Nat.zero_mul, AV.cells, AV.one, known, List.append_assoc, getE_0, getE_k, setE_0, setE_k, List.getElem?_cons_zero, List.getElem?_cons_succ, List.set_cons_zero, List.set_cons_succ, List.take_succ_cons, List.take_zero, List.drop_zero, List.drop_succ_cons, List.drop_nil, List.all_cons, List.all_nil, Bool.and_self, Bool.and_true, Bool.true_and, Bool.and_false, Bool.false_and, splice, fillI, Nat.reduceLeDiff, strA, Nat.add_assoc, beq_self_eq_true, Bool.false_eq_true, bq_ft, bq_tf, Bool.not_true, Bool.not_false, Nat.le_refl, List.map_cons, List.map_nil, isNilA, nilPtr, nilSl, nilIf, nilFn, nilMap, nilCheckA, if_true, if_false, lt_lit, le_lit, lt_lit2, le_lit2, le_sub1, le_sub2]; rfl
    apply evI_seq
    · simp only [pcR, IC.nb, IC.hd, I13, l5, q2, List.append_nil, List.nil_append, List.cons_append, List.getD_cons_zero, List.getD_cons_succ, evI, opsI, stepI, wantI, opI, AAct.evI, look, AAct.put, mkVal, mkVM, intOpA, intA, shiftA, unA, decide_true, decide_false, Option.map_some, Option.map_none, reduceIte, Nat.reduceEqDiff, Nat.reduceLT, Option.bind_some, Option.bind_none, true_and, and_true, and_self, Nat.zero_lt_succ, cellsAt, List.length_append, Nat.le_add_right, List.length_cons, List.length_nil, Nat.zero_add, Nat.add_zero, Nat.reduceAdd, Nat.reduceMul, Nat.zero_mul, AV.cells, AV.one, known, List.append_assoc, getE_0, getE_k, setE_0, setE_k, List.getElem?_cons_zero, List.getElem?_cons_succ, List.set_cons_zero, List.set_cons_succ, List.take_succ_cons, List.take_zero, List.drop_zero, List.drop_succ_cons, List.drop_nil, List.all_cons, List.all_nil, Bool.and_self, Bool.and_true, Bool.true_and, Bool.and_false, Bool.false_and, splice, fillI, Nat.reduceLeDiff, strA, Nat.add_assoc, beq_self_eq_true, Bool.false_eq_true, bq_ft, bq_tf, Bool.not_true, Bool.not_false, Nat.le_refl, List.map_cons, List.map_nil, isNilA, nilPtr, nilSl, nilIf, nilFn, nilMap, nilCheckA, if_true, if_false, lt_lit, le_lit, lt_lit2, le_lit2, le_sub1, le_sub2]; rfl
    apply evI_seq
    · simp only [pcR, IC.nb, IC.hd, I13, rdr, l5, hbq, q3, List.append_nil, List.nil_append, List.cons_append, List.getD_cons_zero, List.getD_cons_succ, evI, opsI, stepI, wantI, opI, AAct.evI, look, AAct.put, mkVal, mkVM, intOpA, intA, shiftA, unA, decide_true, decide_false, Option.map_some, Option.map_none, reduceIte, Nat.reduceEqDiff, Nat.reduceLT, Option.bind_some, Option.bind_none, true_and, and_true, and_self, Nat.zero_lt_succ, cellsAt, List.length_append, Nat.le_add_right, List.length_cons, List.length_nil, Nat.zero_add, Nat.add_zero, Nat.reduceAdd, Nat.reduceMul, Nat.zero_mul, AV.cells, AV.one, known, List.append_assoc, getE_0, getE_k, setE_0, setE_k, List.getElem?_cons_zero, List.getElem?_cons_succ, List.set_cons_zero, List.set_cons_succ, List.take_succ_cons, List.take_zero, List.drop_zero, List.drop_succ_cons, List.drop_nil, List.all_cons, List.all_nil, Bool.and_self, Bool.and_true, Bool.true_and, Bool.and_false, Bool.false_and, splice, fillI, Nat.reduceLeDiff, strA, Nat.add_assoc, beq_self_eq_true, Bool.false_eq_true, bq_ft, bq_tf, Bool.not_true, Bool.not_false, Nat.le_refl, List.map_cons, List.map_nil, isNilA, nilPtr, nilSl, nilIf, nilFn, nilMap, nilCheckA, if_true, if_false, lt_lit, le_lit, lt_lit2, le_lit2, le_sub1, le_sub2, drawI, drawI2, drawI0, drawI20, lexD, valD, valI, putD, okD, roD, memAt, lastM, wantI, eqv_refl, eqM_refl, eqM_app, eqB, eqvL, eqv, List.getLast?_cons_cons, List.getLast?_singleton, Option.getD_some, Bool.or_true, Bool.true_or, beq_self_eq_true, resvV]; rfl
    apply evI_seq
    · simp only [pcR, IC.nb, IC.hd, I13, l2, l3, List.append_nil, List.nil_append, List.cons_append, List.getD_cons_zero, List.getD_cons_succ, evI, opsI, stepI, wantI, opI, AAct.evI, look, AAct.put, mkVal, mkVM, intOpA, intA, shiftA, unA, decide_true, decide_false, Option.map_some, Option.map_none, reduceIte, Nat.reduceEqDiff, Nat.reduceLT, Option.bind_some, Option.bind_none, true_and, and_true, and_self, Nat.zero_lt_succ, cellsAt, List.length_append, Nat.le_add_right, List.length_cons, List.length_nil, Nat.zero_add, Nat.add_zero, Nat.reduceAdd, Nat.reduceMul, Nat.zero_mul, AV.cells, AV.one, known, List.append_assoc, getE_0, getE_k, setE_0, setE_k, List.getElem?_cons_zero, List.getElem?_cons_succ, List.set_cons_zero, List.set_cons_succ, List.take_succ_cons, List.take_zero, List.drop_zero, List.drop_succ_cons, List.drop_nil, List.all_cons, List.all_nil, Bool.and_self, Bool.and_true, Bool.true_and, Bool.and_false, Bool.false_and, splice, fillI, Nat.reduceLeDiff, strA, Nat.add_assoc, beq_self_eq_true, Bool.false_eq_true, bq_ft, bq_tf, Bool.not_true, Bool.not_false, Nat.le_refl, List.map_cons, List.map_nil, isNilA, nilPtr, nilSl, nilIf, nilFn, nilMap, nilCheckA, if_true, if_false, lt_lit, le_lit, lt_lit2, le_lit2, le_sub1, le_sub2]; rfl
    rfl
  case hd => rfl
  case hz =>
    have hk : (cfg ml).keep 13 = false := rfl
    have hmax : max 2 14 = 14 := rfl
    simp only [hmax, takeE_0, takeS, eqM_refl, tailI, defI, hT, I29, I13, resI, resLI, Option.getD_none, List.length_cons, List.length_nil, idx, hk, l2, l3, List.isEmpty_nil, finish, frz, frzL, low, lowL, hac', hkc', mayCut, List.append_nil, List.nil_append, List.cons_append, List.getD_cons_zero, List.getD_cons_succ, evI, opsI, stepI, wantI, opI, AAct.evI, look, AAct.put, mkVal, mkVM, intOpA, intA, shiftA, unA, decide_true, decide_false, Option.map_some, Option.map_none, reduceIte, Nat.reduceEqDiff, Nat.reduceLT, Option.bind_some, Option.bind_none, true_and, and_true, and_self, Nat.zero_lt_succ, cellsAt, List.length_append, Nat.le_add_right, List.length_cons, List.length_nil, Nat.zero_add, Nat.add_zero, Nat.reduceAdd, Nat.reduceMul, Nat.zero_mul, AV.cells, AV.one, known, List.append_assoc, getE_0, getE_k, setE_0, setE_k, List.getElem?_cons_zero, List.getElem?_cons_succ, List.set_cons_zero, List.set_cons_succ, List.take_succ_cons, List.take_zero, List.drop_zero, List.drop_succ_cons, List.drop_nil, List.all_cons, List.all_nil, Bool.and_self, Bool.and_true, Bool.true_and, Bool.and_false, Bool.false_and, splice, fillI, Nat.reduceLeDiff, strA, Nat.add_assoc, beq_self_eq_true, Bool.false_eq_true, bq_ft, bq_tf, Bool.not_true, Bool.not_false, Nat.le_refl, List.map_cons, List.map_nil, isNilA, nilPtr, nilSl, nilIf, nilFn, nilMap, nilCheckA, if_true, if_false, lt_lit, le_lit, lt_lit2, le_lit2, le_sub1, le_sub2]
    rfl
theorem read_pan (hn : 4 ≤ n) (er : Int) (hE : ∀ A : Mem, LoM A [scope1 nsX] → ∃ M, evFI Tryz.prog (cfg ml) T N n 38 [.ptr A.length 0 0, .map (A.length + 1), .int .i64 0] (A ++ rdr x at1 0 :: [scope1 nsX]) = some (.pan (failv er), M) ∧ M.take A.length = A) (hlo : lowM H.length H = true) :
    evFI Tryz.prog (cfg ml) T N (n + 1) 13 [.slc q 0 x.length 1 0] H = some (.ret (.tup [.agg [.str [], .str [], .str [], .lst 0 [], .lst 0 []], .int .i64 er]), H) := by
  obtain ⟨t, l2, l3, l5, hpre⟩ := read_pre (ml := ml) x hs hN hp n q ty H hq hx1 hx2 at1 hM1 hn
  have hlA : LoM (H ++ [r27 [] [], rowE 0]) [scope1 nsX] := by
    refine ⟨?_, rfl⟩
    unfold lowM at *
    rw [List.all_append, List.all_eq_true.2 fun y hy => lowB_mono (by simp; omega) (List.all_eq_true.1 hlo y hy)]
    rfl
  obtain ⟨M, q1, hMA⟩ := hE (H ++ [r27 [] [], rowE 0]) hlA
  have hM : M = H ++ r27 [] [] :: rowE 0 :: M.drop (H.length + 2) := by
    have h := List.take_append_drop (H ++ [r27 [] [], rowE 0]).length M
    rw [hMA] at h
    rw [← h]
    simp
  generalize M.drop (H.length + 2) = L at hM
  subst hM
  simp only [nsX, List.length_append, List.length_cons, List.length_nil, Nat.zero_add, Nat.add_assoc, Nat.reduceAdd, List.append_assoc, List.cons_append, List.nil_append] at q1
  have hT : T 29 = some I29 := t29
  refine evF_panD (m := 51) (v := failv er) (a := ?aa) (H1 := H ++ r27 [] [] :: rowE 0 :: L) rfl t13 rfl ?hb ?hd ?hz
  case hb =>
    refine hpre.trans ?_
    apply evI_seq_pan
    simp only [pcR, IC.nb, IC.hd, I13, l2, l5, updateD, findA, isKey, mkM, q1, List.append_nil, List.nil_append, List.cons_append, List.getD_cons_zero, List.getD_cons_succ, evI, opsI, stepI, wantI, opI, AAct.evI, look, AAct.put, mkVal, mkVM, intOpA, intA, shiftA, unA, decide_true, decide_false, Option.map_some, Option.map_none, reduceIte, Nat.reduceEqDiff, Nat.reduceLT, Option.bind_some, Option.bind_none, true_and, and_true, and_self, Nat.zero_lt_succ, cellsAt, List.length_append, Nat.le_add_right, List.length_cons, List.length_nil, Nat.zero_add, Nat.add_zero, Nat.reduceAdd, Nat.reduceMul, Nat.zero_mul, AV.cells, AV.one, known, List.append_assoc, getE_0, getE_k, setE_0, setE_k, List.getElem?_cons_zero, List.getElem?_cons_succ, List.set_cons_zero, List.set_cons_succ, List.take_succ_cons, List.take_zero, List.drop_zero, List.drop_succ_cons, List.drop_nil, List.all_cons, List.all_nil, Bool.and_self, Bool.and_true, Bool.true_and, Bool.and_false, Bool.false_and, splice, fillI, Nat.reduceLeDiff, strA, Nat.add_assoc, beq_self_eq_true, Bool.false_eq_true, bq_ft, bq_tf, Bool.not_true, Bool.not_false, Nat.le_refl, List.map_cons, List.map_nil, isNilA, nilPtr, nilSl, nilIf, nilFn, nilMap, nilCheckA, if_true, if_false, lt_lit, le_lit, lt_lit2, le_lit2, le_sub1, le_sub2]; rfl
  case hd => rfl
  case hz =>
    have hk : (cfg ml).keep 13 = false := rfl
    have hmax : max 2 14 = 14 := rfl
    have e55 : (55 = 55) = True := by simp
    simp only [hmax, failv, assertD, e55, takeE_0, takeS, eqM_refl, tailI, defI, hT, I29, I13, resI, resLI, Option.getD_some, List.length_cons, List.length_nil, idx, hk, l2, l3, List.isEmpty_nil, finish, frz, frzL, low, lowL, mayCut, List.append_nil, List.nil_append, List.cons_append, List.getD_cons_zero, List.getD_cons_succ, evI, opsI, stepI, wantI, opI, AAct.evI, look, AAct.put, mkVal, mkVM, intOpA, intA, shiftA, unA, decide_true, decide_false, Option.map_some, Option.map_none, reduceIte, Nat.reduceEqDiff, Nat.reduceLT, Option.bind_some, Option.bind_none, true_and, and_true, and_self, Nat.zero_lt_succ, cellsAt, List.length_append, Nat.le_add_right, List.length_cons, List.length_nil, Nat.zero_add, Nat.add_zero, Nat.reduceAdd, Nat.reduceMul, Nat.zero_mul, AV.cells, AV.one, known, List.append_assoc, getE_0, getE_k, setE_0, setE_k, List.getElem?_cons_zero, List.getElem?_cons_succ, List.set_cons_zero, List.set_cons_succ, List.take_succ_cons, List.take_zero, List.drop_zero, List.drop_succ_cons, List.drop_nil, List.all_cons, List.all_nil, Bool.and_self, Bool.and_true, Bool.true_and, Bool.and_false, Bool.false_and, splice, fillI, Nat.reduceLeDiff, strA, Nat.add_assoc, beq_self_eq_true, Bool.false_eq_true, bq_ft, bq_tf, Bool.not_true, Bool.not_false, Nat.le_refl, List.map_cons, List.map_nil, isNilA, nilPtr, nilSl, nilIf, nilFn, nilMap, nilCheckA, if_true, if_false, lt_lit, le_lit, lt_lit2, le_lit2, le_sub1, le_sub2, drawI, drawI2, drawI0, drawI20, lexD, valD, valI, putD, okD, roD, memAt, lastM, wantI, eqv_refl, eqM_refl, eqM_app, eqB, eqvL, eqv, List.getLast?_cons_cons, List.getLast?_singleton, Option.getD_some, Bool.or_true, Bool.true_or, beq_self_eq_true, resvV]
end
theorem known_ok (P : Program) (N d : Nat) (hd : 1 ≤ d) (H : Mem) : evFI P (cfg ml) T N d 17 [] H = some (.ret (.bool true), H) := by
  obtain ⟨n, rfl⟩ : ∃ k, d = k + 1 := ⟨d - 1, by omega⟩
  have hl : (cfg ml).lib 17 = some trueLib := rfl
  simp only [evFI, hl, trueLib, Option.map_some]
theorem ofBytes_low (n : Nat) : ∀ s : List UInt8, lowL n (ofBytes s) = true
  | [] => rfl
  | b :: s => by
    have ih := ofBytes_low n s
    unfold ofBytes at *
    simp only [List.map_cons, lowL, low, Bool.true_and, ih]
section
variable {N : Nat}
variable (s : List UInt8) (hs : s.length < 4294967281) (hN : s.length < N)
include hs hN
end
abbrev rowL (v : AV) : Blk := .row [v] 0 (25 + 1)
abbrev rowB : Blk := .row [.nilP, .nilS] 0 (104 + 1)
abbrev rowC (cs : List AV) : Blk := .row cs 0 (27 + 1)
noncomputable def loopCt : IC := (I67.c.loops).getD 0 .bad
theorem re_keep {l : List Tmp} {a : AAct} {H H' : Mem} {b : Blk} (hb : b ∈ H'.take H.length) (hl : lowB H.length b = false) (hn : H'.take H.length ≠ H) : roundEnd (some l) H a H' = (a.keepT l, H') := by
  have h1 : lowM H.length (H'.take H.length) = false := by
    cases h : lowM H.length (H'.take H.length) with
    | false => rfl
    | true =>
      unfold lowM at h
      rw [List.all_eq_true.1 h b hb] at hl; cases hl
  have h2 : eqM (H'.take H.length) H = false := by
    cases h : eqM (H'.take H.length) H with
    | false => rfl
    | true => exact absurd (eqM_eq h) hn
  unfold roundEnd
  simp only [mayCut, h1, h2, Bool.or_self, Bool.and_false, Bool.false_eq_true, if_false]
theorem eqM_app2 : ∀ (A X Y : Mem), eqM (A ++ X) (A ++ Y) = eqM X Y
  | [], X, Y => rfl
  | b :: A, X, Y => by
    simp only [List.cons_append, eqM, eqB_refl, Bool.true_and]
    exact eqM_app2 A X Y
theorem okD_at {ro : Nat → Mem → Bool} : ∀ {l : List ID} {tr : List (AV × Mem)} {H : Mem}, okD ro l tr H = true → ∀ (k : Nat) d p, l[k]? = some d → tr[k]? = some p → (d.free || eqM p.2 (memAt tr H k) || d.conf.all fun q => ro q (memAt tr H k) && ro q p.2) = true
  | [], _, _, _, k, d, p, h, _ => by simp at h
  | _ :: _, [], _, _, k, d, p, _, h => by simp at h
  | x :: l, (v, H') :: tr, H, h, k, d, p, h1, h2 => by
    simp only [okD, Bool.and_eq_true] at h
    cases k with
    | zero => simp at h1 h2; subst h1 h2; exact h.1
    | succ k =>
      have := okD_at h.2 k d p (by simpa using h1) (by simpa using h2)
      have e3 : memAt ((v, H') :: tr) H (k + 1) = memAt tr H' k := by cases k <;> simp [memAt]
      rw [e3]; exact this
theorem okD_all {ro : Nat → Mem → Bool} : ∀ {l : List ID} {tr : List (AV × Mem)} {H : Mem}, (∀ (k : Nat) d p, l[k]? = some d → tr[k]? = some p → (d.free || eqM p.2 (memAt tr H k) || d.conf.all fun q => ro q (memAt tr H k) && ro q p.2) = true) → okD ro l tr H = true
  | [], _, _, _ => by simp [okD]
  | _ :: _, [], _, _ => by simp [okD]
  | x :: l, (v, H') :: tr, H, h => by
    simp only [okD, Bool.and_eq_true]
    refine ⟨h 0 x (v, H') rfl rfl, okD_all fun k d p h1 h2 => ?_⟩
    have := h (k + 1) d p (by simpa using h1) (by simpa using h2)
    have e3 : memAt ((v, H') :: tr) H (k + 1) = memAt tr H' k := by cases k <;> simp [memAt]
    rw [e3] at this; exact this
theorem drawI2_of {P : Program} {g : Cfg} {F : FSem} {n x y : Nat} {l : List ID} {a : AAct} {H : Mem} {tr : List (AV × Mem)} (hl : lexD P g F n l a H = some tr) (h1 : okD (roD P g F n l a H tr) l tr H = false) (h2 : okD (roD P g F n l a H (cutT tr (memAt tr H x) x)) l (cutT tr (memAt tr H x) x) H = true) (h3 : swapD P g F n x y l a H tr = true) :
    drawI2 P g F n x y l a H = some (.normal, putD l tr a, lastM tr H) := by
  unfold drawI2 drawI20
  simp only [hl, Option.bind_some, h1, h2, h3, Bool.false_eq_true, if_false, Bool.and_self, if_true]
abbrev ctS (A B : Mem) (mi dp : Nat) : List (Nat × AV) := [(0, .ptr A.length 0 0), (1, .map mi), (2, .int .i64 (dp : Nat)), (7, .ptr (A.length + (B.length + 1)) 0 0), (8, .ptr (A.length + (B.length + 2)) 0 0), (9, .fn (.func 94) [.ptr (A.length + (B.length + 2)) 0 0, .ptr (A.length + (B.length + 1)) 0 0])]
noncomputable def regCt : List ID := [⟨⟨none, (some 68), .load1 (.tmp 7)⟩, none, true, [], []⟩, ⟨⟨none, (some 69), .mov (.tmp 0)⟩, none, true, [], []⟩, ⟨⟨none, (some 70), .mov (.tmp 1)⟩, none, true, [], []⟩, ⟨⟨none, (some 71), .mov (.tmp 2)⟩, none, true, [], []⟩, ⟨⟨none, (some 72), .bin .add (.tmp 71) (.lit (.int .i64 (1)))⟩, none, true, [], []⟩, ⟨⟨none, (some 73), .call 38 [(.tmp 69), (.tmp 70), (.tmp 72)]⟩, none, false, [0, 6, 7], [6, 7]⟩, ⟨⟨none, (some 74), .lenL (.tmp 68)⟩, none, true, [], []⟩, ⟨⟨none, (some 75), .mov (.lit (.bad))⟩, (some (0, 27, [.str [], .str [], .str [], .nilS, .nilS], some (1, 5))), true, [], []⟩, ⟨⟨none, (some 76), .app 27 5 (.tmp 68) (.tmp 75)⟩, none, true, [], []⟩, ⟨⟨none, (some 77), .iaddr 5 (.tmp 76) (.tmp 74)⟩, none, true, [], []⟩, ⟨⟨none, none, .store 5 (.tmp 77) (.tmp 73)⟩, none, false, [11], []⟩, ⟨⟨none, none, .store 1 (.tmp 7) (.tmp 76)⟩, none, false, [10], []⟩]
abbrev regT (A B : Mem) (mi dp : Nat) (ec : List AV) (t : List (Nat × AV)) : List (Nat × AV) := (77, .ptr (A.length + (B.length + 4)) 0 0) :: (76, .slc (A.length + (B.length + 4)) 0 1 5 0) :: (75, .slc (A.length + (B.length + 3)) 0 1 5 0) :: (74, .int .i64 0) :: (73, .agg ec) :: (72, .int .i64 ((dp + 1 : Nat) : Int)) :: (71, .int .i64 (dp : Nat)) :: (70, .map mi) :: (69, .ptr A.length 0 0) :: (68, .nilS) :: t
section
variable {P : Program} {N : Nat}
variable (s : List UInt8)
theorem reg_ok (F : FSem) (at_ many : Nat) (A B : Mem) (mi dp : Nat) (hdp : dp ≤ 1000) (at2 many2 : Nat) (c0 c1 c2 : List UInt8) (an kn : Nat) (ac kc : List AV) (t : List (Nat × AV)) (l0 : look t 0 = .ptr A.length 0 0) (l1 : look t 1 = .map mi) (l2 : look t 2 = .int .i64 (dp : Nat)) (l7 : look t 7 = .ptr (A.length + (B.length + 1)) 0 0)
    (hE : F 38 [.ptr A.length 0 0, .map mi, .int .i64 ((dp + 1 : Nat) : Int)] (A ++ rdr s at_ many :: (B ++ [rowL .nilS, rowB, r27 [] []])) = some (.ret (.agg [.str c0, .str c1, .str c2, .lst an ac, .lst kn kc]), A ++ rdr s at2 many2 :: (B ++ [rowL .nilS, rowB, r27 [] []]))) :
    drawI2 P (cfg ml) F (A.length + (B.length + 3)) 10 11 regCt ⟨87, t, []⟩ (A ++ rdr s at_ many :: (B ++ [rowL .nilS, rowB, r27 [] []])) = some (.normal, ⟨87, regT A B mi dp [.str c0, .str c1, .str c2, .lst an ac, .lst kn kc] t, []⟩, A ++ rdr s at2 many2 :: (B ++ [rowL (.slc (A.length + (B.length + 4)) 0 1 5 0), rowB, r27 [] [], rowC [.str c0, .str c1, .str c2, .lst an ac, .lst kn kc]])) := by
  have w : IntKind.wrap .i64 ((dp : Int) + 1) = ((dp + 1 : Nat) : Int) := by rw [wrap64] <;> omega
  have n0 : natOf (.int .i64 0) = some 0 := rfl
  have hp34 : (1 : Nat) ≤ 2 ^ 34 := by decide
  generalize hM0 : A ++ rdr s at_ many :: (B ++ [rowL .nilS, rowB, r27 [] []]) = M0 at *
  generalize hM1 : A ++ rdr s at2 many2 :: (B ++ [rowL .nilS, rowB, r27 [] []]) = M1 at *
  have g0 : M0[A.length + (B.length + 1)]? = some (rowL .nilS) := by subst hM0; simp only [List.append_nil, List.nil_append, List.cons_append, List.getD_cons_zero, List.getD_cons_succ, evI, opsI, stepI, wantI, opI, AAct.evI, look, AAct.put, mkVal, mkVM, intOpA, intA, shiftA, unA, decide_true, decide_false, Option.map_some, Option.map_none, reduceIte, Nat.reduceEqDiff, Nat.reduceLT, Option.bind_some, Option.bind_none, true_and, and_true, and_self, Nat.zero_lt_succ, cellsAt, List.length_append, Nat.le_add_right, List.length_cons, List.length_nil, Nat.zero_add, Nat.add_zero, Nat.reduceAdd, Nat.reduceMul, Nat.zero_mul, AV.cells, AV.one, known, List.append_assoc, getE_0, getE_k, setE_0, setE_k, List.getElem?_cons_zero, List.getElem?_cons_succ, List.set_cons_zero, List.set_cons_succ, List.take_succ_cons, List.take_zero, List.drop_zero, List.drop_succ_cons, List.drop_nil, List.all_cons, List.all_nil, Bool.and_self, Bool.and_true, Bool.true_and, Bool.and_false, Bool.false_and, splice, fillI, Nat.reduceLeDiff, strA, Nat.add_assoc, beq_self_eq_true, Bool.false_eq_true, bq_ft, bq_tf, Bool.not_true, Bool.not_false, Nat.le_refl, List.map_cons, List.map_nil, isNilA, nilPtr, nilSl, nilIf, nilFn, nilMap, nilCheckA, if_true, if_false, lt_lit, le_lit, lt_lit2, le_lit2, le_sub1, le_sub2]
  have g1 : M1[A.length + (B.length + 1)]? = some (rowL .nilS) := by subst hM1; simp only [List.append_nil, List.nil_append, List.cons_append, List.getD_cons_zero, List.getD_cons_succ, evI, opsI, stepI, wantI, opI, AAct.evI, look, AAct.put, mkVal, mkVM, intOpA, intA, shiftA, unA, decide_true, decide_false, Option.map_some, Option.map_none, reduceIte, Nat.reduceEqDiff, Nat.reduceLT, Option.bind_some, Option.bind_none, true_and, and_true, and_self, Nat.zero_lt_succ, cellsAt, List.length_append, Nat.le_add_right, List.length_cons, List.length_nil, Nat.zero_add, Nat.add_zero, Nat.reduceAdd, Nat.reduceMul, Nat.zero_mul, AV.cells, AV.one, known, List.append_assoc, getE_0, getE_k, setE_0, setE_k, List.getElem?_cons_zero, List.getElem?_cons_succ, List.set_cons_zero, List.set_cons_succ, List.take_succ_cons, List.take_zero, List.drop_zero, List.drop_succ_cons, List.drop_nil, List.all_cons, List.all_nil, Bool.and_self, Bool.and_true, Bool.true_and, Bool.and_false, Bool.false_and, splice, fillI, Nat.reduceLeDiff, strA, Nat.add_assoc, beq_self_eq_true, Bool.false_eq_true, bq_ft, bq_tf, Bool.not_true, Bool.not_false, Nat.le_refl, List.map_cons, List.map_nil, isNilA, nilPtr, nilSl, nilIf, nilFn, nilMap, nilCheckA, if_true, if_false, lt_lit, le_lit, lt_lit2, le_lit2, le_sub1, le_sub2]
  have k0 : M0[A.length + (B.length + 3)]? = some (r27 [] []) := by subst hM0; simp only [List.append_nil, List.nil_append, List.cons_append, List.getD_cons_zero, List.getD_cons_succ, evI, opsI, stepI, wantI, opI, AAct.evI, look, AAct.put, mkVal, mkVM, intOpA, intA, shiftA, unA, decide_true, decide_false, Option.map_some, Option.map_none, reduceIte, Nat.reduceEqDiff, Nat.reduceLT, Option.bind_some, Option.bind_none, true_and, and_true, and_self, Nat.zero_lt_succ, cellsAt, List.length_append, Nat.le_add_right, List.length_cons, List.length_nil, Nat.zero_add, Nat.add_zero, Nat.reduceAdd, Nat.reduceMul, Nat.zero_mul, AV.cells, AV.one, known, List.append_assoc, getE_0, getE_k, setE_0, setE_k, List.getElem?_cons_zero, List.getElem?_cons_succ, List.set_cons_zero, List.set_cons_succ, List.take_succ_cons, List.take_zero, List.drop_zero, List.drop_succ_cons, List.drop_nil, List.all_cons, List.all_nil, Bool.and_self, Bool.and_true, Bool.true_and, Bool.and_false, Bool.false_and, splice, fillI, Nat.reduceLeDiff, strA, Nat.add_assoc, beq_self_eq_true, Bool.false_eq_true, bq_ft, bq_tf, Bool.not_true, Bool.not_false, Nat.le_refl, List.map_cons, List.map_nil, isNilA, nilPtr, nilSl, nilIf, nilFn, nilMap, nilCheckA, if_true, if_false, lt_lit, le_lit, lt_lit2, le_lit2, le_sub1, le_sub2]
  have k1 : M1[A.length + (B.length + 3)]? = some (r27 [] []) := by subst hM1; simp only [List.append_nil, List.nil_append, List.cons_append, List.getD_cons_zero, List.getD_cons_succ, evI, opsI, stepI, wantI, opI, AAct.evI, look, AAct.put, mkVal, mkVM, intOpA, intA, shiftA, unA, decide_true, decide_false, Option.map_some, Option.map_none, reduceIte, Nat.reduceEqDiff, Nat.reduceLT, Option.bind_some, Option.bind_none, true_and, and_true, and_self, Nat.zero_lt_succ, cellsAt, List.length_append, Nat.le_add_right, List.length_cons, List.length_nil, Nat.zero_add, Nat.add_zero, Nat.reduceAdd, Nat.reduceMul, Nat.zero_mul, AV.cells, AV.one, known, List.append_assoc, getE_0, getE_k, setE_0, setE_k, List.getElem?_cons_zero, List.getElem?_cons_succ, List.set_cons_zero, List.set_cons_succ, List.take_succ_cons, List.take_zero, List.drop_zero, List.drop_succ_cons, List.drop_nil, List.all_cons, List.all_nil, Bool.and_self, Bool.and_true, Bool.true_and, Bool.and_false, Bool.false_and, splice, fillI, Nat.reduceLeDiff, strA, Nat.add_assoc, beq_self_eq_true, Bool.false_eq_true, bq_ft, bq_tf, Bool.not_true, Bool.not_false, Nat.le_refl, List.map_cons, List.map_nil, isNilA, nilPtr, nilSl, nilIf, nilFn, nilMap, nilCheckA, if_true, if_false, lt_lit, le_lit, lt_lit2, le_lit2, le_sub1, le_sub2]
  have len1 : M1.length = A.length + (B.length + 4) := by subst hM1; simp only [List.append_nil, List.nil_append, List.cons_append, List.getD_cons_zero, List.getD_cons_succ, evI, opsI, stepI, wantI, opI, AAct.evI, look, AAct.put, mkVal, mkVM, intOpA, intA, shiftA, unA, decide_true, decide_false, Option.map_some, Option.map_none, reduceIte, Nat.reduceEqDiff, Nat.reduceLT, Option.bind_some, Option.bind_none, true_and, and_true, and_self, Nat.zero_lt_succ, cellsAt, List.length_append, Nat.le_add_right, List.length_cons, List.length_nil, Nat.zero_add, Nat.add_zero, Nat.reduceAdd, Nat.reduceMul, Nat.zero_mul, AV.cells, AV.one, known, List.append_assoc, getE_0, getE_k, setE_0, setE_k, List.getElem?_cons_zero, List.getElem?_cons_succ, List.set_cons_zero, List.set_cons_succ, List.take_succ_cons, List.take_zero, List.drop_zero, List.drop_succ_cons, List.drop_nil, List.all_cons, List.all_nil, Bool.and_self, Bool.and_true, Bool.true_and, Bool.and_false, Bool.false_and, splice, fillI, Nat.reduceLeDiff, strA, Nat.add_assoc, beq_self_eq_true, Bool.false_eq_true, bq_ft, bq_tf, Bool.not_true, Bool.not_false, Nat.le_refl, List.map_cons, List.map_nil, isNilA, nilPtr, nilSl, nilIf, nilFn, nilMap, nilCheckA, if_true, if_false, lt_lit, le_lit, lt_lit2, le_lit2, le_sub1, le_sub2]
  have k2 : ∀ L : Mem, (M1 ++ L)[A.length + (B.length + 4)]? = L[0]? := fun L => by rw [← len1]; exact getE_0 M1 L
  have k3 : ∀ (L : Mem) b, (M1 ++ L).set (A.length + (B.length + 4)) b = M1 ++ L.set 0 b := fun L b => by rw [← len1]; exact setE_0 M1 L b
  have k4 : ∀ L : Mem, (M1 ++ L)[A.length + (B.length + 1)]? = some (rowL .nilS) := fun L => by subst hM1; simp only [List.append_nil, List.nil_append, List.cons_append, List.getD_cons_zero, List.getD_cons_succ, evI, opsI, stepI, wantI, opI, AAct.evI, look, AAct.put, mkVal, mkVM, intOpA, intA, shiftA, unA, decide_true, decide_false, Option.map_some, Option.map_none, reduceIte, Nat.reduceEqDiff, Nat.reduceLT, Option.bind_some, Option.bind_none, true_and, and_true, and_self, Nat.zero_lt_succ, cellsAt, List.length_append, Nat.le_add_right, List.length_cons, List.length_nil, Nat.zero_add, Nat.add_zero, Nat.reduceAdd, Nat.reduceMul, Nat.zero_mul, AV.cells, AV.one, known, List.append_assoc, getE_0, getE_k, setE_0, setE_k, List.getElem?_cons_zero, List.getElem?_cons_succ, List.set_cons_zero, List.set_cons_succ, List.take_succ_cons, List.take_zero, List.drop_zero, List.drop_succ_cons, List.drop_nil, List.all_cons, List.all_nil, Bool.and_self, Bool.and_true, Bool.true_and, Bool.and_false, Bool.false_and, splice, fillI, Nat.reduceLeDiff, strA, Nat.add_assoc, beq_self_eq_true, Bool.false_eq_true, bq_ft, bq_tf, Bool.not_true, Bool.not_false, Nat.le_refl, List.map_cons, List.map_nil, isNilA, nilPtr, nilSl, nilIf, nilFn, nilMap, nilCheckA, if_true, if_false, lt_lit, le_lit, lt_lit2, le_lit2, le_sub1, le_sub2]
  have k5 : ∀ (L : Mem) b, (M1 ++ L).set (A.length + (B.length + 1)) b = A ++ rdr s at2 many2 :: (B ++ [b, rowB, r27 [] []] ++ L) := fun L b => by subst hM1; simp only [List.append_nil, List.nil_append, List.cons_append, List.getD_cons_zero, List.getD_cons_succ, evI, opsI, stepI, wantI, opI, AAct.evI, look, AAct.put, mkVal, mkVM, intOpA, intA, shiftA, unA, decide_true, decide_false, Option.map_some, Option.map_none, reduceIte, Nat.reduceEqDiff, Nat.reduceLT, Option.bind_some, Option.bind_none, true_and, and_true, and_self, Nat.zero_lt_succ, cellsAt, List.length_append, Nat.le_add_right, List.length_cons, List.length_nil, Nat.zero_add, Nat.add_zero, Nat.reduceAdd, Nat.reduceMul, Nat.zero_mul, AV.cells, AV.one, known, List.append_assoc, getE_0, getE_k, setE_0, setE_k, List.getElem?_cons_zero, List.getElem?_cons_succ, List.set_cons_zero, List.set_cons_succ, List.take_succ_cons, List.take_zero, List.drop_zero, List.drop_succ_cons, List.drop_nil, List.all_cons, List.all_nil, Bool.and_self, Bool.and_true, Bool.true_and, Bool.and_false, Bool.false_and, splice, fillI, Nat.reduceLeDiff, strA, Nat.add_assoc, beq_self_eq_true, Bool.false_eq_true, bq_ft, bq_tf, Bool.not_true, Bool.not_false, Nat.le_refl, List.map_cons, List.map_nil, isNilA, nilPtr, nilSl, nilIf, nilFn, nilMap, nilCheckA, if_true, if_false, lt_lit, le_lit, lt_lit2, le_lit2, le_sub1, le_sub2]
  have eb : eqB (r27 [] []) (.row [.str [], .str [], .str [], .nilS, .nilS] 0 (27 + 1)) = true := rfl
  let ec : List AV := [.str c0, .str c1, .str c2, .lst an ac, .lst kn kc]
  let tr : List (AV × Mem) := [(.nilS, M0), (.ptr A.length 0 0, M0), (.map mi, M0), (.int .i64 (dp : Nat), M0), (.int .i64 ((dp + 1 : Nat) : Int), M0), (.agg ec, M1), (.int .i64 0, M1), (.slc (A.length + (B.length + 3)) 0 1 5 0, M1), (.slc (A.length + (B.length + 4)) 0 1 5 0, M1 ++ [r27 [] []]), (.ptr (A.length + (B.length + 4)) 0 0, M1 ++ [r27 [] []]), (.tup [], M1 ++ [rowC ec]), (.tup [], A ++ rdr s at2 many2 :: (B ++ [rowL (.slc (A.length + (B.length + 4)) 0 1 5 0), rowB, r27 [] [], rowC ec]))]
  have hlex : lexD P (cfg ml) F (A.length + (B.length + 3)) regCt ⟨87, t, []⟩ M0 = some tr := by
    simp only [tr, ec, regCt, lexD, valD, valI, l0, l1, l2, l7, g0, w, hE, k1, eb, resvV, srcA, held, app2, hp34, len1, k2, k3, k4, k5, n0, List.append_nil, List.nil_append, List.cons_append, List.getD_cons_zero, List.getD_cons_succ, evI, opsI, stepI, wantI, opI, AAct.evI, look, AAct.put, mkVal, mkVM, intOpA, intA, shiftA, unA, decide_true, decide_false, Option.map_some, Option.map_none, reduceIte, Nat.reduceEqDiff, Nat.reduceLT, Option.bind_some, Option.bind_none, true_and, and_true, and_self, Nat.zero_lt_succ, cellsAt, List.length_append, Nat.le_add_right, List.length_cons, List.length_nil, Nat.zero_add, Nat.add_zero, Nat.reduceAdd, Nat.reduceMul, Nat.zero_mul, AV.cells, AV.one, known, List.append_assoc, getE_0, getE_k, setE_0, setE_k, List.getElem?_cons_zero, List.getElem?_cons_succ, List.set_cons_zero, List.set_cons_succ, List.take_succ_cons, List.take_zero, List.drop_zero, List.drop_succ_cons, List.drop_nil, List.all_cons, List.all_nil, Bool.and_self, Bool.and_true, Bool.true_and, Bool.and_false, Bool.false_and, splice, fillI, Nat.reduceLeDiff, strA, Nat.add_assoc, beq_self_eq_true, Bool.false_eq_true, bq_ft, bq_tf, Bool.not_true, Bool.not_false, Nat.le_refl, List.map_cons, List.map_nil, isNilA, nilPtr, nilSl, nilIf, nilFn, nilMap, nilCheckA, if_true, if_false, lt_lit, le_lit, lt_lit2, le_lit2, le_sub1, le_sub2]
  have e1 : eqM (M1 ++ [rowC ec]) (M1 ++ [r27 [] []]) = false := by
    rw [eqM_app2]; simp only [ec, eqM, eqB, eqvL, eqv, Bool.and_false, Bool.false_and, Bool.and_true]
  have e2 : eqM (A ++ rdr s at2 many2 :: (B ++ [rowL (.slc (A.length + (B.length + 4)) 0 1 5 0), rowB, r27 [] [], rowC ec])) (M1 ++ [rowC ec]) = false := by
    rw [← hM1, List.append_assoc, List.cons_append, List.append_assoc, eqM_app2]
    simp only [eqM]
    rw [eqM_app2]
    simp only [List.cons_append, eqM, eqB, eqvL, eqv, Bool.and_false, Bool.false_and]
  have h1 : okD (roD P (cfg ml) F (A.length + (B.length + 3)) regCt ⟨87, t, []⟩ M0 tr) regCt tr M0 = false := by
    cases h : okD (roD P (cfg ml) F (A.length + (B.length + 3)) regCt ⟨87, t, []⟩ M0 tr) regCt tr M0 with
    | false => rfl
    | true =>
      have h5 := okD_at h 10 _ _ rfl rfl
      have h6 : roD P (cfg ml) F (A.length + (B.length + 3)) regCt ⟨87, t, []⟩ M0 tr 11 (memAt tr M0 10) = false := by
        unfold roD
        rw [show memAt tr M0 (11 + 1) = A ++ rdr s at2 many2 :: (B ++ [rowL (.slc (A.length + (B.length + 4)) 0 1 5 0), rowB, r27 [] [], rowC ec]) from rfl, show memAt tr M0 11 = M1 ++ [rowC ec] from rfl, e2, Bool.false_and]
      rw [show memAt tr M0 10 = M1 ++ [r27 [] []] from rfl] at h5 h6
      simp only [e1, List.all_cons, List.all_nil, h6, Bool.false_and, Bool.or_false, Bool.false_or, Bool.false_eq_true] at h5
  have hcut : cutT tr (memAt tr M0 10) 10 = [(.nilS, M0), (.ptr A.length 0 0, M0), (.map mi, M0), (.int .i64 (dp : Nat), M0), (.int .i64 ((dp + 1 : Nat) : Int), M0), (.agg ec, M1), (.int .i64 0, M1), (.slc (A.length + (B.length + 3)) 0 1 5 0, M1), (.slc (A.length + (B.length + 4)) 0 1 5 0, M1 ++ [r27 [] []]), (.ptr (A.length + (B.length + 4)) 0 0, M1 ++ [r27 [] []]), (.tup [], M1 ++ [r27 [] []]), (.tup [], M1 ++ [r27 [] []])] := rfl
  have h2 : okD (roD P (cfg ml) F (A.length + (B.length + 3)) regCt ⟨87, t, []⟩ M0 (cutT tr (memAt tr M0 10) 10)) regCt (cutT tr (memAt tr M0 10) 10) M0 = true := by
    rw [hcut]
    generalize hT : ([(.nilS, M0), (.ptr A.length 0 0, M0), (.map mi, M0), (.int .i64 (dp : Nat), M0), (.int .i64 ((dp + 1 : Nat) : Int), M0), (.agg ec, M1), (.int .i64 0, M1), (.slc (A.length + (B.length + 3)) 0 1 5 0, M1), (.slc (A.length + (B.length + 4)) 0 1 5 0, M1 ++ [r27 [] []]), (.ptr (A.length + (B.length + 4)) 0 0, M1 ++ [r27 [] []]), (.tup [], M1 ++ [r27 [] []]), (.tup [], M1 ++ [r27 [] []])] : List (AV × Mem)) = T
    have r00 : roD P (cfg ml) F (A.length + (B.length + 3)) regCt ⟨87, t, []⟩ M0 T 0 M0 = true := by
      subst hT; simp only [roD, regCt, memAt, putD, valD, valI, l7, g0, g1, eqM_refl, eqv_refl, List.append_nil, List.nil_append, List.cons_append, List.getD_cons_zero, List.getD_cons_succ, evI, opsI, stepI, wantI, opI, AAct.evI, look, AAct.put, mkVal, mkVM, intOpA, intA, shiftA, unA, decide_true, decide_false, Option.map_some, Option.map_none, reduceIte, Nat.reduceEqDiff, Nat.reduceLT, Option.bind_some, Option.bind_none, true_and, and_true, and_self, Nat.zero_lt_succ, cellsAt, List.length_append, Nat.le_add_right, List.length_cons, List.length_nil, Nat.zero_add, Nat.add_zero, Nat.reduceAdd, Nat.reduceMul, Nat.zero_mul, AV.cells, AV.one, known, List.append_assoc, getE_0, getE_k, setE_0, setE_k, List.getElem?_cons_zero, List.getElem?_cons_succ, List.set_cons_zero, List.set_cons_succ, List.take_succ_cons, List.take_zero, List.drop_zero, List.drop_succ_cons, List.drop_nil, List.all_cons, List.all_nil, Bool.and_self, Bool.and_true, Bool.true_and, Bool.and_false, Bool.false_and, splice, fillI, Nat.reduceLeDiff, strA, Nat.add_assoc, beq_self_eq_true, Bool.false_eq_true, bq_ft, bq_tf, Bool.not_true, Bool.not_false, Nat.le_refl, List.map_cons, List.map_nil, isNilA, nilPtr, nilSl, nilIf, nilFn, nilMap, nilCheckA, if_true, if_false, lt_lit, le_lit, lt_lit2, le_lit2, le_sub1, le_sub2]
    have r01 : roD P (cfg ml) F (A.length + (B.length + 3)) regCt ⟨87, t, []⟩ M0 T 0 M1 = true := by
      subst hT; simp only [roD, regCt, memAt, putD, valD, valI, l7, g0, g1, eqM_refl, eqv_refl, List.append_nil, List.nil_append, List.cons_append, List.getD_cons_zero, List.getD_cons_succ, evI, opsI, stepI, wantI, opI, AAct.evI, look, AAct.put, mkVal, mkVM, intOpA, intA, shiftA, unA, decide_true, decide_false, Option.map_some, Option.map_none, reduceIte, Nat.reduceEqDiff, Nat.reduceLT, Option.bind_some, Option.bind_none, true_and, and_true, and_self, Nat.zero_lt_succ, cellsAt, List.length_append, Nat.le_add_right, List.length_cons, List.length_nil, Nat.zero_add, Nat.add_zero, Nat.reduceAdd, Nat.reduceMul, Nat.zero_mul, AV.cells, AV.one, known, List.append_assoc, getE_0, getE_k, setE_0, setE_k, List.getElem?_cons_zero, List.getElem?_cons_succ, List.set_cons_zero, List.set_cons_succ, List.take_succ_cons, List.take_zero, List.drop_zero, List.drop_succ_cons, List.drop_nil, List.all_cons, List.all_nil, Bool.and_self, Bool.and_true, Bool.true_and, Bool.and_false, Bool.false_and, splice, fillI, Nat.reduceLeDiff, strA, Nat.add_assoc, beq_self_eq_true, Bool.false_eq_true, bq_ft, bq_tf, Bool.not_true, Bool.not_false, Nat.le_refl, List.map_cons, List.map_nil, isNilA, nilPtr, nilSl, nilIf, nilFn, nilMap, nilCheckA, if_true, if_false, lt_lit, le_lit, lt_lit2, le_lit2, le_sub1, le_sub2]
    have r60 : roD P (cfg ml) F (A.length + (B.length + 3)) regCt ⟨87, t, []⟩ M0 T 6 M0 = true := by
      subst hT; simp only [roD, regCt, memAt, putD, valD, valI, l7, g0, g1, eqM_refl, eqv_refl, List.append_nil, List.nil_append, List.cons_append, List.getD_cons_zero, List.getD_cons_succ, evI, opsI, stepI, wantI, opI, AAct.evI, look, AAct.put, mkVal, mkVM, intOpA, intA, shiftA, unA, decide_true, decide_false, Option.map_some, Option.map_none, reduceIte, Nat.reduceEqDiff, Nat.reduceLT, Option.bind_some, Option.bind_none, true_and, and_true, and_self, Nat.zero_lt_succ, cellsAt, List.length_append, Nat.le_add_right, List.length_cons, List.length_nil, Nat.zero_add, Nat.add_zero, Nat.reduceAdd, Nat.reduceMul, Nat.zero_mul, AV.cells, AV.one, known, List.append_assoc, getE_0, getE_k, setE_0, setE_k, List.getElem?_cons_zero, List.getElem?_cons_succ, List.set_cons_zero, List.set_cons_succ, List.take_succ_cons, List.take_zero, List.drop_zero, List.drop_succ_cons, List.drop_nil, List.all_cons, List.all_nil, Bool.and_self, Bool.and_true, Bool.true_and, Bool.and_false, Bool.false_and, splice, fillI, Nat.reduceLeDiff, strA, Nat.add_assoc, beq_self_eq_true, Bool.false_eq_true, bq_ft, bq_tf, Bool.not_true, Bool.not_false, Nat.le_refl, List.map_cons, List.map_nil, isNilA, nilPtr, nilSl, nilIf, nilFn, nilMap, nilCheckA, if_true, if_false, lt_lit, le_lit, lt_lit2, le_lit2, le_sub1, le_sub2]
    have r61 : roD P (cfg ml) F (A.length + (B.length + 3)) regCt ⟨87, t, []⟩ M0 T 6 M1 = true := by
      subst hT; simp only [roD, regCt, memAt, putD, valD, valI, l7, g0, g1, eqM_refl, eqv_refl, List.append_nil, List.nil_append, List.cons_append, List.getD_cons_zero, List.getD_cons_succ, evI, opsI, stepI, wantI, opI, AAct.evI, look, AAct.put, mkVal, mkVM, intOpA, intA, shiftA, unA, decide_true, decide_false, Option.map_some, Option.map_none, reduceIte, Nat.reduceEqDiff, Nat.reduceLT, Option.bind_some, Option.bind_none, true_and, and_true, and_self, Nat.zero_lt_succ, cellsAt, List.length_append, Nat.le_add_right, List.length_cons, List.length_nil, Nat.zero_add, Nat.add_zero, Nat.reduceAdd, Nat.reduceMul, Nat.zero_mul, AV.cells, AV.one, known, List.append_assoc, getE_0, getE_k, setE_0, setE_k, List.getElem?_cons_zero, List.getElem?_cons_succ, List.set_cons_zero, List.set_cons_succ, List.take_succ_cons, List.take_zero, List.drop_zero, List.drop_succ_cons, List.drop_nil, List.all_cons, List.all_nil, Bool.and_self, Bool.and_true, Bool.true_and, Bool.and_false, Bool.false_and, splice, fillI, Nat.reduceLeDiff, strA, Nat.add_assoc, beq_self_eq_true, Bool.false_eq_true, bq_ft, bq_tf, Bool.not_true, Bool.not_false, Nat.le_refl, List.map_cons, List.map_nil, isNilA, nilPtr, nilSl, nilIf, nilFn, nilMap, nilCheckA, if_true, if_false, lt_lit, le_lit, lt_lit2, le_lit2, le_sub1, le_sub2]
    have r70 : roD P (cfg ml) F (A.length + (B.length + 3)) regCt ⟨87, t, []⟩ M0 T 7 M0 = true := by
      subst hT; simp only [roD, regCt, memAt, putD, valD, valI, k0, k1, eb, resvV, eqM_refl, eqv_refl, List.append_nil, List.nil_append, List.cons_append, List.getD_cons_zero, List.getD_cons_succ, evI, opsI, stepI, wantI, opI, AAct.evI, look, AAct.put, mkVal, mkVM, intOpA, intA, shiftA, unA, decide_true, decide_false, Option.map_some, Option.map_none, reduceIte, Nat.reduceEqDiff, Nat.reduceLT, Option.bind_some, Option.bind_none, true_and, and_true, and_self, Nat.zero_lt_succ, cellsAt, List.length_append, Nat.le_add_right, List.length_cons, List.length_nil, Nat.zero_add, Nat.add_zero, Nat.reduceAdd, Nat.reduceMul, Nat.zero_mul, AV.cells, AV.one, known, List.append_assoc, getE_0, getE_k, setE_0, setE_k, List.getElem?_cons_zero, List.getElem?_cons_succ, List.set_cons_zero, List.set_cons_succ, List.take_succ_cons, List.take_zero, List.drop_zero, List.drop_succ_cons, List.drop_nil, List.all_cons, List.all_nil, Bool.and_self, Bool.and_true, Bool.true_and, Bool.and_false, Bool.false_and, splice, fillI, Nat.reduceLeDiff, strA, Nat.add_assoc, beq_self_eq_true, Bool.false_eq_true, bq_ft, bq_tf, Bool.not_true, Bool.not_false, Nat.le_refl, List.map_cons, List.map_nil, isNilA, nilPtr, nilSl, nilIf, nilFn, nilMap, nilCheckA, if_true, if_false, lt_lit, le_lit, lt_lit2, le_lit2, le_sub1, le_sub2]
    have r71 : roD P (cfg ml) F (A.length + (B.length + 3)) regCt ⟨87, t, []⟩ M0 T 7 M1 = true := by
      subst hT; simp only [roD, regCt, memAt, putD, valD, valI, k0, k1, eb, resvV, eqM_refl, eqv_refl, List.append_nil, List.nil_append, List.cons_append, List.getD_cons_zero, List.getD_cons_succ, evI, opsI, stepI, wantI, opI, AAct.evI, look, AAct.put, mkVal, mkVM, intOpA, intA, shiftA, unA, decide_true, decide_false, Option.map_some, Option.map_none, reduceIte, Nat.reduceEqDiff, Nat.reduceLT, Option.bind_some, Option.bind_none, true_and, and_true, and_self, Nat.zero_lt_succ, cellsAt, List.length_append, Nat.le_add_right, List.length_cons, List.length_nil, Nat.zero_add, Nat.add_zero, Nat.reduceAdd, Nat.reduceMul, Nat.zero_mul, AV.cells, AV.one, known, List.append_assoc, getE_0, getE_k, setE_0, setE_k, List.getElem?_cons_zero, List.getElem?_cons_succ, List.set_cons_zero, List.set_cons_succ, List.take_succ_cons, List.take_zero, List.drop_zero, List.drop_succ_cons, List.drop_nil, List.all_cons, List.all_nil, Bool.and_self, Bool.and_true, Bool.true_and, Bool.and_false, Bool.false_and, splice, fillI, Nat.reduceLeDiff, strA, Nat.add_assoc, beq_self_eq_true, Bool.false_eq_true, bq_ft, bq_tf, Bool.not_true, Bool.not_false, Nat.le_refl, List.map_cons, List.map_nil, isNilA, nilPtr, nilSl, nilIf, nilFn, nilMap, nilCheckA, if_true, if_false, lt_lit, le_lit, lt_lit2, le_lit2, le_sub1, le_sub2]
    refine okD_all fun k d p q1 q2 => ?_
    have m5 : memAt T M0 5 = M0 := by subst hT; rfl
    have m10 : memAt T M0 10 = M1 ++ [r27 [] []] := by subst hT; rfl
    have m11 : memAt T M0 11 = M1 ++ [r27 [] []] := by subst hT; rfl
    have p5 : T[5]? = some (.agg ec, M1) := by subst hT; rfl
    have p10 : T[10]? = some (.tup [], M1 ++ [r27 [] []]) := by subst hT; rfl
    have p11 : T[11]? = some (.tup [], M1 ++ [r27 [] []]) := by subst hT; rfl
    match k with
    | 0 => injection q1 with q1; subst q1; rfl
    | 1 => injection q1 with q1; subst q1; rfl
    | 2 => injection q1 with q1; subst q1; rfl
    | 3 => injection q1 with q1; subst q1; rfl
    | 4 => injection q1 with q1; subst q1; rfl
    | 5 =>
      injection q1 with q1; subst q1
      rw [p5] at q2; injection q2 with q2; subst q2
      rw [m5]
      simp only [List.all_cons, List.all_nil, r00, r01, r60, r61, r70, r71, Bool.and_self, Bool.or_true]
    | 6 => injection q1 with q1; subst q1; rfl
    | 7 => injection q1 with q1; subst q1; rfl
    | 8 => injection q1 with q1; subst q1; rfl
    | 9 => injection q1 with q1; subst q1; rfl
    | 10 =>
      injection q1 with q1; subst q1
      rw [p10] at q2; injection q2 with q2; subst q2
      rw [m10]
      simp only [eqM_refl, Bool.or_true, Bool.true_or]
    | 11 =>
      injection q1 with q1; subst q1
      rw [p11] at q2; injection q2 with q2; subst q2
      rw [m11]
      simp only [eqM_refl, Bool.or_true, Bool.true_or]
    | k + 12 => simp [regCt] at q1
  have h3 : swapD P (cfg ml) F (A.length + (B.length + 3)) 10 11 regCt ⟨87, t, []⟩ M0 tr = true := by
    simp only [swapD, tr, regCt, memAt, lastM, putD, valD, valI, l7, k2, k3, k4, k5, ec, eqM_refl, List.getLast?_cons_cons, List.getLast?_singleton, Option.getD_some, List.append_nil, List.nil_append, List.cons_append, List.getD_cons_zero, List.getD_cons_succ, evI, opsI, stepI, wantI, opI, AAct.evI, look, AAct.put, mkVal, mkVM, intOpA, intA, shiftA, unA, decide_true, decide_false, Option.map_some, Option.map_none, reduceIte, Nat.reduceEqDiff, Nat.reduceLT, Option.bind_some, Option.bind_none, true_and, and_true, and_self, Nat.zero_lt_succ, cellsAt, List.length_append, Nat.le_add_right, List.length_cons, List.length_nil, Nat.zero_add, Nat.add_zero, Nat.reduceAdd, Nat.reduceMul, Nat.zero_mul, AV.cells, AV.one, known, List.append_assoc, getE_0, getE_k, setE_0, setE_k, List.getElem?_cons_zero, List.getElem?_cons_succ, List.set_cons_zero, List.set_cons_succ, List.take_succ_cons, List.take_zero, List.drop_zero, List.drop_succ_cons, List.drop_nil, List.all_cons, List.all_nil, Bool.and_self, Bool.and_true, Bool.true_and, Bool.and_false, Bool.false_and, splice, fillI, Nat.reduceLeDiff, strA, Nat.add_assoc, beq_self_eq_true, Bool.false_eq_true, bq_ft, bq_tf, Bool.not_true, Bool.not_false, Nat.le_refl, List.map_cons, List.map_nil, isNilA, nilPtr, nilSl, nilIf, nilFn, nilMap, nilCheckA, if_true, if_false, lt_lit, le_lit, lt_lit2, le_lit2, le_sub1, le_sub2]
  exact (drawI2_of hlex h1 h2 h3).trans rfl
end
end Go.Proofs.YtmnajffpmbidiaaGreatDoor.Ev
