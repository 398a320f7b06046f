/- Parts of one proof, one behind the other: xml.Read: of a text of plain bytes, by what the element comes to, reckoned with letters. -/
import Derived.Test.YtmnajffpmbidiaaGreatDoorMdg
import Derived.Test.YtmnajffpmbidiaaGreatDoorMeb
/- xml.Read: of a text of plain bytes, by what the element comes to, reckoned with letters. -/
namespace Go.Proofs.YtmnajffpmbidiaaGreatDoor.Ev
set_option linter.all false
variable {ml : Int}
open Go.Proofs.YtmnajffpmbidiaaGreatDoor.Ic
set_option maxRecDepth 100000
set_option maxHeartbeats 4000000
set_option linter.unusedSimpArgs false
set_option linter.unusedVariables false
set_option linter.unusedSectionVars false
theorem toBytes_of : ∀ s : List UInt8, toBytes (ofBytes s) = some s
  | [] => rfl
  | b :: s => by
    have ih := toBytes_of s
    have h := b.toNat_lt
    unfold ofBytes at *
    have h1 : (0 : Int) ≤ (b.toNat : Int) := by omega
    have h2 : (b.toNat : Int) < 256 := by omega
    simp only [List.map_cons, toBytes, toByte, h1, h2, and_self, if_true, ih, Int.toNat_natCast, UInt8.ofNat_toNat]
theorem op_defer : (opAt Tryz.f13 3).op = .defer ⟨.value (.tmp 6), #[], #[]⟩ := by kernel_rfl
theorem exec_defer {ρ : Operand → AV} {H : Mem} {k : Nat} {cap : List AV} (hρ : ρ (.tmp 6) = .fn (.func k) cap) : exec1 Tryz.prog ρ (opAt Tryz.f13 3) H = some (.dfr (.fn (.func k) cap) []) := by
  unfold exec1
  rw [op_defer]
  simp only [hρ]
  rfl
def nsX : List UInt8 := [104, 116, 116, 112, 58, 47, 47, 119, 119, 119, 46, 119, 51, 46, 111, 114, 103, 47, 88, 77, 76, 47, 49, 57, 57, 56, 47, 110, 97, 109, 101, 115, 112, 97, 99, 101]
abbrev rowE (e : Int) : Blk := .row [.int .i64 e] 0 (28 + 1)
section
variable {P : Program} {g : Cfg} {T : FuncId → Option IF} {N n f m : Nat} {i : IF} {args : List AV} {H H1 H2 : Mem} {a : AAct} {v : AV} {r : End × Mem}
theorem evF_retD (hl : g.lib f = none) (hT : T f = some i) (hm : max args.length i.n = m) (hb : evI P g (evFI P g T N n) N i.c ⟨m, idx 0 args, []⟩ H = some (.ret, a, H1)) (hd : a.d.isEmpty = false) (hz : tailI P g (evFI P g T N n) T N i (g.keep f) H a none H1 = some r) :
    evFI P g T N (n + 1) f args H = some r := by
  simp only [evFI, hl, hT, hm, hb, hd, Bool.false_eq_true, if_false, hz]
theorem evF_panD (hl : g.lib f = none) (hT : T f = some i) (hm : max args.length i.n = m) (hb : evI P g (evFI P g T N n) N i.c ⟨m, idx 0 args, []⟩ H = some (.pan v, a, H1)) (hd : a.d.isEmpty = false) (hz : tailI P g (evFI P g T N n) T N i (g.keep f) H a (some v) H1 = some r) :
    evFI P g T N (n + 1) f args H = some r := by
  simp only [evFI, hl, hT, hm, hb, hd, Bool.false_eq_true, if_false, hz]
end
noncomputable def pcR (n : Nat) : IC := (I13.c.nb n).hd
theorem read_split : I13.c = .seq (pcR 0) (.seq (pcR 1) (.seq (pcR 2) (.seq (pcR 3) (.seq (pcR 4) (.seq (pcR 5) (.seq (pcR 6) (.seq (pcR 7) (.seq (pcR 8) (.seq (pcR 9) (.seq (pcR 10) .ret)))))))))) := rfl
theorem trim_mark (P : Program) (N d : Nat) (hd : 4 ≤ d) (x p : List UInt8) (h : hasP x p = false) (H : Mem) : evFI P (cfg ml) T N d 30 [.str x, .str p] H = some (.ret (.str x), H) := by
  obtain ⟨n, rfl⟩ : ∃ n, d = n + 4 := ⟨d - 4, by omega⟩
  have h1 : evFI P (cfg ml) T N (n + 2) 55 [.str x, .str p] H = some (.ret (.bool (hasP x p)), H) := slHasPrefix_eq (n + 2) (by omega) x p H
  rw [h] at h1
  have h2 : evFI P (cfg ml) T N (n + 3) 53 [.str x, .str p] H = some (.ret (.str x), H) := by
    refine evF_ret (m := 13) (v := .str x) (a := ?aa) (H1 := ?Ha) rfl t53 rfl ?hb ?hd ?hr ?hz
    case hb => simp only [List.length_cons, List.length_nil, idx, I53, h1, List.append_nil, List.nil_append, List.cons_append, List.getD_cons_zero, List.getD_cons_succ, evI, opsI, stepI, wantI, opI, AAct.evI, look, AAct.put, mkVal, mkVM, intOpA, intA, shiftA, unA, decide_true, decide_false, Option.map_some, Option.map_none, reduceIte, Nat.reduceEqDiff, Nat.reduceLT, Option.bind_some, Option.bind_none, true_and, and_true, and_self, Nat.zero_lt_succ, cellsAt, List.length_append, Nat.le_add_right, List.length_cons, List.length_nil, Nat.zero_add, Nat.add_zero, Nat.reduceAdd, Nat.reduceMul, Nat.zero_mul, AV.cells, AV.one, known, List.append_assoc, getE_0, getE_k, setE_0, setE_k, List.getElem?_cons_zero, List.getElem?_cons_succ, List.set_cons_zero, List.set_cons_succ, List.take_succ_cons, List.take_zero, List.drop_zero, List.drop_succ_cons, List.drop_nil, List.all_cons, List.all_nil, Bool.and_self, Bool.and_true, Bool.true_and, Bool.and_false, Bool.false_and, splice, fillI, Nat.reduceLeDiff, strA, Nat.add_assoc, beq_self_eq_true, Bool.false_eq_true, bq_ft, bq_tf, Bool.not_true, Bool.not_false, Nat.le_refl, List.map_cons, List.map_nil, isNilA, nilPtr, nilSl, nilIf, nilFn, nilMap, nilCheckA, if_true, if_false, lt_lit, le_lit, lt_lit2, le_lit2, le_sub1, le_sub2]; rfl
    case hd => rfl
    case hr => simp only [I53, resI, resLI, look, reduceIte, Nat.reduceEqDiff, Option.map_some]
    case hz => exact fin_len rfl rfl
  refine evF_ret (m := 8) (v := .str x) (a := ?ab) (H1 := ?Hb) rfl t30 rfl ?hb ?hd ?hr ?hz
  case hb => simp only [List.length_cons, List.length_nil, idx, I30, h2, List.append_nil, List.nil_append, List.cons_append, List.getD_cons_zero, List.getD_cons_succ, evI, opsI, stepI, wantI, opI, AAct.evI, look, AAct.put, mkVal, mkVM, intOpA, intA, shiftA, unA, decide_true, decide_false, Option.map_some, Option.map_none, reduceIte, Nat.reduceEqDiff, Nat.reduceLT, Option.bind_some, Option.bind_none, true_and, and_true, and_self, Nat.zero_lt_succ, cellsAt, List.length_append, Nat.le_add_right, List.length_cons, List.length_nil, Nat.zero_add, Nat.add_zero, Nat.reduceAdd, Nat.reduceMul, Nat.zero_mul, AV.cells, AV.one, known, List.append_assoc, getE_0, getE_k, setE_0, setE_k, List.getElem?_cons_zero, List.getElem?_cons_succ, List.set_cons_zero, List.set_cons_succ, List.take_succ_cons, List.take_zero, List.drop_zero, List.drop_succ_cons, List.drop_nil, List.all_cons, List.all_nil, Bool.and_self, Bool.and_true, Bool.true_and, Bool.and_false, Bool.false_and, splice, fillI, Nat.reduceLeDiff, strA, Nat.add_assoc, beq_self_eq_true, Bool.false_eq_true, bq_ft, bq_tf, Bool.not_true, Bool.not_false, Nat.le_refl, List.map_cons, List.map_nil, isNilA, nilPtr, nilSl, nilIf, nilFn, nilMap, nilCheckA, if_true, if_false, lt_lit, le_lit, lt_lit2, le_lit2, le_sub1, le_sub2]; rfl
  case hd => rfl
  case hr => simp only [I30, resI, resLI, look, reduceIte, Nat.reduceEqDiff, Option.map_some]
  case hz => exact fin_len rfl rfl
section
variable {N : Nat} (x : List UInt8) (hs : x.length < 4294967281) (hN : x.length < N) (hp : ∀ b ∈ x, plainB b = true)
variable (n q ty : Nat) (H : Mem) (hq : H[q]? = some (.row (ofBytes x) 0 ty))
variable (hx1 : hasP x [239, 187, 191] = false) (hx2 : hasP x [60, 63, 120, 109, 108] = false)
variable (at1 : Nat) (hM1 : ∀ A : Mem, evFI Tryz.prog (cfg ml) T N n 37 [.ptr A.length 0 0, .bool true] (A ++ rdr x 0 0 :: []) = some (.ret (.tup []), A ++ rdr x at1 0 :: []))
include hs hN hp hq hx1 hx2 hM1
/-- Up to the element. -/
theorem read_pre (hn : 4 ≤ n) :
    ∃ t, look t 2 = .ptr H.length 0 0 ∧ look t 3 = .ptr (H.length + 1) 0 0 ∧ look t 5 = .ptr (H.length + 2) 0 0 ∧
      evI Tryz.prog (cfg ml) (evFI Tryz.prog (cfg ml) T N n) N I13.c ⟨51, [(0, .slc q 0 x.length 1 0)], []⟩ H = evI Tryz.prog (cfg ml) (evFI Tryz.prog (cfg ml) T N n) N (.seq (pcR 7) (.seq (pcR 8) (.seq (pcR 9) (.seq (pcR 10) .ret)))) ⟨51, t, [(.fn (.func 29) [.ptr H.length 0 0, .ptr (H.length + 1) 0 0], [])]⟩ (H ++ [r27 [] [], rowE 0, rdr x at1 0]) := by
  obtain ⟨n, rfl⟩ : ∃ k, n = k + 4 := ⟨n - 4, by omega⟩
  have hql : q < H.length := (List.getElem?_eq_some_iff.1 hq).1
  have hq2 : ∀ L : Mem, (H ++ L)[q]? = some (.row (ofBytes x) 0 ty) := fun L => by rw [List.getElem?_append_left hql]; exact hq
  have hol : (ofBytes x).length = x.length := by simp [ofBytes]
  have hle : x.length ≤ (ofBytes x).length := by omega
  have htk : (ofBytes x).take x.length = ofBytes x := List.take_of_length_le (by omega)
  have htb := toBytes_of x
  have hm1 : ∀ k : Nat, k * 1 = k := Nat.mul_one
  have q1 := fun H => trim_mark (ml := ml) Tryz.prog N (n + 4) (by omega) x [239, 187, 191] hx1 H
  have q2 := fun H => plain_text (ml := ml) Tryz.prog N n x hN (by omega) hp H
  have q3 := fun e H => must_t (P := Tryz.prog) (N := N) (ml := ml) (n + 4) (by omega) e H
  have hl : (cfg ml).lib 32 = some replLib := rfl
  have q4 : ∀ (r u : List UInt8) H, evFI Tryz.prog (cfg ml) T N (n + 4) 32 [.str x, .str (13 :: r), .str u] H = some (.ret (.str x), H) := fun r u H => by
    simp only [evFI, hl, repl_lib r u x (fun b hb => plainB_13 (hp b hb)) hs, Option.map_some]
  have q5 := fun H => hasPrefix_eq (P := Tryz.prog) (N := N) (ml := ml) (n + 4) (by omega) x [60, 63, 120, 109, 108] H
  rw [hx2] at q5
  have q6 := hM1 (H ++ [r27 [] [], rowE 0])
  simp only [List.length_append, List.length_cons, List.length_nil, Nat.zero_add, Nat.reduceAdd, List.append_assoc, List.cons_append, List.nil_append] at q6
  refine ⟨?t, ?g2, ?g3, ?g5, ?main⟩
  case main =>
    rw [read_split]
    apply evI_seq
    · simp only [pcR, IC.nb, IC.hd, I13, List.append_nil, List.nil_append, List.cons_append, List.getD_cons_zero, List.getD_cons_succ, evI, opsI, stepI, wantI, opI, AAct.evI, look, AAct.put, mkVal, mkVM, intOpA, intA, shiftA, unA, decide_true, decide_false, Option.map_some, Option.map_none, reduceIte, Nat.reduceEqDiff, Nat.reduceLT, Option.bind_some, Option.bind_none, true_and, and_true, and_self, Nat.zero_lt_succ, cellsAt, List.length_append, Nat.le_add_right, List.length_cons, List.length_nil, Nat.zero_add, Nat.add_zero, Nat.reduceAdd, Nat.reduceMul, Nat.zero_mul, AV.cells, AV.one, known, List.append_assoc, getE_0, getE_k, setE_0, setE_k, List.getElem?_cons_zero, List.getElem?_cons_succ, List.set_cons_zero, List.set_cons_succ, List.take_succ_cons, List.take_zero, List.drop_zero, List.drop_succ_cons, List.drop_nil, List.all_cons, List.all_nil, Bool.and_self, Bool.and_true, Bool.true_and, Bool.and_false, Bool.false_and, splice, fillI, Nat.reduceLeDiff, strA, Nat.add_assoc, beq_self_eq_true, Bool.false_eq_true, bq_ft, bq_tf, Bool.not_true, Bool.not_false, Nat.le_refl, List.map_cons, List.map_nil, isNilA, nilPtr, nilSl, nilIf, nilFn, nilMap, nilCheckA, if_true, if_false, lt_lit, le_lit, lt_lit2, le_lit2, le_sub1, le_sub2]; rfl
    apply evI_seq
    · simp only [pcR, IC.nb, IC.hd, I13, AAct.eval, exec_defer, List.append_nil, List.nil_append, List.cons_append, List.getD_cons_zero, List.getD_cons_succ, evI, opsI, stepI, wantI, opI, AAct.evI, look, AAct.put, mkVal, mkVM, intOpA, intA, shiftA, unA, decide_true, decide_false, Option.map_some, Option.map_none, reduceIte, Nat.reduceEqDiff, Nat.reduceLT, Option.bind_some, Option.bind_none, true_and, and_true, and_self, Nat.zero_lt_succ, cellsAt, List.length_append, Nat.le_add_right, List.length_cons, List.length_nil, Nat.zero_add, Nat.add_zero, Nat.reduceAdd, Nat.reduceMul, Nat.zero_mul, AV.cells, AV.one, known, List.append_assoc, getE_0, getE_k, setE_0, setE_k, List.getElem?_cons_zero, List.getElem?_cons_succ, List.set_cons_zero, List.set_cons_succ, List.take_succ_cons, List.take_zero, List.drop_zero, List.drop_succ_cons, List.drop_nil, List.all_cons, List.all_nil, Bool.and_self, Bool.and_true, Bool.true_and, Bool.and_false, Bool.false_and, splice, fillI, Nat.reduceLeDiff, strA, Nat.add_assoc, beq_self_eq_true, Bool.false_eq_true, bq_ft, bq_tf, Bool.not_true, Bool.not_false, Nat.le_refl, List.map_cons, List.map_nil, isNilA, nilPtr, nilSl, nilIf, nilFn, nilMap, nilCheckA, if_true, if_false, lt_lit, le_lit, lt_lit2, le_lit2, le_sub1, le_sub2]; rfl
    apply evI_seq
    · simp only [pcR, IC.nb, IC.hd, I13, held, hq2, hm1, hle, htk, htb, q1, List.append_nil, List.nil_append, List.cons_append, List.getD_cons_zero, List.getD_cons_succ, evI, opsI, stepI, wantI, opI, AAct.evI, look, AAct.put, mkVal, mkVM, intOpA, intA, shiftA, unA, decide_true, decide_false, Option.map_some, Option.map_none, reduceIte, Nat.reduceEqDiff, Nat.reduceLT, Option.bind_some, Option.bind_none, true_and, and_true, and_self, Nat.zero_lt_succ, cellsAt, List.length_append, Nat.le_add_right, List.length_cons, List.length_nil, Nat.zero_add, Nat.add_zero, Nat.reduceAdd, Nat.reduceMul, Nat.zero_mul, AV.cells, AV.one, known, List.append_assoc, getE_0, getE_k, setE_0, setE_k, List.getElem?_cons_zero, List.getElem?_cons_succ, List.set_cons_zero, List.set_cons_succ, List.take_succ_cons, List.take_zero, List.drop_zero, List.drop_succ_cons, List.drop_nil, List.all_cons, List.all_nil, Bool.and_self, Bool.and_true, Bool.true_and, Bool.and_false, Bool.false_and, splice, fillI, Nat.reduceLeDiff, strA, Nat.add_assoc, beq_self_eq_true, Bool.false_eq_true, bq_ft, bq_tf, Bool.not_true, Bool.not_false, Nat.le_refl, List.map_cons, List.map_nil, isNilA, nilPtr, nilSl, nilIf, nilFn, nilMap, nilCheckA, if_true, if_false, lt_lit, le_lit, lt_lit2, le_lit2, le_sub1, le_sub2]; rfl
    apply evI_seq
    · simp only [pcR, IC.nb, IC.hd, I13, q2, q3, List.append_nil, List.nil_append, List.cons_append, List.getD_cons_zero, List.getD_cons_succ, evI, opsI, stepI, wantI, opI, AAct.evI, look, AAct.put, mkVal, mkVM, intOpA, intA, shiftA, unA, decide_true, decide_false, Option.map_some, Option.map_none, reduceIte, Nat.reduceEqDiff, Nat.reduceLT, Option.bind_some, Option.bind_none, true_and, and_true, and_self, Nat.zero_lt_succ, cellsAt, List.length_append, Nat.le_add_right, List.length_cons, List.length_nil, Nat.zero_add, Nat.add_zero, Nat.reduceAdd, Nat.reduceMul, Nat.zero_mul, AV.cells, AV.one, known, List.append_assoc, getE_0, getE_k, setE_0, setE_k, List.getElem?_cons_zero, List.getElem?_cons_succ, List.set_cons_zero, List.set_cons_succ, List.take_succ_cons, List.take_zero, List.drop_zero, List.drop_succ_cons, List.drop_nil, List.all_cons, List.all_nil, Bool.and_self, Bool.and_true, Bool.true_and, Bool.and_false, Bool.false_and, splice, fillI, Nat.reduceLeDiff, strA, Nat.add_assoc, beq_self_eq_true, Bool.false_eq_true, bq_ft, bq_tf, Bool.not_true, Bool.not_false, Nat.le_refl, List.map_cons, List.map_nil, isNilA, nilPtr, nilSl, nilIf, nilFn, nilMap, nilCheckA, if_true, if_false, lt_lit, le_lit, lt_lit2, le_lit2, le_sub1, le_sub2]; rfl
    apply evI_seq (H' := H ++ [r27 [] [], rowE 0, rdr x 0 0])
    · simp only [pcR, IC.nb, IC.hd, I13, q4, rdr, List.append_nil, List.nil_append, List.cons_append, List.getD_cons_zero, List.getD_cons_succ, evI, opsI, stepI, wantI, opI, AAct.evI, look, AAct.put, mkVal, mkVM, intOpA, intA, shiftA, unA, decide_true, decide_false, Option.map_some, Option.map_none, reduceIte, Nat.reduceEqDiff, Nat.reduceLT, Option.bind_some, Option.bind_none, true_and, and_true, and_self, Nat.zero_lt_succ, cellsAt, List.length_append, Nat.le_add_right, List.length_cons, List.length_nil, Nat.zero_add, Nat.add_zero, Nat.reduceAdd, Nat.reduceMul, Nat.zero_mul, AV.cells, AV.one, known, List.append_assoc, getE_0, getE_k, setE_0, setE_k, List.getElem?_cons_zero, List.getElem?_cons_succ, List.set_cons_zero, List.set_cons_succ, List.take_succ_cons, List.take_zero, List.drop_zero, List.drop_succ_cons, List.drop_nil, List.all_cons, List.all_nil, Bool.and_self, Bool.and_true, Bool.true_and, Bool.and_false, Bool.false_and, splice, fillI, Nat.reduceLeDiff, strA, Nat.add_assoc, beq_self_eq_true, Bool.false_eq_true, bq_ft, bq_tf, Bool.not_true, Bool.not_false, Nat.le_refl, List.map_cons, List.map_nil, isNilA, nilPtr, nilSl, nilIf, nilFn, nilMap, nilCheckA, if_true, if_false, lt_lit, le_lit, lt_lit2, le_lit2, le_sub1, le_sub2]; rfl
    apply evI_seq (H' := H ++ [r27 [] [], rowE 0, rdr x 0 0])
    · simp only [pcR, IC.nb, IC.hd, I13, rdr, q5, List.append_nil, List.nil_append, List.cons_append, List.getD_cons_zero, List.getD_cons_succ, evI, opsI, stepI, wantI, opI, AAct.evI, look, AAct.put, mkVal, mkVM, intOpA, intA, shiftA, unA, decide_true, decide_false, Option.map_some, Option.map_none, reduceIte, Nat.reduceEqDiff, Nat.reduceLT, Option.bind_some, Option.bind_none, true_and, and_true, and_self, Nat.zero_lt_succ, cellsAt, List.length_append, Nat.le_add_right, List.length_cons, List.length_nil, Nat.zero_add, Nat.add_zero, Nat.reduceAdd, Nat.reduceMul, Nat.zero_mul, AV.cells, AV.one, known, List.append_assoc, getE_0, getE_k, setE_0, setE_k, List.getElem?_cons_zero, List.getElem?_cons_succ, List.set_cons_zero, List.set_cons_succ, List.take_succ_cons, List.take_zero, List.drop_zero, List.drop_succ_cons, List.drop_nil, List.all_cons, List.all_nil, Bool.and_self, Bool.and_true, Bool.true_and, Bool.and_false, Bool.false_and, splice, fillI, Nat.reduceLeDiff, strA, Nat.add_assoc, beq_self_eq_true, Bool.false_eq_true, bq_ft, bq_tf, Bool.not_true, Bool.not_false, Nat.le_refl, List.map_cons, List.map_nil, isNilA, nilPtr, nilSl, nilIf, nilFn, nilMap, nilCheckA, if_true, if_false, lt_lit, le_lit, lt_lit2, le_lit2, le_sub1, le_sub2]; rfl
    apply evI_seq
    · simp only [pcR, IC.nb, IC.hd, I13, q6, List.append_nil, List.nil_append, List.cons_append, List.getD_cons_zero, List.getD_cons_succ, evI, opsI, stepI, wantI, opI, AAct.evI, look, AAct.put, mkVal, mkVM, intOpA, intA, shiftA, unA, decide_true, decide_false, Option.map_some, Option.map_none, reduceIte, Nat.reduceEqDiff, Nat.reduceLT, Option.bind_some, Option.bind_none, true_and, and_true, and_self, Nat.zero_lt_succ, cellsAt, List.length_append, Nat.le_add_right, List.length_cons, List.length_nil, Nat.zero_add, Nat.add_zero, Nat.reduceAdd, Nat.reduceMul, Nat.zero_mul, AV.cells, AV.one, known, List.append_assoc, getE_0, getE_k, setE_0, setE_k, List.getElem?_cons_zero, List.getElem?_cons_succ, List.set_cons_zero, List.set_cons_succ, List.take_succ_cons, List.take_zero, List.drop_zero, List.drop_succ_cons, List.drop_nil, List.all_cons, List.all_nil, Bool.and_self, Bool.and_true, Bool.true_and, Bool.and_false, Bool.false_and, splice, fillI, Nat.reduceLeDiff, strA, Nat.add_assoc, beq_self_eq_true, Bool.false_eq_true, bq_ft, bq_tf, Bool.not_true, Bool.not_false, Nat.le_refl, List.map_cons, List.map_nil, isNilA, nilPtr, nilSl, nilIf, nilFn, nilMap, nilCheckA, if_true, if_false, lt_lit, le_lit, lt_lit2, le_lit2, le_sub1, le_sub2]; rfl
    rfl
  case g2 => rfl
  case g3 => rfl
  case g5 => rfl
/-- The element is well, and nothing stands behind. -/
theorem read_ok (hn : 4 ≤ n) (sp nm tx : List UInt8) (at2 many kn an : Nat) (ac kc : List AV) (hac : lowL 0 ac = true) (hkc : lowL 0 kc = true)
    (hE : ∀ A : Mem, LoM A [scope1 nsX] → evFI Tryz.prog (cfg ml) T N n 38 [.ptr A.length 0 0, .map (A.length + 1), .int .i64 0] (A ++ rdr x at1 0 :: [scope1 nsX]) = some (.ret (.agg [.str sp, .str nm, .str tx, .lst an ac, .lst kn kc]), A ++ rdr x at2 many :: [scope1 nsX]))
    (hM2 : ∀ A B : Mem, evFI Tryz.prog (cfg ml) T N n 37 [.ptr A.length 0 0, .bool false] (A ++ rdr x at2 many :: B) = some (.ret (.tup []), A ++ rdr x x.length many :: B)) (hlo : lowM H.length H = true) :
    evFI Tryz.prog (cfg ml) T N (n + 1) 13 [.slc q 0 x.length 1 0] H = some (.ret (.tup [.agg [.str sp, .str nm, .str tx, .lst an ac, .lst kn kc], .int .i64 0]), H) := by
  obtain ⟨t, l2, l3, l5, hpre⟩ := read_pre (ml := ml) x hs hN hp n q ty H hq hx1 hx2 at1 hM1 hn
  have hlA : LoM (H ++ [r27 [] [], rowE 0]) [scope1 nsX] := by
    refine ⟨?_, rfl⟩
    unfold lowM at *
    rw [List.all_append, List.all_eq_true.2 fun y hy => lowB_mono (by simp; omega) (List.all_eq_true.1 hlo y hy)]
    rfl
  have q1 := hE (H ++ [r27 [] [], rowE 0]) hlA
  have q2 := hM2 (H ++ [.row [.str sp, .str nm, .str tx, .lst an ac, .lst kn kc] 0 (27 + 1), rowE 0]) [scope1 nsX]
  have q3 := fun e H => must_t (P := Tryz.prog) (N := N) (ml := ml) n (by omega) e H
  have hbq : ((x.length : Int) == (x.length : Int)) = true := beq_self_eq_true _
  simp only [nsX, List.length_append, List.length_cons, List.length_nil, Nat.zero_add, Nat.add_assoc, Nat.reduceAdd, List.append_assoc, List.cons_append, List.nil_append] at q1 q2
  have hac' : ∀ j, lowL j ac = true := fun j => pureL_low hac j
  have hkc' : ∀ j, lowL j kc = true := fun j => pureL_low hkc j
  have hT : T 29 = some I29 := t29
  refine evF_retD (m := 51) (a := ?aa) (H1 := H ++ [.row [.str sp, .str nm, .str tx, .lst an ac, .lst kn kc] 0 (27 + 1), rowE 0, rdr x x.length many, scope1 nsX]) rfl t13 rfl ?hb ?hd ?hz
  case hb =>
    refine hpre.trans ?_
    apply evI_seq
    · simp only [pcR, IC.nb, IC.hd, I13, l2, l5, updateD, findA, isKey, mkM, q1, List.append_nil, List.nil_append, List.cons_append, List.getD_cons_zero, List.getD_cons_succ, evI, opsI, stepI, wantI, opI, AAct.evI, look, AAct.put, mkVal, mkVM, intOpA, intA, shiftA, unA, decide_true, decide_false, Option.map_some, Option.map_none, reduceIte, Nat.reduceEqDiff, Nat.reduceLT, Option.bind_some, Option.bind_none, true_and, and_true, and_self, Nat.zero_lt_succ, cellsAt, List.length_append, Nat.le_add_right, List.length_cons, List.length_nil, Nat.zero_add, Nat.add_zero, Nat.reduceAdd, Nat.reduceMul, Nat.zero_mul, AV.cells, AV.one, known, List.append_assoc, getE_0, getE_k, setE_0, setE_k, List.getElem?_cons_zero, List.getElem?_cons_succ, List.set_cons_zero, List.set_cons_succ, List.take_succ_cons, List.take_zero, List.drop_zero, List.drop_succ_cons, List.drop_nil, List.all_cons, List.all_nil, Bool.and_self, Bool.and_true, Bool.true_and, Bool.and_false, Bool.false_and, splice, fillI, Nat.reduceLeDiff, strA, Nat.add_assoc, beq_self_eq_true, Bool.false_eq_true, bq_ft, bq_tf, Bool.not_true, Bool.not_false, Nat.le_refl, List.map_cons, List.map_nil, isNilA, nilPtr, nilSl, nilIf, nilFn, nilMap, nilCheckA, if_true, if_false, lt_lit, le_lit, lt_lit2, le_lit2, le_sub1, le_sub2]; rfl
    apply evI_seq
    · simp only [pcR, IC.nb, IC.hd, I13, l5, q2, List.append_nil, List.nil_append, List.cons_append, List.getD_cons_zero, List.getD_cons_succ, evI, opsI, stepI, wantI, opI, AAct.evI, look, AAct.put, mkVal, mkVM, intOpA, intA, shiftA, unA, decide_true, decide_false, Option.map_some, Option.map_none, reduceIte, Nat.reduceEqDiff, Nat.reduceLT, Option.bind_some, Option.bind_none, true_and, and_true, and_self, Nat.zero_lt_succ, cellsAt, List.length_append, Nat.le_add_right, List.length_cons, List.length_nil, Nat.zero_add, Nat.add_zero, Nat.reduceAdd, Nat.reduceMul, Nat.zero_mul, AV.cells, AV.one, known, List.append_assoc, getE_0, getE_k, setE_0, setE_k, List.getElem?_cons_zero, List.getElem?_cons_succ, List.set_cons_zero, List.set_cons_succ, List.take_succ_cons, List.take_zero, List.drop_zero, List.drop_succ_cons, List.drop_nil, List.all_cons, List.all_nil, Bool.and_self, Bool.and_true, Bool.true_and, Bool.and_false, Bool.false_and, splice, fillI, Nat.reduceLeDiff, strA, Nat.add_assoc, beq_self_eq_true, Bool.false_eq_true, bq_ft, bq_tf, Bool.not_true, Bool.not_false, Nat.le_refl, List.map_cons, List.map_nil, isNilA, nilPtr, nilSl, nilIf, nilFn, nilMap, nilCheckA, if_true, if_false, lt_lit, le_lit, lt_lit2, le_lit2, le_sub1, le_sub2]; rfl
    apply evI_seq
    · simp only [pcR, IC.nb, IC.hd, I13, rdr, l5, hbq, q3, List.append_nil, List.nil_append, List.cons_append, List.getD_cons_zero, List.getD_cons_succ, evI, opsI, stepI, wantI, opI, AAct.evI, look, AAct.put, mkVal, mkVM, intOpA, intA, shiftA, unA, decide_true, decide_false, Option.map_some, Option.map_none, reduceIte, Nat.reduceEqDiff, Nat.reduceLT, Option.bind_some, Option.bind_none, true_and, and_true, and_self, Nat.zero_lt_succ, cellsAt, List.length_append, Nat.le_add_right, List.length_cons, List.length_nil, Nat.zero_add, Nat.add_zero, Nat.reduceAdd, Nat.reduceMul, Nat.zero_mul, AV.cells, AV.one, known, List.append_assoc, getE_0, getE_k, setE_0, setE_k, List.getElem?_cons_zero, List.getElem?_cons_succ, List.set_cons_zero, List.set_cons_succ, List.take_succ_cons, List.take_zero, List.drop_zero, List.drop_succ_cons, List.drop_nil, List.all_cons, List.all_nil, Bool.and_self, Bool.and_true, Bool.true_and, Bool.and_false, Bool.false_and, splice, fillI, Nat.reduceLeDiff, strA, Nat.add_assoc, beq_self_eq_true, Bool.false_eq_true, bq_ft, bq_tf, Bool.not_true, Bool.not_false, Nat.le_refl, List.map_cons, List.map_nil, isNilA, nilPtr, nilSl, nilIf, nilFn, nilMap, nilCheckA, if_true, if_false, lt_lit, le_lit, lt_lit2, le_lit2, le_sub1, le_sub2, drawI, drawI2, drawI0, drawI20, lexD, valD, valI, putD, okD, roD, memAt, lastM, wantI, eqv_refl, eqM_refl, eqM_app, eqB, eqvL, eqv, List.getLast?_cons_cons, List.getLast?_singleton, Option.getD_some, Bool.or_true, Bool.true_or, beq_self_eq_true, resvV]; rfl
    apply evI_seq
    · simp only [pcR, IC.nb, IC.hd, I13, l2, l3, List.append_nil, List.nil_append, List.cons_append, List.getD_cons_zero, List.getD_cons_succ, evI, opsI, stepI, wantI, opI, AAct.evI, look, AAct.put, mkVal, mkVM, intOpA, intA, shiftA, unA, decide_true, decide_false, Option.map_some, Option.map_none, reduceIte, Nat.reduceEqDiff, Nat.reduceLT, Option.bind_some, Option.bind_none, true_and, and_true, and_self, Nat.zero_lt_succ, cellsAt, List.length_append, Nat.le_add_right, List.length_cons, List.length_nil, Nat.zero_add, Nat.add_zero, Nat.reduceAdd, Nat.reduceMul, Nat.zero_mul, AV.cells, AV.one, known, List.append_assoc, getE_0, getE_k, setE_0, setE_k, List.getElem?_cons_zero, List.getElem?_cons_succ, List.set_cons_zero, List.set_cons_succ, List.take_succ_cons, List.take_zero, List.drop_zero, List.drop_succ_cons, List.drop_nil, List.all_cons, List.all_nil, Bool.and_self, Bool.and_true, Bool.true_and, Bool.and_false, Bool.false_and, splice, fillI, Nat.reduceLeDiff, strA, Nat.add_assoc, beq_self_eq_true, Bool.false_eq_true, bq_ft, bq_tf, Bool.not_true, Bool.not_false, Nat.le_refl, List.map_cons, List.map_nil, isNilA, nilPtr, nilSl, nilIf, nilFn, nilMap, nilCheckA, if_true, if_false, lt_lit, le_lit, lt_lit2, le_lit2, le_sub1, le_sub2]; rfl
    rfl
  case hd => rfl
  case hz =>
    have hk : (cfg ml).keep 13 = false := rfl
    have hmax : max 2 14 = 14 := rfl
    simp only [hmax, takeE_0, takeS, eqM_refl, tailI, defI, hT, I29, I13, resI, resLI, Option.getD_none, List.length_cons, List.length_nil, idx, hk, l2, l3, List.isEmpty_nil, finish, frz, frzL, low, lowL, hac', hkc', mayCut, List.append_nil, List.nil_append, List.cons_append, List.getD_cons_zero, List.getD_cons_succ, evI, opsI, stepI, wantI, opI, AAct.evI, look, AAct.put, mkVal, mkVM, intOpA, intA, shiftA, unA, decide_true, decide_false, Option.map_some, Option.map_none, reduceIte, Nat.reduceEqDiff, Nat.reduceLT, Option.bind_some, Option.bind_none, true_and, and_true, and_self, Nat.zero_lt_succ, cellsAt, List.length_append, Nat.le_add_right, List.length_cons, List.length_nil, Nat.zero_add, Nat.add_zero, Nat.reduceAdd, Nat.reduceMul, Nat.zero_mul, AV.cells, AV.one, known, List.append_assoc, getE_0, getE_k, setE_0, setE_k, List.getElem?_cons_zero, List.getElem?_cons_succ, List.set_cons_zero, List.set_cons_succ, List.take_succ_cons, List.take_zero, List.drop_zero, List.drop_succ_cons, List.drop_nil, List.all_cons, List.all_nil, Bool.and_self, Bool.and_true, Bool.true_and, Bool.and_false, Bool.false_and, splice, fillI, Nat.reduceLeDiff, strA, Nat.add_assoc, beq_self_eq_true, Bool.false_eq_true, bq_ft, bq_tf, Bool.not_true, Bool.not_false, Nat.le_refl, List.map_cons, List.map_nil, isNilA, nilPtr, nilSl, nilIf, nilFn, nilMap, nilCheckA, if_true, if_false, lt_lit, le_lit, lt_lit2, le_lit2, le_sub1, le_sub2]
    rfl
/-- The element is none: why. -/
theorem read_pan (hn : 4 ≤ n) (er : Int) (hE : ∀ A : Mem, LoM A [scope1 nsX] → ∃ M, evFI Tryz.prog (cfg ml) T N n 38 [.ptr A.length 0 0, .map (A.length + 1), .int .i64 0] (A ++ rdr x at1 0 :: [scope1 nsX]) = some (.pan (failv er), M) ∧ M.take A.length = A) (hlo : lowM H.length H = true) :
    evFI Tryz.prog (cfg ml) T N (n + 1) 13 [.slc q 0 x.length 1 0] H = some (.ret (.tup [.agg [.str [], .str [], .str [], .lst 0 [], .lst 0 []], .int .i64 er]), H) := by
  obtain ⟨t, l2, l3, l5, hpre⟩ := read_pre (ml := ml) x hs hN hp n q ty H hq hx1 hx2 at1 hM1 hn
  have hlA : LoM (H ++ [r27 [] [], rowE 0]) [scope1 nsX] := by
    refine ⟨?_, rfl⟩
    unfold lowM at *
    rw [List.all_append, List.all_eq_true.2 fun y hy => lowB_mono (by simp; omega) (List.all_eq_true.1 hlo y hy)]
    rfl
  obtain ⟨M, q1, hMA⟩ := hE (H ++ [r27 [] [], rowE 0]) hlA
  have hM : M = H ++ r27 [] [] :: rowE 0 :: M.drop (H.length + 2) := by
    have h := List.take_append_drop (H ++ [r27 [] [], rowE 0]).length M
    rw [hMA] at h
    rw [← h]
    simp
  generalize M.drop (H.length + 2) = L at hM
  subst hM
  simp only [nsX, List.length_append, List.length_cons, List.length_nil, Nat.zero_add, Nat.add_assoc, Nat.reduceAdd, List.append_assoc, List.cons_append, List.nil_append] at q1
  have hT : T 29 = some I29 := t29
  refine evF_panD (m := 51) (v := failv er) (a := ?aa) (H1 := H ++ r27 [] [] :: rowE 0 :: L) rfl t13 rfl ?hb ?hd ?hz
  case hb =>
    refine hpre.trans ?_
    apply evI_seq_pan
    simp only [pcR, IC.nb, IC.hd, I13, l2, l5, updateD, findA, isKey, mkM, q1, List.append_nil, List.nil_append, List.cons_append, List.getD_cons_zero, List.getD_cons_succ, evI, opsI, stepI, wantI, opI, AAct.evI, look, AAct.put, mkVal, mkVM, intOpA, intA, shiftA, unA, decide_true, decide_false, Option.map_some, Option.map_none, reduceIte, Nat.reduceEqDiff, Nat.reduceLT, Option.bind_some, Option.bind_none, true_and, and_true, and_self, Nat.zero_lt_succ, cellsAt, List.length_append, Nat.le_add_right, List.length_cons, List.length_nil, Nat.zero_add, Nat.add_zero, Nat.reduceAdd, Nat.reduceMul, Nat.zero_mul, AV.cells, AV.one, known, List.append_assoc, getE_0, getE_k, setE_0, setE_k, List.getElem?_cons_zero, List.getElem?_cons_succ, List.set_cons_zero, List.set_cons_succ, List.take_succ_cons, List.take_zero, List.drop_zero, List.drop_succ_cons, List.drop_nil, List.all_cons, List.all_nil, Bool.and_self, Bool.and_true, Bool.true_and, Bool.and_false, Bool.false_and, splice, fillI, Nat.reduceLeDiff, strA, Nat.add_assoc, beq_self_eq_true, Bool.false_eq_true, bq_ft, bq_tf, Bool.not_true, Bool.not_false, Nat.le_refl, List.map_cons, List.map_nil, isNilA, nilPtr, nilSl, nilIf, nilFn, nilMap, nilCheckA, if_true, if_false, lt_lit, le_lit, lt_lit2, le_lit2, le_sub1, le_sub2]; rfl
  case hd => rfl
  case hz =>
    have hk : (cfg ml).keep 13 = false := rfl
    have hmax : max 2 14 = 14 := rfl
    have e55 : (55 = 55) = True := by simp
    simp only [hmax, failv, assertD, e55, takeE_0, takeS, eqM_refl, tailI, defI, hT, I29, I13, resI, resLI, Option.getD_some, List.length_cons, List.length_nil, idx, hk, l2, l3, List.isEmpty_nil, finish, frz, frzL, low, lowL, mayCut, List.append_nil, List.nil_append, List.cons_append, List.getD_cons_zero, List.getD_cons_succ, evI, opsI, stepI, wantI, opI, AAct.evI, look, AAct.put, mkVal, mkVM, intOpA, intA, shiftA, unA, decide_true, decide_false, Option.map_some, Option.map_none, reduceIte, Nat.reduceEqDiff, Nat.reduceLT, Option.bind_some, Option.bind_none, true_and, and_true, and_self, Nat.zero_lt_succ, cellsAt, List.length_append, Nat.le_add_right, List.length_cons, List.length_nil, Nat.zero_add, Nat.add_zero, Nat.reduceAdd, Nat.reduceMul, Nat.zero_mul, AV.cells, AV.one, known, List.append_assoc, getE_0, getE_k, setE_0, setE_k, List.getElem?_cons_zero, List.getElem?_cons_succ, List.set_cons_zero, List.set_cons_succ, List.take_succ_cons, List.take_zero, List.drop_zero, List.drop_succ_cons, List.drop_nil, List.all_cons, List.all_nil, Bool.and_self, Bool.and_true, Bool.true_and, Bool.and_false, Bool.false_and, splice, fillI, Nat.reduceLeDiff, strA, Nat.add_assoc, beq_self_eq_true, Bool.false_eq_true, bq_ft, bq_tf, Bool.not_true, Bool.not_false, Nat.le_refl, List.map_cons, List.map_nil, isNilA, nilPtr, nilSl, nilIf, nilFn, nilMap, nilCheckA, if_true, if_false, lt_lit, le_lit, lt_lit2, le_lit2, le_sub1, le_sub2, drawI, drawI2, drawI0, drawI20, lexD, valD, valI, putD, okD, roD, memAt, lastM, wantI, eqv_refl, eqM_refl, eqM_app, eqB, eqvL, eqv, List.getLast?_cons_cons, List.getLast?_singleton, Option.getD_some, Bool.or_true, Bool.true_or, beq_self_eq_true, resvV]
end
theorem known_ok (P : Program) (N d : Nat) (hd : 1 ≤ d) (H : Mem) : evFI P (cfg ml) T N d 17 [] H = some (.ret (.bool true), H) := by
  obtain ⟨n, rfl⟩ : ∃ k, d = k + 1 := ⟨d - 1, by omega⟩
  have hl : (cfg ml).lib 17 = some trueLib := rfl
  simp only [evFI, hl, trueLib, Option.map_some]
theorem ofBytes_low (n : Nat) : ∀ s : List UInt8, lowL n (ofBytes s) = true
  | [] => rfl
  | b :: s => by
    have ih := ofBytes_low n s
    unfold ofBytes at *
    simp only [List.map_cons, lowL, low, Bool.true_and, ih]
theorem bytes_row (x : List UInt8) (ty : Nat) : lowM [Blk.row (ofBytes x) 0 ty].length [Blk.row (ofBytes x) 0 ty] = true := by
  unfold lowM
  simp only [List.all_cons, List.all_nil, lowB, ofBytes_low, Bool.and_self]
end Go.Proofs.YtmnajffpmbidiaaGreatDoor.Ev
