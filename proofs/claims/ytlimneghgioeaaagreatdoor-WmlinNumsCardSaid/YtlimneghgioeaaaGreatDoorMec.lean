/- Parts of one proof, one behind the other: wmlin.Nums: reckoned with letters (its loop). -/
import Derived.Test.YtlimneghgioeaaaGreatDoorMeb
/- wmlin.Nums: reckoned with letters (its loop). -/
namespace Go.Proofs.YtlimneghgioeaaaGreatDoor.Ev
set_option linter.all false
open Go.Proofs.YtlimneghgioeaaaGreatDoor.Ic
set_option maxRecDepth 100000
set_option maxHeartbeats 2000000
set_option linter.unusedSimpArgs false
/-- A round's end: what lives on is kept, and perhaps the memory is cut. -/
theorem loopA_going {body : AAct → Mem → Option (Out × AAct × Mem)} {lv : List Tmp} {n : Nat} {a a' : AAct} {H H' : Mem} {Q : Out × AAct × Mem → Prop} (h : body a H = some (.normal, a', H'))
    (h2 : ∀ M', (M' = H' ∨ (M' = H'.take H.length ∧ lowT H.length (a'.keepT lv).t = true)) → ∃ r, loopA body (some lv) n (a'.keepT lv) M' = some r ∧ Q r) : ∃ r, loopA body (some lv) (n + 1) a H = some r ∧ Q r := by
  rw [loopA_succ, h]
  simp only [roundEnd]
  split
  · rename_i hc
    simp only [Bool.and_eq_true] at hc
    exact h2 _ (.inr ⟨rfl, hc.1.1⟩)
  · exact h2 _ (.inl rfl)
/-- A list that grows: nothing yet, or a row behind the first blocks. -/
def Grows (n0 sz ty : Nat) (n : Nat) (cs : List AV) (v : AV) (M : Mem) : Prop :=
  (n = 0 ∧ cs = [] ∧ v = .nilS) ∨ ∃ q st, v = .slc q 0 n sz st ∧ n0 ≤ q ∧ M[q]? = some (.row cs st ty)
theorem Grows.app {n0 sz ty n : Nat} {cs : List AV} {v : AV} {M : Mem} (h : Grows n0 sz ty n cs v M) (L : Mem) : Grows n0 sz ty n cs v (M ++ L) := by
  rcases h with h | ⟨q, st, h1, h2, h3⟩
  · exact .inl h
  · exact .inr ⟨q, st, h1, h2, by rw [List.getElem?_append_left (List.getElem?_eq_some_iff.1 h3).1]; exact h3⟩
/-- The first blocks are these. -/
def Starts (H M : Mem) : Prop := M.take H.length = H
theorem Starts.len {H M : Mem} (h : Starts H M) : H.length ≤ M.length := by
  have := congrArg List.length h
  rw [List.length_take] at this
  omega
theorem Starts.app {H M : Mem} (h : Starts H M) (L : Mem) : Starts H (M ++ L) := by
  unfold Starts
  rw [List.take_append_of_le_length h.len]; exact h
theorem Starts.set {H M : Mem} (h : Starts H M) {q : Nat} (hq : H.length ≤ q) (b : Blk) : Starts H (M.set q b) := by
  unfold Starts
  rw [List.take_set_of_le hq]; exact h
theorem Starts.get {H M : Mem} (h : Starts H M) {p : Nat} (hp : p < H.length) : M[p]? = H[p]? := by
  have : (M.take H.length)[p]? = M[p]? := List.getElem?_take_of_lt hp
  rw [← this, h]
theorem Starts.take {H M : Mem} (h : Starts H M) {n : Nat} (hn : H.length ≤ n) : Starts H (M.take n) := by
  unfold Starts
  rw [List.take_take, Nat.min_eq_left hn]; exact h
def numsS : List UInt8 := [110, 117, 109]
def numIdS : List UInt8 := [110, 117, 109, 73, 100]
/-- What an abstractNum tells of a number. -/
def howU (id : List UInt8) (l : List El) : Nu := match absIn id l with
  | some x => (0, ordOf x, howStart x, numZ (ilvlT x))
  | none => (0, false, 0, 0)
theorem howV_nu (id : List UInt8) (l : List El) : howV id l = nuC (howU id l) := by
  simp only [howV, howU]
  cases absIn id l <;> rfl
/-- The number of an element num. -/
def numU (e x : El) : Nu := (numZ (attrOf x numIdS), (howU (valOf x absIdS) e.kids).2)
/-- May it stand behind others? -/
def numB (e x : El) (l : List Nu) : Bool := howB (valOf x absIdS) e.kids && (isNum (attrOf x numIdS) && (!decide (numZ (attrOf x numIdS) < 1) && !l.any (·.1 == numZ (attrOf x numIdS))))
def isNumE (x : El) : Bool := x.sp == wNs && x.nm == numsS
/-- What kids tell as numbers, behind others. -/
def numsIn (e : El) : List El → List Nu → Option (List Nu)
  | [], l => some l
  | x :: xs, l => if isNumE x then (if numB e x l then numsIn e xs (l ++ [numU e x]) else none) else numsIn e xs l
theorem nusC_snoc (l : List Nu) (x : Nu) : nusC (l ++ [x]) = nusC l ++ nuC x := by simp [nusC]
noncomputable def loopNums : IC := (I10.c.loops).getD 0 .bad
def NumsEnd (H : Mem) (r : Option (List Nu)) : Out × AAct × Mem → Prop
  | (o, a, M) => Starts H M ∧ match r with
    | none => o = .ret ∧ a.n = 70 ∧ a.d = [] ∧ look a.t 2 = .nilS ∧ look a.t 3 = .int .i64 18
    | some l => o = .exit 0 ∧ a.n = 70 ∧ a.d = [] ∧ Grows H.length 4 (63 + 1) l.length (nusC l) (look a.t 4) M
theorem nums_loop (P : Program) (hcl : callable P 28 = true) (N n : Nat) (hN : 9223372036854775808 ≤ N) (e : El) (he : Fits e) (hek : e.kids.length ≤ 1073741824) (H : Mem) (pe : Nat) (hpe : H[pe]? = some (.row (eC e) 0 (25 + 1))) : ∀ (fuel k : Nat) (l : List Nu) (v : AV) (M : Mem), k ≤ e.kids.length → e.kids.length - k < fuel → l.length ≤ k → Starts H M → Grows H.length 4 (63 + 1) l.length (nusC l) v M →
    ∃ r, loopA (fun a H => evI P cfg (evFI P cfg T N (n + 4)) N loopNums a H) (some [1, 4, 20, 21, 22]) fuel ⟨70, [(1, .ptr pe 0 0), (4, v), (20, .lst e.kids.length (kC e.kids)), (21, .int .i64 e.kids.length), (22, .int .i64 k)], []⟩ M = some r ∧ NumsEnd H (numsIn e (e.kids.drop k) l) r
  | 0, k, _, _, _, _, h, _, _, _ => by omega
  | fuel + 1, k, l, v, M, hk, hf, hlk, hst, hg => by
    rcases Nat.lt_or_ge k e.kids.length with hlt | hge
    · obtain ⟨x, hx⟩ := all_drop hlt
      have hxm : x ∈ e.kids := List.mem_of_mem_drop (i := k) (by rw [hx]; exact List.mem_cons_self)
      have hfx := he.kid hxm
      have hget : (kC e.kids).drop (k * 5) = eC x ++ kC (e.kids.drop (k + 1)) := by rw [kC_drop, hx]; rfl
      have hlen : k * 5 + 5 ≤ (kC e.kids).length := by rw [kC_len]; omega
      have hi : (k : Int) < (e.kids.length : Int) := by omega
      have hw := wrap_next hlt he.len
      have hn := natOf_nat k .i64
      have hpl : pe < H.length := (List.getElem?_eq_some_iff.1 hpe).1
      have hE : ∀ L, (M ++ L)[pe]? = some (.row (eC e) 0 (25 + 1)) := fun L => by rw [(hst.app L).get hpl]; exact hpe
      have ih := nums_loop P hcl N n hN e he hek H pe hpe fuel (k + 1)
      rw [hx]
      cases h1 : isNumE x
      · simp only [numsIn, h1, Bool.false_eq_true, if_false]
        have hgo : ∀ X : Mem, ∀ M', (M' = M ++ X ∨ (M' = (M ++ X).take M.length ∧ lowT M.length [(1, .ptr pe 0 0), (4, v), (20, .lst e.kids.length (kC e.kids)), (21, .int .i64 e.kids.length), (22, .int .i64 (k + 1 : Nat))] = true)) → ∃ r, loopA (fun a H => evI P cfg (evFI P cfg T N (n + 4)) N loopNums a H) (some [1, 4, 20, 21, 22]) fuel ⟨70, [(1, .ptr pe 0 0), (4, v), (20, .lst e.kids.length (kC e.kids)), (21, .int .i64 e.kids.length), (22, .int .i64 (k + 1 : Nat))], []⟩ M' = some r ∧ NumsEnd H (numsIn e (e.kids.drop (k + 1)) l) r := by
          rintro X M' (rfl | ⟨rfl, _⟩)
          · exact ih l v _ (by omega) (by omega) (by omega) (hst.app X) (hg.app X)
          · rw [List.take_left]
            exact ih l v M (by omega) (by omega) (by omega) hst hg
        cases h2 : (x.sp == wNs)
        · simp only [wNs] at h2
          refine loopA_going (by simp only [loopNums, I10, IC.loops, hi, hlt, hlen, hget, hn, hw, h2, eC_len, eC_take, eC_one, eC_0, eC_1, eC_2, eC_3, eC_4, eCr, eCr_0, eCr_1, eCr_2, eCr_3, eCr_4, List.length_drop, Nat.reduceSub, Nat.add_sub_cancel_left, atr, List.append_nil, List.nil_append, List.cons_append, List.getD_cons_zero, List.getD_cons_succ, evI, opsI, stepI, wantI, opI, AAct.evI, look, AAct.put, mkVal, mkVM, intOpA, intA, shiftA, unA, decide_true, decide_false, Option.map_some, Option.map_none, reduceIte, Nat.reduceEqDiff, Nat.reduceLT, Option.bind_some, Option.bind_none, true_and, and_true, and_self, Nat.zero_lt_succ, cellsAt, List.length_append, Nat.le_add_right, List.length_cons, List.length_nil, Nat.zero_add, Nat.add_zero, Nat.reduceAdd, Nat.reduceMul, Nat.zero_mul, AV.cells, AV.one, known, List.append_assoc, getE_0, getE_k, setE_0, setE_k, List.getElem?_cons_zero, List.getElem?_cons_succ, List.set_cons_zero, List.set_cons_succ, List.take_succ_cons, List.take_zero, List.drop_zero, List.drop_succ_cons, List.drop_nil, List.all_cons, List.all_nil, Bool.and_self, Bool.and_true, Bool.true_and, Bool.and_false, Bool.false_and, splice, fillI, Nat.reduceLeDiff, strA, Nat.add_assoc, beq_self_eq_true, Bool.false_eq_true, bq_ft, bq_tf, Bool.not_true, Bool.not_false, Nat.le_refl, List.map_cons, List.map_nil, isNilA, nilPtr, nilSl, nilIf, nilFn, nilMap, nilCheckA, if_true, if_false, lt_lit, le_lit, lt_lit2, le_lit2, le_sub1, le_sub2]; rfl) (hgo _)
        · have h3 : (x.nm == numsS) = false := by simpa [isNumE, h2] using h1
          simp only [wNs] at h2
          simp only [numsS] at h3
          refine loopA_going (by simp only [loopNums, I10, IC.loops, hi, hlt, hlen, hget, hn, hw, h2, h3, eC_len, eC_take, eC_one, eC_0, eC_1, eC_2, eC_3, eC_4, eCr, eCr_0, eCr_1, eCr_2, eCr_3, eCr_4, List.length_drop, Nat.reduceSub, Nat.add_sub_cancel_left, atr, List.append_nil, List.nil_append, List.cons_append, List.getD_cons_zero, List.getD_cons_succ, evI, opsI, stepI, wantI, opI, AAct.evI, look, AAct.put, mkVal, mkVM, intOpA, intA, shiftA, unA, decide_true, decide_false, Option.map_some, Option.map_none, reduceIte, Nat.reduceEqDiff, Nat.reduceLT, Option.bind_some, Option.bind_none, true_and, and_true, and_self, Nat.zero_lt_succ, cellsAt, List.length_append, Nat.le_add_right, List.length_cons, List.length_nil, Nat.zero_add, Nat.add_zero, Nat.reduceAdd, Nat.reduceMul, Nat.zero_mul, AV.cells, AV.one, known, List.append_assoc, getE_0, getE_k, setE_0, setE_k, List.getElem?_cons_zero, List.getElem?_cons_succ, List.set_cons_zero, List.set_cons_succ, List.take_succ_cons, List.take_zero, List.drop_zero, List.drop_succ_cons, List.drop_nil, List.all_cons, List.all_nil, Bool.and_self, Bool.and_true, Bool.true_and, Bool.and_false, Bool.false_and, splice, fillI, Nat.reduceLeDiff, strA, Nat.add_assoc, beq_self_eq_true, Bool.false_eq_true, bq_ft, bq_tf, Bool.not_true, Bool.not_false, Nat.le_refl, List.map_cons, List.map_nil, isNilA, nilPtr, nilSl, nilIf, nilFn, nilMap, nilCheckA, if_true, if_false, lt_lit, le_lit, lt_lit2, le_lit2, le_sub1, le_sub2]; rfl) (hgo _)
      simp only [numsIn, h1, if_true]
      have hV := fun H => val_eq P N (n + 1) hN absIdS x hfx H
      have hHow := fun H => how_eq P N n hN (valOf x absIdS) e he H
      have hA := fun H => attr_eq P N (n + 2) hN numIdS x hfx H
      have hN1 := fun H => number_eq P N (n + 3) (attrOf x numIdS) (hfx.attr _) H
      simp only [isNumE, Bool.and_eq_true] at h1
      obtain ⟨h1, h2⟩ := h1
      have hnb : numB e x l = (howB (valOf x absIdS) e.kids && (isNum (attrOf x numIdS) && (!decide (numZ (attrOf x numIdS) < 1) && !l.any (·.1 == numZ (attrOf x numIdS))))) := rfl
      have hnu : numU e x = (numZ (attrOf x numIdS), (howU (valOf x absIdS) e.kids).2) := rfl
      generalize numB e x l = nb at hnb ⊢
      generalize numU e x = nu at hnu ⊢
      rw [howV_nu] at hHow
      simp only [wNs] at h1
      simp only [numsS] at h2
      generalize valOf x absIdS = ab at hV hHow hnb hnu
      generalize attrOf x numIdS = ia at hA hN1 hnb hnu
      simp only [absIdS] at hV
      simp only [numIdS] at hA
      generalize howB ab e.kids = hb at hHow hnb
      generalize howU ab e.kids = u at hHow hnu
      obtain ⟨u0, u1, u2, u3⟩ := u
      simp only [nuC, nC] at hHow
      generalize isNum ia = is1 at hN1 hnb
      generalize numZ ia = z at hN1 hnb hnu
      have hQ : l = [] ∧ v = .nilS ∨ ∃ q st, v = .slc q 0 l.length 4 st ∧ H.length ≤ q ∧ M[q]? = some (.row (nusC l) st (63 + 1)) := by
        rcases hg with ⟨h, _, h'⟩ | h
        · exact .inl ⟨List.eq_nil_of_length_eq_zero h, h'⟩
        · exact .inr h
      have hC : ∀ a b, evFI P cfg T N (n + 4) 27 [v, .fn (.func 28) [.ptr (M.length + 2) 0 0]] (M ++ [a, b, .row [.int .i64 z] 0 (3 + 1)]) = some (.ret (.bool (l.any (·.1 == z))), M ++ [a, b, .row [.int .i64 z] 0 (3 + 1)]) := by
        intro a b
        rcases hQ with ⟨rfl, rfl⟩ | ⟨q, st, rfl, _, hq⟩
        · exact has_nil P N (n + 2) hN _ _
        · refine has_eq P hcl N (n + 1) hN z _ (3 + 1) q st (63 + 1) l (by omega) _ ?_ ?_
          · rw [getE_k]; rfl
          · rw [List.getElem?_append_left (List.getElem?_eq_some_iff.1 hq).1]; exact hq
      have hll : l.length + 1 ≤ 2 ^ 34 := by omega
      have h134 : (1 : Nat) ≤ 2 ^ 34 := by omega
      have h100 : ((1 : Nat) = 0) = False := by simp
      have hl4 := nusC_len l
      have hnext : ∀ y : Nu, ∀ v' M', Starts H M' → Grows H.length 4 (63 + 1) (l.length + 1) (nusC l ++ nuC y) v' M' → ∃ r, loopA (fun a H => evI P cfg (evFI P cfg T N (n + 4)) N loopNums a H) (some [1, 4, 20, 21, 22]) fuel ⟨70, [(1, .ptr pe 0 0), (4, v'), (20, .lst e.kids.length (kC e.kids)), (21, .int .i64 e.kids.length), (22, .int .i64 (k + 1 : Nat))], []⟩ M' = some r ∧ NumsEnd H (numsIn e (e.kids.drop (k + 1)) (l ++ [y])) r := by
        intro y v' M' h5 h6
        refine ih (l ++ [y]) v' M' (by omega) (by omega) (by simp; omega) h5 ?_
        rw [nusC_snoc, List.length_append]; exact h6
      clear ih
      generalize l.any (·.1 == z) = has at hC hnb
      subst hnb hnu
      cases hb
      · simp only [Bool.false_and, Bool.false_eq_true, if_false]
        refine ⟨_, loopA_ret (by simp only [loopNums, I10, IC.loops, hi, hlt, hlen, hget, hn, hw, h1, h2, hE, hV, hHow, hA, hN1, hC, eC_len, eC_take, eC_one, eC_0, eC_1, eC_2, eC_3, eC_4, eCr, eCr_0, eCr_1, eCr_2, eCr_3, eCr_4, List.length_drop, Nat.reduceSub, Nat.add_sub_cancel_left, atr, List.append_nil, List.nil_append, List.cons_append, List.getD_cons_zero, List.getD_cons_succ, evI, opsI, stepI, wantI, opI, AAct.evI, look, AAct.put, mkVal, mkVM, intOpA, intA, shiftA, unA, decide_true, decide_false, Option.map_some, Option.map_none, reduceIte, Nat.reduceEqDiff, Nat.reduceLT, Option.bind_some, Option.bind_none, true_and, and_true, and_self, Nat.zero_lt_succ, cellsAt, List.length_append, Nat.le_add_right, List.length_cons, List.length_nil, Nat.zero_add, Nat.add_zero, Nat.reduceAdd, Nat.reduceMul, Nat.zero_mul, AV.cells, AV.one, known, List.append_assoc, getE_0, getE_k, setE_0, setE_k, List.getElem?_cons_zero, List.getElem?_cons_succ, List.set_cons_zero, List.set_cons_succ, List.take_succ_cons, List.take_zero, List.drop_zero, List.drop_succ_cons, List.drop_nil, List.all_cons, List.all_nil, Bool.and_self, Bool.and_true, Bool.true_and, Bool.and_false, Bool.false_and, splice, fillI, Nat.reduceLeDiff, strA, Nat.add_assoc, beq_self_eq_true, Bool.false_eq_true, bq_ft, bq_tf, Bool.not_true, Bool.not_false, Nat.le_refl, List.map_cons, List.map_nil, isNilA, nilPtr, nilSl, nilIf, nilFn, nilMap, nilCheckA, if_true, if_false, lt_lit, le_lit, lt_lit2, le_lit2, le_sub1, le_sub2, drawI, lexD, valD, valI, putD, okD, roD, memAt, lastM, wantI, eqv_refl, eqM_refl, eqM_app, eqB, eqvL, eqv, List.getLast?_cons_cons, List.getLast?_singleton, Option.getD_some, Bool.or_true, Bool.true_or, beq_self_eq_true]; rfl), ?_⟩
        exact ⟨hst.app _, rfl, rfl, rfl, rfl, rfl⟩
      cases is1
      · simp only [Bool.false_and, Bool.true_and, Bool.false_eq_true, if_false]
        refine ⟨_, loopA_ret (by simp only [loopNums, I10, IC.loops, hi, hlt, hlen, hget, hn, hw, h1, h2, hE, hV, hHow, hA, hN1, hC, eC_len, eC_take, eC_one, eC_0, eC_1, eC_2, eC_3, eC_4, eCr, eCr_0, eCr_1, eCr_2, eCr_3, eCr_4, List.length_drop, Nat.reduceSub, Nat.add_sub_cancel_left, atr, List.append_nil, List.nil_append, List.cons_append, List.getD_cons_zero, List.getD_cons_succ, evI, opsI, stepI, wantI, opI, AAct.evI, look, AAct.put, mkVal, mkVM, intOpA, intA, shiftA, unA, decide_true, decide_false, Option.map_some, Option.map_none, reduceIte, Nat.reduceEqDiff, Nat.reduceLT, Option.bind_some, Option.bind_none, true_and, and_true, and_self, Nat.zero_lt_succ, cellsAt, List.length_append, Nat.le_add_right, List.length_cons, List.length_nil, Nat.zero_add, Nat.add_zero, Nat.reduceAdd, Nat.reduceMul, Nat.zero_mul, AV.cells, AV.one, known, List.append_assoc, getE_0, getE_k, setE_0, setE_k, List.getElem?_cons_zero, List.getElem?_cons_succ, List.set_cons_zero, List.set_cons_succ, List.take_succ_cons, List.take_zero, List.drop_zero, List.drop_succ_cons, List.drop_nil, List.all_cons, List.all_nil, Bool.and_self, Bool.and_true, Bool.true_and, Bool.and_false, Bool.false_and, splice, fillI, Nat.reduceLeDiff, strA, Nat.add_assoc, beq_self_eq_true, Bool.false_eq_true, bq_ft, bq_tf, Bool.not_true, Bool.not_false, Nat.le_refl, List.map_cons, List.map_nil, isNilA, nilPtr, nilSl, nilIf, nilFn, nilMap, nilCheckA, if_true, if_false, lt_lit, le_lit, lt_lit2, le_lit2, le_sub1, le_sub2, drawI, lexD, valD, valI, putD, okD, roD, memAt, lastM, wantI, eqv_refl, eqM_refl, eqM_app, eqB, eqvL, eqv, List.getLast?_cons_cons, List.getLast?_singleton, Option.getD_some, Bool.or_true, Bool.true_or, beq_self_eq_true]; rfl), ?_⟩
        exact ⟨hst.app _, rfl, rfl, rfl, rfl, rfl⟩
      cases hz : decide (z < 1)
      rotate_left
      · simp only [Bool.not_true, Bool.false_and, Bool.true_and, Bool.false_eq_true, if_false]
        refine ⟨_, loopA_ret (by simp only [loopNums, I10, IC.loops, hi, hlt, hlen, hget, hn, hw, h1, h2, hE, hV, hHow, hA, hN1, hC, hz, eC_len, eC_take, eC_one, eC_0, eC_1, eC_2, eC_3, eC_4, eCr, eCr_0, eCr_1, eCr_2, eCr_3, eCr_4, List.length_drop, Nat.reduceSub, Nat.add_sub_cancel_left, atr, List.append_nil, List.nil_append, List.cons_append, List.getD_cons_zero, List.getD_cons_succ, evI, opsI, stepI, wantI, opI, AAct.evI, look, AAct.put, mkVal, mkVM, intOpA, intA, shiftA, unA, decide_true, decide_false, Option.map_some, Option.map_none, reduceIte, Nat.reduceEqDiff, Nat.reduceLT, Option.bind_some, Option.bind_none, true_and, and_true, and_self, Nat.zero_lt_succ, cellsAt, List.length_append, Nat.le_add_right, List.length_cons, List.length_nil, Nat.zero_add, Nat.add_zero, Nat.reduceAdd, Nat.reduceMul, Nat.zero_mul, AV.cells, AV.one, known, List.append_assoc, getE_0, getE_k, setE_0, setE_k, List.getElem?_cons_zero, List.getElem?_cons_succ, List.set_cons_zero, List.set_cons_succ, List.take_succ_cons, List.take_zero, List.drop_zero, List.drop_succ_cons, List.drop_nil, List.all_cons, List.all_nil, Bool.and_self, Bool.and_true, Bool.true_and, Bool.and_false, Bool.false_and, splice, fillI, Nat.reduceLeDiff, strA, Nat.add_assoc, beq_self_eq_true, Bool.false_eq_true, bq_ft, bq_tf, Bool.not_true, Bool.not_false, Nat.le_refl, List.map_cons, List.map_nil, isNilA, nilPtr, nilSl, nilIf, nilFn, nilMap, nilCheckA, if_true, if_false, lt_lit, le_lit, lt_lit2, le_lit2, le_sub1, le_sub2, drawI, lexD, valD, valI, putD, okD, roD, memAt, lastM, wantI, eqv_refl, eqM_refl, eqM_app, eqB, eqvL, eqv, List.getLast?_cons_cons, List.getLast?_singleton, Option.getD_some, Bool.or_true, Bool.true_or, beq_self_eq_true]; rfl), ?_⟩
        exact ⟨hst.app _, rfl, rfl, rfl, rfl, rfl⟩
      cases has
      rotate_left
      · simp only [Bool.not_true, Bool.and_false, Bool.false_eq_true, if_false]
        refine ⟨_, loopA_ret (by simp only [loopNums, I10, IC.loops, hi, hlt, hlen, hget, hn, hw, h1, h2, hE, hV, hHow, hA, hN1, hC, hz, eC_len, eC_take, eC_one, eC_0, eC_1, eC_2, eC_3, eC_4, eCr, eCr_0, eCr_1, eCr_2, eCr_3, eCr_4, List.length_drop, Nat.reduceSub, Nat.add_sub_cancel_left, atr, List.append_nil, List.nil_append, List.cons_append, List.getD_cons_zero, List.getD_cons_succ, evI, opsI, stepI, wantI, opI, AAct.evI, look, AAct.put, mkVal, mkVM, intOpA, intA, shiftA, unA, decide_true, decide_false, Option.map_some, Option.map_none, reduceIte, Nat.reduceEqDiff, Nat.reduceLT, Option.bind_some, Option.bind_none, true_and, and_true, and_self, Nat.zero_lt_succ, cellsAt, List.length_append, Nat.le_add_right, List.length_cons, List.length_nil, Nat.zero_add, Nat.add_zero, Nat.reduceAdd, Nat.reduceMul, Nat.zero_mul, AV.cells, AV.one, known, List.append_assoc, getE_0, getE_k, setE_0, setE_k, List.getElem?_cons_zero, List.getElem?_cons_succ, List.set_cons_zero, List.set_cons_succ, List.take_succ_cons, List.take_zero, List.drop_zero, List.drop_succ_cons, List.drop_nil, List.all_cons, List.all_nil, Bool.and_self, Bool.and_true, Bool.true_and, Bool.and_false, Bool.false_and, splice, fillI, Nat.reduceLeDiff, strA, Nat.add_assoc, beq_self_eq_true, Bool.false_eq_true, bq_ft, bq_tf, Bool.not_true, Bool.not_false, Nat.le_refl, List.map_cons, List.map_nil, isNilA, nilPtr, nilSl, nilIf, nilFn, nilMap, nilCheckA, if_true, if_false, lt_lit, le_lit, lt_lit2, le_lit2, le_sub1, le_sub2, drawI, lexD, valD, valI, putD, okD, roD, memAt, lastM, wantI, eqv_refl, eqM_refl, eqM_app, eqB, eqvL, eqv, List.getLast?_cons_cons, List.getLast?_singleton, Option.getD_some, Bool.or_true, Bool.true_or, beq_self_eq_true]; rfl), ?_⟩
        exact ⟨hst.app _, rfl, rfl, rfl, rfl, rfl⟩
      simp only [Bool.not_false, Bool.and_self, if_true]
      rcases hQ with ⟨rfl, rfl⟩ | ⟨q, st, rfl, hHq, hq⟩
      · refine loopA_going (by simp only [loopNums, I10, IC.loops, hi, hlt, hlen, hget, hn, hw, h1, h2, hE, hV, hHow, hA, hN1, hC, hz, h134, h100, srcA, held, app2, eC_len, eC_take, eC_one, eC_0, eC_1, eC_2, eC_3, eC_4, eCr, eCr_0, eCr_1, eCr_2, eCr_3, eCr_4, List.length_drop, Nat.reduceSub, Nat.add_sub_cancel_left, atr, List.append_nil, List.nil_append, List.cons_append, List.getD_cons_zero, List.getD_cons_succ, evI, opsI, stepI, wantI, opI, AAct.evI, look, AAct.put, mkVal, mkVM, intOpA, intA, shiftA, unA, decide_true, decide_false, Option.map_some, Option.map_none, reduceIte, Nat.reduceEqDiff, Nat.reduceLT, Option.bind_some, Option.bind_none, true_and, and_true, and_self, Nat.zero_lt_succ, cellsAt, List.length_append, Nat.le_add_right, List.length_cons, List.length_nil, Nat.zero_add, Nat.add_zero, Nat.reduceAdd, Nat.reduceMul, Nat.zero_mul, AV.cells, AV.one, known, List.append_assoc, getE_0, getE_k, setE_0, setE_k, List.getElem?_cons_zero, List.getElem?_cons_succ, List.set_cons_zero, List.set_cons_succ, List.take_succ_cons, List.take_zero, List.drop_zero, List.drop_succ_cons, List.drop_nil, List.all_cons, List.all_nil, Bool.and_self, Bool.and_true, Bool.true_and, Bool.and_false, Bool.false_and, splice, fillI, Nat.reduceLeDiff, strA, Nat.add_assoc, beq_self_eq_true, Bool.false_eq_true, bq_ft, bq_tf, Bool.not_true, Bool.not_false, Nat.le_refl, List.map_cons, List.map_nil, isNilA, nilPtr, nilSl, nilIf, nilFn, nilMap, nilCheckA, if_true, if_false, lt_lit, le_lit, lt_lit2, le_lit2, le_sub1, le_sub2, drawI, lexD, valD, valI, putD, okD, roD, memAt, lastM, wantI, eqv_refl, eqM_refl, eqM_app, eqB, eqvL, eqv, List.getLast?_cons_cons, List.getLast?_singleton, Option.getD_some, Bool.or_true, Bool.true_or, beq_self_eq_true]; rfl) ?_
        rintro M' (rfl | ⟨rfl, hlow⟩)
        · refine hnext (z, u1, u2, u3) _ _ (hst.app _) (.inr ⟨M.length + 4, 0, rfl, by have := hst.len; omega, ?_⟩)
          rw [getE_k]; rfl
        · exfalso
          simp [lowT, AAct.keepT, look, low] at hlow
          omega
      · have hql := (List.getElem?_eq_some_iff.1 hq).1
        have hqL : ∀ L, (M ++ L)[q]? = some (.row (nusC l) st (63 + 1)) := fun L => by rw [List.getElem?_append_left hql]; exact hq
        have hsL : ∀ L b, (M ++ L).set q b = M.set q b ++ L := fun L b => List.set_append_left _ _ hql
        have hend : Grows H.length 4 (63 + 1) (l.length + 1) (nusC l ++ nuC (z, u1, u2, u3)) (.slc q 0 (l.length + 1) 4 (st + 1)) (M.set q (.row (nusC l ++ nuC (z, u1, u2, u3)) (st + 1) (63 + 1))) :=
          .inr ⟨q, st + 1, rfl, hHq, by rw [List.getElem?_set_self hql]⟩
        refine loopA_going (by simp only [loopNums, I10, IC.loops, hi, hlt, hlen, hget, hn, hw, h1, h2, hE, hV, hHow, hA, hN1, hC, hz, hqL, hsL, hll, hl4, h100, srcA, held, app2, eC_len, eC_take, eC_one, eC_0, eC_1, eC_2, eC_3, eC_4, eCr, eCr_0, eCr_1, eCr_2, eCr_3, eCr_4, List.length_drop, Nat.reduceSub, Nat.add_sub_cancel_left, atr, List.append_nil, List.nil_append, List.cons_append, List.getD_cons_zero, List.getD_cons_succ, evI, opsI, stepI, wantI, opI, AAct.evI, look, AAct.put, mkVal, mkVM, intOpA, intA, shiftA, unA, decide_true, decide_false, Option.map_some, Option.map_none, reduceIte, Nat.reduceEqDiff, Nat.reduceLT, Option.bind_some, Option.bind_none, true_and, and_true, and_self, Nat.zero_lt_succ, cellsAt, List.length_append, Nat.le_add_right, List.length_cons, List.length_nil, Nat.zero_add, Nat.add_zero, Nat.reduceAdd, Nat.reduceMul, Nat.zero_mul, AV.cells, AV.one, known, List.append_assoc, getE_0, getE_k, setE_0, setE_k, List.getElem?_cons_zero, List.getElem?_cons_succ, List.set_cons_zero, List.set_cons_succ, List.take_succ_cons, List.take_zero, List.drop_zero, List.drop_succ_cons, List.drop_nil, List.all_cons, List.all_nil, Bool.and_self, Bool.and_true, Bool.true_and, Bool.and_false, Bool.false_and, splice, fillI, Nat.reduceLeDiff, strA, Nat.add_assoc, beq_self_eq_true, Bool.false_eq_true, bq_ft, bq_tf, Bool.not_true, Bool.not_false, Nat.le_refl, List.map_cons, List.map_nil, isNilA, nilPtr, nilSl, nilIf, nilFn, nilMap, nilCheckA, if_true, if_false, lt_lit, le_lit, lt_lit2, le_lit2, le_sub1, le_sub2, drawI, lexD, valD, valI, putD, okD, roD, memAt, lastM, wantI, eqv_refl, eqM_refl, eqM_app, eqB, eqvL, eqv, List.getLast?_cons_cons, List.getLast?_singleton, Option.getD_some, Bool.or_true, Bool.true_or, beq_self_eq_true]; rfl) ?_
        rintro M' (rfl | ⟨rfl, hlow⟩)
        · exact hnext _ _ _ ((hst.set hHq _).app _) (hend.app _)
        · rw [List.take_left' (by simp)]
          exact hnext _ _ _ (hst.set hHq _) hend
    · have hk' : k = e.kids.length := by omega
      subst hk'
      simp only [List.drop_length, numsIn]
      refine ⟨_, loopA_exit (by simp only [loopNums, I10, IC.loops, Int.lt_irrefl, List.append_nil, List.nil_append, List.cons_append, List.getD_cons_zero, List.getD_cons_succ, evI, opsI, stepI, wantI, opI, AAct.evI, look, AAct.put, mkVal, mkVM, intOpA, intA, shiftA, unA, decide_true, decide_false, Option.map_some, Option.map_none, reduceIte, Nat.reduceEqDiff, Nat.reduceLT, Option.bind_some, Option.bind_none, true_and, and_true, and_self, Nat.zero_lt_succ, cellsAt, List.length_append, Nat.le_add_right, List.length_cons, List.length_nil, Nat.zero_add, Nat.add_zero, Nat.reduceAdd, Nat.reduceMul, Nat.zero_mul, AV.cells, AV.one, known, List.append_assoc, getE_0, getE_k, setE_0, setE_k, List.getElem?_cons_zero, List.getElem?_cons_succ, List.set_cons_zero, List.set_cons_succ, List.take_succ_cons, List.take_zero, List.drop_zero, List.drop_succ_cons, List.drop_nil, List.all_cons, List.all_nil, Bool.and_self, Bool.and_true, Bool.true_and, Bool.and_false, Bool.false_and, splice, fillI, Nat.reduceLeDiff, strA, Nat.add_assoc, beq_self_eq_true, Bool.false_eq_true, bq_ft, bq_tf, Bool.not_true, Bool.not_false, Nat.le_refl, List.map_cons, List.map_nil, isNilA, nilPtr, nilSl, nilIf, nilFn, nilMap, nilCheckA, if_true, if_false, lt_lit, le_lit, lt_lit2, le_lit2, le_sub1, le_sub2]; rfl), ?_⟩
      exact ⟨hst, rfl, rfl, rfl, hg⟩
end Go.Proofs.YtlimneghgioeaaaGreatDoor.Ev
