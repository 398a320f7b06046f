/- Parts of one proof. -/
import Derived.Test.YtlimneghgioeaaaGreatDoorMda
import Derived.Test.YtlimneghgioeaaaGreatDoorMdb
set_option linter.all false
namespace Go.Proofs.YtlimneghgioeaaaGreatDoor.Ev
open Go.Proofs.YtlimneghgioeaaaGreatDoor.Ic
set_option maxRecDepth 100000
set_option maxHeartbeats 4000000
def mpE : List St → Nat → List (AV × AV)
  | [], _ => []
  | s :: r, i => (.str s.id, .int .i64 ((i + 1 : Nat) : Int)) :: mpE r (i + 1)
theorem mpE_snoc (s : St) : ∀ (l : List St) (i : Nat), mpE (l ++ [s]) i = mpE l i ++ [(.str s.id, .int .i64 ((i + l.length + 1 : Nat) : Int))]
  | [], i => rfl
  | y :: l, i => by
    show _ :: mpE (l ++ [s]) (i + 1) = _
    rw [mpE_snoc s l (i + 1), show i + 1 + l.length + 1 = i + (y :: l).length + 1 by simp; omega]; rfl
theorem findA_st (k : List UInt8) : ∀ (l : List St) (i : Nat), findA .string (.str k) (mpE l i) i = some ((ixF k l i).map fun j => (j, .int .i64 ((j + 1 : Nat) : Int)))
  | [], i => rfl
  | s :: l, i => by
    have ih := findA_st k l (i + 1)
    have hc : (k == s.id) = (s.id == k) := by
      by_cases h : k = s.id
      · rw [h]
      · rw [beq_false_of_ne h, beq_false_of_ne fun e => h e.symm]
    show (match keyEq .string (AV.str k) (AV.str s.id) with
      | some true => some (some (i, AV.int .i64 ((i + 1 : Nat) : Int)))
      | some false => findA .string (.str k) (mpE l (i + 1)) (i + 1)
      | none => none) = _
    rw [ih, show ixF k (s :: l) i = if (s.id == k) = true then some i else ixF k l (i + 1) from rfl]
    cases h : (s.id == k)
    · simp only [keyEq,hc,h,Ze,if_false]
    · simp only [keyEq,hc,h,if_true,Zh]
def mpZ (o : Option Nat) : Int := match o with
  | some j => ((j + 1 : Nat) : Int)
  | none => 0
theorem lookup_st {M : Mem} {μ : Nat} {l : List St} (h : M[μ]? = some (.map (mpE l 0))) (k : List UInt8) : lookupD .string (.int .i64 0) M (.map μ) (.str k) false = some (.int .i64 (mpZ (ixF k l 0))) := by
  unfold lookupD
  simp only [h,Zo,isKey,if_true,findA_st]
  cases ixF k l 0 <;> rfl
theorem update_st {M : Mem} {μ : Nat} {l : List St} (h : M[μ]? = some (.map (mpE l 0))) (s : St) (hn : ixF s.id l 0 = none) : updateD .string M (.map μ) (.str s.id) (.int .i64 ((l.length + 1 : Nat) : Int)) = some (M.set μ (.map (mpE (l ++ [s]) 0))) := by
  unfold updateD
  simp only [h,isKey,if_true,findA_st,hn,Zt]
  rw [mpE_snoc, Nat.zero_add]; rfl
theorem ixF_any (k : List UInt8) : ∀ (l : List St) (i : Nat), l.any (fun y => y.id == k) = (ixF k l i).isSome
  | [], _ => rfl
  | s :: l, i => by
    rw [List.any_cons, show ixF k (s :: l) i = if (s.id == k) = true then some i else ixF k l (i + 1) from rfl, ixF_any k l (i + 1)]
    cases s.id == k <;> rfl
noncomputable def loopC (j : Nat) : IC := (I17.c.loops).getD j .bad
def ChkEnd (H : Mem) (v : AV) (id : Nat) (ok : Bool) (mp : Mem → Prop) : Out × AAct × Mem → Prop
  | (o, a, M) => Starts H M ∧ a.n = 69 ∧ a.d = [] ∧ if ok = true then o = .exit id ∧ look a.t 0 = v ∧ look a.t 4 = .map H.length ∧ mp M else o = .ret ∧ ∃ i e, look a.t 2 = .int .i64 i ∧ look a.t 3 = .int .i64 e ∧ e ≠ 0
theorem chk0_loop (P : Program) (N n : Nat) (l : List St) (hl : l.length ≤ 4611686018427387904) (hr : ∀ s ∈ l, Rng s) (H : Mem) (q st ty : Nat) (hq : H[q]? = some (.row (stsC l) st ty)) : ∀ (fuel k : Nat) (M : Mem), k ≤ l.length → l.length - k < fuel → Starts H M → M[H.length]? = some (.map (mpE (l.take k) 0)) →
    ∃ r, loopA (fun a H => evI P cfg (evFI P cfg T N (n + 4)) N (loopC 0) a H) (some [0, 4, 13, 14, 15]) fuel ⟨69, [(0, .slc q 0 l.length 6 st), (4, .map H.length), (13, .slc q 0 l.length 6 st), (14, .int .i64 l.length), (15, .int .i64 k)], []⟩ M = some r ∧ ChkEnd H (.slc q 0 l.length 6 st) 0 (chkA (l.take k) (l.drop k)) (fun M => M[H.length]? = some (.map (mpE l 0))) r
  | 0, k, _, _, h, _, _ => by omega
  | fuel + 1, k, M, hk, hf, hst, hmp => by
    rcases Nat.lt_or_ge k l.length with hlt | hge
    · obtain ⟨x, hx⟩ := all_drop hlt
      obtain ⟨r, hc⟩ := st_cells hlt
      have hxe : l.getD k default = x := by
        have h0 : (l.drop k)[0]? = some x := by rw [hx]; rfl
        rw [List.getD_eq_getElem?_getD]
        simpa using congrArg (Option.getD · default) h0
      have hxm : x ∈ l := List.mem_of_mem_drop (i := k) (by rw [hx]; exact List.mem_cons_self)
      rw [hxe] at hc
      obtain ⟨g1, g2, g3, g4, g5⟩ := st_cell1 hc
      have hi : (k : Int) < (l.length : Int) := by omega
      have hw := wrap_next hlt (by omega)
      have hn := natOf_nat k .i64
      have hql : q < H.length := (List.getElem?_eq_some_iff.1 hq).1
      have hml : H.length < M.length := (List.getElem?_eq_some_iff.1 hmp).1
      have hqM : M[q]? = some (.row (stsC l) st ty) := by rw [hst.get hql]; exact hq
      have hqL : ∀ L : Mem, (M ++ L)[q]? = some (.row (stsC l) st ty) := fun L => by rw [(hst.app L).get hql]; exact hq
      have hal := fun H => alone_eq P N (n + 4) (by omega) x (hr x hxm) H
      have hlk : ∀ L : Mem, lookupD .string (.int .i64 0) (M ++ L) (.map H.length) (.str x.id) false = some (.int .i64 (mpZ (ixF x.id (l.take k) 0))) := fun L => lookup_st (by rw [List.getElem?_append_left hml]; exact hmp) x.id
      have htk : (l.take k).length = k := by rw [List.length_take]; omega
      have hany := ixF_any x.id (l.take k) 0
      rw [hx, show chkA (l.take k) (x :: l.drop (k + 1)) = (!aloneB x && !(l.take k).any (fun y => y.id == x.id) && chkA (l.take k ++ [x]) (l.drop (k + 1))) from rfl, hany]
      simp only [stC] at g2 hal
      cases h1 : aloneB x
      · rw [h1] at hal
        cases h2 : ixF x.id (l.take k) 0 with
        | some j =>
          rw [h2] at hlk
          have c1 : decide (mpZ (some j) > 0) = true := decide_eq_true (by show (0 : Int) < ((j + 1 : Nat) : Int); omega)
          refine ⟨_, loopA_ret (by simp only [loopC,I17,IC.loops,Za,hi,hlt,hn,hw,hqM,hqL,g1,g2,hal,hlk,c1,Zs,Zr,Zp,Za,Zb,evI,opsI,stepI,wantI,opI,AAct.evI,look,AAct.put,mkVal,mkVM,intOpA,intA,shiftA,unA,ZP,ZO,Zh,Zt,reduceIte,Nat.reduceEqDiff,Nat.reduceLT,Zo,Zq,true_and,and_true,and_self,ZB,cellsAt,Zg,ZC,Zf,Zk,ZL,ZM,Nat.reduceAdd,Nat.reduceMul,ZN,AV.cells,AV.one,known,Zn,getE_0,getE_k,setE_0,setE_k,Zc,Zd,Zl,Zm,Zi,Zw,Zu,Zj,Z1,Zx,Zy,ZJ,ZI,ZH,ZD,ZE,splice,fillI,Nat.reduceLeDiff,strA,ZK,ZA,Ze,bq_ft,bq_tf,ZG,ZF,ZQ,Zv,Zz,isNilA,nilPtr,nilSl,nilIf,nilFn,nilMap,nilCheckA,if_true,if_false,lt_lit,le_lit,lt_lit2,le_lit2,le_sub1,le_sub2]; rfl), hst.app _, rfl, rfl, ?_⟩
          exact ⟨rfl, _, _, rfl, rfl, by decide⟩
        | none =>
          rw [h2] at hlk
          have c1 : decide (mpZ none > 0) = false := rfl
          have hup : ∀ L : Mem, updateD .string (M ++ L) (.map H.length) (.str x.id) (.int .i64 ((k + 1 : Nat) : Int)) = some (M.set H.length (.map (mpE (l.take (k + 1)) 0)) ++ L) := fun L => by
            have h := update_st (M := M ++ L) (μ := H.length) (l := l.take k) (by rw [List.getElem?_append_left hml]; exact hmp) x h2
            rw [htk] at h
            rw [h, List.set_append_left _ _ hml, List.take_succ_eq_append_getElem hlt]
            have h0 : (l.drop k)[0]? = some x := by rw [hx]; rfl
            rw [List.getElem?_drop, Nat.add_zero, List.getElem?_eq_getElem hlt] at h0
            injection h0 with h0
            rw [h0]
          have hst2 : Starts H (M.set H.length (.map (mpE (l.take (k + 1)) 0))) := hst.set (Nat.le_refl _) _
          have hmp2 : (M.set H.length (.map (mpE (l.take (k + 1)) 0)))[H.length]? = some (.map (mpE (l.take (k + 1)) 0)) := List.getElem?_set_self hml
          have e1 : l.take k ++ [x] = l.take (k + 1) := by
            rw [List.take_succ_eq_append_getElem hlt]
            have h0 : (l.drop k)[0]? = some x := by rw [hx]; rfl
            rw [List.getElem?_drop, Nat.add_zero, List.getElem?_eq_getElem hlt] at h0
            injection h0 with h0
            rw [h0]
          rw [e1]
          simp only [Option.isSome_none,ZF,ZH]
          have ih := chk0_loop P N n l hl hr H q st ty hq fuel (k + 1)
          refine loopA_more (by simp only [loopC,I17,IC.loops,Za,hi,hlt,hn,hw,hqM,hqL,g1,g2,hal,hlk,hup,mkM,c1,Zs,Zr,Zp,Za,Zb,evI,opsI,stepI,wantI,opI,AAct.evI,look,AAct.put,mkVal,mkVM,intOpA,intA,shiftA,unA,ZP,ZO,Zh,Zt,reduceIte,Nat.reduceEqDiff,Nat.reduceLT,Zo,Zq,true_and,and_true,and_self,ZB,cellsAt,Zg,ZC,Zf,Zk,ZL,ZM,Nat.reduceAdd,Nat.reduceMul,ZN,AV.cells,AV.one,known,Zn,getE_0,getE_k,setE_0,setE_k,Zc,Zd,Zl,Zm,Zi,Zw,Zu,Zj,Z1,Zx,Zy,ZJ,ZI,ZH,ZD,ZE,splice,fillI,Nat.reduceLeDiff,strA,ZK,ZA,Ze,bq_ft,bq_tf,ZG,ZF,ZQ,Zv,Zz,isNilA,nilPtr,nilSl,nilIf,nilFn,nilMap,nilCheckA,if_true,if_false,lt_lit,le_lit,lt_lit2,le_lit2,le_sub1,le_sub2]; rfl) ?_
          rintro M' (rfl | rfl)
          · exact ih _ (by omega) (by omega) (hst2.app _) (by rw [List.getElem?_append_left (by rw [List.length_set]; exact hml)]; exact hmp2)
          · rw [List.take_left' (by rw [List.length_set])]
            exact ih _ (by omega) (by omega) hst2 hmp2
      · rw [h1] at hal
        refine ⟨_, loopA_ret (by simp only [loopC,I17,IC.loops,Za,hi,hlt,hn,hw,hqM,hqL,g1,g2,hal,Zs,Zr,Zp,Za,Zb,evI,opsI,stepI,wantI,opI,AAct.evI,look,AAct.put,mkVal,mkVM,intOpA,intA,shiftA,unA,ZP,ZO,Zh,Zt,reduceIte,Nat.reduceEqDiff,Nat.reduceLT,Zo,Zq,true_and,and_true,and_self,ZB,cellsAt,Zg,ZC,Zf,Zk,ZL,ZM,Nat.reduceAdd,Nat.reduceMul,ZN,AV.cells,AV.one,known,Zn,getE_0,getE_k,setE_0,setE_k,Zc,Zd,Zl,Zm,Zi,Zw,Zu,Zj,Z1,Zx,Zy,ZJ,ZI,ZH,ZD,ZE,splice,fillI,Nat.reduceLeDiff,strA,ZK,ZA,Ze,bq_ft,bq_tf,ZG,ZF,ZQ,Zv,Zz,isNilA,nilPtr,nilSl,nilIf,nilFn,nilMap,nilCheckA,if_true,if_false,lt_lit,le_lit,lt_lit2,le_lit2,le_sub1,le_sub2]; rfl), hst.app _, rfl, rfl, ?_⟩
        exact ⟨rfl, _, _, rfl, rfl, by decide⟩
    · have hk' : k = l.length := by omega
      subst hk'
      rw [List.take_length] at hmp
      rw [List.drop_length, List.take_length]
      refine ⟨_, loopA_exit (by simp only [loopC,I17,IC.loops,Za,Int.lt_irrefl,Zs,Zr,Zp,Za,Zb,evI,opsI,stepI,wantI,opI,AAct.evI,look,AAct.put,mkVal,mkVM,intOpA,intA,shiftA,unA,ZP,ZO,Zh,Zt,reduceIte,Nat.reduceEqDiff,Nat.reduceLT,Zo,Zq,true_and,and_true,and_self,ZB,cellsAt,Zg,ZC,Zf,Zk,ZL,ZM,Nat.reduceAdd,Nat.reduceMul,ZN,AV.cells,AV.one,known,Zn,getE_0,getE_k,setE_0,setE_k,Zc,Zd,Zl,Zm,Zi,Zw,Zu,Zj,Z1,Zx,Zy,ZJ,ZI,ZH,ZD,ZE,splice,fillI,Nat.reduceLeDiff,strA,ZK,ZA,Ze,bq_ft,bq_tf,ZG,ZF,ZQ,Zv,Zz,isNilA,nilPtr,nilSl,nilIf,nilFn,nilMap,nilCheckA,if_true,if_false,lt_lit,le_lit,lt_lit2,le_lit2,le_sub1,le_sub2]; rfl), hst, rfl, rfl, ?_⟩
      exact ⟨rfl, rfl, rfl, hmp⟩
theorem chk1_loop (P : Program) (F : FSem) (N : Nat) (l : List St) (hl : l.length ≤ 4611686018427387904) (H : Mem) (q st ty : Nat) (hq : H[q]? = some (.row (stsC l) st ty)) : ∀ (fuel k : Nat) (M : Mem), k ≤ l.length → l.length - k < fuel → Starts H M → M[H.length]? = some (.map (mpE l 0)) →
    ∃ r, loopA (fun a H => evI P cfg F N (loopC 1) a H) (some [0, 4, 35, 36, 37]) fuel ⟨69, [(0, .slc q 0 l.length 6 st), (4, .map H.length), (35, .slc q 0 l.length 6 st), (36, .int .i64 l.length), (37, .int .i64 k)], []⟩ M = some r ∧ ChkEnd H (.slc q 0 l.length 6 st) 2 ((l.drop k).all fun s => s.based == [] || (ixF s.based l 0).isSome) (fun _ => True) r
  | 0, k, _, _, h, _, _ => by omega
  | fuel + 1, k, M, hk, hf, hst, hmp => by
    rcases Nat.lt_or_ge k l.length with hlt | hge
    · obtain ⟨x, hx⟩ := all_drop hlt
      obtain ⟨r, hc⟩ := st_cells hlt
      have hxe : l.getD k default = x := by
        have h0 : (l.drop k)[0]? = some x := by rw [hx]; rfl
        rw [List.getD_eq_getElem?_getD]
        simpa using congrArg (Option.getD · default) h0
      rw [hxe] at hc
      obtain ⟨g1, g2, g3, g4, g5⟩ := st_cell1 hc
      have hi : (k : Int) < (l.length : Int) := by omega
      have hw := wrap_next hlt (by omega)
      have hn := natOf_nat k .i64
      have hql : q < H.length := (List.getElem?_eq_some_iff.1 hq).1
      have hml : H.length < M.length := (List.getElem?_eq_some_iff.1 hmp).1
      have hqM : M[q]? = some (.row (stsC l) st ty) := by rw [hst.get hql]; exact hq
      have hqL : ∀ L : Mem, (M ++ L)[q]? = some (.row (stsC l) st ty) := fun L => by rw [(hst.app L).get hql]; exact hq
      have hlk : ∀ L : Mem, lookupD .string (.int .i64 0) (M ++ L) (.map H.length) (.str x.based) false = some (.int .i64 (mpZ (ixF x.based l 0))) := fun L => lookup_st (by rw [List.getElem?_append_left hml]; exact hmp) x.based
      rw [hx, List.all_cons]
      simp only [stC] at g2
      have ih := chk1_loop P F N l hl H q st ty hq fuel (k + 1)
      have hgo : ∀ X : Mem, ∀ M', (M' = M ++ X ∨ M' = (M ++ X).take M.length) → ∃ r, loopA (fun a H => evI P cfg F N (loopC 1) a H) (some [0, 4, 35, 36, 37]) fuel ⟨69, [(0, .slc q 0 l.length 6 st), (4, .map H.length), (35, .slc q 0 l.length 6 st), (36, .int .i64 l.length), (37, .int .i64 (k + 1 : Nat))], []⟩ M' = some r ∧ ChkEnd H (.slc q 0 l.length 6 st) 2 ((l.drop (k + 1)).all fun s => s.based == [] || (ixF s.based l 0).isSome) (fun _ => True) r := by
        rintro X M' (rfl | rfl)
        · exact ih _ (by omega) (by omega) (hst.app X) (by rw [List.getElem?_append_left hml]; exact hmp)
        · rw [List.take_left]
          exact ih _ (by omega) (by omega) hst hmp
      cases h1 : (x.based == [])
      · have hb : (x.based != []) = true := by unfold bne; rw [h1]; rfl
        cases h2 : ixF x.based l 0 with
        | some j =>
          rw [h2] at hlk
          have c1 : (mpZ (some j) == 0) = false := beq_false_of_ne (by show ((j + 1 : Nat) : Int) ≠ 0; omega)
          simp only [Bool.false_or,Option.isSome_some,ZH]
          exact loopA_more (by simp only [loopC,I17,IC.loops,Za,Zb,hi,hlt,hn,hw,hqM,hqL,g1,g2,hlk,h1,hb,c1,Zs,Zr,Zp,Za,Zb,evI,opsI,stepI,wantI,opI,AAct.evI,look,AAct.put,mkVal,mkVM,intOpA,intA,shiftA,unA,ZP,ZO,Zh,Zt,reduceIte,Nat.reduceEqDiff,Nat.reduceLT,Zo,Zq,true_and,and_true,and_self,ZB,cellsAt,Zg,ZC,Zf,Zk,ZL,ZM,Nat.reduceAdd,Nat.reduceMul,ZN,AV.cells,AV.one,known,Zn,getE_0,getE_k,setE_0,setE_k,Zc,Zd,Zl,Zm,Zi,Zw,Zu,Zj,Z1,Zx,Zy,ZJ,ZI,ZH,ZD,ZE,splice,fillI,Nat.reduceLeDiff,strA,ZK,ZA,Ze,bq_ft,bq_tf,ZG,ZF,ZQ,Zv,Zz,isNilA,nilPtr,nilSl,nilIf,nilFn,nilMap,nilCheckA,if_true,if_false,lt_lit,le_lit,lt_lit2,le_lit2,le_sub1,le_sub2]; rfl) (hgo _)
        | none =>
          rw [h2] at hlk
          have c1 : (mpZ none == 0) = true := rfl
          refine ⟨_, loopA_ret (by simp only [loopC,I17,IC.loops,Za,Zb,hi,hlt,hn,hw,hqM,hqL,g1,g2,hlk,h1,hb,c1,Zs,Zr,Zp,Za,Zb,evI,opsI,stepI,wantI,opI,AAct.evI,look,AAct.put,mkVal,mkVM,intOpA,intA,shiftA,unA,ZP,ZO,Zh,Zt,reduceIte,Nat.reduceEqDiff,Nat.reduceLT,Zo,Zq,true_and,and_true,and_self,ZB,cellsAt,Zg,ZC,Zf,Zk,ZL,ZM,Nat.reduceAdd,Nat.reduceMul,ZN,AV.cells,AV.one,known,Zn,getE_0,getE_k,setE_0,setE_k,Zc,Zd,Zl,Zm,Zi,Zw,Zu,Zj,Z1,Zx,Zy,ZJ,ZI,ZH,ZD,ZE,splice,fillI,Nat.reduceLeDiff,strA,ZK,ZA,Ze,bq_ft,bq_tf,ZG,ZF,ZQ,Zv,Zz,isNilA,nilPtr,nilSl,nilIf,nilFn,nilMap,nilCheckA,if_true,if_false,lt_lit,le_lit,lt_lit2,le_lit2,le_sub1,le_sub2]; rfl), hst.app _, rfl, rfl, ?_⟩
          exact ⟨rfl, _, _, rfl, rfl, by decide⟩
      · have hb : (x.based != []) = false := by unfold bne; rw [h1]; rfl
        simp only [Bool.true_or,ZH]
        exact loopA_more (by simp only [loopC,I17,IC.loops,Za,Zb,hi,hlt,hn,hw,hqM,hqL,g1,g2,h1,hb,Zs,Zr,Zp,Za,Zb,evI,opsI,stepI,wantI,opI,AAct.evI,look,AAct.put,mkVal,mkVM,intOpA,intA,shiftA,unA,ZP,ZO,Zh,Zt,reduceIte,Nat.reduceEqDiff,Nat.reduceLT,Zo,Zq,true_and,and_true,and_self,ZB,cellsAt,Zg,ZC,Zf,Zk,ZL,ZM,Nat.reduceAdd,Nat.reduceMul,ZN,AV.cells,AV.one,known,Zn,getE_0,getE_k,setE_0,setE_k,Zc,Zd,Zl,Zm,Zi,Zw,Zu,Zj,Z1,Zx,Zy,ZJ,ZI,ZH,ZD,ZE,splice,fillI,Nat.reduceLeDiff,strA,ZK,ZA,Ze,bq_ft,bq_tf,ZG,ZF,ZQ,Zv,Zz,isNilA,nilPtr,nilSl,nilIf,nilFn,nilMap,nilCheckA,if_true,if_false,lt_lit,le_lit,lt_lit2,le_lit2,le_sub1,le_sub2]; rfl) (hgo _)
    · have hk' : k = l.length := by omega
      subst hk'
      rw [List.drop_length]
      refine ⟨_, loopA_exit (by simp only [loopC,I17,IC.loops,Za,Zb,Int.lt_irrefl,Zs,Zr,Zp,Za,Zb,evI,opsI,stepI,wantI,opI,AAct.evI,look,AAct.put,mkVal,mkVM,intOpA,intA,shiftA,unA,ZP,ZO,Zh,Zt,reduceIte,Nat.reduceEqDiff,Nat.reduceLT,Zo,Zq,true_and,and_true,and_self,ZB,cellsAt,Zg,ZC,Zf,Zk,ZL,ZM,Nat.reduceAdd,Nat.reduceMul,ZN,AV.cells,AV.one,known,Zn,getE_0,getE_k,setE_0,setE_k,Zc,Zd,Zl,Zm,Zi,Zw,Zu,Zj,Z1,Zx,Zy,ZJ,ZI,ZH,ZD,ZE,splice,fillI,Nat.reduceLeDiff,strA,ZK,ZA,Ze,bq_ft,bq_tf,ZG,ZF,ZQ,Zv,Zz,isNilA,nilPtr,nilSl,nilIf,nilFn,nilMap,nilCheckA,if_true,if_false,lt_lit,le_lit,lt_lit2,le_lit2,le_sub1,le_sub2]; rfl), hst, rfl, rfl, ?_⟩
      exact ⟨rfl, rfl, rfl, trivial⟩
def ChkEnd2 (H : Mem) (ok : Bool) : Out × AAct × Mem → Prop
  | (o, a, M) => Starts H M ∧ a.n = 69 ∧ a.d = [] ∧ if ok = true then o = .exit 4 else o = .ret ∧ ∃ i e, look a.t 2 = .int .i64 i ∧ look a.t 3 = .int .i64 e ∧ e ≠ 0
theorem chk2_loop (P : Program) (hcl : callable P 65 = true) (N n : Nat) (l : List St) (hN : l.length < N) (hl : l.length ≤ 4611686018427387904) (H : Mem) (q st ty : Nat) (hq : H[q]? = some (.row (stsC l) st ty)) : ∀ (fuel k : Nat) (M : Mem), k ≤ l.length → l.length - k < fuel → Starts H M →
    ∃ r, loopA (fun a H => evI P cfg (evFI P cfg T N (n + 4)) N (loopC 2) a H) (some [0, 54, 55, 56]) fuel ⟨69, [(0, .slc q 0 l.length 6 st), (54, .slc q 0 l.length 6 st), (55, .int .i64 l.length), (56, .int .i64 k)], []⟩ M = some r ∧ ChkEnd2 H ((l.drop k).all fun s => wkP l s l.length s) r
  | 0, k, _, _, h, _ => by omega
  | fuel + 1, k, M, hk, hf, hst => by
    rcases Nat.lt_or_ge k l.length with hlt | hge
    · obtain ⟨x, hx⟩ := all_drop hlt
      obtain ⟨r, hc⟩ := st_cells hlt
      have hxe : l.getD k default = x := by
        have h0 : (l.drop k)[0]? = some x := by rw [hx]; rfl
        rw [List.getD_eq_getElem?_getD]
        simpa using congrArg (Option.getD · default) h0
      rw [hxe] at hc
      obtain ⟨g1, g2, g3, g4, g5⟩ := st_cell1 hc
      have hi : (k : Int) < (l.length : Int) := by omega
      have hw := wrap_next hlt (by omega)
      have hn := natOf_nat k .i64
      have hql : q < H.length := (List.getElem?_eq_some_iff.1 hq).1
      have hqM : M[q]? = some (.row (stsC l) st ty) := by rw [hst.get hql]; exact hq
      have hqL : ∀ L : Mem, (M ++ L)[q]? = some (.row (stsC l) st ty) := fun L => by rw [(hst.app L).get hql]; exact hq
      have hb := fun L : Mem => based_eq P hcl N (n + 4) (by omega) l hN hl (.slc q 0 l.length 6 st) x (M ++ L) (.inr ⟨q, st, ty, rfl, hqL L⟩)
      rw [hx, List.all_cons]
      simp only [stC] at g2 hb
      have ih := chk2_loop P hcl N n l hN hl H q st ty hq fuel (k + 1)
      cases h1 : wkP l x l.length x
      · rw [h1] at hb
        have c1 : ((16 : Int) != 0) = true := rfl
        simp only [Ze,if_false] at hb
        refine ⟨_, loopA_ret (by simp only [loopC,I17,IC.loops,Za,Zb,hi,hlt,hn,hw,hqM,hqL,g1,g2,hb,c1,Zs,Zr,Zp,Za,Zb,evI,opsI,stepI,wantI,opI,AAct.evI,look,AAct.put,mkVal,mkVM,intOpA,intA,shiftA,unA,ZP,ZO,Zh,Zt,reduceIte,Nat.reduceEqDiff,Nat.reduceLT,Zo,Zq,true_and,and_true,and_self,ZB,cellsAt,Zg,ZC,Zf,Zk,ZL,ZM,Nat.reduceAdd,Nat.reduceMul,ZN,AV.cells,AV.one,known,Zn,getE_0,getE_k,setE_0,setE_k,Zc,Zd,Zl,Zm,Zi,Zw,Zu,Zj,Z1,Zx,Zy,ZJ,ZI,ZH,ZD,ZE,splice,fillI,Nat.reduceLeDiff,strA,ZK,ZA,Ze,bq_ft,bq_tf,ZG,ZF,ZQ,Zv,Zz,isNilA,nilPtr,nilSl,nilIf,nilFn,nilMap,nilCheckA,if_true,if_false,lt_lit,le_lit,lt_lit2,le_lit2,le_sub1,le_sub2]; rfl), hst.app _, rfl, rfl, ?_⟩
        exact ⟨rfl, _, _, rfl, rfl, by decide⟩
      · rw [h1] at hb
        have c1 : ((0 : Int) != 0) = false := rfl
        simp only [if_true] at hb
        simp only [ZH]
        refine loopA_more (by simp only [loopC,I17,IC.loops,Za,Zb,hi,hlt,hn,hw,hqM,hqL,g1,g2,hb,c1,Zs,Zr,Zp,Za,Zb,evI,opsI,stepI,wantI,opI,AAct.evI,look,AAct.put,mkVal,mkVM,intOpA,intA,shiftA,unA,ZP,ZO,Zh,Zt,reduceIte,Nat.reduceEqDiff,Nat.reduceLT,Zo,Zq,true_and,and_true,and_self,ZB,cellsAt,Zg,ZC,Zf,Zk,ZL,ZM,Nat.reduceAdd,Nat.reduceMul,ZN,AV.cells,AV.one,known,Zn,getE_0,getE_k,setE_0,setE_k,Zc,Zd,Zl,Zm,Zi,Zw,Zu,Zj,Z1,Zx,Zy,ZJ,ZI,ZH,ZD,ZE,splice,fillI,Nat.reduceLeDiff,strA,ZK,ZA,Ze,bq_ft,bq_tf,ZG,ZF,ZQ,Zv,Zz,isNilA,nilPtr,nilSl,nilIf,nilFn,nilMap,nilCheckA,if_true,if_false,lt_lit,le_lit,lt_lit2,le_lit2,le_sub1,le_sub2]; rfl) ?_
        rintro M' (rfl | rfl)
        · exact ih _ (by omega) (by omega) (hst.app _)
        · rw [List.take_left]
          exact ih _ (by omega) (by omega) hst
    · have hk' : k = l.length := by omega
      subst hk'
      rw [List.drop_length]
      refine ⟨_, loopA_exit (by simp only [loopC,I17,IC.loops,Za,Zb,Int.lt_irrefl,Zs,Zr,Zp,Za,Zb,evI,opsI,stepI,wantI,opI,AAct.evI,look,AAct.put,mkVal,mkVM,intOpA,intA,shiftA,unA,ZP,ZO,Zh,Zt,reduceIte,Nat.reduceEqDiff,Nat.reduceLT,Zo,Zq,true_and,and_true,and_self,ZB,cellsAt,Zg,ZC,Zf,Zk,ZL,ZM,Nat.reduceAdd,Nat.reduceMul,ZN,AV.cells,AV.one,known,Zn,getE_0,getE_k,setE_0,setE_k,Zc,Zd,Zl,Zm,Zi,Zw,Zu,Zj,Z1,Zx,Zy,ZJ,ZI,ZH,ZD,ZE,splice,fillI,Nat.reduceLeDiff,strA,ZK,ZA,Ze,bq_ft,bq_tf,ZG,ZF,ZQ,Zv,Zz,isNilA,nilPtr,nilSl,nilIf,nilFn,nilMap,nilCheckA,if_true,if_false,lt_lit,le_lit,lt_lit2,le_lit2,le_sub1,le_sub2]; rfl), hst, rfl, rfl, ?_⟩
      exact rfl
theorem check_eq (P : Program) (hcl : callable P 65 = true) (N d : Nat) (hd : 5 ≤ d) (l : List St) (hN : l.length + 1 < N) (hl : l.length ≤ 4611686018427387904) (hr : ∀ s ∈ l, Rng s) (v : AV) (H : Mem) (hv : SlC H v l) :
    ∃ i e, evFI P cfg T N d 17 [v] H = some (.ret (.tup [.int .i64 i, .int .i64 e]), H) ∧ (e != 0) = !okP l := by
  obtain ⟨n, rfl⟩ : ∃ k, d = k + 5 := ⟨d - 5, by omega⟩
  rcases hv with ⟨rfl, rfl⟩ | ⟨q, st, ty, rfl, hq⟩
  · obtain ⟨M, rfl⟩ : ∃ M, N = M + 1 := ⟨N - 1, by omega⟩
    refine ⟨-1, 0, ?_, rfl⟩
    refine evF_ret (m := 69) (v := .tup [.int .i64 (-1), .int .i64 0]) (a := ?an) (H1 := ?Hn) rfl t17 rfl ?hb ?hd ?hr ?hz
    case hb =>
      apply evI_seq
      · simp only [Zf,Zk,idx,I17,Zs,Zr,Zp,Za,Zb,evI,opsI,stepI,wantI,opI,AAct.evI,look,AAct.put,mkVal,mkVM,intOpA,intA,shiftA,unA,ZP,ZO,Zh,Zt,reduceIte,Nat.reduceEqDiff,Nat.reduceLT,Zo,Zq,true_and,and_true,and_self,ZB,cellsAt,Zg,ZC,Zf,Zk,ZL,ZM,Nat.reduceAdd,Nat.reduceMul,ZN,AV.cells,AV.one,known,Zn,getE_0,getE_k,setE_0,setE_k,Zc,Zd,Zl,Zm,Zi,Zw,Zu,Zj,Z1,Zx,Zy,ZJ,ZI,ZH,ZD,ZE,splice,fillI,Nat.reduceLeDiff,strA,ZK,ZA,Ze,bq_ft,bq_tf,ZG,ZF,ZQ,Zv,Zz,isNilA,nilPtr,nilSl,nilIf,nilFn,nilMap,nilCheckA,if_true,if_false,lt_lit,le_lit,lt_lit2,le_lit2,le_sub1,le_sub2]; rfl
      apply evI_seq
      · simp only [Zs,Zr,Zp,Za,Zb,evI,opsI,stepI,wantI,opI,AAct.evI,look,AAct.put,mkVal,mkVM,intOpA,intA,shiftA,unA,ZP,ZO,Zh,Zt,reduceIte,Nat.reduceEqDiff,Nat.reduceLT,Zo,Zq,true_and,and_true,and_self,ZB,cellsAt,Zg,ZC,Zf,Zk,ZL,ZM,Nat.reduceAdd,Nat.reduceMul,ZN,AV.cells,AV.one,known,Zn,getE_0,getE_k,setE_0,setE_k,Zc,Zd,Zl,Zm,Zi,Zw,Zu,Zj,Z1,Zx,Zy,ZJ,ZI,ZH,ZD,ZE,splice,fillI,Nat.reduceLeDiff,strA,ZK,ZA,Ze,bq_ft,bq_tf,ZG,ZF,ZQ,Zv,Zz,isNilA,nilPtr,nilSl,nilIf,nilFn,nilMap,nilCheckA,if_true,if_false,lt_lit,le_lit,lt_lit2,le_lit2,le_sub1,le_sub2]; rfl
      apply evI_seq
      · apply evI_seq
        · simp only [Zs,Zr,Zp,Za,Zb,evI,opsI,stepI,wantI,opI,AAct.evI,look,AAct.put,mkVal,mkVM,intOpA,intA,shiftA,unA,ZP,ZO,Zh,Zt,reduceIte,Nat.reduceEqDiff,Nat.reduceLT,Zo,Zq,true_and,and_true,and_self,ZB,cellsAt,Zg,ZC,Zf,Zk,ZL,ZM,Nat.reduceAdd,Nat.reduceMul,ZN,AV.cells,AV.one,known,Zn,getE_0,getE_k,setE_0,setE_k,Zc,Zd,Zl,Zm,Zi,Zw,Zu,Zj,Z1,Zx,Zy,ZJ,ZI,ZH,ZD,ZE,splice,fillI,Nat.reduceLeDiff,strA,ZK,ZA,Ze,bq_ft,bq_tf,ZG,ZF,ZQ,Zv,Zz,isNilA,nilPtr,nilSl,nilIf,nilFn,nilMap,nilCheckA,if_true,if_false,lt_lit,le_lit,lt_lit2,le_lit2,le_sub1,le_sub2]; rfl
        apply evI_block_exit
        apply evI_loop
        exact loopA_exit (by simp only [AAct.keepT,Int.lt_irrefl,Zs,Zr,Zp,Za,Zb,evI,opsI,stepI,wantI,opI,AAct.evI,look,AAct.put,mkVal,mkVM,intOpA,intA,shiftA,unA,ZP,ZO,Zh,Zt,reduceIte,Nat.reduceEqDiff,Nat.reduceLT,Zo,Zq,true_and,and_true,and_self,ZB,cellsAt,Zg,ZC,Zf,Zk,ZL,ZM,Nat.reduceAdd,Nat.reduceMul,ZN,AV.cells,AV.one,known,Zn,getE_0,getE_k,setE_0,setE_k,Zc,Zd,Zl,Zm,Zi,Zw,Zu,Zj,Z1,Zx,Zy,ZJ,ZI,ZH,ZD,ZE,splice,fillI,Nat.reduceLeDiff,strA,ZK,ZA,Ze,bq_ft,bq_tf,ZG,ZF,ZQ,Zv,Zz,isNilA,nilPtr,nilSl,nilIf,nilFn,nilMap,nilCheckA,if_true,if_false,lt_lit,le_lit,lt_lit2,le_lit2,le_sub1,le_sub2]; rfl)
      apply evI_seq
      · apply evI_seq
        · simp only [Zs,Zr,Zp,Za,Zb,evI,opsI,stepI,wantI,opI,AAct.evI,look,AAct.put,mkVal,mkVM,intOpA,intA,shiftA,unA,ZP,ZO,Zh,Zt,reduceIte,Nat.reduceEqDiff,Nat.reduceLT,Zo,Zq,true_and,and_true,and_self,ZB,cellsAt,Zg,ZC,Zf,Zk,ZL,ZM,Nat.reduceAdd,Nat.reduceMul,ZN,AV.cells,AV.one,known,Zn,getE_0,getE_k,setE_0,setE_k,Zc,Zd,Zl,Zm,Zi,Zw,Zu,Zj,Z1,Zx,Zy,ZJ,ZI,ZH,ZD,ZE,splice,fillI,Nat.reduceLeDiff,strA,ZK,ZA,Ze,bq_ft,bq_tf,ZG,ZF,ZQ,Zv,Zz,isNilA,nilPtr,nilSl,nilIf,nilFn,nilMap,nilCheckA,if_true,if_false,lt_lit,le_lit,lt_lit2,le_lit2,le_sub1,le_sub2]; rfl
        apply evI_block_exit
        apply evI_loop
        exact loopA_exit (by simp only [AAct.keepT,Int.lt_irrefl,Zs,Zr,Zp,Za,Zb,evI,opsI,stepI,wantI,opI,AAct.evI,look,AAct.put,mkVal,mkVM,intOpA,intA,shiftA,unA,ZP,ZO,Zh,Zt,reduceIte,Nat.reduceEqDiff,Nat.reduceLT,Zo,Zq,true_and,and_true,and_self,ZB,cellsAt,Zg,ZC,Zf,Zk,ZL,ZM,Nat.reduceAdd,Nat.reduceMul,ZN,AV.cells,AV.one,known,Zn,getE_0,getE_k,setE_0,setE_k,Zc,Zd,Zl,Zm,Zi,Zw,Zu,Zj,Z1,Zx,Zy,ZJ,ZI,ZH,ZD,ZE,splice,fillI,Nat.reduceLeDiff,strA,ZK,ZA,Ze,bq_ft,bq_tf,ZG,ZF,ZQ,Zv,Zz,isNilA,nilPtr,nilSl,nilIf,nilFn,nilMap,nilCheckA,if_true,if_false,lt_lit,le_lit,lt_lit2,le_lit2,le_sub1,le_sub2]; rfl)
      apply evI_seq
      · apply evI_seq
        · simp only [Zs,Zr,Zp,Za,Zb,evI,opsI,stepI,wantI,opI,AAct.evI,look,AAct.put,mkVal,mkVM,intOpA,intA,shiftA,unA,ZP,ZO,Zh,Zt,reduceIte,Nat.reduceEqDiff,Nat.reduceLT,Zo,Zq,true_and,and_true,and_self,ZB,cellsAt,Zg,ZC,Zf,Zk,ZL,ZM,Nat.reduceAdd,Nat.reduceMul,ZN,AV.cells,AV.one,known,Zn,getE_0,getE_k,setE_0,setE_k,Zc,Zd,Zl,Zm,Zi,Zw,Zu,Zj,Z1,Zx,Zy,ZJ,ZI,ZH,ZD,ZE,splice,fillI,Nat.reduceLeDiff,strA,ZK,ZA,Ze,bq_ft,bq_tf,ZG,ZF,ZQ,Zv,Zz,isNilA,nilPtr,nilSl,nilIf,nilFn,nilMap,nilCheckA,if_true,if_false,lt_lit,le_lit,lt_lit2,le_lit2,le_sub1,le_sub2]; rfl
        apply evI_block_exit
        apply evI_loop
        exact loopA_exit (by simp only [AAct.keepT,Int.lt_irrefl,Zs,Zr,Zp,Za,Zb,evI,opsI,stepI,wantI,opI,AAct.evI,look,AAct.put,mkVal,mkVM,intOpA,intA,shiftA,unA,ZP,ZO,Zh,Zt,reduceIte,Nat.reduceEqDiff,Nat.reduceLT,Zo,Zq,true_and,and_true,and_self,ZB,cellsAt,Zg,ZC,Zf,Zk,ZL,ZM,Nat.reduceAdd,Nat.reduceMul,ZN,AV.cells,AV.one,known,Zn,getE_0,getE_k,setE_0,setE_k,Zc,Zd,Zl,Zm,Zi,Zw,Zu,Zj,Z1,Zx,Zy,ZJ,ZI,ZH,ZD,ZE,splice,fillI,Nat.reduceLeDiff,strA,ZK,ZA,Ze,bq_ft,bq_tf,ZG,ZF,ZQ,Zv,Zz,isNilA,nilPtr,nilSl,nilIf,nilFn,nilMap,nilCheckA,if_true,if_false,lt_lit,le_lit,lt_lit2,le_lit2,le_sub1,le_sub2]; rfl)
      simp only [Zs,Zr,Zp,Za,Zb,evI,opsI,stepI,wantI,opI,AAct.evI,look,AAct.put,mkVal,mkVM,intOpA,intA,shiftA,unA,ZP,ZO,Zh,Zt,reduceIte,Nat.reduceEqDiff,Nat.reduceLT,Zo,Zq,true_and,and_true,and_self,ZB,cellsAt,Zg,ZC,Zf,Zk,ZL,ZM,Nat.reduceAdd,Nat.reduceMul,ZN,AV.cells,AV.one,known,Zn,getE_0,getE_k,setE_0,setE_k,Zc,Zd,Zl,Zm,Zi,Zw,Zu,Zj,Z1,Zx,Zy,ZJ,ZI,ZH,ZD,ZE,splice,fillI,Nat.reduceLeDiff,strA,ZK,ZA,Ze,bq_ft,bq_tf,ZG,ZF,ZQ,Zv,Zz,isNilA,nilPtr,nilSl,nilIf,nilFn,nilMap,nilCheckA,if_true,if_false,lt_lit,le_lit,lt_lit2,le_lit2,le_sub1,le_sub2]; rfl
    case hd => rfl
    case hr => rfl
    case hz => exact fin_app rfl rfl
  have hS : Starts H (H ++ [Blk.map []]) := List.take_left
  obtain ⟨⟨o0, ⟨n0, t0, d0⟩, M0⟩, hr0, hs0, e1, e2, hc0⟩ := chk0_loop P N n l hl hr H q st ty hq N 0 (H ++ [.map []]) (Nat.zero_le _) (by omega) hS (by rw [getE_0]; rfl)
  rw [List.take_zero, List.drop_zero] at hc0
  simp only at e1 e2
  subst e1 e2
  unfold okP
  cases k0 : chkA [] l
  · rw [k0] at hc0
    simp only [Ze,if_false] at hc0
    obtain ⟨rfl, i, e, h2, h3, hne⟩ := hc0
    refine ⟨i, e, ?_, by rw [Bool.false_and, Bool.not_false]; exact bne_iff_ne.2 hne⟩
    refine evF_ret (m := 69) (v := .tup [.int .i64 i, .int .i64 e]) (a := ?aa) (H1 := ?Ha) rfl t17 rfl ?hb ?hd ?hr ?hz
    case hb =>
      apply evI_seq
      · simp only [Zf,Zk,idx,I17,Zs,Zr,Zp,Za,Zb,evI,opsI,stepI,wantI,opI,AAct.evI,look,AAct.put,mkVal,mkVM,intOpA,intA,shiftA,unA,ZP,ZO,Zh,Zt,reduceIte,Nat.reduceEqDiff,Nat.reduceLT,Zo,Zq,true_and,and_true,and_self,ZB,cellsAt,Zg,ZC,Zf,Zk,ZL,ZM,Nat.reduceAdd,Nat.reduceMul,ZN,AV.cells,AV.one,known,Zn,getE_0,getE_k,setE_0,setE_k,Zc,Zd,Zl,Zm,Zi,Zw,Zu,Zj,Z1,Zx,Zy,ZJ,ZI,ZH,ZD,ZE,splice,fillI,Nat.reduceLeDiff,strA,ZK,ZA,Ze,bq_ft,bq_tf,ZG,ZF,ZQ,Zv,Zz,isNilA,nilPtr,nilSl,nilIf,nilFn,nilMap,nilCheckA,if_true,if_false,lt_lit,le_lit,lt_lit2,le_lit2,le_sub1,le_sub2]; rfl
      apply evI_seq
      · simp only [Zs,Zr,Zp,Za,Zb,evI,opsI,stepI,wantI,opI,AAct.evI,look,AAct.put,mkVal,mkVM,intOpA,intA,shiftA,unA,ZP,ZO,Zh,Zt,reduceIte,Nat.reduceEqDiff,Nat.reduceLT,Zo,Zq,true_and,and_true,and_self,ZB,cellsAt,Zg,ZC,Zf,Zk,ZL,ZM,Nat.reduceAdd,Nat.reduceMul,ZN,AV.cells,AV.one,known,Zn,getE_0,getE_k,setE_0,setE_k,Zc,Zd,Zl,Zm,Zi,Zw,Zu,Zj,Z1,Zx,Zy,ZJ,ZI,ZH,ZD,ZE,splice,fillI,Nat.reduceLeDiff,strA,ZK,ZA,Ze,bq_ft,bq_tf,ZG,ZF,ZQ,Zv,Zz,isNilA,nilPtr,nilSl,nilIf,nilFn,nilMap,nilCheckA,if_true,if_false,lt_lit,le_lit,lt_lit2,le_lit2,le_sub1,le_sub2]; rfl
      apply evI_seq_ret
      apply evI_seq
      · simp only [Zs,Zr,Zp,Za,Zb,evI,opsI,stepI,wantI,opI,AAct.evI,look,AAct.put,mkVal,mkVM,intOpA,intA,shiftA,unA,ZP,ZO,Zh,Zt,reduceIte,Nat.reduceEqDiff,Nat.reduceLT,Zo,Zq,true_and,and_true,and_self,ZB,cellsAt,Zg,ZC,Zf,Zk,ZL,ZM,Nat.reduceAdd,Nat.reduceMul,ZN,AV.cells,AV.one,known,Zn,getE_0,getE_k,setE_0,setE_k,Zc,Zd,Zl,Zm,Zi,Zw,Zu,Zj,Z1,Zx,Zy,ZJ,ZI,ZH,ZD,ZE,splice,fillI,Nat.reduceLeDiff,strA,ZK,ZA,Ze,bq_ft,bq_tf,ZG,ZF,ZQ,Zv,Zz,isNilA,nilPtr,nilSl,nilIf,nilFn,nilMap,nilCheckA,if_true,if_false,lt_lit,le_lit,lt_lit2,le_lit2,le_sub1,le_sub2]; rfl
      apply evI_block_ret
      apply evI_loop
      exact hr0
    case hd => rfl
    case hr => simp only [I17,resI,resLI,h2,h3]; rfl
    case hz => exact fin_ok hs0 rfl rfl
  rw [k0] at hc0
  simp only [if_true] at hc0
  obtain ⟨rfl, l0, l4, hm0⟩ := hc0
  obtain ⟨⟨o1, ⟨n1, t1, d1⟩, M1⟩, hr1, hs1, e1, e2, hc1⟩ := chk1_loop P (evFI P cfg T N (n + 4)) N l hl H q st ty hq N 0 M0 (Nat.zero_le _) (by omega) hs0 hm0
  rw [List.drop_zero] at hc1
  simp only at e1 e2
  subst e1 e2
  rw [Bool.true_and, show chkB l = l.all (fun s => s.based == [] || (ixF s.based l 0).isSome) from rfl]
  cases k1 : l.all (fun s => s.based == [] || (ixF s.based l 0).isSome)
  · rw [k1] at hc1
    simp only [Ze,if_false] at hc1
    obtain ⟨rfl, i, e, h2, h3, hne⟩ := hc1
    refine ⟨i, e, ?_, by rw [Bool.false_and, Bool.not_false]; exact bne_iff_ne.2 hne⟩
    refine evF_ret (m := 69) (v := .tup [.int .i64 i, .int .i64 e]) (a := ?ab) (H1 := ?Hb) rfl t17 rfl ?hb ?hd ?hr ?hz
    case hb =>
      apply evI_seq
      · simp only [Zf,Zk,idx,I17,Zs,Zr,Zp,Za,Zb,evI,opsI,stepI,wantI,opI,AAct.evI,look,AAct.put,mkVal,mkVM,intOpA,intA,shiftA,unA,ZP,ZO,Zh,Zt,reduceIte,Nat.reduceEqDiff,Nat.reduceLT,Zo,Zq,true_and,and_true,and_self,ZB,cellsAt,Zg,ZC,Zf,Zk,ZL,ZM,Nat.reduceAdd,Nat.reduceMul,ZN,AV.cells,AV.one,known,Zn,getE_0,getE_k,setE_0,setE_k,Zc,Zd,Zl,Zm,Zi,Zw,Zu,Zj,Z1,Zx,Zy,ZJ,ZI,ZH,ZD,ZE,splice,fillI,Nat.reduceLeDiff,strA,ZK,ZA,Ze,bq_ft,bq_tf,ZG,ZF,ZQ,Zv,Zz,isNilA,nilPtr,nilSl,nilIf,nilFn,nilMap,nilCheckA,if_true,if_false,lt_lit,le_lit,lt_lit2,le_lit2,le_sub1,le_sub2]; rfl
      apply evI_seq
      · simp only [Zs,Zr,Zp,Za,Zb,evI,opsI,stepI,wantI,opI,AAct.evI,look,AAct.put,mkVal,mkVM,intOpA,intA,shiftA,unA,ZP,ZO,Zh,Zt,reduceIte,Nat.reduceEqDiff,Nat.reduceLT,Zo,Zq,true_and,and_true,and_self,ZB,cellsAt,Zg,ZC,Zf,Zk,ZL,ZM,Nat.reduceAdd,Nat.reduceMul,ZN,AV.cells,AV.one,known,Zn,getE_0,getE_k,setE_0,setE_k,Zc,Zd,Zl,Zm,Zi,Zw,Zu,Zj,Z1,Zx,Zy,ZJ,ZI,ZH,ZD,ZE,splice,fillI,Nat.reduceLeDiff,strA,ZK,ZA,Ze,bq_ft,bq_tf,ZG,ZF,ZQ,Zv,Zz,isNilA,nilPtr,nilSl,nilIf,nilFn,nilMap,nilCheckA,if_true,if_false,lt_lit,le_lit,lt_lit2,le_lit2,le_sub1,le_sub2]; rfl
      apply evI_seq
      · apply evI_seq
        · simp only [Zs,Zr,Zp,Za,Zb,evI,opsI,stepI,wantI,opI,AAct.evI,look,AAct.put,mkVal,mkVM,intOpA,intA,shiftA,unA,ZP,ZO,Zh,Zt,reduceIte,Nat.reduceEqDiff,Nat.reduceLT,Zo,Zq,true_and,and_true,and_self,ZB,cellsAt,Zg,ZC,Zf,Zk,ZL,ZM,Nat.reduceAdd,Nat.reduceMul,ZN,AV.cells,AV.one,known,Zn,getE_0,getE_k,setE_0,setE_k,Zc,Zd,Zl,Zm,Zi,Zw,Zu,Zj,Z1,Zx,Zy,ZJ,ZI,ZH,ZD,ZE,splice,fillI,Nat.reduceLeDiff,strA,ZK,ZA,Ze,bq_ft,bq_tf,ZG,ZF,ZQ,Zv,Zz,isNilA,nilPtr,nilSl,nilIf,nilFn,nilMap,nilCheckA,if_true,if_false,lt_lit,le_lit,lt_lit2,le_lit2,le_sub1,le_sub2]; rfl
        apply evI_block_exit
        apply evI_loop
        exact hr0
      apply evI_seq_ret
      apply evI_seq
      · simp only [l0,Zs,Zr,Zp,Za,Zb,evI,opsI,stepI,wantI,opI,AAct.evI,look,AAct.put,mkVal,mkVM,intOpA,intA,shiftA,unA,ZP,ZO,Zh,Zt,reduceIte,Nat.reduceEqDiff,Nat.reduceLT,Zo,Zq,true_and,and_true,and_self,ZB,cellsAt,Zg,ZC,Zf,Zk,ZL,ZM,Nat.reduceAdd,Nat.reduceMul,ZN,AV.cells,AV.one,known,Zn,getE_0,getE_k,setE_0,setE_k,Zc,Zd,Zl,Zm,Zi,Zw,Zu,Zj,Z1,Zx,Zy,ZJ,ZI,ZH,ZD,ZE,splice,fillI,Nat.reduceLeDiff,strA,ZK,ZA,Ze,bq_ft,bq_tf,ZG,ZF,ZQ,Zv,Zz,isNilA,nilPtr,nilSl,nilIf,nilFn,nilMap,nilCheckA,if_true,if_false,lt_lit,le_lit,lt_lit2,le_lit2,le_sub1,le_sub2]; rfl
      apply evI_block_ret
      apply evI_loop
      simp only [AAct.keepT,Zv,Zz,look,reduceIte,Nat.reduceEqDiff,l0,l4]
      exact hr1
    case hd => rfl
    case hr => simp only [I17,resI,resLI,h2,h3]; rfl
    case hz => exact fin_ok hs1 rfl rfl
  rw [k1] at hc1
  simp only [if_true] at hc1
  obtain ⟨rfl, m0, m4, _⟩ := hc1
  obtain ⟨⟨o2, ⟨n2, t2, d2⟩, M2⟩, hr2, hs2, e1, e2, hc2⟩ := chk2_loop P hcl N n l (by omega) hl H q st ty hq N 0 M1 (Nat.zero_le _) (by omega) hs1
  rw [List.drop_zero] at hc2
  simp only at e1 e2
  subst e1 e2
  rw [Bool.true_and, show chkP l = l.all (fun s => wkP l s l.length s) from rfl]
  cases k2 : l.all (fun s => wkP l s l.length s)
  · rw [k2] at hc2
    simp only [Ze,if_false] at hc2
    obtain ⟨rfl, i, e, h2, h3, hne⟩ := hc2
    refine ⟨i, e, ?_, by rw [Bool.not_false]; exact bne_iff_ne.2 hne⟩
    refine evF_ret (m := 69) (v := .tup [.int .i64 i, .int .i64 e]) (a := ?ac) (H1 := ?Hc) rfl t17 rfl ?hb ?hd ?hr ?hz
    case hb =>
      apply evI_seq
      · simp only [Zf,Zk,idx,I17,Zs,Zr,Zp,Za,Zb,evI,opsI,stepI,wantI,opI,AAct.evI,look,AAct.put,mkVal,mkVM,intOpA,intA,shiftA,unA,ZP,ZO,Zh,Zt,reduceIte,Nat.reduceEqDiff,Nat.reduceLT,Zo,Zq,true_and,and_true,and_self,ZB,cellsAt,Zg,ZC,Zf,Zk,ZL,ZM,Nat.reduceAdd,Nat.reduceMul,ZN,AV.cells,AV.one,known,Zn,getE_0,getE_k,setE_0,setE_k,Zc,Zd,Zl,Zm,Zi,Zw,Zu,Zj,Z1,Zx,Zy,ZJ,ZI,ZH,ZD,ZE,splice,fillI,Nat.reduceLeDiff,strA,ZK,ZA,Ze,bq_ft,bq_tf,ZG,ZF,ZQ,Zv,Zz,isNilA,nilPtr,nilSl,nilIf,nilFn,nilMap,nilCheckA,if_true,if_false,lt_lit,le_lit,lt_lit2,le_lit2,le_sub1,le_sub2]; rfl
      apply evI_seq
      · simp only [Zs,Zr,Zp,Za,Zb,evI,opsI,stepI,wantI,opI,AAct.evI,look,AAct.put,mkVal,mkVM,intOpA,intA,shiftA,unA,ZP,ZO,Zh,Zt,reduceIte,Nat.reduceEqDiff,Nat.reduceLT,Zo,Zq,true_and,and_true,and_self,ZB,cellsAt,Zg,ZC,Zf,Zk,ZL,ZM,Nat.reduceAdd,Nat.reduceMul,ZN,AV.cells,AV.one,known,Zn,getE_0,getE_k,setE_0,setE_k,Zc,Zd,Zl,Zm,Zi,Zw,Zu,Zj,Z1,Zx,Zy,ZJ,ZI,ZH,ZD,ZE,splice,fillI,Nat.reduceLeDiff,strA,ZK,ZA,Ze,bq_ft,bq_tf,ZG,ZF,ZQ,Zv,Zz,isNilA,nilPtr,nilSl,nilIf,nilFn,nilMap,nilCheckA,if_true,if_false,lt_lit,le_lit,lt_lit2,le_lit2,le_sub1,le_sub2]; rfl
      apply evI_seq
      · apply evI_seq
        · simp only [Zs,Zr,Zp,Za,Zb,evI,opsI,stepI,wantI,opI,AAct.evI,look,AAct.put,mkVal,mkVM,intOpA,intA,shiftA,unA,ZP,ZO,Zh,Zt,reduceIte,Nat.reduceEqDiff,Nat.reduceLT,Zo,Zq,true_and,and_true,and_self,ZB,cellsAt,Zg,ZC,Zf,Zk,ZL,ZM,Nat.reduceAdd,Nat.reduceMul,ZN,AV.cells,AV.one,known,Zn,getE_0,getE_k,setE_0,setE_k,Zc,Zd,Zl,Zm,Zi,Zw,Zu,Zj,Z1,Zx,Zy,ZJ,ZI,ZH,ZD,ZE,splice,fillI,Nat.reduceLeDiff,strA,ZK,ZA,Ze,bq_ft,bq_tf,ZG,ZF,ZQ,Zv,Zz,isNilA,nilPtr,nilSl,nilIf,nilFn,nilMap,nilCheckA,if_true,if_false,lt_lit,le_lit,lt_lit2,le_lit2,le_sub1,le_sub2]; rfl
        apply evI_block_exit
        apply evI_loop
        exact hr0
      apply evI_seq
      · apply evI_seq
        · simp only [l0,Zs,Zr,Zp,Za,Zb,evI,opsI,stepI,wantI,opI,AAct.evI,look,AAct.put,mkVal,mkVM,intOpA,intA,shiftA,unA,ZP,ZO,Zh,Zt,reduceIte,Nat.reduceEqDiff,Nat.reduceLT,Zo,Zq,true_and,and_true,and_self,ZB,cellsAt,Zg,ZC,Zf,Zk,ZL,ZM,Nat.reduceAdd,Nat.reduceMul,ZN,AV.cells,AV.one,known,Zn,getE_0,getE_k,setE_0,setE_k,Zc,Zd,Zl,Zm,Zi,Zw,Zu,Zj,Z1,Zx,Zy,ZJ,ZI,ZH,ZD,ZE,splice,fillI,Nat.reduceLeDiff,strA,ZK,ZA,Ze,bq_ft,bq_tf,ZG,ZF,ZQ,Zv,Zz,isNilA,nilPtr,nilSl,nilIf,nilFn,nilMap,nilCheckA,if_true,if_false,lt_lit,le_lit,lt_lit2,le_lit2,le_sub1,le_sub2]; rfl
        apply evI_block_exit
        apply evI_loop
        simp only [AAct.keepT,Zv,Zz,look,reduceIte,Nat.reduceEqDiff,l0,l4]
        exact hr1
      apply evI_seq_ret
      apply evI_seq
      · simp only [m0,Zs,Zr,Zp,Za,Zb,evI,opsI,stepI,wantI,opI,AAct.evI,look,AAct.put,mkVal,mkVM,intOpA,intA,shiftA,unA,ZP,ZO,Zh,Zt,reduceIte,Nat.reduceEqDiff,Nat.reduceLT,Zo,Zq,true_and,and_true,and_self,ZB,cellsAt,Zg,ZC,Zf,Zk,ZL,ZM,Nat.reduceAdd,Nat.reduceMul,ZN,AV.cells,AV.one,known,Zn,getE_0,getE_k,setE_0,setE_k,Zc,Zd,Zl,Zm,Zi,Zw,Zu,Zj,Z1,Zx,Zy,ZJ,ZI,ZH,ZD,ZE,splice,fillI,Nat.reduceLeDiff,strA,ZK,ZA,Ze,bq_ft,bq_tf,ZG,ZF,ZQ,Zv,Zz,isNilA,nilPtr,nilSl,nilIf,nilFn,nilMap,nilCheckA,if_true,if_false,lt_lit,le_lit,lt_lit2,le_lit2,le_sub1,le_sub2]; rfl
      apply evI_block_ret
      apply evI_loop
      simp only [AAct.keepT,Zv,Zz,look,reduceIte,Nat.reduceEqDiff,m0]
      exact hr2
    case hd => rfl
    case hr => simp only [I17,resI,resLI,h2,h3]; rfl
    case hz => exact fin_ok hs2 rfl rfl
  rw [k2] at hc2
  simp only [if_true] at hc2
  subst hc2
  refine ⟨-1, 0, ?_, rfl⟩
  refine evF_ret (m := 69) (v := .tup [.int .i64 (-1), .int .i64 0]) (a := ?ad) (H1 := ?Hd) rfl t17 rfl ?hb ?hd ?hr ?hz
  case hb =>
    apply evI_seq
    · simp only [Zf,Zk,idx,I17,Zs,Zr,Zp,Za,Zb,evI,opsI,stepI,wantI,opI,AAct.evI,look,AAct.put,mkVal,mkVM,intOpA,intA,shiftA,unA,ZP,ZO,Zh,Zt,reduceIte,Nat.reduceEqDiff,Nat.reduceLT,Zo,Zq,true_and,and_true,and_self,ZB,cellsAt,Zg,ZC,Zf,Zk,ZL,ZM,Nat.reduceAdd,Nat.reduceMul,ZN,AV.cells,AV.one,known,Zn,getE_0,getE_k,setE_0,setE_k,Zc,Zd,Zl,Zm,Zi,Zw,Zu,Zj,Z1,Zx,Zy,ZJ,ZI,ZH,ZD,ZE,splice,fillI,Nat.reduceLeDiff,strA,ZK,ZA,Ze,bq_ft,bq_tf,ZG,ZF,ZQ,Zv,Zz,isNilA,nilPtr,nilSl,nilIf,nilFn,nilMap,nilCheckA,if_true,if_false,lt_lit,le_lit,lt_lit2,le_lit2,le_sub1,le_sub2]; rfl
    apply evI_seq
    · simp only [Zs,Zr,Zp,Za,Zb,evI,opsI,stepI,wantI,opI,AAct.evI,look,AAct.put,mkVal,mkVM,intOpA,intA,shiftA,unA,ZP,ZO,Zh,Zt,reduceIte,Nat.reduceEqDiff,Nat.reduceLT,Zo,Zq,true_and,and_true,and_self,ZB,cellsAt,Zg,ZC,Zf,Zk,ZL,ZM,Nat.reduceAdd,Nat.reduceMul,ZN,AV.cells,AV.one,known,Zn,getE_0,getE_k,setE_0,setE_k,Zc,Zd,Zl,Zm,Zi,Zw,Zu,Zj,Z1,Zx,Zy,ZJ,ZI,ZH,ZD,ZE,splice,fillI,Nat.reduceLeDiff,strA,ZK,ZA,Ze,bq_ft,bq_tf,ZG,ZF,ZQ,Zv,Zz,isNilA,nilPtr,nilSl,nilIf,nilFn,nilMap,nilCheckA,if_true,if_false,lt_lit,le_lit,lt_lit2,le_lit2,le_sub1,le_sub2]; rfl
    apply evI_seq
    · apply evI_seq
      · simp only [Zs,Zr,Zp,Za,Zb,evI,opsI,stepI,wantI,opI,AAct.evI,look,AAct.put,mkVal,mkVM,intOpA,intA,shiftA,unA,ZP,ZO,Zh,Zt,reduceIte,Nat.reduceEqDiff,Nat.reduceLT,Zo,Zq,true_and,and_true,and_self,ZB,cellsAt,Zg,ZC,Zf,Zk,ZL,ZM,Nat.reduceAdd,Nat.reduceMul,ZN,AV.cells,AV.one,known,Zn,getE_0,getE_k,setE_0,setE_k,Zc,Zd,Zl,Zm,Zi,Zw,Zu,Zj,Z1,Zx,Zy,ZJ,ZI,ZH,ZD,ZE,splice,fillI,Nat.reduceLeDiff,strA,ZK,ZA,Ze,bq_ft,bq_tf,ZG,ZF,ZQ,Zv,Zz,isNilA,nilPtr,nilSl,nilIf,nilFn,nilMap,nilCheckA,if_true,if_false,lt_lit,le_lit,lt_lit2,le_lit2,le_sub1,le_sub2]; rfl
      apply evI_block_exit
      apply evI_loop
      exact hr0
    apply evI_seq
    · apply evI_seq
      · simp only [l0,Zs,Zr,Zp,Za,Zb,evI,opsI,stepI,wantI,opI,AAct.evI,look,AAct.put,mkVal,mkVM,intOpA,intA,shiftA,unA,ZP,ZO,Zh,Zt,reduceIte,Nat.reduceEqDiff,Nat.reduceLT,Zo,Zq,true_and,and_true,and_self,ZB,cellsAt,Zg,ZC,Zf,Zk,ZL,ZM,Nat.reduceAdd,Nat.reduceMul,ZN,AV.cells,AV.one,known,Zn,getE_0,getE_k,setE_0,setE_k,Zc,Zd,Zl,Zm,Zi,Zw,Zu,Zj,Z1,Zx,Zy,ZJ,ZI,ZH,ZD,ZE,splice,fillI,Nat.reduceLeDiff,strA,ZK,ZA,Ze,bq_ft,bq_tf,ZG,ZF,ZQ,Zv,Zz,isNilA,nilPtr,nilSl,nilIf,nilFn,nilMap,nilCheckA,if_true,if_false,lt_lit,le_lit,lt_lit2,le_lit2,le_sub1,le_sub2]; rfl
      apply evI_block_exit
      apply evI_loop
      simp only [AAct.keepT,Zv,Zz,look,reduceIte,Nat.reduceEqDiff,l0,l4]
      exact hr1
    apply evI_seq
    · apply evI_seq
      · simp only [m0,Zs,Zr,Zp,Za,Zb,evI,opsI,stepI,wantI,opI,AAct.evI,look,AAct.put,mkVal,mkVM,intOpA,intA,shiftA,unA,ZP,ZO,Zh,Zt,reduceIte,Nat.reduceEqDiff,Nat.reduceLT,Zo,Zq,true_and,and_true,and_self,ZB,cellsAt,Zg,ZC,Zf,Zk,ZL,ZM,Nat.reduceAdd,Nat.reduceMul,ZN,AV.cells,AV.one,known,Zn,getE_0,getE_k,setE_0,setE_k,Zc,Zd,Zl,Zm,Zi,Zw,Zu,Zj,Z1,Zx,Zy,ZJ,ZI,ZH,ZD,ZE,splice,fillI,Nat.reduceLeDiff,strA,ZK,ZA,Ze,bq_ft,bq_tf,ZG,ZF,ZQ,Zv,Zz,isNilA,nilPtr,nilSl,nilIf,nilFn,nilMap,nilCheckA,if_true,if_false,lt_lit,le_lit,lt_lit2,le_lit2,le_sub1,le_sub2]; rfl
      apply evI_block_exit
      apply evI_loop
      simp only [AAct.keepT,Zv,Zz,look,reduceIte,Nat.reduceEqDiff,m0]
      exact hr2
    simp only [Zs,Zr,Zp,Za,Zb,evI,opsI,stepI,wantI,opI,AAct.evI,look,AAct.put,mkVal,mkVM,intOpA,intA,shiftA,unA,ZP,ZO,Zh,Zt,reduceIte,Nat.reduceEqDiff,Nat.reduceLT,Zo,Zq,true_and,and_true,and_self,ZB,cellsAt,Zg,ZC,Zf,Zk,ZL,ZM,Nat.reduceAdd,Nat.reduceMul,ZN,AV.cells,AV.one,known,Zn,getE_0,getE_k,setE_0,setE_k,Zc,Zd,Zl,Zm,Zi,Zw,Zu,Zj,Z1,Zx,Zy,ZJ,ZI,ZH,ZD,ZE,splice,fillI,Nat.reduceLeDiff,strA,ZK,ZA,Ze,bq_ft,bq_tf,ZG,ZF,ZQ,Zv,Zz,isNilA,nilPtr,nilSl,nilIf,nilFn,nilMap,nilCheckA,if_true,if_false,lt_lit,le_lit,lt_lit2,le_lit2,le_sub1,le_sub2]; rfl
  case hd => rfl
  case hr => rfl
  case hz => exact fin_ok hs2 rfl rfl
end Go.Proofs.YtlimneghgioeaaaGreatDoor.Ev
