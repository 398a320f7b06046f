/- Parts of one proof. -/
import Derived.Test.YtlimneghgioeaaaGreatDoorMdc
set_option linter.all false
namespace Go.Proofs.YtlimneghgioeaaaGreatDoor.Ev
open Go.Proofs.YtlimneghgioeaaaGreatDoor.Ic
set_option maxRecDepth 100000
set_option maxHeartbeats 4000000
noncomputable def loopRF : IC := (I37.c.loops).getD 0 .bad
theorem rfindS_loop (P : Program) (F : FSem) (N : Nat) (id : List UInt8) (H : Mem) (q st ty : Nat) (l : List St) (hl : l.length ≤ 4611686018427387904) (hq : H[q]? = some (.row (stsC l) st ty)) : ∀ (fuel k : Nat), k ≤ l.length → l.length - k < fuel →
    ∃ t, loopA (fun a H => evI P cfg F N loopRF a H) (some [0, 1, 5]) fuel ⟨20, [(0, .slc q 0 l.length 6 st), (1, .str id), (5, .int .i64 k)], []⟩ H =
      (match ixF id (l.drop k) k with
      | some j => some (.ret, ⟨20, (4, .int .i64 j) :: t, []⟩, H)
      | none => some (.exit 0, ⟨20, t, []⟩, H))
  | 0, k, _, h => by omega
  | fuel + 1, k, hk, hf => by
    rcases Nat.lt_or_ge k l.length with hlt | hge
    · obtain ⟨x, hx⟩ := all_drop hlt
      obtain ⟨r, hr⟩ := st_cells hlt
      have hxe : l.getD k default = x := by
        have h0 : (l.drop k)[0]? = some x := by rw [hx]; rfl
        rw [List.getD_eq_getElem?_getD]
        simpa using congrArg (Option.getD · default) h0
      rw [hxe] at hr
      obtain ⟨g1, g2, g3, g4, g5⟩ := st_cell1 hr
      have e1 : k * 6 + 1 ≤ (stsC l).length := by omega
      have hi : (k : Int) < (l.length : Int) := by omega
      have hw := wrap_next hlt (by omega)
      have hn := natOf_nat k .i64
      obtain ⟨t, ht⟩ := rfindS_loop P F N id H q st ty l hl hq fuel (k + 1) (by omega) (by omega)
      rw [hx]
      have e : ixF id (x :: l.drop (k + 1)) k = if (x.id == id) = true then some k else ixF id (l.drop (k + 1)) (k + 1) := rfl
      rw [e]
      cases h1 : (x.id == id)
      · refine ⟨t, ?_⟩
        simp only [Ze,if_false]
        refine loopA_go (H' := H) (by simp only [loopRF,I37,IC.loops,Za,hi,hlt,hn,hw,hq,g1,g3,e1,h1,Zs,Zr,Zp,Za,Zb,evI,opsI,stepI,wantI,opI,AAct.evI,look,AAct.put,mkVal,mkVM,intOpA,intA,shiftA,unA,ZP,ZO,Zh,Zt,reduceIte,Nat.reduceEqDiff,Nat.reduceLT,Zo,Zq,true_and,and_true,and_self,ZB,cellsAt,Zg,ZC,Zf,Zk,ZL,ZM,Nat.reduceAdd,Nat.reduceMul,ZN,AV.cells,AV.one,known,Zn,getE_0,getE_k,setE_0,setE_k,Zc,Zd,Zl,Zm,Zi,Zw,Zu,Zj,Z1,Zx,Zy,ZJ,ZI,ZH,ZD,ZE,splice,fillI,Nat.reduceLeDiff,strA,ZK,ZA,Ze,bq_ft,bq_tf,ZG,ZF,ZQ,Zv,Zz,isNilA,nilPtr,nilSl,nilIf,nilFn,nilMap,nilCheckA,if_true,if_false,lt_lit,le_lit,lt_lit2,le_lit2,le_sub1,le_sub2]; rfl) ?_
        rw [re_same]
        exact ht
      · simp only [if_true]
        exact ⟨_, loopA_ret (by simp only [loopRF,I37,IC.loops,Za,hi,hlt,hn,hw,hq,g1,g3,e1,h1,Zs,Zr,Zp,Za,Zb,evI,opsI,stepI,wantI,opI,AAct.evI,look,AAct.put,mkVal,mkVM,intOpA,intA,shiftA,unA,ZP,ZO,Zh,Zt,reduceIte,Nat.reduceEqDiff,Nat.reduceLT,Zo,Zq,true_and,and_true,and_self,ZB,cellsAt,Zg,ZC,Zf,Zk,ZL,ZM,Nat.reduceAdd,Nat.reduceMul,ZN,AV.cells,AV.one,known,Zn,getE_0,getE_k,setE_0,setE_k,Zc,Zd,Zl,Zm,Zi,Zw,Zu,Zj,Z1,Zx,Zy,ZJ,ZI,ZH,ZD,ZE,splice,fillI,Nat.reduceLeDiff,strA,ZK,ZA,Ze,bq_ft,bq_tf,ZG,ZF,ZQ,Zv,Zz,isNilA,nilPtr,nilSl,nilIf,nilFn,nilMap,nilCheckA,if_true,if_false,lt_lit,le_lit,lt_lit2,le_lit2,le_sub1,le_sub2]; rfl)⟩
    · have hk' : k = l.length := by omega
      subst hk'
      simp only [List.drop_length,ixF]
      exact ⟨_, loopA_exit (by simp only [loopRF,I37,IC.loops,Za,Int.lt_irrefl,Zs,Zr,Zp,Za,Zb,evI,opsI,stepI,wantI,opI,AAct.evI,look,AAct.put,mkVal,mkVM,intOpA,intA,shiftA,unA,ZP,ZO,Zh,Zt,reduceIte,Nat.reduceEqDiff,Nat.reduceLT,Zo,Zq,true_and,and_true,and_self,ZB,cellsAt,Zg,ZC,Zf,Zk,ZL,ZM,Nat.reduceAdd,Nat.reduceMul,ZN,AV.cells,AV.one,known,Zn,getE_0,getE_k,setE_0,setE_k,Zc,Zd,Zl,Zm,Zi,Zw,Zu,Zj,Z1,Zx,Zy,ZJ,ZI,ZH,ZD,ZE,splice,fillI,Nat.reduceLeDiff,strA,ZK,ZA,Ze,bq_ft,bq_tf,ZG,ZF,ZQ,Zv,Zz,isNilA,nilPtr,nilSl,nilIf,nilFn,nilMap,nilCheckA,if_true,if_false,lt_lit,le_lit,lt_lit2,le_lit2,le_sub1,le_sub2]; rfl)⟩
theorem rfindS_eq (P : Program) (N d : Nat) (hd : 1 ≤ d) (id : List UInt8) (H : Mem) (q st ty : Nat) (l : List St) (hN : l.length < N) (hl : l.length ≤ 4611686018427387904) (hq : H[q]? = some (.row (stsC l) st ty)) :
    evFI P cfg T N d 37 [.slc q 0 l.length 6 st, .str id] H = some (.ret (.int .i64 (ixZ (ixF id l 0))), H) := by
  obtain ⟨n, rfl⟩ : ∃ k, d = k + 1 := ⟨d - 1, by omega⟩
  obtain ⟨t, ht⟩ := rfindS_loop P (evFI P cfg T N n) N id H q st ty l hl hq N 0 (Nat.zero_le _) (by omega)
  rw [List.drop_zero] at ht
  cases hx : ixF id l 0 with
  | some j =>
    rw [hx] at ht
    refine evF_ret (m := 20) (v := .int .i64 (j : Nat)) (a := ?ab) (H1 := H) rfl t37 rfl ?hb ?hd ?hr ?hz
    case hb =>
      apply evI_seq
      · simp only [Zf,Zk,idx,I37,Zs,Zr,Zp,Za,Zb,evI,opsI,stepI,wantI,opI,AAct.evI,look,AAct.put,mkVal,mkVM,intOpA,intA,shiftA,unA,ZP,ZO,Zh,Zt,reduceIte,Nat.reduceEqDiff,Nat.reduceLT,Zo,Zq,true_and,and_true,and_self,ZB,cellsAt,Zg,ZC,Zf,Zk,ZL,ZM,Nat.reduceAdd,Nat.reduceMul,ZN,AV.cells,AV.one,known,Zn,getE_0,getE_k,setE_0,setE_k,Zc,Zd,Zl,Zm,Zi,Zw,Zu,Zj,Z1,Zx,Zy,ZJ,ZI,ZH,ZD,ZE,splice,fillI,Nat.reduceLeDiff,strA,ZK,ZA,Ze,bq_ft,bq_tf,ZG,ZF,ZQ,Zv,Zz,isNilA,nilPtr,nilSl,nilIf,nilFn,nilMap,nilCheckA,if_true,if_false,lt_lit,le_lit,lt_lit2,le_lit2,le_sub1,le_sub2]; rfl
      apply evI_seq_ret
      apply evI_seq
      · simp only [Zs,Zr,Zp,Za,Zb,evI,opsI,stepI,wantI,opI,AAct.evI,look,AAct.put,mkVal,mkVM,intOpA,intA,shiftA,unA,ZP,ZO,Zh,Zt,reduceIte,Nat.reduceEqDiff,Nat.reduceLT,Zo,Zq,true_and,and_true,and_self,ZB,cellsAt,Zg,ZC,Zf,Zk,ZL,ZM,Nat.reduceAdd,Nat.reduceMul,ZN,AV.cells,AV.one,known,Zn,getE_0,getE_k,setE_0,setE_k,Zc,Zd,Zl,Zm,Zi,Zw,Zu,Zj,Z1,Zx,Zy,ZJ,ZI,ZH,ZD,ZE,splice,fillI,Nat.reduceLeDiff,strA,ZK,ZA,Ze,bq_ft,bq_tf,ZG,ZF,ZQ,Zv,Zz,isNilA,nilPtr,nilSl,nilIf,nilFn,nilMap,nilCheckA,if_true,if_false,lt_lit,le_lit,lt_lit2,le_lit2,le_sub1,le_sub2]; rfl
      apply evI_block_ret
      apply evI_loop
      exact ht
    case hd => rfl
    case hr => rfl
    case hz => exact fin_len rfl rfl
  | none =>
    rw [hx] at ht
    refine evF_ret (m := 20) (v := .int .i64 (-1)) (a := ?ac) (H1 := H) rfl t37 rfl ?hb ?hd ?hr ?hz
    case hb =>
      apply evI_seq
      · simp only [Zf,Zk,idx,I37,Zs,Zr,Zp,Za,Zb,evI,opsI,stepI,wantI,opI,AAct.evI,look,AAct.put,mkVal,mkVM,intOpA,intA,shiftA,unA,ZP,ZO,Zh,Zt,reduceIte,Nat.reduceEqDiff,Nat.reduceLT,Zo,Zq,true_and,and_true,and_self,ZB,cellsAt,Zg,ZC,Zf,Zk,ZL,ZM,Nat.reduceAdd,Nat.reduceMul,ZN,AV.cells,AV.one,known,Zn,getE_0,getE_k,setE_0,setE_k,Zc,Zd,Zl,Zm,Zi,Zw,Zu,Zj,Z1,Zx,Zy,ZJ,ZI,ZH,ZD,ZE,splice,fillI,Nat.reduceLeDiff,strA,ZK,ZA,Ze,bq_ft,bq_tf,ZG,ZF,ZQ,Zv,Zz,isNilA,nilPtr,nilSl,nilIf,nilFn,nilMap,nilCheckA,if_true,if_false,lt_lit,le_lit,lt_lit2,le_lit2,le_sub1,le_sub2]; rfl
      apply evI_seq
      · apply evI_seq
        · simp only [Zs,Zr,Zp,Za,Zb,evI,opsI,stepI,wantI,opI,AAct.evI,look,AAct.put,mkVal,mkVM,intOpA,intA,shiftA,unA,ZP,ZO,Zh,Zt,reduceIte,Nat.reduceEqDiff,Nat.reduceLT,Zo,Zq,true_and,and_true,and_self,ZB,cellsAt,Zg,ZC,Zf,Zk,ZL,ZM,Nat.reduceAdd,Nat.reduceMul,ZN,AV.cells,AV.one,known,Zn,getE_0,getE_k,setE_0,setE_k,Zc,Zd,Zl,Zm,Zi,Zw,Zu,Zj,Z1,Zx,Zy,ZJ,ZI,ZH,ZD,ZE,splice,fillI,Nat.reduceLeDiff,strA,ZK,ZA,Ze,bq_ft,bq_tf,ZG,ZF,ZQ,Zv,Zz,isNilA,nilPtr,nilSl,nilIf,nilFn,nilMap,nilCheckA,if_true,if_false,lt_lit,le_lit,lt_lit2,le_lit2,le_sub1,le_sub2]; rfl
        apply evI_block_exit
        apply evI_loop
        exact ht
      simp only [Zs,Zr,Zp,Za,Zb,evI,opsI,stepI,wantI,opI,AAct.evI,look,AAct.put,mkVal,mkVM,intOpA,intA,shiftA,unA,ZP,ZO,Zh,Zt,reduceIte,Nat.reduceEqDiff,Nat.reduceLT,Zo,Zq,true_and,and_true,and_self,ZB,cellsAt,Zg,ZC,Zf,Zk,ZL,ZM,Nat.reduceAdd,Nat.reduceMul,ZN,AV.cells,AV.one,known,Zn,getE_0,getE_k,setE_0,setE_k,Zc,Zd,Zl,Zm,Zi,Zw,Zu,Zj,Z1,Zx,Zy,ZJ,ZI,ZH,ZD,ZE,splice,fillI,Nat.reduceLeDiff,strA,ZK,ZA,Ze,bq_ft,bq_tf,ZG,ZF,ZQ,Zv,Zz,isNilA,nilPtr,nilSl,nilIf,nilFn,nilMap,nilCheckA,if_true,if_false,lt_lit,le_lit,lt_lit2,le_lit2,le_sub1,le_sub2]; rfl
    case hd => rfl
    case hr => rfl
    case hz => exact fin_len rfl rfl
theorem ix_ahead (id : List UInt8) (x : St) (r : List St) (hx : (x.id == id) = true) : ∀ (pre : List St) (i : Nat), ∃ j, ixF id (pre ++ x :: r) i = some j ∧ pre.any (fun y => y.id == id) = decide (j < i + pre.length)
  | [], i => ⟨i, by rw [List.nil_append, show ixF id (x :: r) i = if (x.id == id) = true then some i else ixF id r (i + 1) from rfl, if_pos hx], by simp⟩
  | s :: pre, i => by
    rw [List.cons_append, show ixF id (s :: (pre ++ x :: r)) i = if (s.id == id) = true then some i else ixF id (pre ++ x :: r) (i + 1) from rfl, List.any_cons]
    cases h : (s.id == id)
    · obtain ⟨j, h1, h2⟩ := ix_ahead id x r hx pre (i + 1)
      refine ⟨j, h1, ?_⟩
      rw [h2, Bool.false_or, List.length_cons, show i + 1 + pre.length = i + (pre.length + 1) by omega]
    · refine ⟨i, rfl, ?_⟩
      rw [Bool.true_or]
      exact (decide_eq_true (by simp)).symm
noncomputable def loopRC (j : Nat) : IC := (I23.c.loops).getD j .bad
def RChkEnd (H : Mem) (v : AV) (id : Nat) (ok : Bool) : Out × AAct × Mem → Prop
  | (o, a, M) => Starts H M ∧ a.n = 143 ∧ a.d = [] ∧ if ok = true then o = .exit id ∧ look a.t 0 = v else o = .ret ∧ ∃ i e, look a.t 2 = .int .i64 i ∧ look a.t 3 = .int .i64 e ∧ e ≠ 0
theorem rchk0_loop (P : Program) (N n : Nat) (l : List St) (hN : l.length < N) (hl : l.length ≤ 4611686018427387904) (hr : ∀ s ∈ l, Rng s) (H : Mem) (q st ty : Nat) (hq : H[q]? = some (.row (stsC l) st ty)) : ∀ (fuel k : Nat) (M : Mem), k ≤ l.length → l.length - k < fuel → Starts H M →
    ∃ r, loopA (fun a H => evI P cfg (evFI P cfg T N (n + 1)) N (loopRC 0) a H) (some [0, 4]) fuel ⟨143, [(0, .slc q 0 l.length 6 st), (4, .int .i64 k)], []⟩ M = some r ∧ RChkEnd H (.slc q 0 l.length 6 st) 0 (chkA (l.take k) (l.drop k)) r
  | 0, k, _, _, h, _ => by omega
  | fuel + 1, k, M, hk, hf, hst => by
    rcases Nat.lt_or_ge k l.length with hlt | hge
    · obtain ⟨x, hx⟩ := all_drop hlt
      obtain ⟨r, hc⟩ := st_cells hlt
      have hxe : l.getD k default = x := by
        have h0 : (l.drop k)[0]? = some x := by rw [hx]; rfl
        rw [List.getD_eq_getElem?_getD]
        simpa using congrArg (Option.getD · default) h0
      have hxm : x ∈ l := List.mem_of_mem_drop (i := k) (by rw [hx]; exact List.mem_cons_self)
      rw [hxe] at hc
      obtain ⟨g1, g2, g3, g4, g5⟩ := st_cell1 hc
      have hi : (k : Int) < (l.length : Int) := by omega
      have hw := wrap_next hlt (by omega)
      have hn := natOf_nat k .i64
      have hql : q < H.length := (List.getElem?_eq_some_iff.1 hq).1
      have hqM : M[q]? = some (.row (stsC l) st ty) := by rw [hst.get hql]; exact hq
      have hqL : ∀ L : Mem, (M ++ L)[q]? = some (.row (stsC l) st ty) := fun L => by rw [(hst.app L).get hql]; exact hq
      have hfd := fun L : Mem => rfindS_eq P N (n + 1) (by omega) x.id (M ++ L) q st ty l hN hl (hqL L)
      have htk : (l.take k).length = k := by rw [List.length_take]; omega
      obtain ⟨j, hj, hany⟩ := ix_ahead x.id x (l.drop (k + 1)) (beq_self_eq_true _) (l.take k) 0
      rw [← hx, List.take_append_drop] at hj
      rw [htk, Nat.zero_add] at hany
      rw [hj] at hfd
      obtain ⟨r1, r2, r3, r4, r5, r6⟩ := hr x hxm
      have c1 : decide (x.emph < 0) = false := decide_eq_false (by omega)
      have c2 : decide (x.emph > 2) = false := decide_eq_false (by omega)
      have c3 : decide (x.bold < 0) = false := decide_eq_false (by omega)
      have c4 : decide (x.bold > 2) = false := decide_eq_false (by omega)
      have c5 : decide (x.head < 0) = false := decide_eq_false (by omega)
      have c6 : decide (x.head > 6) = false := decide_eq_false (by omega)
      have c7 : (x.head != 0) = decide (x.head > 0) := by
        cases h : decide (x.head > 0)
        · have := of_decide_eq_false h
          rw [show x.head = 0 by omega]; rfl
        · have := of_decide_eq_true h
          exact bne_iff_ne.2 (by omega)
      have c8 : decide (ixZ (some j) < (k : Int)) = decide (j < k) := by
        show decide ((j : Int) < (k : Int)) = _
        congr 1
        exact propext ⟨fun h => by omega, fun h => by omega⟩
      rw [hx, show chkA (l.take k) (x :: l.drop (k + 1)) = (!aloneB x && !(l.take k).any (fun y => y.id == x.id) && chkA (l.take k ++ [x]) (l.drop (k + 1))) from rfl, hany]
      have e1 : l.take k ++ [x] = l.take (k + 1) := by
        rw [List.take_succ_eq_append_getElem hlt]
        have h0 : (l.drop k)[0]? = some x := by rw [hx]; rfl
        rw [List.getElem?_drop, Nat.add_zero, List.getElem?_eq_getElem hlt] at h0
        injection h0 with h0
        rw [h0]
      rw [e1]
      simp only [stC] at g2
      have ih := rchk0_loop P N n l hN hl hr H q st ty hq fuel (k + 1)
      have hal : aloneB x = (x.id == [] || (x.run && decide (x.head > 0))) := rfl
      rw [hal]
      have hgo : ∀ X : Mem, ∀ M', (M' = M ++ X ∨ M' = (M ++ X).take M.length) → ∃ r, loopA (fun a H => evI P cfg (evFI P cfg T N (n + 1)) N (loopRC 0) a H) (some [0, 4]) fuel ⟨143, [(0, .slc q 0 l.length 6 st), (4, .int .i64 (k + 1 : Nat))], []⟩ M' = some r ∧ RChkEnd H (.slc q 0 l.length 6 st) 0 (chkA (l.take (k + 1)) (l.drop (k + 1))) r := by
        rintro X M' (rfl | rfl)
        · exact ih _ (by omega) (by omega) (hst.app X)
        · rw [List.take_left]
          exact ih _ (by omega) (by omega) hst
      generalize decide (x.head > 0) = hd at *
      cases b1 : (x.id == [])
      · cases b2 : x.run
        · cases b4 : decide (j < k)
          · rw [b4] at c8
            exact loopA_more (by simp only [loopRC,I23,IC.loops,Za,hi,hlt,hn,hw,hqM,hqL,g1,g2,hfd,b1,b2,c1,c2,c3,c4,c5,c6,c7,c8,Zs,Zr,Zp,Za,Zb,evI,opsI,stepI,wantI,opI,AAct.evI,look,AAct.put,mkVal,mkVM,intOpA,intA,shiftA,unA,ZP,ZO,Zh,Zt,reduceIte,Nat.reduceEqDiff,Nat.reduceLT,Zo,Zq,true_and,and_true,and_self,ZB,cellsAt,Zg,ZC,Zf,Zk,ZL,ZM,Nat.reduceAdd,Nat.reduceMul,ZN,AV.cells,AV.one,known,Zn,getE_0,getE_k,setE_0,setE_k,Zc,Zd,Zl,Zm,Zi,Zw,Zu,Zj,Z1,Zx,Zy,ZJ,ZI,ZH,ZD,ZE,splice,fillI,Nat.reduceLeDiff,strA,ZK,ZA,Ze,bq_ft,bq_tf,ZG,ZF,ZQ,Zv,Zz,isNilA,nilPtr,nilSl,nilIf,nilFn,nilMap,nilCheckA,if_true,if_false,lt_lit,le_lit,lt_lit2,le_lit2,le_sub1,le_sub2]; rfl) (hgo _)
          · rw [b4] at c8
            refine ⟨_, loopA_ret (by simp only [loopRC,I23,IC.loops,Za,hi,hlt,hn,hw,hqM,hqL,g1,g2,hfd,b1,b2,c1,c2,c3,c4,c5,c6,c7,c8,Zs,Zr,Zp,Za,Zb,evI,opsI,stepI,wantI,opI,AAct.evI,look,AAct.put,mkVal,mkVM,intOpA,intA,shiftA,unA,ZP,ZO,Zh,Zt,reduceIte,Nat.reduceEqDiff,Nat.reduceLT,Zo,Zq,true_and,and_true,and_self,ZB,cellsAt,Zg,ZC,Zf,Zk,ZL,ZM,Nat.reduceAdd,Nat.reduceMul,ZN,AV.cells,AV.one,known,Zn,getE_0,getE_k,setE_0,setE_k,Zc,Zd,Zl,Zm,Zi,Zw,Zu,Zj,Z1,Zx,Zy,ZJ,ZI,ZH,ZD,ZE,splice,fillI,Nat.reduceLeDiff,strA,ZK,ZA,Ze,bq_ft,bq_tf,ZG,ZF,ZQ,Zv,Zz,isNilA,nilPtr,nilSl,nilIf,nilFn,nilMap,nilCheckA,if_true,if_false,lt_lit,le_lit,lt_lit2,le_lit2,le_sub1,le_sub2]; rfl), hst.app _, rfl, rfl, ?_⟩
            exact ⟨rfl, _, _, rfl, rfl, by decide⟩
        · cases hd
          · cases b4 : decide (j < k)
            · rw [b4] at c8
              exact loopA_more (by simp only [loopRC,I23,IC.loops,Za,hi,hlt,hn,hw,hqM,hqL,g1,g2,hfd,b1,b2,c1,c2,c3,c4,c5,c6,c7,c8,Zs,Zr,Zp,Za,Zb,evI,opsI,stepI,wantI,opI,AAct.evI,look,AAct.put,mkVal,mkVM,intOpA,intA,shiftA,unA,ZP,ZO,Zh,Zt,reduceIte,Nat.reduceEqDiff,Nat.reduceLT,Zo,Zq,true_and,and_true,and_self,ZB,cellsAt,Zg,ZC,Zf,Zk,ZL,ZM,Nat.reduceAdd,Nat.reduceMul,ZN,AV.cells,AV.one,known,Zn,getE_0,getE_k,setE_0,setE_k,Zc,Zd,Zl,Zm,Zi,Zw,Zu,Zj,Z1,Zx,Zy,ZJ,ZI,ZH,ZD,ZE,splice,fillI,Nat.reduceLeDiff,strA,ZK,ZA,Ze,bq_ft,bq_tf,ZG,ZF,ZQ,Zv,Zz,isNilA,nilPtr,nilSl,nilIf,nilFn,nilMap,nilCheckA,if_true,if_false,lt_lit,le_lit,lt_lit2,le_lit2,le_sub1,le_sub2]; rfl) (hgo _)
            · rw [b4] at c8
              refine ⟨_, loopA_ret (by simp only [loopRC,I23,IC.loops,Za,hi,hlt,hn,hw,hqM,hqL,g1,g2,hfd,b1,b2,c1,c2,c3,c4,c5,c6,c7,c8,Zs,Zr,Zp,Za,Zb,evI,opsI,stepI,wantI,opI,AAct.evI,look,AAct.put,mkVal,mkVM,intOpA,intA,shiftA,unA,ZP,ZO,Zh,Zt,reduceIte,Nat.reduceEqDiff,Nat.reduceLT,Zo,Zq,true_and,and_true,and_self,ZB,cellsAt,Zg,ZC,Zf,Zk,ZL,ZM,Nat.reduceAdd,Nat.reduceMul,ZN,AV.cells,AV.one,known,Zn,getE_0,getE_k,setE_0,setE_k,Zc,Zd,Zl,Zm,Zi,Zw,Zu,Zj,Z1,Zx,Zy,ZJ,ZI,ZH,ZD,ZE,splice,fillI,Nat.reduceLeDiff,strA,ZK,ZA,Ze,bq_ft,bq_tf,ZG,ZF,ZQ,Zv,Zz,isNilA,nilPtr,nilSl,nilIf,nilFn,nilMap,nilCheckA,if_true,if_false,lt_lit,le_lit,lt_lit2,le_lit2,le_sub1,le_sub2]; rfl), hst.app _, rfl, rfl, ?_⟩
              exact ⟨rfl, _, _, rfl, rfl, by decide⟩
          · refine ⟨_, loopA_ret (by simp only [loopRC,I23,IC.loops,Za,hi,hlt,hn,hw,hqM,hqL,g1,g2,b1,b2,c1,c2,c3,c4,c5,c6,c7,Zs,Zr,Zp,Za,Zb,evI,opsI,stepI,wantI,opI,AAct.evI,look,AAct.put,mkVal,mkVM,intOpA,intA,shiftA,unA,ZP,ZO,Zh,Zt,reduceIte,Nat.reduceEqDiff,Nat.reduceLT,Zo,Zq,true_and,and_true,and_self,ZB,cellsAt,Zg,ZC,Zf,Zk,ZL,ZM,Nat.reduceAdd,Nat.reduceMul,ZN,AV.cells,AV.one,known,Zn,getE_0,getE_k,setE_0,setE_k,Zc,Zd,Zl,Zm,Zi,Zw,Zu,Zj,Z1,Zx,Zy,ZJ,ZI,ZH,ZD,ZE,splice,fillI,Nat.reduceLeDiff,strA,ZK,ZA,Ze,bq_ft,bq_tf,ZG,ZF,ZQ,Zv,Zz,isNilA,nilPtr,nilSl,nilIf,nilFn,nilMap,nilCheckA,if_true,if_false,lt_lit,le_lit,lt_lit2,le_lit2,le_sub1,le_sub2]; rfl), hst.app _, rfl, rfl, ?_⟩
            exact ⟨rfl, _, _, rfl, rfl, by decide⟩
      · refine ⟨_, loopA_ret (by simp only [loopRC,I23,IC.loops,Za,hi,hlt,hn,hw,hqM,hqL,g1,g2,b1,Zs,Zr,Zp,Za,Zb,evI,opsI,stepI,wantI,opI,AAct.evI,look,AAct.put,mkVal,mkVM,intOpA,intA,shiftA,unA,ZP,ZO,Zh,Zt,reduceIte,Nat.reduceEqDiff,Nat.reduceLT,Zo,Zq,true_and,and_true,and_self,ZB,cellsAt,Zg,ZC,Zf,Zk,ZL,ZM,Nat.reduceAdd,Nat.reduceMul,ZN,AV.cells,AV.one,known,Zn,getE_0,getE_k,setE_0,setE_k,Zc,Zd,Zl,Zm,Zi,Zw,Zu,Zj,Z1,Zx,Zy,ZJ,ZI,ZH,ZD,ZE,splice,fillI,Nat.reduceLeDiff,strA,ZK,ZA,Ze,bq_ft,bq_tf,ZG,ZF,ZQ,Zv,Zz,isNilA,nilPtr,nilSl,nilIf,nilFn,nilMap,nilCheckA,if_true,if_false,lt_lit,le_lit,lt_lit2,le_lit2,le_sub1,le_sub2]; rfl), hst.app _, rfl, rfl, ?_⟩
        exact ⟨rfl, _, _, rfl, rfl, by decide⟩
    · have hk' : k = l.length := by omega
      subst hk'
      rw [List.drop_length]
      refine ⟨_, loopA_exit (by simp only [loopRC,I23,IC.loops,Za,Int.lt_irrefl,Zs,Zr,Zp,Za,Zb,evI,opsI,stepI,wantI,opI,AAct.evI,look,AAct.put,mkVal,mkVM,intOpA,intA,shiftA,unA,ZP,ZO,Zh,Zt,reduceIte,Nat.reduceEqDiff,Nat.reduceLT,Zo,Zq,true_and,and_true,and_self,ZB,cellsAt,Zg,ZC,Zf,Zk,ZL,ZM,Nat.reduceAdd,Nat.reduceMul,ZN,AV.cells,AV.one,known,Zn,getE_0,getE_k,setE_0,setE_k,Zc,Zd,Zl,Zm,Zi,Zw,Zu,Zj,Z1,Zx,Zy,ZJ,ZI,ZH,ZD,ZE,splice,fillI,Nat.reduceLeDiff,strA,ZK,ZA,Ze,bq_ft,bq_tf,ZG,ZF,ZQ,Zv,Zz,isNilA,nilPtr,nilSl,nilIf,nilFn,nilMap,nilCheckA,if_true,if_false,lt_lit,le_lit,lt_lit2,le_lit2,le_sub1,le_sub2]; rfl), hst, rfl, rfl, ?_⟩
      exact ⟨rfl, rfl⟩
theorem rchk1_loop (P : Program) (N n : Nat) (l : List St) (hN : l.length < N) (hl : l.length ≤ 4611686018427387904) (H : Mem) (q st ty : Nat) (hq : H[q]? = some (.row (stsC l) st ty)) : ∀ (fuel k : Nat), k ≤ l.length → l.length - k < fuel →
    ∃ r, loopA (fun a H => evI P cfg (evFI P cfg T N (n + 1)) N (loopRC 1) a H) (some [0, 6]) fuel ⟨143, [(0, .slc q 0 l.length 6 st), (6, .int .i64 k)], []⟩ H = some r ∧ RChkEnd H (.slc q 0 l.length 6 st) 2 ((l.drop k).all fun s => s.based == [] || (ixF s.based l 0).isSome) r ∧ r.2.2 = H
  | 0, k, _, h => by omega
  | fuel + 1, k, hk, hf => by
    have hst : Starts H H := List.take_length
    rcases Nat.lt_or_ge k l.length with hlt | hge
    · obtain ⟨x, hx⟩ := all_drop hlt
      obtain ⟨r, hc⟩ := st_cells hlt
      have hxe : l.getD k default = x := by
        have h0 : (l.drop k)[0]? = some x := by rw [hx]; rfl
        rw [List.getD_eq_getElem?_getD]
        simpa using congrArg (Option.getD · default) h0
      rw [hxe] at hc
      obtain ⟨g1, g2, g3, g4, g5⟩ := st_cell1 hc
      have e2 : k * 6 + 2 ≤ (stsC l).length := by omega
      have hi : (k : Int) < (l.length : Int) := by omega
      have hw := wrap_next hlt (by omega)
      have hn := natOf_nat k .i64
      have hfd := rfindS_eq P N (n + 1) (by omega) x.based H q st ty l hN hl hq
      rw [hx, List.all_cons]
      have ih := rchk1_loop P N n l hN hl H q st ty hq fuel (k + 1) (by omega) (by omega)
      cases h1 : (x.based == [])
      · have hb : (x.based != []) = true := by unfold bne; rw [h1]; rfl
        cases h2 : ixF x.based l 0 with
        | some j =>
          rw [h2] at hfd
          have c1 : decide (ixZ (some j) < 0) = false := decide_eq_false (by show ¬ ((j : Int) < 0); omega)
          simp only [Bool.false_or,Option.isSome_some,ZH]
          obtain ⟨r', ih1, ih2⟩ := ih
          refine ⟨r', ?_, ih2⟩
          refine loopA_go (H' := H) (by simp only [loopRC,I23,IC.loops,Za,Zb,hi,hlt,hn,hw,hq,g1,g4,e2,hfd,h1,hb,c1,Zs,Zr,Zp,Za,Zb,evI,opsI,stepI,wantI,opI,AAct.evI,look,AAct.put,mkVal,mkVM,intOpA,intA,shiftA,unA,ZP,ZO,Zh,Zt,reduceIte,Nat.reduceEqDiff,Nat.reduceLT,Zo,Zq,true_and,and_true,and_self,ZB,cellsAt,Zg,ZC,Zf,Zk,ZL,ZM,Nat.reduceAdd,Nat.reduceMul,ZN,AV.cells,AV.one,known,Zn,getE_0,getE_k,setE_0,setE_k,Zc,Zd,Zl,Zm,Zi,Zw,Zu,Zj,Z1,Zx,Zy,ZJ,ZI,ZH,ZD,ZE,splice,fillI,Nat.reduceLeDiff,strA,ZK,ZA,Ze,bq_ft,bq_tf,ZG,ZF,ZQ,Zv,Zz,isNilA,nilPtr,nilSl,nilIf,nilFn,nilMap,nilCheckA,if_true,if_false,lt_lit,le_lit,lt_lit2,le_lit2,le_sub1,le_sub2]; rfl) ?_
          rw [re_same]
          exact ih1
        | none =>
          rw [h2] at hfd
          have c1 : decide (ixZ none < 0) = true := rfl
          refine ⟨_, loopA_ret (by simp only [loopRC,I23,IC.loops,Za,Zb,hi,hlt,hn,hw,hq,g1,g4,e2,hfd,h1,hb,c1,Zs,Zr,Zp,Za,Zb,evI,opsI,stepI,wantI,opI,AAct.evI,look,AAct.put,mkVal,mkVM,intOpA,intA,shiftA,unA,ZP,ZO,Zh,Zt,reduceIte,Nat.reduceEqDiff,Nat.reduceLT,Zo,Zq,true_and,and_true,and_self,ZB,cellsAt,Zg,ZC,Zf,Zk,ZL,ZM,Nat.reduceAdd,Nat.reduceMul,ZN,AV.cells,AV.one,known,Zn,getE_0,getE_k,setE_0,setE_k,Zc,Zd,Zl,Zm,Zi,Zw,Zu,Zj,Z1,Zx,Zy,ZJ,ZI,ZH,ZD,ZE,splice,fillI,Nat.reduceLeDiff,strA,ZK,ZA,Ze,bq_ft,bq_tf,ZG,ZF,ZQ,Zv,Zz,isNilA,nilPtr,nilSl,nilIf,nilFn,nilMap,nilCheckA,if_true,if_false,lt_lit,le_lit,lt_lit2,le_lit2,le_sub1,le_sub2]; rfl), ⟨hst, rfl, rfl, ?_⟩, rfl⟩
          exact ⟨rfl, _, _, rfl, rfl, by decide⟩
      · have hb : (x.based != []) = false := by unfold bne; rw [h1]; rfl
        simp only [Bool.true_or,ZH]
        obtain ⟨r', ih1, ih2⟩ := ih
        refine ⟨r', ?_, ih2⟩
        refine loopA_go (H' := H) (by simp only [loopRC,I23,IC.loops,Za,Zb,hi,hlt,hn,hw,hq,g1,g4,e2,h1,hb,Zs,Zr,Zp,Za,Zb,evI,opsI,stepI,wantI,opI,AAct.evI,look,AAct.put,mkVal,mkVM,intOpA,intA,shiftA,unA,ZP,ZO,Zh,Zt,reduceIte,Nat.reduceEqDiff,Nat.reduceLT,Zo,Zq,true_and,and_true,and_self,ZB,cellsAt,Zg,ZC,Zf,Zk,ZL,ZM,Nat.reduceAdd,Nat.reduceMul,ZN,AV.cells,AV.one,known,Zn,getE_0,getE_k,setE_0,setE_k,Zc,Zd,Zl,Zm,Zi,Zw,Zu,Zj,Z1,Zx,Zy,ZJ,ZI,ZH,ZD,ZE,splice,fillI,Nat.reduceLeDiff,strA,ZK,ZA,Ze,bq_ft,bq_tf,ZG,ZF,ZQ,Zv,Zz,isNilA,nilPtr,nilSl,nilIf,nilFn,nilMap,nilCheckA,if_true,if_false,lt_lit,le_lit,lt_lit2,le_lit2,le_sub1,le_sub2]; rfl) ?_
        rw [re_same]
        exact ih1
    · have hk' : k = l.length := by omega
      subst hk'
      rw [List.drop_length]
      refine ⟨_, loopA_exit (by simp only [loopRC,I23,IC.loops,Za,Zb,Int.lt_irrefl,Zs,Zr,Zp,Za,Zb,evI,opsI,stepI,wantI,opI,AAct.evI,look,AAct.put,mkVal,mkVM,intOpA,intA,shiftA,unA,ZP,ZO,Zh,Zt,reduceIte,Nat.reduceEqDiff,Nat.reduceLT,Zo,Zq,true_and,and_true,and_self,ZB,cellsAt,Zg,ZC,Zf,Zk,ZL,ZM,Nat.reduceAdd,Nat.reduceMul,ZN,AV.cells,AV.one,known,Zn,getE_0,getE_k,setE_0,setE_k,Zc,Zd,Zl,Zm,Zi,Zw,Zu,Zj,Z1,Zx,Zy,ZJ,ZI,ZH,ZD,ZE,splice,fillI,Nat.reduceLeDiff,strA,ZK,ZA,Ze,bq_ft,bq_tf,ZG,ZF,ZQ,Zv,Zz,isNilA,nilPtr,nilSl,nilIf,nilFn,nilMap,nilCheckA,if_true,if_false,lt_lit,le_lit,lt_lit2,le_lit2,le_sub1,le_sub2]; rfl), ⟨hst, rfl, rfl, ?_⟩, rfl⟩
      exact ⟨rfl, rfl⟩
theorem int_beq (a b : Nat) : ((a : Int) == (b : Int)) = (a == b) := by
  by_cases h : a = b
  · rw [h, beq_self_eq_true, beq_self_eq_true]
  · rw [beq_false_of_ne h, beq_false_of_ne fun e => h (by omega)]
theorem rchk3_loop (P : Program) (N n : Nat) (l : List St) (hN : l.length < N) (hl : l.length ≤ 4611686018427387904) (hB : ∀ k, k < l.length → ((l.getD k default).based == []) = false → (ixF (l.getD k default).based l 0).isSome = true) (H : Mem) (q st ty : Nat) (hq : H[q]? = some (.row (stsC l) st ty)) (i : Nat) : ∀ (fuel f m k : Nat), l.length + 2 = m + (f + 1) → f + 1 ≤ fuel → k < l.length →
    ∃ ou t, loopA (fun a H => evI P cfg (evFI P cfg T N (n + 1)) N (loopRC 3) a H) (some [0, 7, 8, 9]) fuel ⟨143, [(0, .slc q 0 l.length 6 st), (7, .int .i64 i), (8, .int .i64 k), (9, .int .i64 m)], []⟩ H = some (ou, ⟨143, t, []⟩, H) ∧ look t 0 = .slc q 0 l.length 6 st ∧ look t 7 = .int .i64 i ∧
      (if wkR l i (f + 1) k = true then ou = .exit 6 else ou = .ret ∧ look t 2 = .int .i64 i ∧ look t 3 = .int .i64 16)
  | 0, f, m, k, _, h, _ => by omega
  | fuel + 1, f, m, k, hm, hf, hk => by
    obtain ⟨r, hc⟩ := st_cells hk
    obtain ⟨g1, g2, g3, g4, g5⟩ := st_cell1 hc
    have e2 : k * 6 + 2 ≤ (stsC l).length := by omega
    have e3 : k * 6 + 3 ≤ (stsC l).length := by omega
    have hn := natOf_nat k .i64
    have hw : IntKind.wrap .i64 ((m : Int) + 1) = ((m + 1 : Nat) : Int) := by rw [wrap64] <;> omega
    have hfd := rfindS_eq P N (n + 1) (by omega) (l.getD k default).based H q st ty l hN hl hq
    have hki := int_beq k i
    have hu : wkR l i (f + 1) k = if ((l.getD k default).based == []) = true then true else match ixF (l.getD k default).based l 0 with
      | none => true
      | some m => if (k == i && (l.getD m default).run != (l.getD k default).run || m == i) = true then false else wkR l i f m := rfl
    rw [hu]
    have hBk := hB k hk
    have ih := rchk3_loop P N n l hN hl hB H q st ty hq i fuel
    cases h1 : ((l.getD k default).based == [])
    · have hb : ((l.getD k default).based != []) = true := by unfold bne; rw [h1]; rfl
      simp only [Ze,if_false]
      cases h2 : ixF (l.getD k default).based l 0 with
      | none =>
        have := hBk h1
        rw [h2] at this
        cases this
      | some j =>
        rw [h2] at hfd
        have hj := (ixF_lt _ l 0 j h2).2
        have hjl : j < l.length := by omega
        obtain ⟨r2, hc2⟩ := st_cells hjl
        obtain ⟨k1, k2, k3, k4, k5⟩ := st_cell1 hc2
        have d3 : j * 6 + 3 ≤ (stsC l).length := by omega
        have hn2 := natOf_nat j .i64
        have hji := int_beq j i
        have hix : ixZ (some j) = (j : Int) := rfl
        dsimp only
        obtain ⟨x, hx⟩ : ∃ x, x = l.getD k default := ⟨_, rfl⟩
        obtain ⟨y, hy⟩ : ∃ y, y = l.getD j default := ⟨_, rfl⟩
        simp only [← hx,← hy] at g3 g4 g5 k3 k4 k5 hfd hb h1 ⊢
        simp only [bne]
        have fin : ¬ (m : Int) > (l.length : Int) → ∃ ou t, loopA (fun a H => evI P cfg (evFI P cfg T N (n + 1)) N (loopRC 3) a H) (some [0, 7, 8, 9]) fuel ⟨143, [(0, .slc q 0 l.length 6 st), (7, .int .i64 i), (8, .int .i64 j), (9, .int .i64 (m + 1 : Nat))], []⟩ H = some (ou, ⟨143, t, []⟩, H) ∧ look t 0 = .slc q 0 l.length 6 st ∧ look t 7 = .int .i64 i ∧ (if wkR l i f j = true then ou = .exit 6 else ou = .ret ∧ look t 2 = .int .i64 i ∧ look t 3 = .int .i64 16) := fun hml => by
          obtain ⟨f', rfl⟩ : ∃ f', f = f' + 1 := ⟨f - 1, by omega⟩
          exact ih f' (m + 1) j (by omega) (by omega) hjl
        clear ih
        cases b1 : (k == i)
        · rw [b1] at hki
          simp only [ZE,Bool.false_or]
          cases b2 : (j == i)
          · rw [b2] at hji
            simp only [Ze,if_false]
            cases b3 : decide ((m : Int) > (l.length : Int))
            · obtain ⟨ou, t, ht, hQ⟩ := fin (of_decide_eq_false b3)
              refine ⟨ou, t, ?_, hQ⟩
              refine loopA_go (by simp only [loopRC,I23,IC.loops,Za,Zb,hk,hjl,hn,hn2,hw,hq,g1,g3,g4,g5,e2,e3,k1,k3,k4,k5,d3,hfd,hix,h1,hki,hji,b3,Zs,Zr,Zp,Za,Zb,evI,opsI,stepI,wantI,opI,AAct.evI,look,AAct.put,mkVal,mkVM,intOpA,intA,shiftA,unA,ZP,ZO,Zh,Zt,reduceIte,Nat.reduceEqDiff,Nat.reduceLT,Zo,Zq,true_and,and_true,and_self,ZB,cellsAt,Zg,ZC,Zf,Zk,ZL,ZM,Nat.reduceAdd,Nat.reduceMul,ZN,AV.cells,AV.one,known,Zn,getE_0,getE_k,setE_0,setE_k,Zc,Zd,Zl,Zm,Zi,Zw,Zu,Zj,Z1,Zx,Zy,ZJ,ZI,ZH,ZD,ZE,splice,fillI,Nat.reduceLeDiff,strA,ZK,ZA,Ze,bq_ft,bq_tf,ZG,ZF,ZQ,Zv,Zz,isNilA,nilPtr,nilSl,nilIf,nilFn,nilMap,nilCheckA,if_true,if_false,lt_lit,le_lit,lt_lit2,le_lit2,le_sub1,le_sub2,drawI,drawI2,drawI0,drawI20,lexD,valD,valI,putD,okD,roD,memAt,lastM,wantI,eqv_refl,eqM_refl,eqM_app,eqB,eqvL,eqv,List.getLast?_cons_cons,List.getLast?_singleton,Option.getD_some,Bool.or_true,Bool.true_or,ZA,resvV]; rfl) ?_
              rw [re_same]
              exact ht
            · have : f = 0 := by have := of_decide_eq_true b3; omega
              subst this
              refine ⟨_, _, loopA_exit (by simp only [loopRC,I23,IC.loops,Za,Zb,hk,hjl,hn,hn2,hw,hq,g1,g3,g4,g5,e2,e3,k1,k3,k4,k5,d3,hfd,hix,h1,hki,hji,b3,Zs,Zr,Zp,Za,Zb,evI,opsI,stepI,wantI,opI,AAct.evI,look,AAct.put,mkVal,mkVM,intOpA,intA,shiftA,unA,ZP,ZO,Zh,Zt,reduceIte,Nat.reduceEqDiff,Nat.reduceLT,Zo,Zq,true_and,and_true,and_self,ZB,cellsAt,Zg,ZC,Zf,Zk,ZL,ZM,Nat.reduceAdd,Nat.reduceMul,ZN,AV.cells,AV.one,known,Zn,getE_0,getE_k,setE_0,setE_k,Zc,Zd,Zl,Zm,Zi,Zw,Zu,Zj,Z1,Zx,Zy,ZJ,ZI,ZH,ZD,ZE,splice,fillI,Nat.reduceLeDiff,strA,ZK,ZA,Ze,bq_ft,bq_tf,ZG,ZF,ZQ,Zv,Zz,isNilA,nilPtr,nilSl,nilIf,nilFn,nilMap,nilCheckA,if_true,if_false,lt_lit,le_lit,lt_lit2,le_lit2,le_sub1,le_sub2,drawI,drawI2,drawI0,drawI20,lexD,valD,valI,putD,okD,roD,memAt,lastM,wantI,eqv_refl,eqM_refl,eqM_app,eqB,eqvL,eqv,List.getLast?_cons_cons,List.getLast?_singleton,Option.getD_some,Bool.or_true,Bool.true_or,ZA,resvV]; rfl), rfl, rfl, ?_⟩
              exact rfl
          · rw [b2] at hji
            refine ⟨_, _, loopA_ret (by simp only [loopRC,I23,IC.loops,Za,Zb,hk,hjl,hn,hn2,hw,hq,g1,g3,g4,g5,e2,e3,k1,k3,k4,k5,d3,hfd,hix,h1,hki,hji,Zs,Zr,Zp,Za,Zb,evI,opsI,stepI,wantI,opI,AAct.evI,look,AAct.put,mkVal,mkVM,intOpA,intA,shiftA,unA,ZP,ZO,Zh,Zt,reduceIte,Nat.reduceEqDiff,Nat.reduceLT,Zo,Zq,true_and,and_true,and_self,ZB,cellsAt,Zg,ZC,Zf,Zk,ZL,ZM,Nat.reduceAdd,Nat.reduceMul,ZN,AV.cells,AV.one,known,Zn,getE_0,getE_k,setE_0,setE_k,Zc,Zd,Zl,Zm,Zi,Zw,Zu,Zj,Z1,Zx,Zy,ZJ,ZI,ZH,ZD,ZE,splice,fillI,Nat.reduceLeDiff,strA,ZK,ZA,Ze,bq_ft,bq_tf,ZG,ZF,ZQ,Zv,Zz,isNilA,nilPtr,nilSl,nilIf,nilFn,nilMap,nilCheckA,if_true,if_false,lt_lit,le_lit,lt_lit2,le_lit2,le_sub1,le_sub2,drawI,drawI2,drawI0,drawI20,lexD,valD,valI,putD,okD,roD,memAt,lastM,wantI,eqv_refl,eqM_refl,eqM_app,eqB,eqvL,eqv,List.getLast?_cons_cons,List.getLast?_singleton,Option.getD_some,Bool.or_true,Bool.true_or,ZA,resvV]; rfl), rfl, rfl, ?_⟩
            exact ⟨rfl, rfl, rfl⟩
        · rw [b1] at hki
          simp only [ZH]
          cases b4 : (y.run == x.run)
          · refine ⟨_, _, loopA_ret (by simp only [loopRC,I23,IC.loops,Za,Zb,hk,hjl,hn,hn2,hw,hq,g1,g3,g4,g5,e2,e3,k1,k3,k4,k5,d3,hfd,hix,h1,hki,hji,b4,Zs,Zr,Zp,Za,Zb,evI,opsI,stepI,wantI,opI,AAct.evI,look,AAct.put,mkVal,mkVM,intOpA,intA,shiftA,unA,ZP,ZO,Zh,Zt,reduceIte,Nat.reduceEqDiff,Nat.reduceLT,Zo,Zq,true_and,and_true,and_self,ZB,cellsAt,Zg,ZC,Zf,Zk,ZL,ZM,Nat.reduceAdd,Nat.reduceMul,ZN,AV.cells,AV.one,known,Zn,getE_0,getE_k,setE_0,setE_k,Zc,Zd,Zl,Zm,Zi,Zw,Zu,Zj,Z1,Zx,Zy,ZJ,ZI,ZH,ZD,ZE,splice,fillI,Nat.reduceLeDiff,strA,ZK,ZA,Ze,bq_ft,bq_tf,ZG,ZF,ZQ,Zv,Zz,isNilA,nilPtr,nilSl,nilIf,nilFn,nilMap,nilCheckA,if_true,if_false,lt_lit,le_lit,lt_lit2,le_lit2,le_sub1,le_sub2,drawI,drawI2,drawI0,drawI20,lexD,valD,valI,putD,okD,roD,memAt,lastM,wantI,eqv_refl,eqM_refl,eqM_app,eqB,eqvL,eqv,List.getLast?_cons_cons,List.getLast?_singleton,Option.getD_some,Bool.or_true,Bool.true_or,ZA,resvV]; rfl), rfl, rfl, ?_⟩
            exact ⟨rfl, rfl, rfl⟩
          · simp only [ZG,Bool.false_or]
            cases b2 : (j == i)
            · rw [b2] at hji
              simp only [Ze,if_false]
              cases b3 : decide ((m : Int) > (l.length : Int))
              · obtain ⟨ou, t, ht, hQ⟩ := fin (of_decide_eq_false b3)
                refine ⟨ou, t, ?_, hQ⟩
                refine loopA_go (by simp only [loopRC,I23,IC.loops,Za,Zb,hk,hjl,hn,hn2,hw,hq,g1,g3,g4,g5,e2,e3,k1,k3,k4,k5,d3,hfd,hix,h1,hki,hji,b3,b4,Zs,Zr,Zp,Za,Zb,evI,opsI,stepI,wantI,opI,AAct.evI,look,AAct.put,mkVal,mkVM,intOpA,intA,shiftA,unA,ZP,ZO,Zh,Zt,reduceIte,Nat.reduceEqDiff,Nat.reduceLT,Zo,Zq,true_and,and_true,and_self,ZB,cellsAt,Zg,ZC,Zf,Zk,ZL,ZM,Nat.reduceAdd,Nat.reduceMul,ZN,AV.cells,AV.one,known,Zn,getE_0,getE_k,setE_0,setE_k,Zc,Zd,Zl,Zm,Zi,Zw,Zu,Zj,Z1,Zx,Zy,ZJ,ZI,ZH,ZD,ZE,splice,fillI,Nat.reduceLeDiff,strA,ZK,ZA,Ze,bq_ft,bq_tf,ZG,ZF,ZQ,Zv,Zz,isNilA,nilPtr,nilSl,nilIf,nilFn,nilMap,nilCheckA,if_true,if_false,lt_lit,le_lit,lt_lit2,le_lit2,le_sub1,le_sub2,drawI,drawI2,drawI0,drawI20,lexD,valD,valI,putD,okD,roD,memAt,lastM,wantI,eqv_refl,eqM_refl,eqM_app,eqB,eqvL,eqv,List.getLast?_cons_cons,List.getLast?_singleton,Option.getD_some,Bool.or_true,Bool.true_or,ZA,resvV]; rfl) ?_
                rw [re_same]
                exact ht
              · have : f = 0 := by have := of_decide_eq_true b3; omega
                subst this
                refine ⟨_, _, loopA_exit (by simp only [loopRC,I23,IC.loops,Za,Zb,hk,hjl,hn,hn2,hw,hq,g1,g3,g4,g5,e2,e3,k1,k3,k4,k5,d3,hfd,hix,h1,hki,hji,b3,b4,Zs,Zr,Zp,Za,Zb,evI,opsI,stepI,wantI,opI,AAct.evI,look,AAct.put,mkVal,mkVM,intOpA,intA,shiftA,unA,ZP,ZO,Zh,Zt,reduceIte,Nat.reduceEqDiff,Nat.reduceLT,Zo,Zq,true_and,and_true,and_self,ZB,cellsAt,Zg,ZC,Zf,Zk,ZL,ZM,Nat.reduceAdd,Nat.reduceMul,ZN,AV.cells,AV.one,known,Zn,getE_0,getE_k,setE_0,setE_k,Zc,Zd,Zl,Zm,Zi,Zw,Zu,Zj,Z1,Zx,Zy,ZJ,ZI,ZH,ZD,ZE,splice,fillI,Nat.reduceLeDiff,strA,ZK,ZA,Ze,bq_ft,bq_tf,ZG,ZF,ZQ,Zv,Zz,isNilA,nilPtr,nilSl,nilIf,nilFn,nilMap,nilCheckA,if_true,if_false,lt_lit,le_lit,lt_lit2,le_lit2,le_sub1,le_sub2,drawI,drawI2,drawI0,drawI20,lexD,valD,valI,putD,okD,roD,memAt,lastM,wantI,eqv_refl,eqM_refl,eqM_app,eqB,eqvL,eqv,List.getLast?_cons_cons,List.getLast?_singleton,Option.getD_some,Bool.or_true,Bool.true_or,ZA,resvV]; rfl), rfl, rfl, ?_⟩
                exact rfl
            · rw [b2] at hji
              refine ⟨_, _, loopA_ret (by simp only [loopRC,I23,IC.loops,Za,Zb,hk,hjl,hn,hn2,hw,hq,g1,g3,g4,g5,e2,e3,k1,k3,k4,k5,d3,hfd,hix,h1,hki,hji,b4,Zs,Zr,Zp,Za,Zb,evI,opsI,stepI,wantI,opI,AAct.evI,look,AAct.put,mkVal,mkVM,intOpA,intA,shiftA,unA,ZP,ZO,Zh,Zt,reduceIte,Nat.reduceEqDiff,Nat.reduceLT,Zo,Zq,true_and,and_true,and_self,ZB,cellsAt,Zg,ZC,Zf,Zk,ZL,ZM,Nat.reduceAdd,Nat.reduceMul,ZN,AV.cells,AV.one,known,Zn,getE_0,getE_k,setE_0,setE_k,Zc,Zd,Zl,Zm,Zi,Zw,Zu,Zj,Z1,Zx,Zy,ZJ,ZI,ZH,ZD,ZE,splice,fillI,Nat.reduceLeDiff,strA,ZK,ZA,Ze,bq_ft,bq_tf,ZG,ZF,ZQ,Zv,Zz,isNilA,nilPtr,nilSl,nilIf,nilFn,nilMap,nilCheckA,if_true,if_false,lt_lit,le_lit,lt_lit2,le_lit2,le_sub1,le_sub2,drawI,drawI2,drawI0,drawI20,lexD,valD,valI,putD,okD,roD,memAt,lastM,wantI,eqv_refl,eqM_refl,eqM_app,eqB,eqvL,eqv,List.getLast?_cons_cons,List.getLast?_singleton,Option.getD_some,Bool.or_true,Bool.true_or,ZA,resvV]; rfl), rfl, rfl, ?_⟩
              exact ⟨rfl, rfl, rfl⟩
    · have hb : ((l.getD k default).based != []) = false := by unfold bne; rw [h1]; rfl
      refine ⟨_, _, loopA_exit (by simp only [loopRC,I23,IC.loops,Za,Zb,hk,hn,hw,hq,g1,g3,g4,e2,h1,hb,Zs,Zr,Zp,Za,Zb,evI,opsI,stepI,wantI,opI,AAct.evI,look,AAct.put,mkVal,mkVM,intOpA,intA,shiftA,unA,ZP,ZO,Zh,Zt,reduceIte,Nat.reduceEqDiff,Nat.reduceLT,Zo,Zq,true_and,and_true,and_self,ZB,cellsAt,Zg,ZC,Zf,Zk,ZL,ZM,Nat.reduceAdd,Nat.reduceMul,ZN,AV.cells,AV.one,known,Zn,getE_0,getE_k,setE_0,setE_k,Zc,Zd,Zl,Zm,Zi,Zw,Zu,Zj,Z1,Zx,Zy,ZJ,ZI,ZH,ZD,ZE,splice,fillI,Nat.reduceLeDiff,strA,ZK,ZA,Ze,bq_ft,bq_tf,ZG,ZF,ZQ,Zv,Zz,isNilA,nilPtr,nilSl,nilIf,nilFn,nilMap,nilCheckA,if_true,if_false,lt_lit,le_lit,lt_lit2,le_lit2,le_sub1,le_sub2]; rfl), rfl, rfl, ?_⟩
      exact rfl
theorem rchk2_loop (P : Program) (N n : Nat) (l : List St) (hN : l.length + 3 < N) (hl : l.length ≤ 4611686018427387904) (hB : ∀ k, k < l.length → ((l.getD k default).based == []) = false → (ixF (l.getD k default).based l 0).isSome = true) (H : Mem) (q st ty : Nat) (hq : H[q]? = some (.row (stsC l) st ty)) : ∀ (fuel k : Nat), k ≤ l.length → l.length - k < fuel →
    ∃ ou t, loopA (fun a H => evI P cfg (evFI P cfg T N (n + 1)) N (loopRC 2) a H) (some [0, 7]) fuel ⟨143, [(0, .slc q 0 l.length 6 st), (7, .int .i64 k)], []⟩ H = some (ou, ⟨143, t, []⟩, H) ∧
      (if (List.range' k (l.length - k)).all (fun i => wkR l i (l.length + 2) i) = true then ou = .exit 4 else ou = .ret ∧ ∃ i, look t 2 = .int .i64 i ∧ look t 3 = .int .i64 16)
  | 0, k, _, h => by omega
  | fuel + 1, k, hk, hf => by
    rcases Nat.lt_or_ge k l.length with hlt | hge
    · have hi : (k : Int) < (l.length : Int) := by omega
      have hw := wrap_next hlt (by omega)
      obtain ⟨o3, t3, h3, l0, l7, hQ⟩ := rchk3_loop P N n l (by omega) hl hB H q st ty hq k N (l.length + 1) 0 k (by omega) (by omega) hlt
      obtain ⟨o2, t2, h2, hQ2⟩ := rchk2_loop P N n l hN hl hB H q st ty hq fuel (k + 1) (by omega) (by omega)
      rw [show l.length - k = (l.length - (k + 1)) + 1 by omega, List.range'_succ, List.all_cons]
      cases c : wkR l k (l.length + 2) k
      · rw [c] at hQ
        simp only [Ze,if_false] at hQ
        obtain ⟨rfl, m2, m3⟩ := hQ
        refine ⟨.ret, t3, ?_, ?_⟩
        · apply loopA_ret
          apply evI_seq
          · simp only [hi,Zs,Zr,Zp,Za,Zb,evI,opsI,stepI,wantI,opI,AAct.evI,look,AAct.put,mkVal,mkVM,intOpA,intA,shiftA,unA,ZP,ZO,Zh,Zt,reduceIte,Nat.reduceEqDiff,Nat.reduceLT,Zo,Zq,true_and,and_true,and_self,ZB,cellsAt,Zg,ZC,Zf,Zk,ZL,ZM,Nat.reduceAdd,Nat.reduceMul,ZN,AV.cells,AV.one,known,Zn,getE_0,getE_k,setE_0,setE_k,Zc,Zd,Zl,Zm,Zi,Zw,Zu,Zj,Z1,Zx,Zy,ZJ,ZI,ZH,ZD,ZE,splice,fillI,Nat.reduceLeDiff,strA,ZK,ZA,Ze,bq_ft,bq_tf,ZG,ZF,ZQ,Zv,Zz,isNilA,nilPtr,nilSl,nilIf,nilFn,nilMap,nilCheckA,if_true,if_false,lt_lit,le_lit,lt_lit2,le_lit2,le_sub1,le_sub2]; rfl
          apply evI_seq_ret
          apply evI_block_ret
          apply evI_seq
          · simp only [Zs,Zr,Zp,Za,Zb,evI,opsI,stepI,wantI,opI,AAct.evI,look,AAct.put,mkVal,mkVM,intOpA,intA,shiftA,unA,ZP,ZO,Zh,Zt,reduceIte,Nat.reduceEqDiff,Nat.reduceLT,Zo,Zq,true_and,and_true,and_self,ZB,cellsAt,Zg,ZC,Zf,Zk,ZL,ZM,Nat.reduceAdd,Nat.reduceMul,ZN,AV.cells,AV.one,known,Zn,getE_0,getE_k,setE_0,setE_k,Zc,Zd,Zl,Zm,Zi,Zw,Zu,Zj,Z1,Zx,Zy,ZJ,ZI,ZH,ZD,ZE,splice,fillI,Nat.reduceLeDiff,strA,ZK,ZA,Ze,bq_ft,bq_tf,ZG,ZF,ZQ,Zv,Zz,isNilA,nilPtr,nilSl,nilIf,nilFn,nilMap,nilCheckA,if_true,if_false,lt_lit,le_lit,lt_lit2,le_lit2,le_sub1,le_sub2]; rfl
          apply evI_seq
          · simp only [Zs,Zr,Zp,Za,Zb,evI,opsI,stepI,wantI,opI,AAct.evI,look,AAct.put,mkVal,mkVM,intOpA,intA,shiftA,unA,ZP,ZO,Zh,Zt,reduceIte,Nat.reduceEqDiff,Nat.reduceLT,Zo,Zq,true_and,and_true,and_self,ZB,cellsAt,Zg,ZC,Zf,Zk,ZL,ZM,Nat.reduceAdd,Nat.reduceMul,ZN,AV.cells,AV.one,known,Zn,getE_0,getE_k,setE_0,setE_k,Zc,Zd,Zl,Zm,Zi,Zw,Zu,Zj,Z1,Zx,Zy,ZJ,ZI,ZH,ZD,ZE,splice,fillI,Nat.reduceLeDiff,strA,ZK,ZA,Ze,bq_ft,bq_tf,ZG,ZF,ZQ,Zv,Zz,isNilA,nilPtr,nilSl,nilIf,nilFn,nilMap,nilCheckA,if_true,if_false,lt_lit,le_lit,lt_lit2,le_lit2,le_sub1,le_sub2]; rfl
          apply evI_block_ret
          apply evI_loop
          exact h3
        · exact ⟨rfl, _, m2, m3⟩
      · rw [c] at hQ
        simp only [if_true] at hQ
        subst hQ
        simp only [ZH]
        refine ⟨o2, t2, ?_, hQ2⟩
        refine loopA_go (a' := ?a1) (H' := H) ?hb ?hn
        case hb =>
          apply evI_seq
          · simp only [hi,Zs,Zr,Zp,Za,Zb,evI,opsI,stepI,wantI,opI,AAct.evI,look,AAct.put,mkVal,mkVM,intOpA,intA,shiftA,unA,ZP,ZO,Zh,Zt,reduceIte,Nat.reduceEqDiff,Nat.reduceLT,Zo,Zq,true_and,and_true,and_self,ZB,cellsAt,Zg,ZC,Zf,Zk,ZL,ZM,Nat.reduceAdd,Nat.reduceMul,ZN,AV.cells,AV.one,known,Zn,getE_0,getE_k,setE_0,setE_k,Zc,Zd,Zl,Zm,Zi,Zw,Zu,Zj,Z1,Zx,Zy,ZJ,ZI,ZH,ZD,ZE,splice,fillI,Nat.reduceLeDiff,strA,ZK,ZA,Ze,bq_ft,bq_tf,ZG,ZF,ZQ,Zv,Zz,isNilA,nilPtr,nilSl,nilIf,nilFn,nilMap,nilCheckA,if_true,if_false,lt_lit,le_lit,lt_lit2,le_lit2,le_sub1,le_sub2]; rfl
          apply evI_seq
          · apply evI_block
            apply evI_seq
            · simp only [Zs,Zr,Zp,Za,Zb,evI,opsI,stepI,wantI,opI,AAct.evI,look,AAct.put,mkVal,mkVM,intOpA,intA,shiftA,unA,ZP,ZO,Zh,Zt,reduceIte,Nat.reduceEqDiff,Nat.reduceLT,Zo,Zq,true_and,and_true,and_self,ZB,cellsAt,Zg,ZC,Zf,Zk,ZL,ZM,Nat.reduceAdd,Nat.reduceMul,ZN,AV.cells,AV.one,known,Zn,getE_0,getE_k,setE_0,setE_k,Zc,Zd,Zl,Zm,Zi,Zw,Zu,Zj,Z1,Zx,Zy,ZJ,ZI,ZH,ZD,ZE,splice,fillI,Nat.reduceLeDiff,strA,ZK,ZA,Ze,bq_ft,bq_tf,ZG,ZF,ZQ,Zv,Zz,isNilA,nilPtr,nilSl,nilIf,nilFn,nilMap,nilCheckA,if_true,if_false,lt_lit,le_lit,lt_lit2,le_lit2,le_sub1,le_sub2]; rfl
            apply evI_seq
            · simp only [Zs,Zr,Zp,Za,Zb,evI,opsI,stepI,wantI,opI,AAct.evI,look,AAct.put,mkVal,mkVM,intOpA,intA,shiftA,unA,ZP,ZO,Zh,Zt,reduceIte,Nat.reduceEqDiff,Nat.reduceLT,Zo,Zq,true_and,and_true,and_self,ZB,cellsAt,Zg,ZC,Zf,Zk,ZL,ZM,Nat.reduceAdd,Nat.reduceMul,ZN,AV.cells,AV.one,known,Zn,getE_0,getE_k,setE_0,setE_k,Zc,Zd,Zl,Zm,Zi,Zw,Zu,Zj,Z1,Zx,Zy,ZJ,ZI,ZH,ZD,ZE,splice,fillI,Nat.reduceLeDiff,strA,ZK,ZA,Ze,bq_ft,bq_tf,ZG,ZF,ZQ,Zv,Zz,isNilA,nilPtr,nilSl,nilIf,nilFn,nilMap,nilCheckA,if_true,if_false,lt_lit,le_lit,lt_lit2,le_lit2,le_sub1,le_sub2]; rfl
            apply evI_block_exit
            apply evI_loop
            exact h3
          simp only [l7,hw,Zs,Zr,Zp,Za,Zb,evI,opsI,stepI,wantI,opI,AAct.evI,look,AAct.put,mkVal,mkVM,intOpA,intA,shiftA,unA,ZP,ZO,Zh,Zt,reduceIte,Nat.reduceEqDiff,Nat.reduceLT,Zo,Zq,true_and,and_true,and_self,ZB,cellsAt,Zg,ZC,Zf,Zk,ZL,ZM,Nat.reduceAdd,Nat.reduceMul,ZN,AV.cells,AV.one,known,Zn,getE_0,getE_k,setE_0,setE_k,Zc,Zd,Zl,Zm,Zi,Zw,Zu,Zj,Z1,Zx,Zy,ZJ,ZI,ZH,ZD,ZE,splice,fillI,Nat.reduceLeDiff,strA,ZK,ZA,Ze,bq_ft,bq_tf,ZG,ZF,ZQ,Zv,Zz,isNilA,nilPtr,nilSl,nilIf,nilFn,nilMap,nilCheckA,if_true,if_false,lt_lit,le_lit,lt_lit2,le_lit2,le_sub1,le_sub2]; rfl
        case hn =>
          rw [re_same]
          simp only [AAct.keepT,Zv,Zz,look,reduceIte,Nat.reduceEqDiff,l0,l7]
          exact h2
    · have hk' : k = l.length := by omega
      subst hk'
      rw [Nat.sub_self]
      refine ⟨_, _, loopA_exit (by simp only [loopRC,I23,IC.loops,Za,Zb,Int.lt_irrefl,Zs,Zr,Zp,Za,Zb,evI,opsI,stepI,wantI,opI,AAct.evI,look,AAct.put,mkVal,mkVM,intOpA,intA,shiftA,unA,ZP,ZO,Zh,Zt,reduceIte,Nat.reduceEqDiff,Nat.reduceLT,Zo,Zq,true_and,and_true,and_self,ZB,cellsAt,Zg,ZC,Zf,Zk,ZL,ZM,Nat.reduceAdd,Nat.reduceMul,ZN,AV.cells,AV.one,known,Zn,getE_0,getE_k,setE_0,setE_k,Zc,Zd,Zl,Zm,Zi,Zw,Zu,Zj,Z1,Zx,Zy,ZJ,ZI,ZH,ZD,ZE,splice,fillI,Nat.reduceLeDiff,strA,ZK,ZA,Ze,bq_ft,bq_tf,ZG,ZF,ZQ,Zv,Zz,isNilA,nilPtr,nilSl,nilIf,nilFn,nilMap,nilCheckA,if_true,if_false,lt_lit,le_lit,lt_lit2,le_lit2,le_sub1,le_sub2]; rfl), ?_⟩
      exact rfl
theorem rcheck_eq (P : Program) (N d : Nat) (hd : 2 ≤ d) (l : List St) (hN : l.length + 3 < N) (hl : l.length ≤ 4611686018427387904) (hr : ∀ s ∈ l, Rng s) (v : AV) (H : Mem) (hv : SlC H v l) :
    ∃ i e, evFI P cfg T N d 23 [v] H = some (.ret (.tup [.int .i64 i, .int .i64 e]), H) ∧ (e != 0) = !okR l := by
  obtain ⟨n, rfl⟩ : ∃ k, d = k + 2 := ⟨d - 2, by omega⟩
  rcases hv with ⟨rfl, rfl⟩ | ⟨q, st, ty, rfl, hq⟩
  · obtain ⟨M, rfl⟩ : ∃ M, N = M + 1 := ⟨N - 1, by omega⟩
    refine ⟨-1, 0, ?_, rfl⟩
    refine evF_ret (m := 143) (v := .tup [.int .i64 (-1), .int .i64 0]) (a := ?an) (H1 := H) rfl t23 rfl ?hb ?hd ?hr ?hz
    case hb =>
      apply evI_seq
      · simp only [Zf,Zk,idx,I23,Zs,Zr,Zp,Za,Zb,evI,opsI,stepI,wantI,opI,AAct.evI,look,AAct.put,mkVal,mkVM,intOpA,intA,shiftA,unA,ZP,ZO,Zh,Zt,reduceIte,Nat.reduceEqDiff,Nat.reduceLT,Zo,Zq,true_and,and_true,and_self,ZB,cellsAt,Zg,ZC,Zf,Zk,ZL,ZM,Nat.reduceAdd,Nat.reduceMul,ZN,AV.cells,AV.one,known,Zn,getE_0,getE_k,setE_0,setE_k,Zc,Zd,Zl,Zm,Zi,Zw,Zu,Zj,Z1,Zx,Zy,ZJ,ZI,ZH,ZD,ZE,splice,fillI,Nat.reduceLeDiff,strA,ZK,ZA,Ze,bq_ft,bq_tf,ZG,ZF,ZQ,Zv,Zz,isNilA,nilPtr,nilSl,nilIf,nilFn,nilMap,nilCheckA,if_true,if_false,lt_lit,le_lit,lt_lit2,le_lit2,le_sub1,le_sub2]; rfl
      apply evI_seq
      · apply evI_seq
        · simp only [Zs,Zr,Zp,Za,Zb,evI,opsI,stepI,wantI,opI,AAct.evI,look,AAct.put,mkVal,mkVM,intOpA,intA,shiftA,unA,ZP,ZO,Zh,Zt,reduceIte,Nat.reduceEqDiff,Nat.reduceLT,Zo,Zq,true_and,and_true,and_self,ZB,cellsAt,Zg,ZC,Zf,Zk,ZL,ZM,Nat.reduceAdd,Nat.reduceMul,ZN,AV.cells,AV.one,known,Zn,getE_0,getE_k,setE_0,setE_k,Zc,Zd,Zl,Zm,Zi,Zw,Zu,Zj,Z1,Zx,Zy,ZJ,ZI,ZH,ZD,ZE,splice,fillI,Nat.reduceLeDiff,strA,ZK,ZA,Ze,bq_ft,bq_tf,ZG,ZF,ZQ,Zv,Zz,isNilA,nilPtr,nilSl,nilIf,nilFn,nilMap,nilCheckA,if_true,if_false,lt_lit,le_lit,lt_lit2,le_lit2,le_sub1,le_sub2]; rfl
        apply evI_block_exit
        apply evI_loop
        exact loopA_exit (by simp only [AAct.keepT,Int.lt_irrefl,Zs,Zr,Zp,Za,Zb,evI,opsI,stepI,wantI,opI,AAct.evI,look,AAct.put,mkVal,mkVM,intOpA,intA,shiftA,unA,ZP,ZO,Zh,Zt,reduceIte,Nat.reduceEqDiff,Nat.reduceLT,Zo,Zq,true_and,and_true,and_self,ZB,cellsAt,Zg,ZC,Zf,Zk,ZL,ZM,Nat.reduceAdd,Nat.reduceMul,ZN,AV.cells,AV.one,known,Zn,getE_0,getE_k,setE_0,setE_k,Zc,Zd,Zl,Zm,Zi,Zw,Zu,Zj,Z1,Zx,Zy,ZJ,ZI,ZH,ZD,ZE,splice,fillI,Nat.reduceLeDiff,strA,ZK,ZA,Ze,bq_ft,bq_tf,ZG,ZF,ZQ,Zv,Zz,isNilA,nilPtr,nilSl,nilIf,nilFn,nilMap,nilCheckA,if_true,if_false,lt_lit,le_lit,lt_lit2,le_lit2,le_sub1,le_sub2]; rfl)
      apply evI_seq
      · apply evI_seq
        · simp only [Zs,Zr,Zp,Za,Zb,evI,opsI,stepI,wantI,opI,AAct.evI,look,AAct.put,mkVal,mkVM,intOpA,intA,shiftA,unA,ZP,ZO,Zh,Zt,reduceIte,Nat.reduceEqDiff,Nat.reduceLT,Zo,Zq,true_and,and_true,and_self,ZB,cellsAt,Zg,ZC,Zf,Zk,ZL,ZM,Nat.reduceAdd,Nat.reduceMul,ZN,AV.cells,AV.one,known,Zn,getE_0,getE_k,setE_0,setE_k,Zc,Zd,Zl,Zm,Zi,Zw,Zu,Zj,Z1,Zx,Zy,ZJ,ZI,ZH,ZD,ZE,splice,fillI,Nat.reduceLeDiff,strA,ZK,ZA,Ze,bq_ft,bq_tf,ZG,ZF,ZQ,Zv,Zz,isNilA,nilPtr,nilSl,nilIf,nilFn,nilMap,nilCheckA,if_true,if_false,lt_lit,le_lit,lt_lit2,le_lit2,le_sub1,le_sub2]; rfl
        apply evI_block_exit
        apply evI_loop
        exact loopA_exit (by simp only [AAct.keepT,Int.lt_irrefl,Zs,Zr,Zp,Za,Zb,evI,opsI,stepI,wantI,opI,AAct.evI,look,AAct.put,mkVal,mkVM,intOpA,intA,shiftA,unA,ZP,ZO,Zh,Zt,reduceIte,Nat.reduceEqDiff,Nat.reduceLT,Zo,Zq,true_and,and_true,and_self,ZB,cellsAt,Zg,ZC,Zf,Zk,ZL,ZM,Nat.reduceAdd,Nat.reduceMul,ZN,AV.cells,AV.one,known,Zn,getE_0,getE_k,setE_0,setE_k,Zc,Zd,Zl,Zm,Zi,Zw,Zu,Zj,Z1,Zx,Zy,ZJ,ZI,ZH,ZD,ZE,splice,fillI,Nat.reduceLeDiff,strA,ZK,ZA,Ze,bq_ft,bq_tf,ZG,ZF,ZQ,Zv,Zz,isNilA,nilPtr,nilSl,nilIf,nilFn,nilMap,nilCheckA,if_true,if_false,lt_lit,le_lit,lt_lit2,le_lit2,le_sub1,le_sub2]; rfl)
      apply evI_seq
      · apply evI_seq
        · simp only [Zs,Zr,Zp,Za,Zb,evI,opsI,stepI,wantI,opI,AAct.evI,look,AAct.put,mkVal,mkVM,intOpA,intA,shiftA,unA,ZP,ZO,Zh,Zt,reduceIte,Nat.reduceEqDiff,Nat.reduceLT,Zo,Zq,true_and,and_true,and_self,ZB,cellsAt,Zg,ZC,Zf,Zk,ZL,ZM,Nat.reduceAdd,Nat.reduceMul,ZN,AV.cells,AV.one,known,Zn,getE_0,getE_k,setE_0,setE_k,Zc,Zd,Zl,Zm,Zi,Zw,Zu,Zj,Z1,Zx,Zy,ZJ,ZI,ZH,ZD,ZE,splice,fillI,Nat.reduceLeDiff,strA,ZK,ZA,Ze,bq_ft,bq_tf,ZG,ZF,ZQ,Zv,Zz,isNilA,nilPtr,nilSl,nilIf,nilFn,nilMap,nilCheckA,if_true,if_false,lt_lit,le_lit,lt_lit2,le_lit2,le_sub1,le_sub2]; rfl
        apply evI_block_exit
        apply evI_loop
        exact loopA_exit (by simp only [AAct.keepT,Int.lt_irrefl,Zs,Zr,Zp,Za,Zb,evI,opsI,stepI,wantI,opI,AAct.evI,look,AAct.put,mkVal,mkVM,intOpA,intA,shiftA,unA,ZP,ZO,Zh,Zt,reduceIte,Nat.reduceEqDiff,Nat.reduceLT,Zo,Zq,true_and,and_true,and_self,ZB,cellsAt,Zg,ZC,Zf,Zk,ZL,ZM,Nat.reduceAdd,Nat.reduceMul,ZN,AV.cells,AV.one,known,Zn,getE_0,getE_k,setE_0,setE_k,Zc,Zd,Zl,Zm,Zi,Zw,Zu,Zj,Z1,Zx,Zy,ZJ,ZI,ZH,ZD,ZE,splice,fillI,Nat.reduceLeDiff,strA,ZK,ZA,Ze,bq_ft,bq_tf,ZG,ZF,ZQ,Zv,Zz,isNilA,nilPtr,nilSl,nilIf,nilFn,nilMap,nilCheckA,if_true,if_false,lt_lit,le_lit,lt_lit2,le_lit2,le_sub1,le_sub2]; rfl)
      simp only [Zs,Zr,Zp,Za,Zb,evI,opsI,stepI,wantI,opI,AAct.evI,look,AAct.put,mkVal,mkVM,intOpA,intA,shiftA,unA,ZP,ZO,Zh,Zt,reduceIte,Nat.reduceEqDiff,Nat.reduceLT,Zo,Zq,true_and,and_true,and_self,ZB,cellsAt,Zg,ZC,Zf,Zk,ZL,ZM,Nat.reduceAdd,Nat.reduceMul,ZN,AV.cells,AV.one,known,Zn,getE_0,getE_k,setE_0,setE_k,Zc,Zd,Zl,Zm,Zi,Zw,Zu,Zj,Z1,Zx,Zy,ZJ,ZI,ZH,ZD,ZE,splice,fillI,Nat.reduceLeDiff,strA,ZK,ZA,Ze,bq_ft,bq_tf,ZG,ZF,ZQ,Zv,Zz,isNilA,nilPtr,nilSl,nilIf,nilFn,nilMap,nilCheckA,if_true,if_false,lt_lit,le_lit,lt_lit2,le_lit2,le_sub1,le_sub2]; rfl
    case hd => rfl
    case hr => rfl
    case hz => exact fin_len rfl rfl
  have hS : Starts H H := List.take_length
  obtain ⟨⟨o0, ⟨n0, t0, d0⟩, M0⟩, hr0, hs0, e1, e2, hc0⟩ := rchk0_loop P N n l (by omega) hl hr H q st ty hq N 0 H (Nat.zero_le _) (by omega) hS
  rw [List.take_zero, List.drop_zero] at hc0
  simp only at e1 e2
  subst e1 e2
  unfold okR
  cases k0 : chkA [] l
  · rw [k0] at hc0
    simp only [Ze,if_false] at hc0
    obtain ⟨rfl, i, e, h2, h3, hne⟩ := hc0
    refine ⟨i, e, ?_, by rw [Bool.false_and, Bool.not_false]; exact bne_iff_ne.2 hne⟩
    refine evF_ret (m := 143) (v := .tup [.int .i64 i, .int .i64 e]) (a := ?aa) (H1 := ?Ha) rfl t23 rfl ?hb ?hd ?hr ?hz
    case hb =>
      apply evI_seq
      · simp only [Zf,Zk,idx,I23,Zs,Zr,Zp,Za,Zb,evI,opsI,stepI,wantI,opI,AAct.evI,look,AAct.put,mkVal,mkVM,intOpA,intA,shiftA,unA,ZP,ZO,Zh,Zt,reduceIte,Nat.reduceEqDiff,Nat.reduceLT,Zo,Zq,true_and,and_true,and_self,ZB,cellsAt,Zg,ZC,Zf,Zk,ZL,ZM,Nat.reduceAdd,Nat.reduceMul,ZN,AV.cells,AV.one,known,Zn,getE_0,getE_k,setE_0,setE_k,Zc,Zd,Zl,Zm,Zi,Zw,Zu,Zj,Z1,Zx,Zy,ZJ,ZI,ZH,ZD,ZE,splice,fillI,Nat.reduceLeDiff,strA,ZK,ZA,Ze,bq_ft,bq_tf,ZG,ZF,ZQ,Zv,Zz,isNilA,nilPtr,nilSl,nilIf,nilFn,nilMap,nilCheckA,if_true,if_false,lt_lit,le_lit,lt_lit2,le_lit2,le_sub1,le_sub2]; rfl
      apply evI_seq_ret
      apply evI_seq
      · simp only [Zs,Zr,Zp,Za,Zb,evI,opsI,stepI,wantI,opI,AAct.evI,look,AAct.put,mkVal,mkVM,intOpA,intA,shiftA,unA,ZP,ZO,Zh,Zt,reduceIte,Nat.reduceEqDiff,Nat.reduceLT,Zo,Zq,true_and,and_true,and_self,ZB,cellsAt,Zg,ZC,Zf,Zk,ZL,ZM,Nat.reduceAdd,Nat.reduceMul,ZN,AV.cells,AV.one,known,Zn,getE_0,getE_k,setE_0,setE_k,Zc,Zd,Zl,Zm,Zi,Zw,Zu,Zj,Z1,Zx,Zy,ZJ,ZI,ZH,ZD,ZE,splice,fillI,Nat.reduceLeDiff,strA,ZK,ZA,Ze,bq_ft,bq_tf,ZG,ZF,ZQ,Zv,Zz,isNilA,nilPtr,nilSl,nilIf,nilFn,nilMap,nilCheckA,if_true,if_false,lt_lit,le_lit,lt_lit2,le_lit2,le_sub1,le_sub2]; rfl
      apply evI_block_ret
      apply evI_loop
      exact hr0
    case hd => rfl
    case hr => simp only [I23,resI,resLI,h2,h3]; rfl
    case hz => exact fin_ok hs0 rfl rfl
  rw [k0] at hc0
  simp only [if_true] at hc0
  obtain ⟨rfl, l0⟩ := hc0
  have hql : q < H.length := (List.getElem?_eq_some_iff.1 hq).1
  have hqM : M0[q]? = some (.row (stsC l) st ty) := by rw [hs0.get hql]; exact hq
  obtain ⟨⟨o1, ⟨n1, t1, d1⟩, M1⟩, hr1, ⟨hs1, e1, e2, hc1⟩, hm1⟩ := rchk1_loop P N n l (by omega) hl M0 q st ty hqM N 0 (Nat.zero_le _) (by omega)
  rw [List.drop_zero] at hc1
  simp only at e1 e2 hm1
  subst e1 e2 hm1
  rw [Bool.true_and, show chkB l = l.all (fun s => s.based == [] || (ixF s.based l 0).isSome) from rfl]
  cases k1 : l.all (fun s => s.based == [] || (ixF s.based l 0).isSome)
  · rw [k1] at hc1
    simp only [Ze,if_false] at hc1
    obtain ⟨rfl, i, e, h2, h3, hne⟩ := hc1
    refine ⟨i, e, ?_, by rw [Bool.false_and, Bool.not_false]; exact bne_iff_ne.2 hne⟩
    refine evF_ret (m := 143) (v := .tup [.int .i64 i, .int .i64 e]) (a := ?ab) (H1 := ?Hb) rfl t23 rfl ?hb ?hd ?hr ?hz
    case hb =>
      apply evI_seq
      · simp only [Zf,Zk,idx,I23,Zs,Zr,Zp,Za,Zb,evI,opsI,stepI,wantI,opI,AAct.evI,look,AAct.put,mkVal,mkVM,intOpA,intA,shiftA,unA,ZP,ZO,Zh,Zt,reduceIte,Nat.reduceEqDiff,Nat.reduceLT,Zo,Zq,true_and,and_true,and_self,ZB,cellsAt,Zg,ZC,Zf,Zk,ZL,ZM,Nat.reduceAdd,Nat.reduceMul,ZN,AV.cells,AV.one,known,Zn,getE_0,getE_k,setE_0,setE_k,Zc,Zd,Zl,Zm,Zi,Zw,Zu,Zj,Z1,Zx,Zy,ZJ,ZI,ZH,ZD,ZE,splice,fillI,Nat.reduceLeDiff,strA,ZK,ZA,Ze,bq_ft,bq_tf,ZG,ZF,ZQ,Zv,Zz,isNilA,nilPtr,nilSl,nilIf,nilFn,nilMap,nilCheckA,if_true,if_false,lt_lit,le_lit,lt_lit2,le_lit2,le_sub1,le_sub2]; rfl
      apply evI_seq
      · apply evI_seq
        · simp only [Zs,Zr,Zp,Za,Zb,evI,opsI,stepI,wantI,opI,AAct.evI,look,AAct.put,mkVal,mkVM,intOpA,intA,shiftA,unA,ZP,ZO,Zh,Zt,reduceIte,Nat.reduceEqDiff,Nat.reduceLT,Zo,Zq,true_and,and_true,and_self,ZB,cellsAt,Zg,ZC,Zf,Zk,ZL,ZM,Nat.reduceAdd,Nat.reduceMul,ZN,AV.cells,AV.one,known,Zn,getE_0,getE_k,setE_0,setE_k,Zc,Zd,Zl,Zm,Zi,Zw,Zu,Zj,Z1,Zx,Zy,ZJ,ZI,ZH,ZD,ZE,splice,fillI,Nat.reduceLeDiff,strA,ZK,ZA,Ze,bq_ft,bq_tf,ZG,ZF,ZQ,Zv,Zz,isNilA,nilPtr,nilSl,nilIf,nilFn,nilMap,nilCheckA,if_true,if_false,lt_lit,le_lit,lt_lit2,le_lit2,le_sub1,le_sub2]; rfl
        apply evI_block_exit
        apply evI_loop
        exact hr0
      apply evI_seq_ret
      apply evI_seq
      · simp only [Zs,Zr,Zp,Za,Zb,evI,opsI,stepI,wantI,opI,AAct.evI,look,AAct.put,mkVal,mkVM,intOpA,intA,shiftA,unA,ZP,ZO,Zh,Zt,reduceIte,Nat.reduceEqDiff,Nat.reduceLT,Zo,Zq,true_and,and_true,and_self,ZB,cellsAt,Zg,ZC,Zf,Zk,ZL,ZM,Nat.reduceAdd,Nat.reduceMul,ZN,AV.cells,AV.one,known,Zn,getE_0,getE_k,setE_0,setE_k,Zc,Zd,Zl,Zm,Zi,Zw,Zu,Zj,Z1,Zx,Zy,ZJ,ZI,ZH,ZD,ZE,splice,fillI,Nat.reduceLeDiff,strA,ZK,ZA,Ze,bq_ft,bq_tf,ZG,ZF,ZQ,Zv,Zz,isNilA,nilPtr,nilSl,nilIf,nilFn,nilMap,nilCheckA,if_true,if_false,lt_lit,le_lit,lt_lit2,le_lit2,le_sub1,le_sub2]; rfl
      apply evI_block_ret
      apply evI_loop
      simp only [AAct.keepT,Zv,Zz,look,reduceIte,Nat.reduceEqDiff,l0]
      exact hr1
    case hd => rfl
    case hr => simp only [I23,resI,resLI,h2,h3]; rfl
    case hz => exact fin_ok hs0 rfl rfl
  rw [k1] at hc1
  simp only [if_true] at hc1
  obtain ⟨rfl, m0⟩ := hc1
  have hB : ∀ k, k < l.length → ((l.getD k default).based == []) = false → (ixF (l.getD k default).based l 0).isSome = true := fun k hk h => by
    have hm : l.getD k default ∈ l := by
      rw [List.getD_eq_getElem?_getD, List.getElem?_eq_getElem hk]
      exact List.getElem_mem hk
    have := List.all_eq_true.1 k1 _ hm
    rw [h, Bool.false_or] at this
    exact this
  obtain ⟨o2, t2, hr2, hc2⟩ := rchk2_loop P N n l hN hl hB M1 q st ty hqM N 0 (Nat.zero_le _) (by omega)
  rw [Nat.sub_zero, ← List.range_eq_range'] at hc2
  rw [Bool.true_and, show chkR l = (List.range l.length).all (fun i => wkR l i (l.length + 2) i) from rfl]
  cases k2 : (List.range l.length).all (fun i => wkR l i (l.length + 2) i)
  · rw [k2] at hc2
    simp only [Ze,if_false] at hc2
    obtain ⟨rfl, i, h2, h3⟩ := hc2
    refine ⟨i, 16, ?_, rfl⟩
    refine evF_ret (m := 143) (v := .tup [.int .i64 i, .int .i64 16]) (a := ?ac) (H1 := ?Hc) rfl t23 rfl ?hb ?hd ?hr ?hz
    case hb =>
      apply evI_seq
      · simp only [Zf,Zk,idx,I23,Zs,Zr,Zp,Za,Zb,evI,opsI,stepI,wantI,opI,AAct.evI,look,AAct.put,mkVal,mkVM,intOpA,intA,shiftA,unA,ZP,ZO,Zh,Zt,reduceIte,Nat.reduceEqDiff,Nat.reduceLT,Zo,Zq,true_and,and_true,and_self,ZB,cellsAt,Zg,ZC,Zf,Zk,ZL,ZM,Nat.reduceAdd,Nat.reduceMul,ZN,AV.cells,AV.one,known,Zn,getE_0,getE_k,setE_0,setE_k,Zc,Zd,Zl,Zm,Zi,Zw,Zu,Zj,Z1,Zx,Zy,ZJ,ZI,ZH,ZD,ZE,splice,fillI,Nat.reduceLeDiff,strA,ZK,ZA,Ze,bq_ft,bq_tf,ZG,ZF,ZQ,Zv,Zz,isNilA,nilPtr,nilSl,nilIf,nilFn,nilMap,nilCheckA,if_true,if_false,lt_lit,le_lit,lt_lit2,le_lit2,le_sub1,le_sub2]; rfl
      apply evI_seq
      · apply evI_seq
        · simp only [Zs,Zr,Zp,Za,Zb,evI,opsI,stepI,wantI,opI,AAct.evI,look,AAct.put,mkVal,mkVM,intOpA,intA,shiftA,unA,ZP,ZO,Zh,Zt,reduceIte,Nat.reduceEqDiff,Nat.reduceLT,Zo,Zq,true_and,and_true,and_self,ZB,cellsAt,Zg,ZC,Zf,Zk,ZL,ZM,Nat.reduceAdd,Nat.reduceMul,ZN,AV.cells,AV.one,known,Zn,getE_0,getE_k,setE_0,setE_k,Zc,Zd,Zl,Zm,Zi,Zw,Zu,Zj,Z1,Zx,Zy,ZJ,ZI,ZH,ZD,ZE,splice,fillI,Nat.reduceLeDiff,strA,ZK,ZA,Ze,bq_ft,bq_tf,ZG,ZF,ZQ,Zv,Zz,isNilA,nilPtr,nilSl,nilIf,nilFn,nilMap,nilCheckA,if_true,if_false,lt_lit,le_lit,lt_lit2,le_lit2,le_sub1,le_sub2]; rfl
        apply evI_block_exit
        apply evI_loop
        exact hr0
      apply evI_seq
      · apply evI_seq
        · simp only [Zs,Zr,Zp,Za,Zb,evI,opsI,stepI,wantI,opI,AAct.evI,look,AAct.put,mkVal,mkVM,intOpA,intA,shiftA,unA,ZP,ZO,Zh,Zt,reduceIte,Nat.reduceEqDiff,Nat.reduceLT,Zo,Zq,true_and,and_true,and_self,ZB,cellsAt,Zg,ZC,Zf,Zk,ZL,ZM,Nat.reduceAdd,Nat.reduceMul,ZN,AV.cells,AV.one,known,Zn,getE_0,getE_k,setE_0,setE_k,Zc,Zd,Zl,Zm,Zi,Zw,Zu,Zj,Z1,Zx,Zy,ZJ,ZI,ZH,ZD,ZE,splice,fillI,Nat.reduceLeDiff,strA,ZK,ZA,Ze,bq_ft,bq_tf,ZG,ZF,ZQ,Zv,Zz,isNilA,nilPtr,nilSl,nilIf,nilFn,nilMap,nilCheckA,if_true,if_false,lt_lit,le_lit,lt_lit2,le_lit2,le_sub1,le_sub2]; rfl
        apply evI_block_exit
        apply evI_loop
        simp only [AAct.keepT,Zv,Zz,look,reduceIte,Nat.reduceEqDiff,l0]
        exact hr1
      apply evI_seq_ret
      apply evI_seq
      · simp only [Zs,Zr,Zp,Za,Zb,evI,opsI,stepI,wantI,opI,AAct.evI,look,AAct.put,mkVal,mkVM,intOpA,intA,shiftA,unA,ZP,ZO,Zh,Zt,reduceIte,Nat.reduceEqDiff,Nat.reduceLT,Zo,Zq,true_and,and_true,and_self,ZB,cellsAt,Zg,ZC,Zf,Zk,ZL,ZM,Nat.reduceAdd,Nat.reduceMul,ZN,AV.cells,AV.one,known,Zn,getE_0,getE_k,setE_0,setE_k,Zc,Zd,Zl,Zm,Zi,Zw,Zu,Zj,Z1,Zx,Zy,ZJ,ZI,ZH,ZD,ZE,splice,fillI,Nat.reduceLeDiff,strA,ZK,ZA,Ze,bq_ft,bq_tf,ZG,ZF,ZQ,Zv,Zz,isNilA,nilPtr,nilSl,nilIf,nilFn,nilMap,nilCheckA,if_true,if_false,lt_lit,le_lit,lt_lit2,le_lit2,le_sub1,le_sub2]; rfl
      apply evI_block_ret
      apply evI_loop
      simp only [AAct.keepT,Zv,Zz,look,reduceIte,Nat.reduceEqDiff,m0]
      exact hr2
    case hd => rfl
    case hr => simp only [I23,resI,resLI,h2,h3]; rfl
    case hz => exact fin_ok hs0 rfl rfl
  rw [k2] at hc2
  simp only [if_true] at hc2
  subst hc2
  refine ⟨-1, 0, ?_, rfl⟩
  refine evF_ret (m := 143) (v := .tup [.int .i64 (-1), .int .i64 0]) (a := ?ad) (H1 := ?Hd) rfl t23 rfl ?hb ?hd ?hr ?hz
  case hb =>
    apply evI_seq
    · simp only [Zf,Zk,idx,I23,Zs,Zr,Zp,Za,Zb,evI,opsI,stepI,wantI,opI,AAct.evI,look,AAct.put,mkVal,mkVM,intOpA,intA,shiftA,unA,ZP,ZO,Zh,Zt,reduceIte,Nat.reduceEqDiff,Nat.reduceLT,Zo,Zq,true_and,and_true,and_self,ZB,cellsAt,Zg,ZC,Zf,Zk,ZL,ZM,Nat.reduceAdd,Nat.reduceMul,ZN,AV.cells,AV.one,known,Zn,getE_0,getE_k,setE_0,setE_k,Zc,Zd,Zl,Zm,Zi,Zw,Zu,Zj,Z1,Zx,Zy,ZJ,ZI,ZH,ZD,ZE,splice,fillI,Nat.reduceLeDiff,strA,ZK,ZA,Ze,bq_ft,bq_tf,ZG,ZF,ZQ,Zv,Zz,isNilA,nilPtr,nilSl,nilIf,nilFn,nilMap,nilCheckA,if_true,if_false,lt_lit,le_lit,lt_lit2,le_lit2,le_sub1,le_sub2]; rfl
    apply evI_seq
    · apply evI_seq
      · simp only [Zs,Zr,Zp,Za,Zb,evI,opsI,stepI,wantI,opI,AAct.evI,look,AAct.put,mkVal,mkVM,intOpA,intA,shiftA,unA,ZP,ZO,Zh,Zt,reduceIte,Nat.reduceEqDiff,Nat.reduceLT,Zo,Zq,true_and,and_true,and_self,ZB,cellsAt,Zg,ZC,Zf,Zk,ZL,ZM,Nat.reduceAdd,Nat.reduceMul,ZN,AV.cells,AV.one,known,Zn,getE_0,getE_k,setE_0,setE_k,Zc,Zd,Zl,Zm,Zi,Zw,Zu,Zj,Z1,Zx,Zy,ZJ,ZI,ZH,ZD,ZE,splice,fillI,Nat.reduceLeDiff,strA,ZK,ZA,Ze,bq_ft,bq_tf,ZG,ZF,ZQ,Zv,Zz,isNilA,nilPtr,nilSl,nilIf,nilFn,nilMap,nilCheckA,if_true,if_false,lt_lit,le_lit,lt_lit2,le_lit2,le_sub1,le_sub2]; rfl
      apply evI_block_exit
      apply evI_loop
      exact hr0
    apply evI_seq
    · apply evI_seq
      · simp only [Zs,Zr,Zp,Za,Zb,evI,opsI,stepI,wantI,opI,AAct.evI,look,AAct.put,mkVal,mkVM,intOpA,intA,shiftA,unA,ZP,ZO,Zh,Zt,reduceIte,Nat.reduceEqDiff,Nat.reduceLT,Zo,Zq,true_and,and_true,and_self,ZB,cellsAt,Zg,ZC,Zf,Zk,ZL,ZM,Nat.reduceAdd,Nat.reduceMul,ZN,AV.cells,AV.one,known,Zn,getE_0,getE_k,setE_0,setE_k,Zc,Zd,Zl,Zm,Zi,Zw,Zu,Zj,Z1,Zx,Zy,ZJ,ZI,ZH,ZD,ZE,splice,fillI,Nat.reduceLeDiff,strA,ZK,ZA,Ze,bq_ft,bq_tf,ZG,ZF,ZQ,Zv,Zz,isNilA,nilPtr,nilSl,nilIf,nilFn,nilMap,nilCheckA,if_true,if_false,lt_lit,le_lit,lt_lit2,le_lit2,le_sub1,le_sub2]; rfl
      apply evI_block_exit
      apply evI_loop
      simp only [AAct.keepT,Zv,Zz,look,reduceIte,Nat.reduceEqDiff,l0]
      exact hr1
    apply evI_seq
    · apply evI_seq
      · simp only [Zs,Zr,Zp,Za,Zb,evI,opsI,stepI,wantI,opI,AAct.evI,look,AAct.put,mkVal,mkVM,intOpA,intA,shiftA,unA,ZP,ZO,Zh,Zt,reduceIte,Nat.reduceEqDiff,Nat.reduceLT,Zo,Zq,true_and,and_true,and_self,ZB,cellsAt,Zg,ZC,Zf,Zk,ZL,ZM,Nat.reduceAdd,Nat.reduceMul,ZN,AV.cells,AV.one,known,Zn,getE_0,getE_k,setE_0,setE_k,Zc,Zd,Zl,Zm,Zi,Zw,Zu,Zj,Z1,Zx,Zy,ZJ,ZI,ZH,ZD,ZE,splice,fillI,Nat.reduceLeDiff,strA,ZK,ZA,Ze,bq_ft,bq_tf,ZG,ZF,ZQ,Zv,Zz,isNilA,nilPtr,nilSl,nilIf,nilFn,nilMap,nilCheckA,if_true,if_false,lt_lit,le_lit,lt_lit2,le_lit2,le_sub1,le_sub2]; rfl
      apply evI_block_exit
      apply evI_loop
      simp only [AAct.keepT,Zv,Zz,look,reduceIte,Nat.reduceEqDiff,m0]
      exact hr2
    simp only [Zs,Zr,Zp,Za,Zb,evI,opsI,stepI,wantI,opI,AAct.evI,look,AAct.put,mkVal,mkVM,intOpA,intA,shiftA,unA,ZP,ZO,Zh,Zt,reduceIte,Nat.reduceEqDiff,Nat.reduceLT,Zo,Zq,true_and,and_true,and_self,ZB,cellsAt,Zg,ZC,Zf,Zk,ZL,ZM,Nat.reduceAdd,Nat.reduceMul,ZN,AV.cells,AV.one,known,Zn,getE_0,getE_k,setE_0,setE_k,Zc,Zd,Zl,Zm,Zi,Zw,Zu,Zj,Z1,Zx,Zy,ZJ,ZI,ZH,ZD,ZE,splice,fillI,Nat.reduceLeDiff,strA,ZK,ZA,Ze,bq_ft,bq_tf,ZG,ZF,ZQ,Zv,Zz,isNilA,nilPtr,nilSl,nilIf,nilFn,nilMap,nilCheckA,if_true,if_false,lt_lit,le_lit,lt_lit2,le_lit2,le_sub1,le_sub2]; rfl
  case hd => rfl
  case hr => rfl
  case hz => exact fin_ok hs0 rfl rfl
def offV (v : List UInt8) : Bool := v == [48] || (v == [102, 97, 108, 115, 101] || v == [111, 102, 102])
def togOf (e : El) (nm : List UInt8) : Int := match findIn wNs nm e.kids with
  | none => 0
  | some x => if offV (attrOf x valS) = true then 2 else 1
theorem tog_rng (e : El) (nm : List UInt8) : 0 ≤ togOf e nm ∧ togOf e nm ≤ 2 := by
  unfold togOf
  split
  · decide
  · split <;> decide
theorem toggle_eq (P : Program) (N n : Nat) (hN : 9223372036854775808 ≤ N) (nm : List UInt8) (e : El) (he : Fits e) (H : Mem) :
    evFI P cfg T N (n + 3) 16 [.agg (eC e), .str nm] H = some (.ret (.int .i64 (togOf e nm)), H) := by
  have hg := fun H => find_eq P N (n + 1) hN wNs nm e he.len H
  have ha := fun H => attr_eq P N n hN valS ((findIn wNs nm e.kids).getD zEl) (he.found _ _) H
  unfold togOf
  cases hf : findIn wNs nm e.kids with
  | none =>
    rw [hf] at hg
    simp only [Option.getD_none,Option.isSome_none,wNs] at hg
    refine evF_ret (m := 21) (v := .int .i64 0) (a := ?a) (H1 := ?H1) rfl t16 rfl ?hb ?hd ?hr ?hz
    case hb => simp only [Zf,Zk,idx,I16,hg,eC_len,eC_take,eC_one,eC_0,eC_1,eC_2,eC_3,eC_4,eCr,eCr_0,eCr_1,eCr_2,eCr_3,eCr_4,List.length_drop,Nat.reduceSub,ZR,atr,Zs,Zr,Zp,Za,Zb,evI,opsI,stepI,wantI,opI,AAct.evI,look,AAct.put,mkVal,mkVM,intOpA,intA,shiftA,unA,ZP,ZO,Zh,Zt,reduceIte,Nat.reduceEqDiff,Nat.reduceLT,Zo,Zq,true_and,and_true,and_self,ZB,cellsAt,Zg,ZC,Zf,Zk,ZL,ZM,Nat.reduceAdd,Nat.reduceMul,ZN,AV.cells,AV.one,known,Zn,getE_0,getE_k,setE_0,setE_k,Zc,Zd,Zl,Zm,Zi,Zw,Zu,Zj,Z1,Zx,Zy,ZJ,ZI,ZH,ZD,ZE,splice,fillI,Nat.reduceLeDiff,strA,ZK,ZA,Ze,bq_ft,bq_tf,ZG,ZF,ZQ,Zv,Zz,isNilA,nilPtr,nilSl,nilIf,nilFn,nilMap,nilCheckA,if_true,if_false,lt_lit,le_lit,lt_lit2,le_lit2,le_sub1,le_sub2]; rfl
    case hd => rfl
    case hr => rfl
    case hz => exact fin_app (v := .int .i64 _) rfl rfl
  | some x =>
    rw [hf] at hg ha
    simp only [Option.getD_some,Option.isSome_some] at hg ha
    show _ = some (End.ret (.int .i64 (if offV (attrOf x valS) = true then 2 else 1)), H)
    generalize attrOf x valS = v at *
    unfold offV
    simp only [valS,wNs] at ha hg
    cases h1 : (v == [48])
    · cases h2 : (v == [102, 97, 108, 115, 101])
      · cases h3 : (v == [111, 102, 102])
        · refine evF_ret (m := 21) (v := .int .i64 1) (a := ?a2) (H1 := ?H2) rfl t16 rfl ?hb ?hd ?hr ?hz
          case hb => simp only [Zf,Zk,idx,I16,hg,ha,h1,h2,h3,eC_len,eC_take,eC_one,eC_0,eC_1,eC_2,eC_3,eC_4,eCr,eCr_0,eCr_1,eCr_2,eCr_3,eCr_4,List.length_drop,Nat.reduceSub,ZR,atr,Zs,Zr,Zp,Za,Zb,evI,opsI,stepI,wantI,opI,AAct.evI,look,AAct.put,mkVal,mkVM,intOpA,intA,shiftA,unA,ZP,ZO,Zh,Zt,reduceIte,Nat.reduceEqDiff,Nat.reduceLT,Zo,Zq,true_and,and_true,and_self,ZB,cellsAt,Zg,ZC,Zf,Zk,ZL,ZM,Nat.reduceAdd,Nat.reduceMul,ZN,AV.cells,AV.one,known,Zn,getE_0,getE_k,setE_0,setE_k,Zc,Zd,Zl,Zm,Zi,Zw,Zu,Zj,Z1,Zx,Zy,ZJ,ZI,ZH,ZD,ZE,splice,fillI,Nat.reduceLeDiff,strA,ZK,ZA,Ze,bq_ft,bq_tf,ZG,ZF,ZQ,Zv,Zz,isNilA,nilPtr,nilSl,nilIf,nilFn,nilMap,nilCheckA,if_true,if_false,lt_lit,le_lit,lt_lit2,le_lit2,le_sub1,le_sub2]; rfl
          case hd => rfl
          case hr => rfl
          case hz => exact fin_app (v := .int .i64 _) rfl rfl
        · refine evF_ret (m := 21) (v := .int .i64 2) (a := ?a3) (H1 := ?H3) rfl t16 rfl ?hb ?hd ?hr ?hz
          case hb => simp only [Zf,Zk,idx,I16,hg,ha,h1,h2,h3,eC_len,eC_take,eC_one,eC_0,eC_1,eC_2,eC_3,eC_4,eCr,eCr_0,eCr_1,eCr_2,eCr_3,eCr_4,List.length_drop,Nat.reduceSub,ZR,atr,Zs,Zr,Zp,Za,Zb,evI,opsI,stepI,wantI,opI,AAct.evI,look,AAct.put,mkVal,mkVM,intOpA,intA,shiftA,unA,ZP,ZO,Zh,Zt,reduceIte,Nat.reduceEqDiff,Nat.reduceLT,Zo,Zq,true_and,and_true,and_self,ZB,cellsAt,Zg,ZC,Zf,Zk,ZL,ZM,Nat.reduceAdd,Nat.reduceMul,ZN,AV.cells,AV.one,known,Zn,getE_0,getE_k,setE_0,setE_k,Zc,Zd,Zl,Zm,Zi,Zw,Zu,Zj,Z1,Zx,Zy,ZJ,ZI,ZH,ZD,ZE,splice,fillI,Nat.reduceLeDiff,strA,ZK,ZA,Ze,bq_ft,bq_tf,ZG,ZF,ZQ,Zv,Zz,isNilA,nilPtr,nilSl,nilIf,nilFn,nilMap,nilCheckA,if_true,if_false,lt_lit,le_lit,lt_lit2,le_lit2,le_sub1,le_sub2]; rfl
          case hd => rfl
          case hr => rfl
          case hz => exact fin_app (v := .int .i64 _) rfl rfl
      · refine evF_ret (m := 21) (v := .int .i64 2) (a := ?a4) (H1 := ?H4) rfl t16 rfl ?hb ?hd ?hr ?hz
        case hb => simp only [Zf,Zk,idx,I16,hg,ha,h1,h2,eC_len,eC_take,eC_one,eC_0,eC_1,eC_2,eC_3,eC_4,eCr,eCr_0,eCr_1,eCr_2,eCr_3,eCr_4,List.length_drop,Nat.reduceSub,ZR,atr,Zs,Zr,Zp,Za,Zb,evI,opsI,stepI,wantI,opI,AAct.evI,look,AAct.put,mkVal,mkVM,intOpA,intA,shiftA,unA,ZP,ZO,Zh,Zt,reduceIte,Nat.reduceEqDiff,Nat.reduceLT,Zo,Zq,true_and,and_true,and_self,ZB,cellsAt,Zg,ZC,Zf,Zk,ZL,ZM,Nat.reduceAdd,Nat.reduceMul,ZN,AV.cells,AV.one,known,Zn,getE_0,getE_k,setE_0,setE_k,Zc,Zd,Zl,Zm,Zi,Zw,Zu,Zj,Z1,Zx,Zy,ZJ,ZI,ZH,ZD,ZE,splice,fillI,Nat.reduceLeDiff,strA,ZK,ZA,Ze,bq_ft,bq_tf,ZG,ZF,ZQ,Zv,Zz,isNilA,nilPtr,nilSl,nilIf,nilFn,nilMap,nilCheckA,if_true,if_false,lt_lit,le_lit,lt_lit2,le_lit2,le_sub1,le_sub2]; rfl
        case hd => rfl
        case hr => rfl
        case hz => exact fin_app (v := .int .i64 _) rfl rfl
    · refine evF_ret (m := 21) (v := .int .i64 2) (a := ?a5) (H1 := ?H5) rfl t16 rfl ?hb ?hd ?hr ?hz
      case hb => simp only [Zf,Zk,idx,I16,hg,ha,h1,eC_len,eC_take,eC_one,eC_0,eC_1,eC_2,eC_3,eC_4,eCr,eCr_0,eCr_1,eCr_2,eCr_3,eCr_4,List.length_drop,Nat.reduceSub,ZR,atr,Zs,Zr,Zp,Za,Zb,evI,opsI,stepI,wantI,opI,AAct.evI,look,AAct.put,mkVal,mkVM,intOpA,intA,shiftA,unA,ZP,ZO,Zh,Zt,reduceIte,Nat.reduceEqDiff,Nat.reduceLT,Zo,Zq,true_and,and_true,and_self,ZB,cellsAt,Zg,ZC,Zf,Zk,ZL,ZM,Nat.reduceAdd,Nat.reduceMul,ZN,AV.cells,AV.one,known,Zn,getE_0,getE_k,setE_0,setE_k,Zc,Zd,Zl,Zm,Zi,Zw,Zu,Zj,Z1,Zx,Zy,ZJ,ZI,ZH,ZD,ZE,splice,fillI,Nat.reduceLeDiff,strA,ZK,ZA,Ze,bq_ft,bq_tf,ZG,ZF,ZQ,Zv,Zz,isNilA,nilPtr,nilSl,nilIf,nilFn,nilMap,nilCheckA,if_true,if_false,lt_lit,le_lit,lt_lit2,le_lit2,le_sub1,le_sub2]; rfl
      case hd => rfl
      case hr => rfl
      case hz => exact fin_app (v := .int .i64 _) rfl rfl
theorem rtoggle_eq (P : Program) (N n : Nat) (hN : 9223372036854775808 ≤ N) (nm : List UInt8) (e : El) (he : Fits e) (H : Mem) :
    evFI P cfg T N (n + 3) 22 [.agg (eC e), .str nm] H = some (.ret (.int .i64 (togOf e nm)), H) := by
  have hg := fun H => child_eq P N n hN nm e he H
  have ha := fun H => rget_eq P N (n + 1) hN wNs valS (kidOf e nm) (he.found _ _).ats H
  have hav : (getIn wNs valS (kidOf e nm).ats).getD [] = attrOf (kidOf e nm) valS := rfl
  rw [hav] at ha
  generalize (getIn wNs valS (kidOf e nm).ats).isSome = gs at ha
  unfold kidOf at hg ha
  unfold togOf
  cases hf : findIn wNs nm e.kids with
  | none =>
    rw [hf] at hg
    simp only [Option.getD_none,Option.isSome_none] at hg
    refine evF_ret (m := 32) (v := .int .i64 0) (a := ?a) (H1 := ?H1) rfl t22 rfl ?hb ?hd ?hr ?hz
    case hb => simp only [Zf,Zk,idx,I22,hg,eC_len,eC_take,eC_one,eC_0,eC_1,eC_2,eC_3,eC_4,eCr,eCr_0,eCr_1,eCr_2,eCr_3,eCr_4,List.length_drop,Nat.reduceSub,ZR,atr,Zs,Zr,Zp,Za,Zb,evI,opsI,stepI,wantI,opI,AAct.evI,look,AAct.put,mkVal,mkVM,intOpA,intA,shiftA,unA,ZP,ZO,Zh,Zt,reduceIte,Nat.reduceEqDiff,Nat.reduceLT,Zo,Zq,true_and,and_true,and_self,ZB,cellsAt,Zg,ZC,Zf,Zk,ZL,ZM,Nat.reduceAdd,Nat.reduceMul,ZN,AV.cells,AV.one,known,Zn,getE_0,getE_k,setE_0,setE_k,Zc,Zd,Zl,Zm,Zi,Zw,Zu,Zj,Z1,Zx,Zy,ZJ,ZI,ZH,ZD,ZE,splice,fillI,Nat.reduceLeDiff,strA,ZK,ZA,Ze,bq_ft,bq_tf,ZG,ZF,ZQ,Zv,Zz,isNilA,nilPtr,nilSl,nilIf,nilFn,nilMap,nilCheckA,if_true,if_false,lt_lit,le_lit,lt_lit2,le_lit2,le_sub1,le_sub2]; rfl
    case hd => rfl
    case hr => rfl
    case hz => exact fin_app (v := .int .i64 _) rfl rfl
  | some x =>
    rw [hf] at hg ha
    simp only [Option.getD_some,Option.isSome_some] at hg ha
    show _ = some (End.ret (.int .i64 (if offV (attrOf x valS) = true then 2 else 1)), H)
    generalize attrOf x valS = v at *
    unfold offV
    simp only [valS,wNs] at ha
    cases h1 : (v == [48])
    · cases h2 : (v == [102, 97, 108, 115, 101])
      · cases h3 : (v == [111, 102, 102])
        · refine evF_ret (m := 32) (v := .int .i64 1) (a := ?a2) (H1 := ?H2) rfl t22 rfl ?hb ?hd ?hr ?hz
          case hb => simp only [Zf,Zk,idx,I22,hg,ha,h1,h2,h3,eC_len,eC_take,eC_one,eC_0,eC_1,eC_2,eC_3,eC_4,eCr,eCr_0,eCr_1,eCr_2,eCr_3,eCr_4,List.length_drop,Nat.reduceSub,ZR,atr,Zs,Zr,Zp,Za,Zb,evI,opsI,stepI,wantI,opI,AAct.evI,look,AAct.put,mkVal,mkVM,intOpA,intA,shiftA,unA,ZP,ZO,Zh,Zt,reduceIte,Nat.reduceEqDiff,Nat.reduceLT,Zo,Zq,true_and,and_true,and_self,ZB,cellsAt,Zg,ZC,Zf,Zk,ZL,ZM,Nat.reduceAdd,Nat.reduceMul,ZN,AV.cells,AV.one,known,Zn,getE_0,getE_k,setE_0,setE_k,Zc,Zd,Zl,Zm,Zi,Zw,Zu,Zj,Z1,Zx,Zy,ZJ,ZI,ZH,ZD,ZE,splice,fillI,Nat.reduceLeDiff,strA,ZK,ZA,Ze,bq_ft,bq_tf,ZG,ZF,ZQ,Zv,Zz,isNilA,nilPtr,nilSl,nilIf,nilFn,nilMap,nilCheckA,if_true,if_false,lt_lit,le_lit,lt_lit2,le_lit2,le_sub1,le_sub2]; rfl
          case hd => rfl
          case hr => rfl
          case hz => exact fin_app (v := .int .i64 _) rfl rfl
        · refine evF_ret (m := 32) (v := .int .i64 2) (a := ?a3) (H1 := ?H3) rfl t22 rfl ?hb ?hd ?hr ?hz
          case hb => simp only [Zf,Zk,idx,I22,hg,ha,h1,h2,h3,eC_len,eC_take,eC_one,eC_0,eC_1,eC_2,eC_3,eC_4,eCr,eCr_0,eCr_1,eCr_2,eCr_3,eCr_4,List.length_drop,Nat.reduceSub,ZR,atr,Zs,Zr,Zp,Za,Zb,evI,opsI,stepI,wantI,opI,AAct.evI,look,AAct.put,mkVal,mkVM,intOpA,intA,shiftA,unA,ZP,ZO,Zh,Zt,reduceIte,Nat.reduceEqDiff,Nat.reduceLT,Zo,Zq,true_and,and_true,and_self,ZB,cellsAt,Zg,ZC,Zf,Zk,ZL,ZM,Nat.reduceAdd,Nat.reduceMul,ZN,AV.cells,AV.one,known,Zn,getE_0,getE_k,setE_0,setE_k,Zc,Zd,Zl,Zm,Zi,Zw,Zu,Zj,Z1,Zx,Zy,ZJ,ZI,ZH,ZD,ZE,splice,fillI,Nat.reduceLeDiff,strA,ZK,ZA,Ze,bq_ft,bq_tf,ZG,ZF,ZQ,Zv,Zz,isNilA,nilPtr,nilSl,nilIf,nilFn,nilMap,nilCheckA,if_true,if_false,lt_lit,le_lit,lt_lit2,le_lit2,le_sub1,le_sub2]; rfl
          case hd => rfl
          case hr => rfl
          case hz => exact fin_app (v := .int .i64 _) rfl rfl
      · refine evF_ret (m := 32) (v := .int .i64 2) (a := ?a4) (H1 := ?H4) rfl t22 rfl ?hb ?hd ?hr ?hz
        case hb => simp only [Zf,Zk,idx,I22,hg,ha,h1,h2,eC_len,eC_take,eC_one,eC_0,eC_1,eC_2,eC_3,eC_4,eCr,eCr_0,eCr_1,eCr_2,eCr_3,eCr_4,List.length_drop,Nat.reduceSub,ZR,atr,Zs,Zr,Zp,Za,Zb,evI,opsI,stepI,wantI,opI,AAct.evI,look,AAct.put,mkVal,mkVM,intOpA,intA,shiftA,unA,ZP,ZO,Zh,Zt,reduceIte,Nat.reduceEqDiff,Nat.reduceLT,Zo,Zq,true_and,and_true,and_self,ZB,cellsAt,Zg,ZC,Zf,Zk,ZL,ZM,Nat.reduceAdd,Nat.reduceMul,ZN,AV.cells,AV.one,known,Zn,getE_0,getE_k,setE_0,setE_k,Zc,Zd,Zl,Zm,Zi,Zw,Zu,Zj,Z1,Zx,Zy,ZJ,ZI,ZH,ZD,ZE,splice,fillI,Nat.reduceLeDiff,strA,ZK,ZA,Ze,bq_ft,bq_tf,ZG,ZF,ZQ,Zv,Zz,isNilA,nilPtr,nilSl,nilIf,nilFn,nilMap,nilCheckA,if_true,if_false,lt_lit,le_lit,lt_lit2,le_lit2,le_sub1,le_sub2]; rfl
        case hd => rfl
        case hr => rfl
        case hz => exact fin_app (v := .int .i64 _) rfl rfl
    · refine evF_ret (m := 32) (v := .int .i64 2) (a := ?a5) (H1 := ?H5) rfl t22 rfl ?hb ?hd ?hr ?hz
      case hb => simp only [Zf,Zk,idx,I22,hg,ha,h1,eC_len,eC_take,eC_one,eC_0,eC_1,eC_2,eC_3,eC_4,eCr,eCr_0,eCr_1,eCr_2,eCr_3,eCr_4,List.length_drop,Nat.reduceSub,ZR,atr,Zs,Zr,Zp,Za,Zb,evI,opsI,stepI,wantI,opI,AAct.evI,look,AAct.put,mkVal,mkVM,intOpA,intA,shiftA,unA,ZP,ZO,Zh,Zt,reduceIte,Nat.reduceEqDiff,Nat.reduceLT,Zo,Zq,true_and,and_true,and_self,ZB,cellsAt,Zg,ZC,Zf,Zk,ZL,ZM,Nat.reduceAdd,Nat.reduceMul,ZN,AV.cells,AV.one,known,Zn,getE_0,getE_k,setE_0,setE_k,Zc,Zd,Zl,Zm,Zi,Zw,Zu,Zj,Z1,Zx,Zy,ZJ,ZI,ZH,ZD,ZE,splice,fillI,Nat.reduceLeDiff,strA,ZK,ZA,Ze,bq_ft,bq_tf,ZG,ZF,ZQ,Zv,Zz,isNilA,nilPtr,nilSl,nilIf,nilFn,nilMap,nilCheckA,if_true,if_false,lt_lit,le_lit,lt_lit2,le_lit2,le_sub1,le_sub2]; rfl
      case hd => rfl
      case hr => rfl
      case hz => exact fin_app (v := .int .i64 _) rfl rfl
end Go.Proofs.YtlimneghgioeaaaGreatDoor.Ev
