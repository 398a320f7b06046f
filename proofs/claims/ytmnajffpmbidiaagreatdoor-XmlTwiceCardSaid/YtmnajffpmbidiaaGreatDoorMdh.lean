/- Parts of one proof. -/
import Derived.Test.YtmnajffpmbidiaaGreatDoorMdg
set_option linter.all false
namespace Go.Proofs.YtmnajffpmbidiaaGreatDoor.Ev
variable {ml : Int}
open Go.Proofs.YtmnajffpmbidiaaGreatDoor.Ic
set_option maxRecDepth 100000
set_option maxHeartbeats 2000000
theorem callableA : callable Tryz.prog 93 = true := by kernel_rfl
section
variable {N : Nat}
theorem cloA_eq (d : Nat) (hd : 1 ≤ d) (H : Mem) (xr : Nat) (x y : T3) (hx : H[xr]? = some (.row (c3 x) 0 (41 + 1))) :
    evFI Tryz.prog (cfg ml) T N d 93 [.agg (c3 y), .ptr xr 0 0] H = some (.ret (.bool (same3 x y)), H) := by
  obtain ⟨n, rfl⟩ : ∃ n, d = n + 1 := ⟨d - 1, by omega⟩
  have hlt : xr < H.length := (List.getElem?_eq_some_iff.1 hx).1
  have hx2 : ∀ L : Mem, (H ++ L)[xr]? = some (.row (c3 x) 0 (41 + 1)) := fun L => by rw [List.getElem?_append_left hlt]; exact hx
  unfold same3
  cases h1 : (x.1 == y.1)
  · refine evF_ret (m := 16) (v := .bool false) (a := ?aa) (H1 := ?Ha) rfl t93 rfl ?hb ?hd ?hr ?hz
    case hb =>
      apply evI_seq
      · simp only [Zf,Zk,idx,I93,Zs,Zr,Zp,Za,Zb,evI,opsI,stepI,wantI,opI,AAct.evI,look,AAct.put,mkVal,mkVM,intOpA,intA,shiftA,unA,ZP,ZO,Zh,Zt,reduceIte,Nat.reduceEqDiff,Nat.reduceLT,Zo,Zq,true_and,and_true,and_self,ZB,cellsAt,Zg,ZC,Zf,Zk,ZL,ZM,Nat.reduceAdd,Nat.reduceMul,ZN,AV.cells,AV.one,known,Zn,getE_0,getE_k,setE_0,setE_k,Zc,Zd,Zl,Zm,Zi,Zw,Zu,Zj,Z1,Zx,Zy,ZJ,ZI,ZH,ZD,ZE,splice,fillI,Nat.reduceLeDiff,strA,ZK,ZA,Ze,bq_ft,bq_tf,ZG,ZF,ZQ,Zv,Zz,isNilA,nilPtr,nilSl,nilIf,nilFn,nilMap,nilCheckA,if_true,if_false,lt_lit,le_lit,lt_lit2,le_lit2,le_sub1,le_sub2]; rfl
      apply evI_seq
      · simp only [hx2,h1,Zs,Zr,Zp,Za,Zb,evI,opsI,stepI,wantI,opI,AAct.evI,look,AAct.put,mkVal,mkVM,intOpA,intA,shiftA,unA,ZP,ZO,Zh,Zt,reduceIte,Nat.reduceEqDiff,Nat.reduceLT,Zo,Zq,true_and,and_true,and_self,ZB,cellsAt,Zg,ZC,Zf,Zk,ZL,ZM,Nat.reduceAdd,Nat.reduceMul,ZN,AV.cells,AV.one,known,Zn,getE_0,getE_k,setE_0,setE_k,Zc,Zd,Zl,Zm,Zi,Zw,Zu,Zj,Z1,Zx,Zy,ZJ,ZI,ZH,ZD,ZE,splice,fillI,Nat.reduceLeDiff,strA,ZK,ZA,Ze,bq_ft,bq_tf,ZG,ZF,ZQ,Zv,Zz,isNilA,nilPtr,nilSl,nilIf,nilFn,nilMap,nilCheckA,if_true,if_false,lt_lit,le_lit,lt_lit2,le_lit2,le_sub1,le_sub2]; rfl
      rfl
    case hd => rfl
    case hr => rfl
    case hz => simp only [finish,finish,cfg,keep,Ze,if_false,frz,frzL,eC_low,kC_low,atsC_low,low,lowL,ZP,Zh,roundEnd,AAct.keepT,Zv,Zz,look,reduceIte,Nat.reduceEqDiff,lowT,Zx,Zy,low,lowL,lowD,mayCut,Zg,Zf,Zk,ZL,Nat.reduceAdd,takeS,takeE_0,takeE_k,Zi,Zw,eqM_app,eqM_refl,Bool.true_or,ZJ,ZI,ZH,ZP,Nat.lt_succ_self,Nat.lt_add_right_iff_pos,Nat.add_lt_add_iff_left,Nat.reduceLT,if_true,lt_k,Zn,Zp,Zr,ZE]
  · cases h2 : (x.2.1 == y.2.1)
    · refine evF_ret (m := 16) (v := .bool false) (a := ?ab) (H1 := ?Hb) rfl t93 rfl ?hb ?hd ?hr ?hz
      case hb =>
        apply evI_seq
        · simp only [Zf,Zk,idx,I93,Zs,Zr,Zp,Za,Zb,evI,opsI,stepI,wantI,opI,AAct.evI,look,AAct.put,mkVal,mkVM,intOpA,intA,shiftA,unA,ZP,ZO,Zh,Zt,reduceIte,Nat.reduceEqDiff,Nat.reduceLT,Zo,Zq,true_and,and_true,and_self,ZB,cellsAt,Zg,ZC,Zf,Zk,ZL,ZM,Nat.reduceAdd,Nat.reduceMul,ZN,AV.cells,AV.one,known,Zn,getE_0,getE_k,setE_0,setE_k,Zc,Zd,Zl,Zm,Zi,Zw,Zu,Zj,Z1,Zx,Zy,ZJ,ZI,ZH,ZD,ZE,splice,fillI,Nat.reduceLeDiff,strA,ZK,ZA,Ze,bq_ft,bq_tf,ZG,ZF,ZQ,Zv,Zz,isNilA,nilPtr,nilSl,nilIf,nilFn,nilMap,nilCheckA,if_true,if_false,lt_lit,le_lit,lt_lit2,le_lit2,le_sub1,le_sub2]; rfl
        apply evI_seq
        · simp only [hx2,h1,h2,Zs,Zr,Zp,Za,Zb,evI,opsI,stepI,wantI,opI,AAct.evI,look,AAct.put,mkVal,mkVM,intOpA,intA,shiftA,unA,ZP,ZO,Zh,Zt,reduceIte,Nat.reduceEqDiff,Nat.reduceLT,Zo,Zq,true_and,and_true,and_self,ZB,cellsAt,Zg,ZC,Zf,Zk,ZL,ZM,Nat.reduceAdd,Nat.reduceMul,ZN,AV.cells,AV.one,known,Zn,getE_0,getE_k,setE_0,setE_k,Zc,Zd,Zl,Zm,Zi,Zw,Zu,Zj,Z1,Zx,Zy,ZJ,ZI,ZH,ZD,ZE,splice,fillI,Nat.reduceLeDiff,strA,ZK,ZA,Ze,bq_ft,bq_tf,ZG,ZF,ZQ,Zv,Zz,isNilA,nilPtr,nilSl,nilIf,nilFn,nilMap,nilCheckA,if_true,if_false,lt_lit,le_lit,lt_lit2,le_lit2,le_sub1,le_sub2]; rfl
        rfl
      case hd => rfl
      case hr => rfl
      case hz => simp only [finish,finish,cfg,keep,Ze,if_false,frz,frzL,eC_low,kC_low,atsC_low,low,lowL,ZP,Zh,roundEnd,AAct.keepT,Zv,Zz,look,reduceIte,Nat.reduceEqDiff,lowT,Zx,Zy,low,lowL,lowD,mayCut,Zg,Zf,Zk,ZL,Nat.reduceAdd,takeS,takeE_0,takeE_k,Zi,Zw,eqM_app,eqM_refl,Bool.true_or,ZJ,ZI,ZH,ZP,Nat.lt_succ_self,Nat.lt_add_right_iff_pos,Nat.add_lt_add_iff_left,Nat.reduceLT,if_true,lt_k,Zn,Zp,Zr]
    · refine evF_ret (m := 16) (v := .bool true) (a := ?ac) (H1 := ?Hc) rfl t93 rfl ?hb ?hd ?hr ?hz
      case hb =>
        apply evI_seq
        · simp only [Zf,Zk,idx,I93,Zs,Zr,Zp,Za,Zb,evI,opsI,stepI,wantI,opI,AAct.evI,look,AAct.put,mkVal,mkVM,intOpA,intA,shiftA,unA,ZP,ZO,Zh,Zt,reduceIte,Nat.reduceEqDiff,Nat.reduceLT,Zo,Zq,true_and,and_true,and_self,ZB,cellsAt,Zg,ZC,Zf,Zk,ZL,ZM,Nat.reduceAdd,Nat.reduceMul,ZN,AV.cells,AV.one,known,Zn,getE_0,getE_k,setE_0,setE_k,Zc,Zd,Zl,Zm,Zi,Zw,Zu,Zj,Z1,Zx,Zy,ZJ,ZI,ZH,ZD,ZE,splice,fillI,Nat.reduceLeDiff,strA,ZK,ZA,Ze,bq_ft,bq_tf,ZG,ZF,ZQ,Zv,Zz,isNilA,nilPtr,nilSl,nilIf,nilFn,nilMap,nilCheckA,if_true,if_false,lt_lit,le_lit,lt_lit2,le_lit2,le_sub1,le_sub2]; rfl
        apply evI_seq
        · simp only [hx2,h1,h2,Zs,Zr,Zp,Za,Zb,evI,opsI,stepI,wantI,opI,AAct.evI,look,AAct.put,mkVal,mkVM,intOpA,intA,shiftA,unA,ZP,ZO,Zh,Zt,reduceIte,Nat.reduceEqDiff,Nat.reduceLT,Zo,Zq,true_and,and_true,and_self,ZB,cellsAt,Zg,ZC,Zf,Zk,ZL,ZM,Nat.reduceAdd,Nat.reduceMul,ZN,AV.cells,AV.one,known,Zn,getE_0,getE_k,setE_0,setE_k,Zc,Zd,Zl,Zm,Zi,Zw,Zu,Zj,Z1,Zx,Zy,ZJ,ZI,ZH,ZD,ZE,splice,fillI,Nat.reduceLeDiff,strA,ZK,ZA,Ze,bq_ft,bq_tf,ZG,ZF,ZQ,Zv,Zz,isNilA,nilPtr,nilSl,nilIf,nilFn,nilMap,nilCheckA,if_true,if_false,lt_lit,le_lit,lt_lit2,le_lit2,le_sub1,le_sub2]; rfl
        rfl
      case hd => rfl
      case hr => rfl
      case hz => simp only [finish,finish,cfg,keep,Ze,if_false,frz,frzL,eC_low,kC_low,atsC_low,low,lowL,ZP,Zh,roundEnd,AAct.keepT,Zv,Zz,look,reduceIte,Nat.reduceEqDiff,lowT,Zx,Zy,low,lowL,lowD,mayCut,Zg,Zf,Zk,ZL,Nat.reduceAdd,takeS,takeE_0,takeE_k,Zi,Zw,eqM_app,eqM_refl,Bool.true_or,ZJ,ZI,ZH,ZP,Nat.lt_succ_self,Nat.lt_add_right_iff_pos,Nat.add_lt_add_iff_left,Nat.reduceLT,if_true,lt_k,Zn,Zp,Zr]
noncomputable def loopIA : IC := (I115.c.loops).getD 0 .bad
theorem idxA_loop (n : Nat) (H : Mem) (q st ty xr i : Nat) (ts : List T3) (x : T3) (hq : H[q]? = some (.row (trC ts) st ty)) (hx : H[xr]? = some (.row (c3 x) 0 (41 + 1))) (hi : i ≤ ts.length) (hil : i < 1000) : ∀ (fuel j : Nat), j ≤ i → i - j < fuel →
    ∃ t o, loopA (fun a H => evI Tryz.prog (cfg ml) (evFI Tryz.prog (cfg ml) T N (n + 1)) N loopIA a H) (some [0, 1, 7, 8]) fuel ⟨19, [(0, .slc q 0 i 3 st), (1, .fn (.func 93) [.ptr xr 0 0]), (7, .int .i64 i), (8, .int .i64 j)], []⟩ H = some (o, ⟨19, t, []⟩, H) ∧ (if ((ts.take i).drop j).any (same3 x) = true then o = .ret ∧ ∃ m : Nat, look t 4 = .int .i64 m else o = .exit 0)
  | 0, j, _, h => by omega
  | fuel + 1, j, hj, hf => by
    rcases Nat.lt_or_ge j i with hlt | hge
    · have hjl : j < ts.length := by omega
      have hd : (ts.take i).drop j = ts[j] :: (ts.take i).drop (j + 1) := by
        rw [List.drop_eq_getElem_cons (by rw [List.length_take]; omega), List.getElem_take]
      have hcell : (trC ts).drop (j * 3) = c3 ts[j] ++ trC (ts.drop (j + 1)) := by
        rw [trC_drop, List.drop_eq_getElem_cons hjl]; rfl
      have hlen : j * 3 + 3 ≤ (trC ts).length := by rw [trC_len]; omega
      generalize ts[j] = y at *
      have hc1 : decide ((j : Int) < (i : Int)) = true := decide_eq_true (by omega)
      have hn := natOf_nat j .i64
      have hw : IntKind.wrap .i64 ((j : Int) + 1) = ((j + 1 : Nat) : Int) := by rw [wrap64] <;> omega
      have qc := cloA_eq (N := N) (ml := ml) (n + 1) (by omega) H xr x y hx
      have hcl := callableA
      have z0 : ∀ k : Nat, 0 + k = k := Nat.zero_add
      rw [hd, List.any_cons]
      cases hs : same3 x y
      · rw [hs] at qc
        obtain ⟨t, o, ht, ho⟩ := idxA_loop n H q st ty xr i ts x hq hx hi hil fuel (j + 1) (by omega) (by omega)
        rw [Bool.false_or]
        refine ⟨t, o, ?_, ho⟩
        refine loopA_go (H' := H) (by simp only [loopIA,I115,IC.loops,Za,hc1,hn,hw,hq,hcell,hlen,hlt,qc,hcl,z0,Zs,Zr,Zp,Za,Zb,evI,opsI,stepI,wantI,opI,AAct.evI,look,AAct.put,mkVal,mkVM,intOpA,intA,shiftA,unA,ZP,ZO,Zh,Zt,reduceIte,Nat.reduceEqDiff,Nat.reduceLT,Zo,Zq,true_and,and_true,and_self,ZB,cellsAt,Zg,ZC,Zf,Zk,ZL,ZM,Nat.reduceAdd,Nat.reduceMul,ZN,AV.cells,AV.one,known,Zn,getE_0,getE_k,setE_0,setE_k,Zc,Zd,Zl,Zm,Zi,Zw,Zu,Zj,Z1,Zx,Zy,ZJ,ZI,ZH,ZD,ZE,splice,fillI,Nat.reduceLeDiff,strA,ZK,ZA,Ze,bq_ft,bq_tf,ZG,ZF,ZQ,Zv,Zz,isNilA,nilPtr,nilSl,nilIf,nilFn,nilMap,nilCheckA,if_true,if_false,lt_lit,le_lit,lt_lit2,le_lit2,le_sub1,le_sub2]; rfl) ?_
        rw [re_len rfl]
        exact ht
      · rw [hs] at qc
        rw [Bool.true_or]
        simp only [if_true]
        exact ⟨_, _, loopA_ret (by simp only [loopIA,I115,IC.loops,Za,hc1,hn,hw,hq,hcell,hlen,hlt,qc,hcl,z0,Zs,Zr,Zp,Za,Zb,evI,opsI,stepI,wantI,opI,AAct.evI,look,AAct.put,mkVal,mkVM,intOpA,intA,shiftA,unA,ZP,ZO,Zh,Zt,reduceIte,Nat.reduceEqDiff,Nat.reduceLT,Zo,Zq,true_and,and_true,and_self,ZB,cellsAt,Zg,ZC,Zf,Zk,ZL,ZM,Nat.reduceAdd,Nat.reduceMul,ZN,AV.cells,AV.one,known,Zn,getE_0,getE_k,setE_0,setE_k,Zc,Zd,Zl,Zm,Zi,Zw,Zu,Zj,Z1,Zx,Zy,ZJ,ZI,ZH,ZD,ZE,splice,fillI,Nat.reduceLeDiff,strA,ZK,ZA,Ze,bq_ft,bq_tf,ZG,ZF,ZQ,Zv,Zz,isNilA,nilPtr,nilSl,nilIf,nilFn,nilMap,nilCheckA,if_true,if_false,lt_lit,le_lit,lt_lit2,le_lit2,le_sub1,le_sub2]; rfl), rfl, j, rfl⟩
    · have hc1 : decide ((j : Int) < (i : Int)) = false := decide_eq_false (by omega)
      have hd : (ts.take i).drop j = [] := List.drop_eq_nil_of_le (by rw [List.length_take]; omega)
      rw [hd]
      simp only [List.any_nil,Ze,if_false]
      exact ⟨_, _, loopA_exit (by simp only [loopIA,I115,IC.loops,Za,hc1,Zs,Zr,Zp,Za,Zb,evI,opsI,stepI,wantI,opI,AAct.evI,look,AAct.put,mkVal,mkVM,intOpA,intA,shiftA,unA,ZP,ZO,Zh,Zt,reduceIte,Nat.reduceEqDiff,Nat.reduceLT,Zo,Zq,true_and,and_true,and_self,ZB,cellsAt,Zg,ZC,Zf,Zk,ZL,ZM,Nat.reduceAdd,Nat.reduceMul,ZN,AV.cells,AV.one,known,Zn,getE_0,getE_k,setE_0,setE_k,Zc,Zd,Zl,Zm,Zi,Zw,Zu,Zj,Z1,Zx,Zy,ZJ,ZI,ZH,ZD,ZE,splice,fillI,Nat.reduceLeDiff,strA,ZK,ZA,Ze,bq_ft,bq_tf,ZG,ZF,ZQ,Zv,Zz,isNilA,nilPtr,nilSl,nilIf,nilFn,nilMap,nilCheckA,if_true,if_false,lt_lit,le_lit,lt_lit2,le_lit2,le_sub1,le_sub2]; rfl), rfl⟩
theorem idxA_eq (hN : 1000 < N) (d : Nat) (hd : 2 ≤ d) (H : Mem) (q st ty xr i : Nat) (ts : List T3) (x : T3) (hq : H[q]? = some (.row (trC ts) st ty)) (hx : H[xr]? = some (.row (c3 x) 0 (41 + 1))) (hi : i ≤ ts.length) (hil : i < 1000) :
    ∃ v : Int, evFI Tryz.prog (cfg ml) T N d 115 [.slc q 0 i 3 st, .fn (.func 93) [.ptr xr 0 0]] H = some (.ret (.int .i64 v), H) ∧ decide (v ≥ 0) = (ts.take i).any (same3 x) := by
  obtain ⟨n, rfl⟩ : ∃ n, d = n + 2 := ⟨d - 2, by omega⟩
  obtain ⟨t, o, ht, ho⟩ := idxA_loop (N := N) (ml := ml) n H q st ty xr i ts x hq hx hi hil N 0 (by omega) (by omega)
  rw [List.drop_zero] at ho
  cases hc : (ts.take i).any (same3 x)
  · rw [hc] at ho
    simp only [Ze,if_false] at ho
    subst ho
    refine ⟨-1, ?_, rfl⟩
    refine evF_ret (m := 19) (v := .int .i64 (-1)) (a := ?aa) (H1 := H) rfl t115 rfl ?hb ?hd ?hr ?hz
    case hb =>
      apply evI_seq
      · simp only [Zf,Zk,idx,I115,Zs,Zr,Zp,Za,Zb,evI,opsI,stepI,wantI,opI,AAct.evI,look,AAct.put,mkVal,mkVM,intOpA,intA,shiftA,unA,ZP,ZO,Zh,Zt,reduceIte,Nat.reduceEqDiff,Nat.reduceLT,Zo,Zq,true_and,and_true,and_self,ZB,cellsAt,Zg,ZC,Zf,Zk,ZL,ZM,Nat.reduceAdd,Nat.reduceMul,ZN,AV.cells,AV.one,known,Zn,getE_0,getE_k,setE_0,setE_k,Zc,Zd,Zl,Zm,Zi,Zw,Zu,Zj,Z1,Zx,Zy,ZJ,ZI,ZH,ZD,ZE,splice,fillI,Nat.reduceLeDiff,strA,ZK,ZA,Ze,bq_ft,bq_tf,ZG,ZF,ZQ,Zv,Zz,isNilA,nilPtr,nilSl,nilIf,nilFn,nilMap,nilCheckA,if_true,if_false,lt_lit,le_lit,lt_lit2,le_lit2,le_sub1,le_sub2]; rfl
      apply evI_seq
      · apply evI_seq
        · simp only [Zs,Zr,Zp,Za,Zb,evI,opsI,stepI,wantI,opI,AAct.evI,look,AAct.put,mkVal,mkVM,intOpA,intA,shiftA,unA,ZP,ZO,Zh,Zt,reduceIte,Nat.reduceEqDiff,Nat.reduceLT,Zo,Zq,true_and,and_true,and_self,ZB,cellsAt,Zg,ZC,Zf,Zk,ZL,ZM,Nat.reduceAdd,Nat.reduceMul,ZN,AV.cells,AV.one,known,Zn,getE_0,getE_k,setE_0,setE_k,Zc,Zd,Zl,Zm,Zi,Zw,Zu,Zj,Z1,Zx,Zy,ZJ,ZI,ZH,ZD,ZE,splice,fillI,Nat.reduceLeDiff,strA,ZK,ZA,Ze,bq_ft,bq_tf,ZG,ZF,ZQ,Zv,Zz,isNilA,nilPtr,nilSl,nilIf,nilFn,nilMap,nilCheckA,if_true,if_false,lt_lit,le_lit,lt_lit2,le_lit2,le_sub1,le_sub2]; rfl
        apply evI_block_exit
        apply evI_loop
        exact ht
      simp only [Zs,Zr,Zp,Za,Zb,evI,opsI,stepI,wantI,opI,AAct.evI,look,AAct.put,mkVal,mkVM,intOpA,intA,shiftA,unA,ZP,ZO,Zh,Zt,reduceIte,Nat.reduceEqDiff,Nat.reduceLT,Zo,Zq,true_and,and_true,and_self,ZB,cellsAt,Zg,ZC,Zf,Zk,ZL,ZM,Nat.reduceAdd,Nat.reduceMul,ZN,AV.cells,AV.one,known,Zn,getE_0,getE_k,setE_0,setE_k,Zc,Zd,Zl,Zm,Zi,Zw,Zu,Zj,Z1,Zx,Zy,ZJ,ZI,ZH,ZD,ZE,splice,fillI,Nat.reduceLeDiff,strA,ZK,ZA,Ze,bq_ft,bq_tf,ZG,ZF,ZQ,Zv,Zz,isNilA,nilPtr,nilSl,nilIf,nilFn,nilMap,nilCheckA,if_true,if_false,lt_lit,le_lit,lt_lit2,le_lit2,le_sub1,le_sub2]; rfl
    case hd => rfl
    case hr => rfl
    case hz => exact fin_len rfl rfl
  · rw [hc] at ho
    simp only [if_true] at ho
    obtain ⟨rfl, m, hm⟩ := ho
    refine ⟨m, ?_, decide_eq_true (by omega)⟩
    refine evF_ret (m := 19) (v := .int .i64 m) (a := ⟨19, t, []⟩) (H1 := H) rfl t115 rfl ?hb ?hd ?hr ?hz
    case hb =>
      apply evI_seq
      · simp only [Zf,Zk,idx,I115,Zs,Zr,Zp,Za,Zb,evI,opsI,stepI,wantI,opI,AAct.evI,look,AAct.put,mkVal,mkVM,intOpA,intA,shiftA,unA,ZP,ZO,Zh,Zt,reduceIte,Nat.reduceEqDiff,Nat.reduceLT,Zo,Zq,true_and,and_true,and_self,ZB,cellsAt,Zg,ZC,Zf,Zk,ZL,ZM,Nat.reduceAdd,Nat.reduceMul,ZN,AV.cells,AV.one,known,Zn,getE_0,getE_k,setE_0,setE_k,Zc,Zd,Zl,Zm,Zi,Zw,Zu,Zj,Z1,Zx,Zy,ZJ,ZI,ZH,ZD,ZE,splice,fillI,Nat.reduceLeDiff,strA,ZK,ZA,Ze,bq_ft,bq_tf,ZG,ZF,ZQ,Zv,Zz,isNilA,nilPtr,nilSl,nilIf,nilFn,nilMap,nilCheckA,if_true,if_false,lt_lit,le_lit,lt_lit2,le_lit2,le_sub1,le_sub2]; rfl
      apply evI_seq_ret
      apply evI_seq
      · simp only [Zs,Zr,Zp,Za,Zb,evI,opsI,stepI,wantI,opI,AAct.evI,look,AAct.put,mkVal,mkVM,intOpA,intA,shiftA,unA,ZP,ZO,Zh,Zt,reduceIte,Nat.reduceEqDiff,Nat.reduceLT,Zo,Zq,true_and,and_true,and_self,ZB,cellsAt,Zg,ZC,Zf,Zk,ZL,ZM,Nat.reduceAdd,Nat.reduceMul,ZN,AV.cells,AV.one,known,Zn,getE_0,getE_k,setE_0,setE_k,Zc,Zd,Zl,Zm,Zi,Zw,Zu,Zj,Z1,Zx,Zy,ZJ,ZI,ZH,ZD,ZE,splice,fillI,Nat.reduceLeDiff,strA,ZK,ZA,Ze,bq_ft,bq_tf,ZG,ZF,ZQ,Zv,Zz,isNilA,nilPtr,nilSl,nilIf,nilFn,nilMap,nilCheckA,if_true,if_false,lt_lit,le_lit,lt_lit2,le_lit2,le_sub1,le_sub2]; rfl
      apply evI_block_ret
      apply evI_loop
      exact ht
    case hd => rfl
    case hr => simp only [I115,resI,resLI,hm,Zh]
    case hz => exact fin_len rfl rfl
theorem contA_eq (hN : 1000 < N) (d : Nat) (hd : 3 ≤ d) (H : Mem) (q st ty xr i : Nat) (ts : List T3) (x : T3) (hq : H[q]? = some (.row (trC ts) st ty)) (hx : H[xr]? = some (.row (c3 x) 0 (41 + 1))) (hi : i ≤ ts.length) (hil : i < 1000) :
    evFI Tryz.prog (cfg ml) T N d 92 [.slc q 0 i 3 st, .fn (.func 93) [.ptr xr 0 0]] H = some (.ret (.bool ((ts.take i).any (same3 x))), H) := by
  obtain ⟨n, rfl⟩ : ∃ n, d = n + 3 := ⟨d - 3, by omega⟩
  obtain ⟨v, q1, q2⟩ := idxA_eq (N := N) (ml := ml) hN (n + 2) (by omega) H q st ty xr i ts x hq hx hi hil
  generalize (ts.take i).any (same3 x) = b at *
  refine evF_ret (m := 9) (v := .bool b) (a := ?aa) (H1 := H) rfl t92 rfl ?hb ?hd ?hr ?hz
  case hb => simp only [Zf,Zk,idx,I92,q1,q2,Zs,Zr,Zp,Za,Zb,evI,opsI,stepI,wantI,opI,AAct.evI,look,AAct.put,mkVal,mkVM,intOpA,intA,shiftA,unA,ZP,ZO,Zh,Zt,reduceIte,Nat.reduceEqDiff,Nat.reduceLT,Zo,Zq,true_and,and_true,and_self,ZB,cellsAt,Zg,ZC,Zf,Zk,ZL,ZM,Nat.reduceAdd,Nat.reduceMul,ZN,AV.cells,AV.one,known,Zn,getE_0,getE_k,setE_0,setE_k,Zc,Zd,Zl,Zm,Zi,Zw,Zu,Zj,Z1,Zx,Zy,ZJ,ZI,ZH,ZD,ZE,splice,fillI,Nat.reduceLeDiff,strA,ZK,ZA,Ze,bq_ft,bq_tf,ZG,ZF,ZQ,Zv,Zz,isNilA,nilPtr,nilSl,nilIf,nilFn,nilMap,nilCheckA,if_true,if_false,lt_lit,le_lit,lt_lit2,le_lit2,le_sub1,le_sub2]; rfl
  case hd => rfl
  case hr => rfl
  case hz => exact fin_len rfl rfl
theorem dupA_loop (hN : 1000 < N) (n : Nat) (H : Mem) (hlo : lowM H.length H = true) (q st ty mi : Nat) (hmi : mi < H.length) (ts : List T3) (hq : H[q]? = some (.row (trC ts) st ty)) (hil : ts.length < 900) : ∀ (fuel i : Nat), i ≤ ts.length → ts.length - i < fuel →
    ∃ t o H', loopA (fun a H => evI Tryz.prog (cfg ml) (evFI Tryz.prog (cfg ml) T N (n + 4)) N (loopS 4) a H) (some [10, 15, 146, 147, 148]) fuel ⟨163, [(10, .map mi), (15, .slc q 0 ts.length 3 st), (146, .slc q 0 ts.length 3 st), (147, .int .i64 ts.length), (148, .int .i64 i)], []⟩ H = some (o, ⟨163, t, []⟩, H') ∧ H'.take H.length = H ∧ (if dupW (ts.take i) (ts.drop i) = true then o = .pan (failv 8) else o = .exit 9 ∧ H' = H ∧ look t 10 = .map mi ∧ look t 15 = .slc q 0 ts.length 3 st)
  | 0, i, _, h => by omega
  | fuel + 1, i, hi, hf => by
    rcases Nat.lt_or_ge i ts.length with hlt | hge
    · have hql : q < H.length := (List.getElem?_eq_some_iff.1 hq).1
      have hd : ts.drop i = ts[i] :: ts.drop (i + 1) := List.drop_eq_getElem_cons hlt
      have hcell : (trC ts).drop (i * 3) = c3 ts[i] ++ trC (ts.drop (i + 1)) := by
        rw [trC_drop, hd]; rfl
      have htk : ts.take (i + 1) = ts.take i ++ [ts[i]] := by rw [List.take_succ_eq_append_getElem hlt]
      have hlen : i * 3 + 3 ≤ (trC ts).length := by rw [trC_len]; omega
      generalize ts[i] = x at *
      have hc1 : decide ((i : Int) < (ts.length : Int)) = true := decide_eq_true (by omega)
      have hn := natOf_nat i .i64
      have hw : IntKind.wrap .i64 ((i : Int) + 1) = ((i + 1 : Nat) : Int) := by rw [wrap64] <;> omega
      have hq2 : ∀ L : Mem, (H ++ L)[q]? = some (.row (trC ts) st ty) := fun L => by rw [List.getElem?_append_left hql]; exact hq
      have qc := contA_eq (N := N) (ml := ml) hN (n + 4) (by omega) (H ++ [.row (c3 x) 0 (41 + 1)]) q st ty H.length i ts x (hq2 _) (by rw [getE_0]; rfl) (by omega) (by omega)
      have z0 : ∀ k : Nat, 0 + k = k := Nat.zero_add
      have hle : i ≤ ts.length := hi
      have i0 : i - 0 = i := rfl
      have hcut : cutSD 3 (.slc q 0 ts.length 3 st) none (some (.int .i64 (i : Int))) = some (.slc q 0 i 3 st) := by
        simp only [cutSD,bound,hn,Zt,Zh,Zo,Nat.zero_le,hle,and_self,if_true,ZN,ZM,Nat.sub_zero]
      rw [hd]
      unfold dupW
      cases hs : (ts.take i).any (same3 x)
      · rw [hs] at qc
        have qm := fun e H => must_t (P := Tryz.prog) (N := N) (ml := ml) (n + 4) (by omega) e H
        obtain ⟨t, o, H', ht, h1, h2⟩ := dupA_loop hN n H hlo q st ty mi hmi ts hq hil fuel (i + 1) (by omega) (by omega)
        rw [Bool.false_or, ← htk]
        refine ⟨t, o, H', ?_, h1, h2⟩
        refine loopA_go (H' := H ++ [.row (c3 x) 0 (41 + 1)]) (by simp only [loopS,I66,IC.loops,Zb,Za,hc1,hn,hw,hq,hq2,hcell,hlen,hlt,qc,qm,z0,hcut,Zs,Zr,Zp,Za,Zb,evI,opsI,stepI,wantI,opI,AAct.evI,look,AAct.put,mkVal,mkVM,intOpA,intA,shiftA,unA,ZP,ZO,Zh,Zt,reduceIte,Nat.reduceEqDiff,Nat.reduceLT,Zo,Zq,true_and,and_true,and_self,ZB,cellsAt,Zg,ZC,Zf,Zk,ZL,ZM,Nat.reduceAdd,Nat.reduceMul,ZN,AV.cells,AV.one,known,Zn,getE_0,getE_k,setE_0,setE_k,Zc,Zd,Zl,Zm,Zi,Zw,Zu,Zj,Z1,Zx,Zy,ZJ,ZI,ZH,ZD,ZE,splice,fillI,Nat.reduceLeDiff,strA,ZK,ZA,Ze,bq_ft,bq_tf,ZG,ZF,ZQ,Zv,Zz,isNilA,nilPtr,nilSl,nilIf,nilFn,nilMap,nilCheckA,if_true,if_false,lt_lit,le_lit,lt_lit2,le_lit2,le_sub1,le_sub2]; rfl) ?_
        rw [re_cut (by
          simp only [AAct.keepT,lowT,Zv,Zz,look,AAct.put,reduceIte,Nat.reduceEqDiff,Zx,Zy,low,decide_eq_true hql,decide_eq_true hmi,ZI]) rfl (by rw [takeE_0]; exact hlo), takeE_0]
        exact ht
      · rw [hs] at qc
        have qm := fun e H => must_f (P := Tryz.prog) (N := N) (ml := ml) (n + 4) (by omega) e H
        rw [Bool.true_or]
        simp only [if_true]
        exact ⟨_, _, _, loopA_pan (by simp only [loopS,I66,IC.loops,Zb,Za,hc1,hn,hw,hq,hq2,hcell,hlen,hlt,qc,qm,z0,hcut,Zs,Zr,Zp,Za,Zb,evI,opsI,stepI,wantI,opI,AAct.evI,look,AAct.put,mkVal,mkVM,intOpA,intA,shiftA,unA,ZP,ZO,Zh,Zt,reduceIte,Nat.reduceEqDiff,Nat.reduceLT,Zo,Zq,true_and,and_true,and_self,ZB,cellsAt,Zg,ZC,Zf,Zk,ZL,ZM,Nat.reduceAdd,Nat.reduceMul,ZN,AV.cells,AV.one,known,Zn,getE_0,getE_k,setE_0,setE_k,Zc,Zd,Zl,Zm,Zi,Zw,Zu,Zj,Z1,Zx,Zy,ZJ,ZI,ZH,ZD,ZE,splice,fillI,Nat.reduceLeDiff,strA,ZK,ZA,Ze,bq_ft,bq_tf,ZG,ZF,ZQ,Zv,Zz,isNilA,nilPtr,nilSl,nilIf,nilFn,nilMap,nilCheckA,if_true,if_false,lt_lit,le_lit,lt_lit2,le_lit2,le_sub1,le_sub2]; rfl), takeE_0 _ _, rfl⟩
    · have hc1 : decide ((i : Int) < (ts.length : Int)) = false := decide_eq_false (by omega)
      rw [List.drop_eq_nil_of_le hge]
      unfold dupW
      simp only [Ze,if_false]
      exact ⟨_, _, H, loopA_exit (by simp only [loopS,I66,IC.loops,Zb,Za,hc1,Zs,Zr,Zp,Za,Zb,evI,opsI,stepI,wantI,opI,AAct.evI,look,AAct.put,mkVal,mkVM,intOpA,intA,shiftA,unA,ZP,ZO,Zh,Zt,reduceIte,Nat.reduceEqDiff,Nat.reduceLT,Zo,Zq,true_and,and_true,and_self,ZB,cellsAt,Zg,ZC,Zf,Zk,ZL,ZM,Nat.reduceAdd,Nat.reduceMul,ZN,AV.cells,AV.one,known,Zn,getE_0,getE_k,setE_0,setE_k,Zc,Zd,Zl,Zm,Zi,Zw,Zu,Zj,Z1,Zx,Zy,ZJ,ZI,ZH,ZD,ZE,splice,fillI,Nat.reduceLeDiff,strA,ZK,ZA,Ze,bq_ft,bq_tf,ZG,ZF,ZQ,Zv,Zz,isNilA,nilPtr,nilSl,nilIf,nilFn,nilMap,nilCheckA,if_true,if_false,lt_lit,le_lit,lt_lit2,le_lit2,le_sub1,le_sub2]; rfl), List.take_length, rfl, rfl, rfl, rfl⟩
end
def isDcl (x : T3) : Bool := (x.1 == nsB) || ((x.1 == []) && (x.2.1 == nsB))
def atrE (es : ES) (x : T3) : T3 := (if (x.1 == []) = true then [] else lkE es x.1, x.2.1, x.2.2)
def atrs (es : ES) (ts : List T3) : List T3 := (ts.filter fun x => !isDcl x).map (atrE es)
def pfxOk (es : ES) (x : T3) : Prop := isDcl x = false → (x.1 == []) = false → (lkE es x.1 == []) = false
theorem atrs_dcl (es : ES) (x : T3) (ts : List T3) (h : isDcl x = true) : atrs es (x :: ts) = atrs es ts := by
  unfold atrs
  rw [List.filter_cons]
  simp only [h,ZG,Ze,if_false]
theorem atrs_no (es : ES) (x : T3) (ts : List T3) (h : isDcl x = false) : atrs es (x :: ts) = atrE es x :: atrs es ts := by
  unfold atrs
  rw [List.filter_cons]
  simp only [h,ZF,if_true,Zv]
section
variable {N : Nat}
theorem atr_loop (n : Nat) (H : Mem) (hlo : lowM H.length H = true) (q st ty mi : Nat) (hmi : mi < H.length) (es : ES) (ts : List T3) (hq : H[q]? = some (.row (trC ts) st ty)) (hil : ts.length < 900) (hok : ∀ x ∈ ts, pfxOk es x) (r1 r2 r3 : T3) : ∀ (fuel i k : Nat) (al : List T3), i ≤ ts.length → ts.length - i < fuel → al.length = k + 1 → k + (ts.length - i) < 2000 →
    ∃ t k', loopA (fun a H => evI Tryz.prog (cfg ml) (evFI Tryz.prog (cfg ml) T N (n + 4)) N (loopS 3) a H) (some [10, 15, 98, 99, 100]) fuel ⟨163, [(10, .map H.length), (15, .slc (H.length + 5) 0 (k + 1) 3 k), (98, .slc q 0 ts.length 3 st), (99, .int .i64 ts.length), (100, .int .i64 i)], []⟩ (H ++ [.map (mapE es), .miter mi 1, .row (c3 r1) 0 (87 + 1), .row (c3 r2) 0 (41 + 1), .row (c3 r3) 0 (41 + 1), .row (trC al) k (41 + 1)]) = some (.exit 7, ⟨163, t, []⟩, H ++ [.map (mapE es), .miter mi 1, .row (c3 r1) 0 (87 + 1), .row (c3 r2) 0 (41 + 1), .row (c3 r3) 0 (41 + 1), .row (trC (al ++ atrs es (ts.drop i))) k' (41 + 1)]) ∧ (al ++ atrs es (ts.drop i)).length = k' + 1 ∧ look t 10 = .map H.length ∧ look t 15 = .slc (H.length + 5) 0 (k' + 1) 3 k'
  | 0, i, k, al, _, h, _, _ => by omega
  | fuel + 1, i, k, al, hi, hf, hk, hk2 => by
    rcases Nat.lt_or_ge i ts.length with hlt | hge
    · have hql : q < H.length := (List.getElem?_eq_some_iff.1 hq).1
      have hd : ts.drop i = ts[i] :: ts.drop (i + 1) := List.drop_eq_getElem_cons hlt
      have hcell : (trC ts).drop (i * 3) = c3 ts[i] ++ trC (ts.drop (i + 1)) := by
        rw [trC_drop, hd]; rfl
      have hlen : i * 3 + 3 ≤ (trC ts).length := by rw [trC_len]; omega
      have hx := hok ts[i] (List.getElem_mem hlt)
      generalize ts[i] = x at *
      have hc1 : decide ((i : Int) < (ts.length : Int)) = true := decide_eq_true (by omega)
      have hn := natOf_nat i .i64
      have hw : IntKind.wrap .i64 ((i : Int) + 1) = ((i + 1 : Nat) : Int) := by rw [wrap64] <;> omega
      have hq2 : ∀ L : Mem, (H ++ L)[q]? = some (.row (trC ts) st ty) := fun L => by rw [List.getElem?_append_left hql]; exact hq
      have z0 : ∀ k : Nat, 0 + k = k := Nat.zero_add
      have qm := fun e H => must_t (P := Tryz.prog) (N := N) (ml := ml) (n + 4) (by omega) e H
      have ql : ∀ (L : Mem) (kk : List UInt8), lookupD .string (.str []) (H ++ .map (mapE es) :: L) (.map H.length) (.str kk) false = some (.str (lkE es kk)) := fun L kk => lookup_str (by rw [getE_0]; rfl) kk
      have p34' : (2 : Nat) ^ 34 = 17179869184 := by decide
      have p34 : k + 1 + 1 ≤ 2 ^ 34 := by omega
      have hal : (trC al).length = (k + 1) * 3 := by rw [trC_len, hk]
      have hsn : ∀ y : T3, trC (al ++ [y]) = trC al ++ c3 y := fun y => by unfold trC; rw [List.flatMap_append]; simp
      have fin : ∀ (a : AAct) (al' : List T3) (k' : Nat) (L : Mem), a.keepT [10, 15, 98, 99, 100] = ⟨163, [(10, .map H.length), (15, .slc (H.length + 5) 0 (k' + 1) 3 k'), (98, .slc q 0 ts.length 3 st), (99, .int .i64 ts.length), (100, .int .i64 (i + 1 : Nat))], []⟩ → roundEnd (some [10, 15, 98, 99, 100]) (H ++ [.map (mapE es), .miter mi 1, .row (c3 r1) 0 (87 + 1), .row (c3 r2) 0 (41 + 1), .row (c3 r3) 0 (41 + 1), .row (trC al) k (41 + 1)]) a (H ++ .map (mapE es) :: .miter mi 1 :: .row (c3 r1) 0 (87 + 1) :: .row (c3 r2) 0 (41 + 1) :: .row (c3 r3) 0 (41 + 1) :: .row (trC al') k' (41 + 1) :: L) = (a.keepT [10, 15, 98, 99, 100], H ++ [.map (mapE es), .miter mi 1, .row (c3 r1) 0 (87 + 1), .row (c3 r2) 0 (41 + 1), .row (c3 r3) 0 (41 + 1), .row (trC al') k' (41 + 1)]) := fun a al' k' L ha => by
        have hlen2 : ∀ x y z u v w : Blk, (H ++ [x, y, z, u, v, w]).length = H.length + 6 := fun _ _ _ _ _ _ => by simp
        have htk : ∀ x y z u v w : Blk, (H ++ x :: y :: z :: u :: v :: w :: L).take (H.length + 6) = H ++ [x, y, z, u, v, w] := fun x y z u v w => by
          rw [show H ++ x :: y :: z :: u :: v :: w :: L = (H ++ [x, y, z, u, v, w]) ++ L by simp]
          exact List.take_left' (hlen2 _ _ _ _ _ _)
        have hd' : a.d = [] := congrArg AAct.d ha
        have trl : ∀ l : List T3, lowL (H.length + 6) (trC l) = true := fun l => by
          induction l with
          | nil => rfl
          | cons y l ih =>
            have e : trC (y :: l) = c3 y ++ trC l := rfl
            rw [e, lowL_app, ih]; rfl
        rw [re_cut (by
          rw [ha, hlen2]
          simp only [lowT,Zx,Zy,low,decide_eq_true (show q < H.length + 6 by omega),decide_eq_true (show H.length < H.length + 6 by omega),decide_eq_true (show H.length + 5 < H.length + 6 by omega),ZI]) (by rw [hd']; rfl) (by
          rw [hlen2, htk]
          unfold lowM at *
          rw [List.all_append, List.all_eq_true.2 fun y hy => lowB_mono (by omega) (List.all_eq_true.1 hlo y hy)]
          simp only [Zx,Zy,lowB,mapE_low,lowL,low,trl,decide_eq_true (show mi < H.length + 6 by omega),ZI,ZH]), hlen2, htk]
      rw [hd]
      unfold pfxOk at hx
      cases b3 : (x.1 == [120, 109, 108, 110, 115])
      · cases b1 : (x.1 == [])
        · have hl := hx (by unfold isDcl nsB; rw [b3, b1]; rfl) b1
          cases b2 : (x.2.1 == [120, 109, 108, 110, 115])
          · have hdc : isDcl x = false := by unfold isDcl nsB; simp only [b1,b2,b3,ZD,ZE,Bool.or_self]
            have hy : atrE es x = (lkE es x.1, x.2.1, x.2.2) := by unfold atrE; rw [b1]; rfl
            rw [atrs_no es x _ hdc, hy]
            obtain ⟨t, k', ht, h1, h2, h3⟩ := atr_loop n H hlo q st ty mi hmi es ts hq hil hok r1 r2 r3 fuel (i + 1) (k + 1) (al ++ [(lkE es x.1, x.2.1, x.2.2)]) (by omega) (by omega) (by simp [hk]) (by omega)
            rw [List.append_assoc, List.singleton_append] at ht h1
            refine ⟨t, k', ?_, h1, h2, h3⟩
            refine loopA_go (H' := H ++ .map (mapE es) :: .miter mi 1 :: .row (c3 r1) 0 (87 + 1) :: .row (c3 r2) 0 (41 + 1) :: .row (c3 r3) 0 (41 + 1) :: .row (trC (al ++ [(lkE es x.1, x.2.1, x.2.2)])) (k + 1) (41 + 1) :: [.row (c3 x) 0 (87 + 1), .row (c3 (lkE es x.1, x.2.1, x.2.2)) 0 (41 + 1), .row (c3 (lkE es x.1, x.2.1, x.2.2)) 0 (41 + 1)]) (by
              rw [hsn]
              simp only [loopS,I66,IC.loops,Zb,Za,hc1,hn,hw,hq2,hcell,hlen,hlt,qm,ql,z0,srcA,held,app2,hal,p34,b1,b2,b3,hl,Zs,Zr,Zp,Za,Zb,evI,opsI,stepI,wantI,opI,AAct.evI,look,AAct.put,mkVal,mkVM,intOpA,intA,shiftA,unA,ZP,ZO,Zh,Zt,reduceIte,Nat.reduceEqDiff,Nat.reduceLT,Zo,Zq,true_and,and_true,and_self,ZB,cellsAt,Zg,ZC,Zf,Zk,ZL,ZM,Nat.reduceAdd,Nat.reduceMul,ZN,AV.cells,AV.one,known,Zn,getE_0,getE_k,setE_0,setE_k,Zc,Zd,Zl,Zm,Zi,Zw,Zu,Zj,Z1,Zx,Zy,ZJ,ZI,ZH,ZD,ZE,splice,fillI,Nat.reduceLeDiff,strA,ZK,ZA,Ze,bq_ft,bq_tf,ZG,ZF,ZQ,Zv,Zz,isNilA,nilPtr,nilSl,nilIf,nilFn,nilMap,nilCheckA,if_true,if_false,lt_lit,le_lit,lt_lit2,le_lit2,le_sub1,le_sub2]; rfl) ?_
            rw [fin _ (al ++ [(lkE es x.1, x.2.1, x.2.2)]) (k + 1) _ rfl]
            exact ht
          · have hdc : isDcl x = false := by unfold isDcl nsB; simp only [b1,b2,b3,ZD,ZE,Bool.or_self]
            have hy : atrE es x = (lkE es x.1, x.2.1, x.2.2) := by unfold atrE; rw [b1]; rfl
            rw [atrs_no es x _ hdc, hy]
            obtain ⟨t, k', ht, h1, h2, h3⟩ := atr_loop n H hlo q st ty mi hmi es ts hq hil hok r1 r2 r3 fuel (i + 1) (k + 1) (al ++ [(lkE es x.1, x.2.1, x.2.2)]) (by omega) (by omega) (by simp [hk]) (by omega)
            rw [List.append_assoc, List.singleton_append] at ht h1
            refine ⟨t, k', ?_, h1, h2, h3⟩
            refine loopA_go (H' := H ++ .map (mapE es) :: .miter mi 1 :: .row (c3 r1) 0 (87 + 1) :: .row (c3 r2) 0 (41 + 1) :: .row (c3 r3) 0 (41 + 1) :: .row (trC (al ++ [(lkE es x.1, x.2.1, x.2.2)])) (k + 1) (41 + 1) :: [.row (c3 x) 0 (87 + 1), .row (c3 (lkE es x.1, x.2.1, x.2.2)) 0 (41 + 1), .row (c3 (lkE es x.1, x.2.1, x.2.2)) 0 (41 + 1)]) (by
              rw [hsn]
              simp only [loopS,I66,IC.loops,Zb,Za,hc1,hn,hw,hq2,hcell,hlen,hlt,qm,ql,z0,srcA,held,app2,hal,p34,b1,b2,b3,hl,Zs,Zr,Zp,Za,Zb,evI,opsI,stepI,wantI,opI,AAct.evI,look,AAct.put,mkVal,mkVM,intOpA,intA,shiftA,unA,ZP,ZO,Zh,Zt,reduceIte,Nat.reduceEqDiff,Nat.reduceLT,Zo,Zq,true_and,and_true,and_self,ZB,cellsAt,Zg,ZC,Zf,Zk,ZL,ZM,Nat.reduceAdd,Nat.reduceMul,ZN,AV.cells,AV.one,known,Zn,getE_0,getE_k,setE_0,setE_k,Zc,Zd,Zl,Zm,Zi,Zw,Zu,Zj,Z1,Zx,Zy,ZJ,ZI,ZH,ZD,ZE,splice,fillI,Nat.reduceLeDiff,strA,ZK,ZA,Ze,bq_ft,bq_tf,ZG,ZF,ZQ,Zv,Zz,isNilA,nilPtr,nilSl,nilIf,nilFn,nilMap,nilCheckA,if_true,if_false,lt_lit,le_lit,lt_lit2,le_lit2,le_sub1,le_sub2]; rfl) ?_
            rw [fin _ (al ++ [(lkE es x.1, x.2.1, x.2.2)]) (k + 1) _ rfl]
            exact ht
        · cases b2 : (x.2.1 == [120, 109, 108, 110, 115])
          · have hdc : isDcl x = false := by unfold isDcl nsB; simp only [b1,b2,b3,ZD,ZE,Bool.or_self]
            have hy : atrE es x = (([] : List UInt8), x.2.1, x.2.2) := by unfold atrE; rw [b1]; rfl
            rw [atrs_no es x _ hdc, hy]
            obtain ⟨t, k', ht, h1, h2, h3⟩ := atr_loop n H hlo q st ty mi hmi es ts hq hil hok r1 r2 r3 fuel (i + 1) (k + 1) (al ++ [(([] : List UInt8), x.2.1, x.2.2)]) (by omega) (by omega) (by simp [hk]) (by omega)
            rw [List.append_assoc, List.singleton_append] at ht h1
            refine ⟨t, k', ?_, h1, h2, h3⟩
            refine loopA_go (H' := H ++ .map (mapE es) :: .miter mi 1 :: .row (c3 r1) 0 (87 + 1) :: .row (c3 r2) 0 (41 + 1) :: .row (c3 r3) 0 (41 + 1) :: .row (trC (al ++ [(([] : List UInt8), x.2.1, x.2.2)])) (k + 1) (41 + 1) :: [.row (c3 x) 0 (87 + 1), .row (c3 (([] : List UInt8), x.2.1, x.2.2)) 0 (41 + 1), .row (c3 (([] : List UInt8), x.2.1, x.2.2)) 0 (41 + 1)]) (by
              rw [hsn]
              simp only [loopS,I66,IC.loops,Zb,Za,hc1,hn,hw,hq2,hcell,hlen,hlt,qm,ql,z0,srcA,held,app2,hal,p34,b1,b2,b3,Zs,Zr,Zp,Za,Zb,evI,opsI,stepI,wantI,opI,AAct.evI,look,AAct.put,mkVal,mkVM,intOpA,intA,shiftA,unA,ZP,ZO,Zh,Zt,reduceIte,Nat.reduceEqDiff,Nat.reduceLT,Zo,Zq,true_and,and_true,and_self,ZB,cellsAt,Zg,ZC,Zf,Zk,ZL,ZM,Nat.reduceAdd,Nat.reduceMul,ZN,AV.cells,AV.one,known,Zn,getE_0,getE_k,setE_0,setE_k,Zc,Zd,Zl,Zm,Zi,Zw,Zu,Zj,Z1,Zx,Zy,ZJ,ZI,ZH,ZD,ZE,splice,fillI,Nat.reduceLeDiff,strA,ZK,ZA,Ze,bq_ft,bq_tf,ZG,ZF,ZQ,Zv,Zz,isNilA,nilPtr,nilSl,nilIf,nilFn,nilMap,nilCheckA,if_true,if_false,lt_lit,le_lit,lt_lit2,le_lit2,le_sub1,le_sub2]; rfl) ?_
            rw [fin _ (al ++ [(([] : List UInt8), x.2.1, x.2.2)]) (k + 1) _ rfl]
            exact ht
          · have hdc : isDcl x = true := by unfold isDcl nsB; rw [b3, b1, b2]; rfl
            rw [atrs_dcl es x _ hdc]
            obtain ⟨t, k', ht, h1, h2, h3⟩ := atr_loop n H hlo q st ty mi hmi es ts hq hil hok r1 r2 r3 fuel (i + 1) k al (by omega) (by omega) hk (by omega)
            refine ⟨t, k', ?_, h1, h2, h3⟩
            refine loopA_go (H' := H ++ .map (mapE es) :: .miter mi 1 :: .row (c3 r1) 0 (87 + 1) :: .row (c3 r2) 0 (41 + 1) :: .row (c3 r3) 0 (41 + 1) :: .row (trC al) k (41 + 1) :: [.row (c3 x) 0 (87 + 1)]) (by simp only [loopS,I66,IC.loops,Zb,Za,hc1,hn,hw,hq2,hcell,hlen,hlt,qm,ql,z0,srcA,held,app2,hal,p34,b1,b2,b3,Zs,Zr,Zp,Za,Zb,evI,opsI,stepI,wantI,opI,AAct.evI,look,AAct.put,mkVal,mkVM,intOpA,intA,shiftA,unA,ZP,ZO,Zh,Zt,reduceIte,Nat.reduceEqDiff,Nat.reduceLT,Zo,Zq,true_and,and_true,and_self,ZB,cellsAt,Zg,ZC,Zf,Zk,ZL,ZM,Nat.reduceAdd,Nat.reduceMul,ZN,AV.cells,AV.one,known,Zn,getE_0,getE_k,setE_0,setE_k,Zc,Zd,Zl,Zm,Zi,Zw,Zu,Zj,Z1,Zx,Zy,ZJ,ZI,ZH,ZD,ZE,splice,fillI,Nat.reduceLeDiff,strA,ZK,ZA,Ze,bq_ft,bq_tf,ZG,ZF,ZQ,Zv,Zz,isNilA,nilPtr,nilSl,nilIf,nilFn,nilMap,nilCheckA,if_true,if_false,lt_lit,le_lit,lt_lit2,le_lit2,le_sub1,le_sub2]; rfl) ?_
            rw [fin _ al k _ rfl]
            exact ht
      · have hdc : isDcl x = true := by unfold isDcl nsB; rw [b3]; rfl
        rw [atrs_dcl es x _ hdc]
        obtain ⟨t, k', ht, h1, h2, h3⟩ := atr_loop n H hlo q st ty mi hmi es ts hq hil hok r1 r2 r3 fuel (i + 1) k al (by omega) (by omega) hk (by omega)
        refine ⟨t, k', ?_, h1, h2, h3⟩
        refine loopA_go (H' := H ++ .map (mapE es) :: .miter mi 1 :: .row (c3 r1) 0 (87 + 1) :: .row (c3 r2) 0 (41 + 1) :: .row (c3 r3) 0 (41 + 1) :: .row (trC al) k (41 + 1) :: [.row (c3 x) 0 (87 + 1)]) (by simp only [loopS,I66,IC.loops,Zb,Za,hc1,hn,hw,hq2,hcell,hlen,hlt,qm,ql,z0,srcA,held,app2,hal,p34,b3,Zs,Zr,Zp,Za,Zb,evI,opsI,stepI,wantI,opI,AAct.evI,look,AAct.put,mkVal,mkVM,intOpA,intA,shiftA,unA,ZP,ZO,Zh,Zt,reduceIte,Nat.reduceEqDiff,Nat.reduceLT,Zo,Zq,true_and,and_true,and_self,ZB,cellsAt,Zg,ZC,Zf,Zk,ZL,ZM,Nat.reduceAdd,Nat.reduceMul,ZN,AV.cells,AV.one,known,Zn,getE_0,getE_k,setE_0,setE_k,Zc,Zd,Zl,Zm,Zi,Zw,Zu,Zj,Z1,Zx,Zy,ZJ,ZI,ZH,ZD,ZE,splice,fillI,Nat.reduceLeDiff,strA,ZK,ZA,Ze,bq_ft,bq_tf,ZG,ZF,ZQ,Zv,Zz,isNilA,nilPtr,nilSl,nilIf,nilFn,nilMap,nilCheckA,if_true,if_false,lt_lit,le_lit,lt_lit2,le_lit2,le_sub1,le_sub2]; rfl) ?_
        rw [fin _ al k _ rfl]
        exact ht
    · have hc1 : decide ((i : Int) < (ts.length : Int)) = false := decide_eq_false (by omega)
      rw [List.drop_eq_nil_of_le hge]
      have e : al ++ atrs es [] = al := by unfold atrs; simp
      rw [e]
      exact ⟨_, k, loopA_exit (by simp only [loopS,I66,IC.loops,Zb,Za,hc1,Zs,Zr,Zp,Za,Zb,evI,opsI,stepI,wantI,opI,AAct.evI,look,AAct.put,mkVal,mkVM,intOpA,intA,shiftA,unA,ZP,ZO,Zh,Zt,reduceIte,Nat.reduceEqDiff,Nat.reduceLT,Zo,Zq,true_and,and_true,and_self,ZB,cellsAt,Zg,ZC,Zf,Zk,ZL,ZM,Nat.reduceAdd,Nat.reduceMul,ZN,AV.cells,AV.one,known,Zn,getE_0,getE_k,setE_0,setE_k,Zc,Zd,Zl,Zm,Zi,Zw,Zu,Zj,Z1,Zx,Zy,ZJ,ZI,ZH,ZD,ZE,splice,fillI,Nat.reduceLeDiff,strA,ZK,ZA,Ze,bq_ft,bq_tf,ZG,ZF,ZQ,Zv,Zz,isNilA,nilPtr,nilSl,nilIf,nilFn,nilMap,nilCheckA,if_true,if_false,lt_lit,le_lit,lt_lit2,le_lit2,le_sub1,le_sub2]; rfl), hk, rfl, rfl⟩
theorem atr_all (n : Nat) (H : Mem) (hlo : lowM H.length H = true) (q st ty mi : Nat) (hmi : mi < H.length) (es : ES) (ts : List T3) (hq : H[q]? = some (.row (trC ts) st ty)) (hil : ts.length < 900) (hok : ∀ x ∈ ts, pfxOk es x) : ∀ (fuel i : Nat), i ≤ ts.length → ts.length - i < fuel →
    ∃ t M, loopA (fun a H => evI Tryz.prog (cfg ml) (evFI Tryz.prog (cfg ml) T N (n + 4)) N (loopS 3) a H) (some [10, 15, 98, 99, 100]) fuel ⟨163, [(10, .map H.length), (15, .nilS), (98, .slc q 0 ts.length 3 st), (99, .int .i64 ts.length), (100, .int .i64 i)], []⟩ (H ++ [.map (mapE es), .miter mi 1]) = some (.exit 7, ⟨163, t, []⟩, M) ∧ look t 10 = .map H.length ∧
      ((atrs es (ts.drop i) = [] ∧ look t 15 = .nilS ∧ M = H ++ [.map (mapE es), .miter mi 1]) ∨ ∃ k' r1 r2 r3, (atrs es (ts.drop i)).length = k' + 1 ∧ look t 15 = .slc (H.length + 5) 0 (k' + 1) 3 k' ∧ M = H ++ [.map (mapE es), .miter mi 1, .row (c3 r1) 0 (87 + 1), .row (c3 r2) 0 (41 + 1), .row (c3 r3) 0 (41 + 1), .row (trC (atrs es (ts.drop i))) k' (41 + 1)])
  | 0, i, _, h => by omega
  | fuel + 1, i, hi, hf => by
    rcases Nat.lt_or_ge i ts.length with hlt | hge
    · have hql : q < H.length := (List.getElem?_eq_some_iff.1 hq).1
      have hd : ts.drop i = ts[i] :: ts.drop (i + 1) := List.drop_eq_getElem_cons hlt
      have hcell : (trC ts).drop (i * 3) = c3 ts[i] ++ trC (ts.drop (i + 1)) := by
        rw [trC_drop, hd]; rfl
      have hlen : i * 3 + 3 ≤ (trC ts).length := by rw [trC_len]; omega
      have hx := hok ts[i] (List.getElem_mem hlt)
      generalize ts[i] = x at *
      have hc1 : decide ((i : Int) < (ts.length : Int)) = true := decide_eq_true (by omega)
      have hn := natOf_nat i .i64
      have hw : IntKind.wrap .i64 ((i : Int) + 1) = ((i + 1 : Nat) : Int) := by rw [wrap64] <;> omega
      have hq2 : ∀ L : Mem, (H ++ L)[q]? = some (.row (trC ts) st ty) := fun L => by rw [List.getElem?_append_left hql]; exact hq
      have z0 : ∀ k : Nat, 0 + k = k := Nat.zero_add
      have qm := fun e H => must_t (P := Tryz.prog) (N := N) (ml := ml) (n + 4) (by omega) e H
      have ql : ∀ (L : Mem) (kk : List UInt8), lookupD .string (.str []) (H ++ .map (mapE es) :: L) (.map H.length) (.str kk) false = some (.str (lkE es kk)) := fun L kk => lookup_str (by rw [getE_0]; rfl) kk
      have p34 : (1 : Nat) ≤ 2 ^ 34 := by decide
      have hlen3 : (H ++ [Blk.map (mapE es), .miter mi 1]).length = H.length + 2 := by simp
      have fin : ∀ (a : AAct), a.keepT [10, 15, 98, 99, 100] = ⟨163, [(10, .map H.length), (15, .nilS), (98, .slc q 0 ts.length 3 st), (99, .int .i64 ts.length), (100, .int .i64 (i + 1 : Nat))], []⟩ → roundEnd (some [10, 15, 98, 99, 100]) (H ++ [.map (mapE es), .miter mi 1]) a (H ++ [.map (mapE es), .miter mi 1, .row (c3 x) 0 (87 + 1)]) = (a.keepT [10, 15, 98, 99, 100], H ++ [.map (mapE es), .miter mi 1]) := fun a ha => by
        have htk : (H ++ [Blk.map (mapE es), .miter mi 1, .row (c3 x) 0 (87 + 1)]).take (H.length + 2) = H ++ [.map (mapE es), .miter mi 1] := by
          rw [show H ++ [Blk.map (mapE es), .miter mi 1, .row (c3 x) 0 (87 + 1)] = (H ++ [.map (mapE es), .miter mi 1]) ++ [.row (c3 x) 0 (87 + 1)] by simp]
          exact List.take_left' hlen3
        have hd' : a.d = [] := congrArg AAct.d ha
        rw [re_cut (by
          rw [ha, hlen3]
          simp only [lowT,Zx,Zy,low,decide_eq_true (show q < H.length + 2 by omega),decide_eq_true (show H.length < H.length + 2 by omega),ZI]) (by rw [hd']; rfl) (by
          rw [hlen3, htk]
          unfold lowM at *
          rw [List.all_append, List.all_eq_true.2 fun y hy => lowB_mono (by omega) (List.all_eq_true.1 hlo y hy)]
          simp only [Zx,Zy,lowB,mapE_low,decide_eq_true (show mi < H.length + 2 by omega),ZI,ZH]), hlen3, htk]
      rw [hd]
      unfold pfxOk at hx
      cases b3 : (x.1 == [120, 109, 108, 110, 115])
      · cases b1 : (x.1 == [])
        · have hl := hx (by unfold isDcl nsB; rw [b3, b1]; rfl) b1
          cases b2 : (x.2.1 == [120, 109, 108, 110, 115])
          · have hdc : isDcl x = false := by unfold isDcl nsB; simp only [b1,b2,b3,ZD,ZE,Bool.or_self]
            have hy : atrE es x = (lkE es x.1, x.2.1, x.2.2) := by unfold atrE; rw [b1]; rfl
            rw [atrs_no es x _ hdc, hy]
            obtain ⟨t, k', ht, h1, h2, h3⟩ := atr_loop (ml := ml) n H hlo q st ty mi hmi es ts hq hil hok x (lkE es x.1, x.2.1, x.2.2) (lkE es x.1, x.2.1, x.2.2) fuel (i + 1) 0 [(lkE es x.1, x.2.1, x.2.2)] (by omega) (by omega) rfl (by omega)
            rw [List.singleton_append] at ht h1
            refine ⟨t, _, ?_, h2, .inr ⟨k', x, (lkE es x.1, x.2.1, x.2.2), (lkE es x.1, x.2.1, x.2.2), h1, h3, rfl⟩⟩
            refine loopA_go (H' := H ++ [.map (mapE es), .miter mi 1, .row (c3 x) 0 (87 + 1), .row (c3 (lkE es x.1, x.2.1, x.2.2)) 0 (41 + 1), .row (c3 (lkE es x.1, x.2.1, x.2.2)) 0 (41 + 1), .row (trC [(lkE es x.1, x.2.1, x.2.2)]) 0 (41 + 1)]) (by
              simp only [loopS,I66,IC.loops,Zb,Za,hc1,hn,hw,hq2,hcell,hlen,hlt,qm,ql,z0,srcA,held,app2,p34,b1,b2,b3,hl,Zs,Zr,Zp,Za,Zb,evI,opsI,stepI,wantI,opI,AAct.evI,look,AAct.put,mkVal,mkVM,intOpA,intA,shiftA,unA,ZP,ZO,Zh,Zt,reduceIte,Nat.reduceEqDiff,Nat.reduceLT,Zo,Zq,true_and,and_true,and_self,ZB,cellsAt,Zg,ZC,Zf,Zk,ZL,ZM,Nat.reduceAdd,Nat.reduceMul,ZN,AV.cells,AV.one,known,Zn,getE_0,getE_k,setE_0,setE_k,Zc,Zd,Zl,Zm,Zi,Zw,Zu,Zj,Z1,Zx,Zy,ZJ,ZI,ZH,ZD,ZE,splice,fillI,Nat.reduceLeDiff,strA,ZK,ZA,Ze,bq_ft,bq_tf,ZG,ZF,ZQ,Zv,Zz,isNilA,nilPtr,nilSl,nilIf,nilFn,nilMap,nilCheckA,if_true,if_false,lt_lit,le_lit,lt_lit2,le_lit2,le_sub1,le_sub2]; rfl) ?_
            rw [re_hold (by
              rw [hlen3]
              simp only [AAct.keepT,lowT,Zv,Zz,look,AAct.put,reduceIte,Nat.reduceEqDiff,Zx,Zy,low,decide_eq_false (show ¬ H.length + 5 < H.length + 2 by omega),ZD,ZE])]
            exact ht
          · have hdc : isDcl x = false := by unfold isDcl nsB; simp only [b1,b2,b3,ZD,ZE,Bool.or_self]
            have hy : atrE es x = (lkE es x.1, x.2.1, x.2.2) := by unfold atrE; rw [b1]; rfl
            rw [atrs_no es x _ hdc, hy]
            obtain ⟨t, k', ht, h1, h2, h3⟩ := atr_loop (ml := ml) n H hlo q st ty mi hmi es ts hq hil hok x (lkE es x.1, x.2.1, x.2.2) (lkE es x.1, x.2.1, x.2.2) fuel (i + 1) 0 [(lkE es x.1, x.2.1, x.2.2)] (by omega) (by omega) rfl (by omega)
            rw [List.singleton_append] at ht h1
            refine ⟨t, _, ?_, h2, .inr ⟨k', x, (lkE es x.1, x.2.1, x.2.2), (lkE es x.1, x.2.1, x.2.2), h1, h3, rfl⟩⟩
            refine loopA_go (H' := H ++ [.map (mapE es), .miter mi 1, .row (c3 x) 0 (87 + 1), .row (c3 (lkE es x.1, x.2.1, x.2.2)) 0 (41 + 1), .row (c3 (lkE es x.1, x.2.1, x.2.2)) 0 (41 + 1), .row (trC [(lkE es x.1, x.2.1, x.2.2)]) 0 (41 + 1)]) (by
              simp only [loopS,I66,IC.loops,Zb,Za,hc1,hn,hw,hq2,hcell,hlen,hlt,qm,ql,z0,srcA,held,app2,p34,b1,b2,b3,hl,Zs,Zr,Zp,Za,Zb,evI,opsI,stepI,wantI,opI,AAct.evI,look,AAct.put,mkVal,mkVM,intOpA,intA,shiftA,unA,ZP,ZO,Zh,Zt,reduceIte,Nat.reduceEqDiff,Nat.reduceLT,Zo,Zq,true_and,and_true,and_self,ZB,cellsAt,Zg,ZC,Zf,Zk,ZL,ZM,Nat.reduceAdd,Nat.reduceMul,ZN,AV.cells,AV.one,known,Zn,getE_0,getE_k,setE_0,setE_k,Zc,Zd,Zl,Zm,Zi,Zw,Zu,Zj,Z1,Zx,Zy,ZJ,ZI,ZH,ZD,ZE,splice,fillI,Nat.reduceLeDiff,strA,ZK,ZA,Ze,bq_ft,bq_tf,ZG,ZF,ZQ,Zv,Zz,isNilA,nilPtr,nilSl,nilIf,nilFn,nilMap,nilCheckA,if_true,if_false,lt_lit,le_lit,lt_lit2,le_lit2,le_sub1,le_sub2]; rfl) ?_
            rw [re_hold (by
              rw [hlen3]
              simp only [AAct.keepT,lowT,Zv,Zz,look,AAct.put,reduceIte,Nat.reduceEqDiff,Zx,Zy,low,decide_eq_false (show ¬ H.length + 5 < H.length + 2 by omega),ZD,ZE])]
            exact ht
        · cases b2 : (x.2.1 == [120, 109, 108, 110, 115])
          · have hdc : isDcl x = false := by unfold isDcl nsB; simp only [b1,b2,b3,ZD,ZE,Bool.or_self]
            have hy : atrE es x = (([] : List UInt8), x.2.1, x.2.2) := by unfold atrE; rw [b1]; rfl
            rw [atrs_no es x _ hdc, hy]
            obtain ⟨t, k', ht, h1, h2, h3⟩ := atr_loop (ml := ml) n H hlo q st ty mi hmi es ts hq hil hok x (([] : List UInt8), x.2.1, x.2.2) (([] : List UInt8), x.2.1, x.2.2) fuel (i + 1) 0 [(([] : List UInt8), x.2.1, x.2.2)] (by omega) (by omega) rfl (by omega)
            rw [List.singleton_append] at ht h1
            refine ⟨t, _, ?_, h2, .inr ⟨k', x, (([] : List UInt8), x.2.1, x.2.2), (([] : List UInt8), x.2.1, x.2.2), h1, h3, rfl⟩⟩
            refine loopA_go (H' := H ++ [.map (mapE es), .miter mi 1, .row (c3 x) 0 (87 + 1), .row (c3 (([] : List UInt8), x.2.1, x.2.2)) 0 (41 + 1), .row (c3 (([] : List UInt8), x.2.1, x.2.2)) 0 (41 + 1), .row (trC [(([] : List UInt8), x.2.1, x.2.2)]) 0 (41 + 1)]) (by
              simp only [loopS,I66,IC.loops,Zb,Za,hc1,hn,hw,hq2,hcell,hlen,hlt,qm,ql,z0,srcA,held,app2,p34,b1,b2,b3,Zs,Zr,Zp,Za,Zb,evI,opsI,stepI,wantI,opI,AAct.evI,look,AAct.put,mkVal,mkVM,intOpA,intA,shiftA,unA,ZP,ZO,Zh,Zt,reduceIte,Nat.reduceEqDiff,Nat.reduceLT,Zo,Zq,true_and,and_true,and_self,ZB,cellsAt,Zg,ZC,Zf,Zk,ZL,ZM,Nat.reduceAdd,Nat.reduceMul,ZN,AV.cells,AV.one,known,Zn,getE_0,getE_k,setE_0,setE_k,Zc,Zd,Zl,Zm,Zi,Zw,Zu,Zj,Z1,Zx,Zy,ZJ,ZI,ZH,ZD,ZE,splice,fillI,Nat.reduceLeDiff,strA,ZK,ZA,Ze,bq_ft,bq_tf,ZG,ZF,ZQ,Zv,Zz,isNilA,nilPtr,nilSl,nilIf,nilFn,nilMap,nilCheckA,if_true,if_false,lt_lit,le_lit,lt_lit2,le_lit2,le_sub1,le_sub2]; rfl) ?_
            rw [re_hold (by
              rw [hlen3]
              simp only [AAct.keepT,lowT,Zv,Zz,look,AAct.put,reduceIte,Nat.reduceEqDiff,Zx,Zy,low,decide_eq_false (show ¬ H.length + 5 < H.length + 2 by omega),ZD,ZE])]
            exact ht
          · have hdc : isDcl x = true := by unfold isDcl nsB; rw [b3, b1, b2]; rfl
            rw [atrs_dcl es x _ hdc]
            obtain ⟨t, M, ht, h1, h2⟩ := atr_all n H hlo q st ty mi hmi es ts hq hil hok fuel (i + 1) (by omega) (by omega)
            refine ⟨t, M, ?_, h1, h2⟩
            refine loopA_go (H' := H ++ [.map (mapE es), .miter mi 1, .row (c3 x) 0 (87 + 1)]) (by simp only [loopS,I66,IC.loops,Zb,Za,hc1,hn,hw,hq2,hcell,hlen,hlt,qm,ql,z0,srcA,held,app2,p34,b1,b2,b3,Zs,Zr,Zp,Za,Zb,evI,opsI,stepI,wantI,opI,AAct.evI,look,AAct.put,mkVal,mkVM,intOpA,intA,shiftA,unA,ZP,ZO,Zh,Zt,reduceIte,Nat.reduceEqDiff,Nat.reduceLT,Zo,Zq,true_and,and_true,and_self,ZB,cellsAt,Zg,ZC,Zf,Zk,ZL,ZM,Nat.reduceAdd,Nat.reduceMul,ZN,AV.cells,AV.one,known,Zn,getE_0,getE_k,setE_0,setE_k,Zc,Zd,Zl,Zm,Zi,Zw,Zu,Zj,Z1,Zx,Zy,ZJ,ZI,ZH,ZD,ZE,splice,fillI,Nat.reduceLeDiff,strA,ZK,ZA,Ze,bq_ft,bq_tf,ZG,ZF,ZQ,Zv,Zz,isNilA,nilPtr,nilSl,nilIf,nilFn,nilMap,nilCheckA,if_true,if_false,lt_lit,le_lit,lt_lit2,le_lit2,le_sub1,le_sub2]; rfl) ?_
            rw [fin _ rfl]
            exact ht
      · have hdc : isDcl x = true := by unfold isDcl nsB; rw [b3]; rfl
        rw [atrs_dcl es x _ hdc]
        obtain ⟨t, M, ht, h1, h2⟩ := atr_all n H hlo q st ty mi hmi es ts hq hil hok fuel (i + 1) (by omega) (by omega)
        refine ⟨t, M, ?_, h1, h2⟩
        refine loopA_go (H' := H ++ [.map (mapE es), .miter mi 1, .row (c3 x) 0 (87 + 1)]) (by simp only [loopS,I66,IC.loops,Zb,Za,hc1,hn,hw,hq2,hcell,hlen,hlt,qm,ql,z0,srcA,held,app2,p34,b3,Zs,Zr,Zp,Za,Zb,evI,opsI,stepI,wantI,opI,AAct.evI,look,AAct.put,mkVal,mkVM,intOpA,intA,shiftA,unA,ZP,ZO,Zh,Zt,reduceIte,Nat.reduceEqDiff,Nat.reduceLT,Zo,Zq,true_and,and_true,and_self,ZB,cellsAt,Zg,ZC,Zf,Zk,ZL,ZM,Nat.reduceAdd,Nat.reduceMul,ZN,AV.cells,AV.one,known,Zn,getE_0,getE_k,setE_0,setE_k,Zc,Zd,Zl,Zm,Zi,Zw,Zu,Zj,Z1,Zx,Zy,ZJ,ZI,ZH,ZD,ZE,splice,fillI,Nat.reduceLeDiff,strA,ZK,ZA,Ze,bq_ft,bq_tf,ZG,ZF,ZQ,Zv,Zz,isNilA,nilPtr,nilSl,nilIf,nilFn,nilMap,nilCheckA,if_true,if_false,lt_lit,le_lit,lt_lit2,le_lit2,le_sub1,le_sub2]; rfl) ?_
        rw [fin _ rfl]
        exact ht
    · have hc1 : decide ((i : Int) < (ts.length : Int)) = false := decide_eq_false (by omega)
      rw [List.drop_eq_nil_of_le hge]
      exact ⟨_, _, loopA_exit (by simp only [loopS,I66,IC.loops,Zb,Za,hc1,Zs,Zr,Zp,Za,Zb,evI,opsI,stepI,wantI,opI,AAct.evI,look,AAct.put,mkVal,mkVM,intOpA,intA,shiftA,unA,ZP,ZO,Zh,Zt,reduceIte,Nat.reduceEqDiff,Nat.reduceLT,Zo,Zq,true_and,and_true,and_self,ZB,cellsAt,Zg,ZC,Zf,Zk,ZL,ZM,Nat.reduceAdd,Nat.reduceMul,ZN,AV.cells,AV.one,known,Zn,getE_0,getE_k,setE_0,setE_k,Zc,Zd,Zl,Zm,Zi,Zw,Zu,Zj,Z1,Zx,Zy,ZJ,ZI,ZH,ZD,ZE,splice,fillI,Nat.reduceLeDiff,strA,ZK,ZA,Ze,bq_ft,bq_tf,ZG,ZF,ZQ,Zv,Zz,isNilA,nilPtr,nilSl,nilIf,nilFn,nilMap,nilCheckA,if_true,if_false,lt_lit,le_lit,lt_lit2,le_lit2,le_sub1,le_sub2]; rfl), rfl, .inl ⟨rfl, rfl, rfl⟩⟩
end
section
variable {N : Nat}
theorem spaced_pre (hN : 1000 < N) (n : Nat) (H : Mem) (hlo : lowM H.length H = true) (q st ty mi : Nat) (k0 v0 : List UInt8) (hm : H[mi]? = some (.map (mapE [(k0, v0)]))) (ts : List T3) (hq : H[q]? = some (.row (trC ts) st ty)) (hil : ts.length < 900) (hdup : dupW [] ts = false) (hok : ∀ x ∈ ts, dclOk x) :
    ∃ t, look t 2 = .slc q 0 ts.length 3 st ∧ look t 10 = .map H.length ∧ look t 15 = .nilS ∧
      evI Tryz.prog (cfg ml) (evFI Tryz.prog (cfg ml) T N (n + 4)) N I66.c ⟨163, [(0, .map mi), (1, .str []), (2, .slc q 0 ts.length 3 st)], []⟩ H = evI Tryz.prog (cfg ml) (evFI Tryz.prog (cfg ml) T N (n + 4)) N (I66.c.nb 7) ⟨163, t, []⟩ (H ++ [.map (mapE (ts.foldl dclE [(k0, v0)])), .miter mi 1]) := by
  have hlt : mi < H.length := (List.getElem?_eq_some_iff.1 hm).1
  have hm2 : ∀ L : Mem, (H ++ L)[mi]? = some (.map (mapE [(k0, v0)])) := fun L => by rw [List.getElem?_append_left hlt]; exact hm
  have hm3 : ∀ L : Mem, (H ++ L)[mi]? = some (.map [(.str k0, .str v0)]) := hm2
  have hr : ∀ (ρ : Operand → AV), ρ (.tmp 37) = .map mi → exec1 Tryz.prog ρ (opAt Tryz.f66 24) (H ++ [.map []]) = some (.val (.ptr (H ++ [Blk.map []]).length 0 0) (H ++ [.map []] ++ [.miter mi 0])) := fun ρ h => range_map h (hm3 _)
  obtain ⟨t0, o, H', ht0, _, h0⟩ := dup_loop (ml := ml) (N := N) hN n H hlo q st ty mi hlt [] ts hq hil N 0 (by omega) (by omega)
  rw [List.take_zero, List.drop_zero, hdup] at h0
  simp only [Ze,if_false] at h0
  obtain ⟨rfl, rfl, l0, l1, l2⟩ := h0
  obtain ⟨t2, ht2, m1, m2, m10⟩ := dcl_loop (ml := ml) (N := N) n H' hlo q st ty mi hlt [] ts hq hil hok N 0 [(k0, v0)] (by omega) (by omega)
  rw [List.drop_zero] at ht2
  have hM := fun e H => must_t (P := Tryz.prog) (N := N) (ml := ml) (n + 4) (by omega) e H
  obtain ⟨N, rfl⟩ : ∃ m, N = m + 2 := ⟨N - 2, by omega⟩
  refine ⟨?t, ?g2, ?g10, ?g15, ?main⟩
  case main =>
    apply evI_seq
    · simp only [Zs,Zr,Zp,Za,Zb,evI,opsI,stepI,wantI,opI,AAct.evI,look,AAct.put,mkVal,mkVM,intOpA,intA,shiftA,unA,ZP,ZO,Zh,Zt,reduceIte,Nat.reduceEqDiff,Nat.reduceLT,Zo,Zq,true_and,and_true,and_self,ZB,cellsAt,Zg,ZC,Zf,Zk,ZL,ZM,Nat.reduceAdd,Nat.reduceMul,ZN,AV.cells,AV.one,known,Zn,getE_0,getE_k,setE_0,setE_k,Zc,Zd,Zl,Zm,Zi,Zw,Zu,Zj,Z1,Zx,Zy,ZJ,ZI,ZH,ZD,ZE,splice,fillI,Nat.reduceLeDiff,strA,ZK,ZA,Ze,bq_ft,bq_tf,ZG,ZF,ZQ,Zv,Zz,isNilA,nilPtr,nilSl,nilIf,nilFn,nilMap,nilCheckA,if_true,if_false,lt_lit,le_lit,lt_lit2,le_lit2,le_sub1,le_sub2]; rfl
    apply evI_seq
    · apply evI_seq
      · simp only [Zs,Zr,Zp,Za,Zb,evI,opsI,stepI,wantI,opI,AAct.evI,look,AAct.put,mkVal,mkVM,intOpA,intA,shiftA,unA,ZP,ZO,Zh,Zt,reduceIte,Nat.reduceEqDiff,Nat.reduceLT,Zo,Zq,true_and,and_true,and_self,ZB,cellsAt,Zg,ZC,Zf,Zk,ZL,ZM,Nat.reduceAdd,Nat.reduceMul,ZN,AV.cells,AV.one,known,Zn,getE_0,getE_k,setE_0,setE_k,Zc,Zd,Zl,Zm,Zi,Zw,Zu,Zj,Z1,Zx,Zy,ZJ,ZI,ZH,ZD,ZE,splice,fillI,Nat.reduceLeDiff,strA,ZK,ZA,Ze,bq_ft,bq_tf,ZG,ZF,ZQ,Zv,Zz,isNilA,nilPtr,nilSl,nilIf,nilFn,nilMap,nilCheckA,if_true,if_false,lt_lit,le_lit,lt_lit2,le_lit2,le_sub1,le_sub2]; rfl
      apply evI_block_exit
      apply evI_loop
      exact ht0
    apply evI_seq
    · simp only [Zs,Zr,Zp,Za,Zb,evI,opsI,stepI,wantI,opI,AAct.evI,look,AAct.put,mkVal,mkVM,intOpA,intA,shiftA,unA,ZP,ZO,Zh,Zt,reduceIte,Nat.reduceEqDiff,Nat.reduceLT,Zo,Zq,true_and,and_true,and_self,ZB,cellsAt,Zg,ZC,Zf,Zk,ZL,ZM,Nat.reduceAdd,Nat.reduceMul,ZN,AV.cells,AV.one,known,Zn,getE_0,getE_k,setE_0,setE_k,Zc,Zd,Zl,Zm,Zi,Zw,Zu,Zj,Z1,Zx,Zy,ZJ,ZI,ZH,ZD,ZE,splice,fillI,Nat.reduceLeDiff,strA,ZK,ZA,Ze,bq_ft,bq_tf,ZG,ZF,ZQ,Zv,Zz,isNilA,nilPtr,nilSl,nilIf,nilFn,nilMap,nilCheckA,if_true,if_false,lt_lit,le_lit,lt_lit2,le_lit2,le_sub1,le_sub2]; rfl
    apply evI_seq
    · apply evI_seq
      · simp only [AAct.eval,l0,hr,Zs,Zr,Zp,Za,Zb,evI,opsI,stepI,wantI,opI,AAct.evI,look,AAct.put,mkVal,mkVM,intOpA,intA,shiftA,unA,ZP,ZO,Zh,Zt,reduceIte,Nat.reduceEqDiff,Nat.reduceLT,Zo,Zq,true_and,and_true,and_self,ZB,cellsAt,Zg,ZC,Zf,Zk,ZL,ZM,Nat.reduceAdd,Nat.reduceMul,ZN,AV.cells,AV.one,known,Zn,getE_0,getE_k,setE_0,setE_k,Zc,Zd,Zl,Zm,Zi,Zw,Zu,Zj,Z1,Zx,Zy,ZJ,ZI,ZH,ZD,ZE,splice,fillI,Nat.reduceLeDiff,strA,ZK,ZA,Ze,bq_ft,bq_tf,ZG,ZF,ZQ,Zv,Zz,isNilA,nilPtr,nilSl,nilIf,nilFn,nilMap,nilCheckA,if_true,if_false,lt_lit,le_lit,lt_lit2,le_lit2,le_sub1,le_sub2]; rfl
      apply evI_block_exit
      apply evI_loop
      refine loopA_go (H' := H' ++ [.map [(.str k0, .str v0)], .miter mi 1]) (by simp only [AAct.keepT,nextA,entryA,updateD,findA,isKey,mkM,hm3,l1,l2,Zn,Zo,Zs,Zr,Zp,Za,Zb,evI,opsI,stepI,wantI,opI,AAct.evI,look,AAct.put,mkVal,mkVM,intOpA,intA,shiftA,unA,ZP,ZO,Zh,Zt,reduceIte,Nat.reduceEqDiff,Nat.reduceLT,Zo,Zq,true_and,and_true,and_self,ZB,cellsAt,Zg,ZC,Zf,Zk,ZL,ZM,Nat.reduceAdd,Nat.reduceMul,ZN,AV.cells,AV.one,known,Zn,getE_0,getE_k,setE_0,setE_k,Zc,Zd,Zl,Zm,Zi,Zw,Zu,Zj,Z1,Zx,Zy,ZJ,ZI,ZH,ZD,ZE,splice,fillI,Nat.reduceLeDiff,strA,ZK,ZA,Ze,bq_ft,bq_tf,ZG,ZF,ZQ,Zv,Zz,isNilA,nilPtr,nilSl,nilIf,nilFn,nilMap,nilCheckA,if_true,if_false,lt_lit,le_lit,lt_lit2,le_lit2,le_sub1,le_sub2]; rfl) ?_
      rw [re_len (by simp)]
      apply loopA_exit
      simp only [AAct.keepT,nextA,hm3,l1,l2,Zs,Zr,Zp,Za,Zb,evI,opsI,stepI,wantI,opI,AAct.evI,look,AAct.put,mkVal,mkVM,intOpA,intA,shiftA,unA,ZP,ZO,Zh,Zt,reduceIte,Nat.reduceEqDiff,Nat.reduceLT,Zo,Zq,true_and,and_true,and_self,ZB,cellsAt,Zg,ZC,Zf,Zk,ZL,ZM,Nat.reduceAdd,Nat.reduceMul,ZN,AV.cells,AV.one,known,Zn,getE_0,getE_k,setE_0,setE_k,Zc,Zd,Zl,Zm,Zi,Zw,Zu,Zj,Z1,Zx,Zy,ZJ,ZI,ZH,ZD,ZE,splice,fillI,Nat.reduceLeDiff,strA,ZK,ZA,Ze,bq_ft,bq_tf,ZG,ZF,ZQ,Zv,Zz,isNilA,nilPtr,nilSl,nilIf,nilFn,nilMap,nilCheckA,if_true,if_false,lt_lit,le_lit,lt_lit2,le_lit2,le_sub1,le_sub2]; rfl
    apply evI_seq (H' := H' ++ [.map (mapE (ts.foldl dclE [(k0, v0)])), .miter mi 1])
    · apply evI_seq (H' := H' ++ [.map (mapE [(k0, v0)]), .miter mi 1])
      · simp only [Zs,Zr,Zp,Za,Zb,evI,opsI,stepI,wantI,opI,AAct.evI,look,AAct.put,mkVal,mkVM,intOpA,intA,shiftA,unA,ZP,ZO,Zh,Zt,reduceIte,Nat.reduceEqDiff,Nat.reduceLT,Zo,Zq,true_and,and_true,and_self,ZB,cellsAt,Zg,ZC,Zf,Zk,ZL,ZM,Nat.reduceAdd,Nat.reduceMul,ZN,AV.cells,AV.one,known,Zn,getE_0,getE_k,setE_0,setE_k,Zc,Zd,Zl,Zm,Zi,Zw,Zu,Zj,Z1,Zx,Zy,ZJ,ZI,ZH,ZD,ZE,splice,fillI,Nat.reduceLeDiff,strA,ZK,ZA,Ze,bq_ft,bq_tf,ZG,ZF,ZQ,Zv,Zz,isNilA,nilPtr,nilSl,nilIf,nilFn,nilMap,nilCheckA,if_true,if_false,lt_lit,le_lit,lt_lit2,le_lit2,le_sub1,le_sub2]; rfl
      apply evI_block_exit
      apply evI_loop
      exact ht2
    apply evI_seq
    · simp only [m1,hM,Zs,Zr,Zp,Za,Zb,evI,opsI,stepI,wantI,opI,AAct.evI,look,AAct.put,mkVal,mkVM,intOpA,intA,shiftA,unA,ZP,ZO,Zh,Zt,reduceIte,Nat.reduceEqDiff,Nat.reduceLT,Zo,Zq,true_and,and_true,and_self,ZB,cellsAt,Zg,ZC,Zf,Zk,ZL,ZM,Nat.reduceAdd,Nat.reduceMul,ZN,AV.cells,AV.one,known,Zn,getE_0,getE_k,setE_0,setE_k,Zc,Zd,Zl,Zm,Zi,Zw,Zu,Zj,Z1,Zx,Zy,ZJ,ZI,ZH,ZD,ZE,splice,fillI,Nat.reduceLeDiff,strA,ZK,ZA,Ze,bq_ft,bq_tf,ZG,ZF,ZQ,Zv,Zz,isNilA,nilPtr,nilSl,nilIf,nilFn,nilMap,nilCheckA,if_true,if_false,lt_lit,le_lit,lt_lit2,le_lit2,le_sub1,le_sub2]; rfl
    apply evI_seq
    · simp only [Zs,Zr,Zp,Za,Zb,evI,opsI,stepI,wantI,opI,AAct.evI,look,AAct.put,mkVal,mkVM,intOpA,intA,shiftA,unA,ZP,ZO,Zh,Zt,reduceIte,Nat.reduceEqDiff,Nat.reduceLT,Zo,Zq,true_and,and_true,and_self,ZB,cellsAt,Zg,ZC,Zf,Zk,ZL,ZM,Nat.reduceAdd,Nat.reduceMul,ZN,AV.cells,AV.one,known,Zn,getE_0,getE_k,setE_0,setE_k,Zc,Zd,Zl,Zm,Zi,Zw,Zu,Zj,Z1,Zx,Zy,ZJ,ZI,ZH,ZD,ZE,splice,fillI,Nat.reduceLeDiff,strA,ZK,ZA,Ze,bq_ft,bq_tf,ZG,ZF,ZQ,Zv,Zz,isNilA,nilPtr,nilSl,nilIf,nilFn,nilMap,nilCheckA,if_true,if_false,lt_lit,le_lit,lt_lit2,le_lit2,le_sub1,le_sub2]; rfl
    rfl
  case g2 => exact m2
  case g10 => exact m10
  case g15 => rfl
theorem spaced_w (hN : 1000 < N) (n : Nat) (H : Mem) (hlo : lowM H.length H = true) (q st ty mi : Nat) (k0 v0 : List UInt8) (hm : H[mi]? = some (.map (mapE [(k0, v0)]))) (ts : List T3) (hq : H[q]? = some (.row (trC ts) st ty)) (hil : ts.length < 900) (hdup : dupW [] ts = false) (hok : ∀ x ∈ ts, dclOk x) (es : ES) (hes : es = ts.foldl dclE [(k0, v0)]) (hpf : ∀ x ∈ ts, pfxOk es x) (hne : 0 < (atrs es ts).length) (hal : (atrs es ts).length < 900) :
    ∃ r1 r2 r3 k', (atrs es ts).length = k' + 1 ∧
      if dupW [] (atrs es ts) = true then ∃ M, evFI Tryz.prog (cfg ml) T N (n + 5) 66 [.map mi, .str [], .slc q 0 ts.length 3 st] H = some (.pan (failv 8), M) ∧ M.take H.length = H
      else evFI Tryz.prog (cfg ml) T N (n + 5) 66 [.map mi, .str [], .slc q 0 ts.length 3 st] H = some (.ret (.tup [.map H.length, .slc (H.length + 5) 0 (k' + 1) 3 k']), H ++ [.map (mapE es), .miter mi 1, .row (c3 r1) 0 (87 + 1), .row (c3 r2) 0 (41 + 1), .row (c3 r3) 0 (41 + 1), .row (trC (atrs es ts)) k' (41 + 1)]) := by
  have hlt : mi < H.length := (List.getElem?_eq_some_iff.1 hm).1
  obtain ⟨t, l2, l10, l15, hpre⟩ := spaced_pre (ml := ml) (N := N) hN n H hlo q st ty mi k0 v0 hm ts hq hil hdup hok
  rw [← hes] at hpre
  obtain ⟨t3, M, ht3, m10, hM⟩ := atr_all (ml := ml) (N := N) n H hlo q st ty mi hlt es ts hq hil hpf N 0 (by omega) (by omega)
  rw [List.drop_zero] at hM
  rcases hM with ⟨h0, _⟩ | ⟨k', r1, r2, r3, hk, m15, hMe⟩
  · rw [h0] at hne; cases hne
  refine ⟨r1, r2, r3, k', hk, ?_⟩
  have hMl : M.length = H.length + 6 := by rw [hMe]; simp
  have hMt : M.take H.length = H := by rw [hMe]; exact takeE_0 _ _
  have hMq : M[H.length + 5]? = some (.row (trC (atrs es ts)) k' (41 + 1)) := by rw [hMe, getE_k]; rfl
  have trl : ∀ l : List T3, lowL M.length (trC l) = true := fun l => by
    induction l with
    | nil => rfl
    | cons y l ih =>
      have e : trC (y :: l) = c3 y ++ trC l := rfl
      rw [e, lowL_app, ih]; rfl
  have hMlo : lowM M.length M = true := by
    have g : ∀ n2, M.length = n2 → lowM n2 M = true := fun n2 hn2 => by
      rw [hMe]
      unfold lowM at *
      rw [List.all_append, List.all_eq_true.2 fun y hy => lowB_mono (by omega) (List.all_eq_true.1 hlo y hy)]
      simp only [Zx,Zy,lowB,mapE_low,lowL,low,← hn2,trl,decide_eq_true (show mi < M.length by omega),ZI,ZH]
    exact g _ rfl
  obtain ⟨t4, o, M2, ht4, h1, h2⟩ := dupA_loop (ml := ml) (N := N) hN n M hMlo (H.length + 5) k' (41 + 1) H.length (by omega) (atrs es ts) hMq hal N 0 (by omega) (by omega)
  rw [List.take_zero, List.drop_zero] at h2
  split at h2
  · rename_i hdd
    rw [if_pos hdd]
    subst h2
    have hA2 : M2.take H.length = H := by
      rw [← h1, List.take_take, Nat.min_eq_left (by omega)] at hMt
      exact hMt
    obtain ⟨M3, hM3, hMA⟩ := fin_fail 8 (A := H) (H0 := H) (H1 := M2) hA2 (Nat.le_refl _)
    refine ⟨M3, ?_, hMA⟩
    refine evF_pan (m := 163) (v := failv 8) (a := ?ab) (H1 := M2) rfl t66 rfl ?hb ?hd hM3
    case hb =>
      refine hpre.trans ?_
      apply evI_seq
      · apply evI_seq
        · simp only [l2,Zs,Zr,Zp,Za,Zb,evI,opsI,stepI,wantI,opI,AAct.evI,look,AAct.put,mkVal,mkVM,intOpA,intA,shiftA,unA,ZP,ZO,Zh,Zt,reduceIte,Nat.reduceEqDiff,Nat.reduceLT,Zo,Zq,true_and,and_true,and_self,ZB,cellsAt,Zg,ZC,Zf,Zk,ZL,ZM,Nat.reduceAdd,Nat.reduceMul,ZN,AV.cells,AV.one,known,Zn,getE_0,getE_k,setE_0,setE_k,Zc,Zd,Zl,Zm,Zi,Zw,Zu,Zj,Z1,Zx,Zy,ZJ,ZI,ZH,ZD,ZE,splice,fillI,Nat.reduceLeDiff,strA,ZK,ZA,Ze,bq_ft,bq_tf,ZG,ZF,ZQ,Zv,Zz,isNilA,nilPtr,nilSl,nilIf,nilFn,nilMap,nilCheckA,if_true,if_false,lt_lit,le_lit,lt_lit2,le_lit2,le_sub1,le_sub2]; rfl
        apply evI_block_exit
        apply evI_loop
        simp only [AAct.keepT,Zv,Zz,look,reduceIte,Nat.reduceEqDiff,l10,l15]
        exact ht3
      apply evI_seq_pan
      apply evI_seq
      · simp only [m15,Zs,Zr,Zp,Za,Zb,evI,opsI,stepI,wantI,opI,AAct.evI,look,AAct.put,mkVal,mkVM,intOpA,intA,shiftA,unA,ZP,ZO,Zh,Zt,reduceIte,Nat.reduceEqDiff,Nat.reduceLT,Zo,Zq,true_and,and_true,and_self,ZB,cellsAt,Zg,ZC,Zf,Zk,ZL,ZM,Nat.reduceAdd,Nat.reduceMul,ZN,AV.cells,AV.one,known,Zn,getE_0,getE_k,setE_0,setE_k,Zc,Zd,Zl,Zm,Zi,Zw,Zu,Zj,Z1,Zx,Zy,ZJ,ZI,ZH,ZD,ZE,splice,fillI,Nat.reduceLeDiff,strA,ZK,ZA,Ze,bq_ft,bq_tf,ZG,ZF,ZQ,Zv,Zz,isNilA,nilPtr,nilSl,nilIf,nilFn,nilMap,nilCheckA,if_true,if_false,lt_lit,le_lit,lt_lit2,le_lit2,le_sub1,le_sub2]; rfl
      apply evI_block_pan
      apply evI_loop
      simp only [AAct.keepT,Zv,Zz,look,reduceIte,Nat.reduceEqDiff,m10,m15]
      rw [hk] at ht4
      exact ht4
    case hd => rfl
  · rename_i hdd
    rw [if_neg hdd]
    obtain ⟨rfl, rfl, g10, g15⟩ := h2
    refine evF_ret (m := 163) (v := .tup [.map H.length, .slc (H.length + 5) 0 (k' + 1) 3 k']) (a := ?aa) (H1 := M2) rfl t66 rfl ?hb ?hd ?hr ?hz
    case hb =>
      refine hpre.trans ?_
      apply evI_seq
      · apply evI_seq
        · simp only [l2,Zs,Zr,Zp,Za,Zb,evI,opsI,stepI,wantI,opI,AAct.evI,look,AAct.put,mkVal,mkVM,intOpA,intA,shiftA,unA,ZP,ZO,Zh,Zt,reduceIte,Nat.reduceEqDiff,Nat.reduceLT,Zo,Zq,true_and,and_true,and_self,ZB,cellsAt,Zg,ZC,Zf,Zk,ZL,ZM,Nat.reduceAdd,Nat.reduceMul,ZN,AV.cells,AV.one,known,Zn,getE_0,getE_k,setE_0,setE_k,Zc,Zd,Zl,Zm,Zi,Zw,Zu,Zj,Z1,Zx,Zy,ZJ,ZI,ZH,ZD,ZE,splice,fillI,Nat.reduceLeDiff,strA,ZK,ZA,Ze,bq_ft,bq_tf,ZG,ZF,ZQ,Zv,Zz,isNilA,nilPtr,nilSl,nilIf,nilFn,nilMap,nilCheckA,if_true,if_false,lt_lit,le_lit,lt_lit2,le_lit2,le_sub1,le_sub2]; rfl
        apply evI_block_exit
        apply evI_loop
        simp only [AAct.keepT,Zv,Zz,look,reduceIte,Nat.reduceEqDiff,l10,l15]
        exact ht3
      apply evI_seq
      · apply evI_seq
        · simp only [m15,Zs,Zr,Zp,Za,Zb,evI,opsI,stepI,wantI,opI,AAct.evI,look,AAct.put,mkVal,mkVM,intOpA,intA,shiftA,unA,ZP,ZO,Zh,Zt,reduceIte,Nat.reduceEqDiff,Nat.reduceLT,Zo,Zq,true_and,and_true,and_self,ZB,cellsAt,Zg,ZC,Zf,Zk,ZL,ZM,Nat.reduceAdd,Nat.reduceMul,ZN,AV.cells,AV.one,known,Zn,getE_0,getE_k,setE_0,setE_k,Zc,Zd,Zl,Zm,Zi,Zw,Zu,Zj,Z1,Zx,Zy,ZJ,ZI,ZH,ZD,ZE,splice,fillI,Nat.reduceLeDiff,strA,ZK,ZA,Ze,bq_ft,bq_tf,ZG,ZF,ZQ,Zv,Zz,isNilA,nilPtr,nilSl,nilIf,nilFn,nilMap,nilCheckA,if_true,if_false,lt_lit,le_lit,lt_lit2,le_lit2,le_sub1,le_sub2]; rfl
        apply evI_block_exit
        apply evI_loop
        simp only [AAct.keepT,Zv,Zz,look,reduceIte,Nat.reduceEqDiff,m10,m15]
        rw [hk] at ht4
        exact ht4
      apply evI_seq
      · simp only [g10,g15,Zs,Zr,Zp,Za,Zb,evI,opsI,stepI,wantI,opI,AAct.evI,look,AAct.put,mkVal,mkVM,intOpA,intA,shiftA,unA,ZP,ZO,Zh,Zt,reduceIte,Nat.reduceEqDiff,Nat.reduceLT,Zo,Zq,true_and,and_true,and_self,ZB,cellsAt,Zg,ZC,Zf,Zk,ZL,ZM,Nat.reduceAdd,Nat.reduceMul,ZN,AV.cells,AV.one,known,Zn,getE_0,getE_k,setE_0,setE_k,Zc,Zd,Zl,Zm,Zi,Zw,Zu,Zj,Z1,Zx,Zy,ZJ,ZI,ZH,ZD,ZE,splice,fillI,Nat.reduceLeDiff,strA,ZK,ZA,Ze,bq_ft,bq_tf,ZG,ZF,ZQ,Zv,Zz,isNilA,nilPtr,nilSl,nilIf,nilFn,nilMap,nilCheckA,if_true,if_false,lt_lit,le_lit,lt_lit2,le_lit2,le_sub1,le_sub2]; rfl
      rfl
    case hd => rfl
    case hr => simp only [I66,resI,resLI,look,reduceIte,Nat.reduceEqDiff,Zh,g10,g15,hk]
    case hz =>
      have hk2 : (cfg ml).keep 66 = false := rfl
      have hll : ¬ H.length < H.length := Nat.lt_irrefl _
      rw [hMe]
      simp only [finish,hk2,Ze,if_false,frz,frzL,low,hll,ZO,Zt]
theorem spaced_dup (hN : 1000 < N) (n : Nat) (H : Mem) (hlo : lowM H.length H = true) (q st ty mi : Nat) (hmi : mi < H.length) (pf : List UInt8) (ts : List T3) (hq : H[q]? = some (.row (trC ts) st ty)) (hil : ts.length < 900) (hdup : dupW [] ts = true) :
    ∃ M, evFI Tryz.prog (cfg ml) T N (n + 5) 66 [.map mi, .str pf, .slc q 0 ts.length 3 st] H = some (.pan (failv 8), M) ∧ M.take H.length = H := by
  obtain ⟨t0, o, H', ht0, h1, h0⟩ := dup_loop (ml := ml) (N := N) hN n H hlo q st ty mi hmi pf ts hq hil N 0 (by omega) (by omega)
  rw [List.take_zero, List.drop_zero, hdup] at h0
  simp only [if_true] at h0
  subst h0
  obtain ⟨M3, hM3, hMA⟩ := fin_fail 8 (A := H) (H0 := H) (H1 := H') h1 (Nat.le_refl _)
  refine ⟨M3, ?_, hMA⟩
  refine evF_pan (m := 163) (v := failv 8) (a := ?ab) (H1 := H') rfl t66 rfl ?hb ?hd hM3
  case hb =>
    apply evI_seq
    · simp only [Zf,Zk,idx,I66,Zs,Zr,Zp,Za,Zb,evI,opsI,stepI,wantI,opI,AAct.evI,look,AAct.put,mkVal,mkVM,intOpA,intA,shiftA,unA,ZP,ZO,Zh,Zt,reduceIte,Nat.reduceEqDiff,Nat.reduceLT,Zo,Zq,true_and,and_true,and_self,ZB,cellsAt,Zg,ZC,Zf,Zk,ZL,ZM,Nat.reduceAdd,Nat.reduceMul,ZN,AV.cells,AV.one,known,Zn,getE_0,getE_k,setE_0,setE_k,Zc,Zd,Zl,Zm,Zi,Zw,Zu,Zj,Z1,Zx,Zy,ZJ,ZI,ZH,ZD,ZE,splice,fillI,Nat.reduceLeDiff,strA,ZK,ZA,Ze,bq_ft,bq_tf,ZG,ZF,ZQ,Zv,Zz,isNilA,nilPtr,nilSl,nilIf,nilFn,nilMap,nilCheckA,if_true,if_false,lt_lit,le_lit,lt_lit2,le_lit2,le_sub1,le_sub2]; rfl
    apply evI_seq_pan
    apply evI_seq
    · simp only [Zs,Zr,Zp,Za,Zb,evI,opsI,stepI,wantI,opI,AAct.evI,look,AAct.put,mkVal,mkVM,intOpA,intA,shiftA,unA,ZP,ZO,Zh,Zt,reduceIte,Nat.reduceEqDiff,Nat.reduceLT,Zo,Zq,true_and,and_true,and_self,ZB,cellsAt,Zg,ZC,Zf,Zk,ZL,ZM,Nat.reduceAdd,Nat.reduceMul,ZN,AV.cells,AV.one,known,Zn,getE_0,getE_k,setE_0,setE_k,Zc,Zd,Zl,Zm,Zi,Zw,Zu,Zj,Z1,Zx,Zy,ZJ,ZI,ZH,ZD,ZE,splice,fillI,Nat.reduceLeDiff,strA,ZK,ZA,Ze,bq_ft,bq_tf,ZG,ZF,ZQ,Zv,Zz,isNilA,nilPtr,nilSl,nilIf,nilFn,nilMap,nilCheckA,if_true,if_false,lt_lit,le_lit,lt_lit2,le_lit2,le_sub1,le_sub2]; rfl
    apply evI_block_pan
    apply evI_loop
    exact ht0
  case hd => rfl
end
set_option maxHeartbeats 4000000
def t3 (w : Wr) : T3 := (w.pre, w.nm, [w.v])
theorem trC_t3 (ws : List Wr) : trC (ws.map t3) = attsC ws := by
  induction ws with
  | nil => rfl
  | cons w ws ih =>
    show c3 (t3 w) ++ trC (ws.map t3) = wrC w ++ attsC ws
    rw [ih]; rfl
section
variable {N : Nat}
variable (s : List UInt8) (hs : s.length < 4294967281) (hN : s.length < N) (hN2 : 1000 < N)
include hs hN hN2
theorem ela_pre (n at_ many : Nat) (A B : Mem) (hlo : LoM A B) (mi : Nat) (nsv : List UInt8) (dp : Nat) (hm : ∀ L : Mem, ∀ a m, (A ++ rdr s a m :: (B ++ L))[mi]? = some (scope1 nsv)) (nm r : List UInt8) (hnm : isNm nm) (w1 : Wr) (ws2 : List Wr) (hw : ∀ w ∈ w1 :: ws2, WrOk w) (hk2 : ws2.length < 900)
    (hd0 : s.drop at_ = 60 :: (nm ++ (attsT (w1 :: ws2) ++ 47 :: 62 :: r))) (hmany : many < 16384) (hdp : dp ≤ 256) (at4 : Nat) (e4 : at4 = at_ + 1 + nm.length + (attsT (w1 :: ws2)).length + 2) :
    ∃ t, look t 0 = .ptr A.length 0 0 ∧ look t 1 = .map mi ∧ look t 2 = .int .i64 (dp : Nat) ∧ look t 6 = .ptr (A.length + (B.length + 1)) 0 0 ∧ look t 7 = .str [] ∧ look t 8 = .str nm ∧ look t 9 = .slc (A.length + (B.length + 3)) 0 (ws2.length + 1) 3 ws2.length ∧ look t 10 = .bool true ∧
      evI Tryz.prog (cfg ml) (evFI Tryz.prog (cfg ml) T N (n + 7)) N I38.c ⟨126, [(0, .ptr A.length 0 0), (1, .map mi), (2, .int .i64 (dp : Nat))], []⟩ (A ++ rdr s at_ many :: B) = evI Tryz.prog (cfg ml) (evFI Tryz.prog (cfg ml) T N (n + 7)) N (.seq (pcE 10) (.seq (pcE 11) restE)) ⟨126, t, []⟩ (A ++ rdr s at4 (many + 1) :: (B ++ [r27 [] [], rowW w1.pre w1.nm [w1.v], rowL2 (w1 :: ws2) ws2.length])) := by
  obtain ⟨b, l, enm, hf, hx⟩ := hnm
  have d1 := drop_one hd0
  have d1' : s.drop (at_ + 1) = b :: (l ++ (attsT (w1 :: ws2) ++ 47 :: 62 :: r)) := by rw [d1, enm]; rfl
  have h1 := get_at hd0
  have h22 := get_at d1'
  have hlt : at_ + 1 < s.length := (List.getElem?_eq_some_iff.1 h22).1
  have d2 : s.drop (at_ + 1 + nm.length) = attsT (w1 :: ws2) ++ 47 :: 62 :: r := drop_next d1
  have d3 : s.drop (at_ + 1 + nm.length + (attsT (w1 :: ws2)).length) = 47 :: 62 :: r := drop_next d2
  have hlt3 : at_ + 1 + nm.length + (attsT (w1 :: ws2)).length < s.length := (List.getElem?_eq_some_iff.1 (get_at d3)).1
  have d2' : s.drop (at_ + 1 + nm.length) = 32 :: (wrT w1 ++ (attsT ws2 ++ 47 :: 62 :: r)) := by rw [d2, attsT_cons]
  have m0 : nmN (s.drop (at_ + 1)) = nm.length := by rw [d1, attsT_cons]; exact nmN_app _ _ _ hx (by decide)
  have tk : (s.drop (at_ + 1)).take nm.length = nm := by rw [d1, List.take_left]
  let B1 : Mem := B ++ [r27 [] []]
  have q1 := has_eq (P := Tryz.prog) (N := N) (ml := ml) s at_ many A B1 (by omega) (n + 7) (by omega) [60]
  rw [hasP_head s at_ 60 h1] at q1
  have q2 : evFI Tryz.prog (cfg ml) T N (n + 7) 35 [.ptr A.length 0 0, .int .i64 1] (A ++ rdr s at_ many :: B1) = some (.ret (.int .u8 b.toNat), A ++ rdr s at_ many :: B1) := byteAt_in (P := Tryz.prog) (N := N) (ml := ml) s at_ many A B1 (by omega) (n + 7) (by omega) 1 b h22 hs
  have q3 := fun H => isFirst_eq (ml := ml) Tryz.prog N (n + 6) (b.toNat : Int) H
  rw [show nameFirst (b.toNat : Int) = true from hf] at q3
  have q4 := fun e H => must_t (P := Tryz.prog) (N := N) (ml := ml) (n + 7) (by omega) e H
  have c1 : decide ((many : Int) < 16384) = true := decide_eq_true (by omega)
  have c2 : decide ((dp : Int) ≤ 256) = true := decide_eq_true (by omega)
  have w1' : IntKind.wrap .i64 ((many : Int) + 1) = ((many + 1 : Nat) : Int) := by rw [wrap64] <;> omega
  have q5 := wants_t (P := Tryz.prog) (N := N) (ml := ml) s at_ (many + 1) A B1 hs (by omega) (n + 7) (by omega) [60] (hasP_head s at_ 60 h1)
  have q6 := qual_plain (P := Tryz.prog) (N := N) (ml := ml) s (many + 1) A B1 hs hN (at_ + 1) b h22 hf (by rw [m0, d2']; simp [hasP]) (n + 7) (by omega)
  rw [m0, tk] at q6
  have hmi : mi < A.length + (B.length + 1) := by
    have := (List.getElem?_eq_some_iff.1 (hm [] 0 0)).1
    simpa [Nat.add_assoc] using this
  obtain ⟨t, ht, l0, l1, l2, l6, l7, l8, l9⟩ := att_all (ml := ml) s hs hN n (many + 1) A B hlo mi dp hmi [] nm w1 ws2 (62 :: r) N (at_ + 1 + nm.length) hw d2 hk2 (by omega)
  have q7 := take_t (P := Tryz.prog) (N := N) (ml := ml) s (at_ + 1 + nm.length + (attsT (w1 :: ws2)).length) (many + 1) A (B ++ [r27 [] [], rowW w1.pre w1.nm [w1.v], rowL2 (w1 :: ws2) ws2.length]) hs (by omega) (n + 7) (by omega) [47, 62] (by rw [d3]; simp [hasP])
  simp only [B1,Zf,Zk,ZL,Nat.reduceAdd] at q1 q2 q5 q6 q7
  rw [e4]
  generalize at_ + 1 + nm.length + (attsT (w1 :: ws2)).length = at3 at *
  generalize at_ + 1 + nm.length = at2 at *
  generalize at_ + 1 = at1 at *
  refine ⟨?t, ?g0, ?g1, ?g2, ?g6, ?g7, ?g8, ?g9, ?g10, ?main⟩
  case main =>
    rw [elem_split]
    apply evI_seq
    · simp only [pcE,IC.nb,IC.hd,I38,Zs,Zr,Zp,Za,Zb,evI,opsI,stepI,wantI,opI,AAct.evI,look,AAct.put,mkVal,mkVM,intOpA,intA,shiftA,unA,ZP,ZO,Zh,Zt,reduceIte,Nat.reduceEqDiff,Nat.reduceLT,Zo,Zq,true_and,and_true,and_self,ZB,cellsAt,Zg,ZC,Zf,Zk,ZL,ZM,Nat.reduceAdd,Nat.reduceMul,ZN,AV.cells,AV.one,known,Zn,getE_0,getE_k,setE_0,setE_k,Zc,Zd,Zl,Zm,Zi,Zw,Zu,Zj,Z1,Zx,Zy,ZJ,ZI,ZH,ZD,ZE,splice,fillI,Nat.reduceLeDiff,strA,ZK,ZA,Ze,bq_ft,bq_tf,ZG,ZF,ZQ,Zv,Zz,isNilA,nilPtr,nilSl,nilIf,nilFn,nilMap,nilCheckA,if_true,if_false,lt_lit,le_lit,lt_lit2,le_lit2,le_sub1,le_sub2]; rfl
    apply evI_seq
    · simp only [pcE,IC.nb,IC.hd,I38,q1,q2,q3,q4,Zs,Zr,Zp,Za,Zb,evI,opsI,stepI,wantI,opI,AAct.evI,look,AAct.put,mkVal,mkVM,intOpA,intA,shiftA,unA,ZP,ZO,Zh,Zt,reduceIte,Nat.reduceEqDiff,Nat.reduceLT,Zo,Zq,true_and,and_true,and_self,ZB,cellsAt,Zg,ZC,Zf,Zk,ZL,ZM,Nat.reduceAdd,Nat.reduceMul,ZN,AV.cells,AV.one,known,Zn,getE_0,getE_k,setE_0,setE_k,Zc,Zd,Zl,Zm,Zi,Zw,Zu,Zj,Z1,Zx,Zy,ZJ,ZI,ZH,ZD,ZE,splice,fillI,Nat.reduceLeDiff,strA,ZK,ZA,Ze,bq_ft,bq_tf,ZG,ZF,ZQ,Zv,Zz,isNilA,nilPtr,nilSl,nilIf,nilFn,nilMap,nilCheckA,if_true,if_false,lt_lit,le_lit,lt_lit2,le_lit2,le_sub1,le_sub2]; rfl
    apply evI_seq
    · simp only [pcE,IC.nb,IC.hd,I38,rdr,c1,c2,q4,Zs,Zr,Zp,Za,Zb,evI,opsI,stepI,wantI,opI,AAct.evI,look,AAct.put,mkVal,mkVM,intOpA,intA,shiftA,unA,ZP,ZO,Zh,Zt,reduceIte,Nat.reduceEqDiff,Nat.reduceLT,Zo,Zq,true_and,and_true,and_self,ZB,cellsAt,Zg,ZC,Zf,Zk,ZL,ZM,Nat.reduceAdd,Nat.reduceMul,ZN,AV.cells,AV.one,known,Zn,getE_0,getE_k,setE_0,setE_k,Zc,Zd,Zl,Zm,Zi,Zw,Zu,Zj,Z1,Zx,Zy,ZJ,ZI,ZH,ZD,ZE,splice,fillI,Nat.reduceLeDiff,strA,ZK,ZA,Ze,bq_ft,bq_tf,ZG,ZF,ZQ,Zv,Zz,isNilA,nilPtr,nilSl,nilIf,nilFn,nilMap,nilCheckA,if_true,if_false,lt_lit,le_lit,lt_lit2,le_lit2,le_sub1,le_sub2]; rfl
    apply evI_seq (H' := A ++ rdr s at_ (many + 1) :: (B ++ [r27 [] []]))
    · simp only [pcE,IC.nb,IC.hd,I38,rdr,w1',Zs,Zr,Zp,Za,Zb,evI,opsI,stepI,wantI,opI,AAct.evI,look,AAct.put,mkVal,mkVM,intOpA,intA,shiftA,unA,ZP,ZO,Zh,Zt,reduceIte,Nat.reduceEqDiff,Nat.reduceLT,Zo,Zq,true_and,and_true,and_self,ZB,cellsAt,Zg,ZC,Zf,Zk,ZL,ZM,Nat.reduceAdd,Nat.reduceMul,ZN,AV.cells,AV.one,known,Zn,getE_0,getE_k,setE_0,setE_k,Zc,Zd,Zl,Zm,Zi,Zw,Zu,Zj,Z1,Zx,Zy,ZJ,ZI,ZH,ZD,ZE,splice,fillI,Nat.reduceLeDiff,strA,ZK,ZA,Ze,bq_ft,bq_tf,ZG,ZF,ZQ,Zv,Zz,isNilA,nilPtr,nilSl,nilIf,nilFn,nilMap,nilCheckA,if_true,if_false,lt_lit,le_lit,lt_lit2,le_lit2,le_sub1,le_sub2]; rfl
    apply evI_seq
    · simp only [pcE,IC.nb,IC.hd,I38,q5,Zs,Zr,Zp,Za,Zb,evI,opsI,stepI,wantI,opI,AAct.evI,look,AAct.put,mkVal,mkVM,intOpA,intA,shiftA,unA,ZP,ZO,Zh,Zt,reduceIte,Nat.reduceEqDiff,Nat.reduceLT,Zo,Zq,true_and,and_true,and_self,ZB,cellsAt,Zg,ZC,Zf,Zk,ZL,ZM,Nat.reduceAdd,Nat.reduceMul,ZN,AV.cells,AV.one,known,Zn,getE_0,getE_k,setE_0,setE_k,Zc,Zd,Zl,Zm,Zi,Zw,Zu,Zj,Z1,Zx,Zy,ZJ,ZI,ZH,ZD,ZE,splice,fillI,Nat.reduceLeDiff,strA,ZK,ZA,Ze,bq_ft,bq_tf,ZG,ZF,ZQ,Zv,Zz,isNilA,nilPtr,nilSl,nilIf,nilFn,nilMap,nilCheckA,if_true,if_false,lt_lit,le_lit,lt_lit2,le_lit2,le_sub1,le_sub2]; rfl
    apply evI_seq
    · simp only [pcE,IC.nb,IC.hd,I38,q6,Zs,Zr,Zp,Za,Zb,evI,opsI,stepI,wantI,opI,AAct.evI,look,AAct.put,mkVal,mkVM,intOpA,intA,shiftA,unA,ZP,ZO,Zh,Zt,reduceIte,Nat.reduceEqDiff,Nat.reduceLT,Zo,Zq,true_and,and_true,and_self,ZB,cellsAt,Zg,ZC,Zf,Zk,ZL,ZM,Nat.reduceAdd,Nat.reduceMul,ZN,AV.cells,AV.one,known,Zn,getE_0,getE_k,setE_0,setE_k,Zc,Zd,Zl,Zm,Zi,Zw,Zu,Zj,Z1,Zx,Zy,ZJ,ZI,ZH,ZD,ZE,splice,fillI,Nat.reduceLeDiff,strA,ZK,ZA,Ze,bq_ft,bq_tf,ZG,ZF,ZQ,Zv,Zz,isNilA,nilPtr,nilSl,nilIf,nilFn,nilMap,nilCheckA,if_true,if_false,lt_lit,le_lit,lt_lit2,le_lit2,le_sub1,le_sub2]; rfl
    apply evI_seq
    · simp only [pcE,IC.nb,IC.hd,I38,Zs,Zr,Zp,Za,Zb,evI,opsI,stepI,wantI,opI,AAct.evI,look,AAct.put,mkVal,mkVM,intOpA,intA,shiftA,unA,ZP,ZO,Zh,Zt,reduceIte,Nat.reduceEqDiff,Nat.reduceLT,Zo,Zq,true_and,and_true,and_self,ZB,cellsAt,Zg,ZC,Zf,Zk,ZL,ZM,Nat.reduceAdd,Nat.reduceMul,ZN,AV.cells,AV.one,known,Zn,getE_0,getE_k,setE_0,setE_k,Zc,Zd,Zl,Zm,Zi,Zw,Zu,Zj,Z1,Zx,Zy,ZJ,ZI,ZH,ZD,ZE,splice,fillI,Nat.reduceLeDiff,strA,ZK,ZA,Ze,bq_ft,bq_tf,ZG,ZF,ZQ,Zv,Zz,isNilA,nilPtr,nilSl,nilIf,nilFn,nilMap,nilCheckA,if_true,if_false,lt_lit,le_lit,lt_lit2,le_lit2,le_sub1,le_sub2]; rfl
    apply evI_seq
    · apply evI_block_exit
      apply evI_loop
      exact ht
    apply evI_seq
    · simp only [pcE,IC.nb,IC.hd,I38,l0,q7,Zs,Zr,Zp,Za,Zb,evI,opsI,stepI,wantI,opI,AAct.evI,look,AAct.put,mkVal,mkVM,intOpA,intA,shiftA,unA,ZP,ZO,Zh,Zt,reduceIte,Nat.reduceEqDiff,Nat.reduceLT,Zo,Zq,true_and,and_true,and_self,ZB,cellsAt,Zg,ZC,Zf,Zk,ZL,ZM,Nat.reduceAdd,Nat.reduceMul,ZN,AV.cells,AV.one,known,Zn,getE_0,getE_k,setE_0,setE_k,Zc,Zd,Zl,Zm,Zi,Zw,Zu,Zj,Z1,Zx,Zy,ZJ,ZI,ZH,ZD,ZE,splice,fillI,Nat.reduceLeDiff,strA,ZK,ZA,Ze,bq_ft,bq_tf,ZG,ZF,ZQ,Zv,Zz,isNilA,nilPtr,nilSl,nilIf,nilFn,nilMap,nilCheckA,if_true,if_false,lt_lit,le_lit,lt_lit2,le_lit2,le_sub1,le_sub2]; rfl
    apply evI_seq
    · simp only [pcE,IC.nb,IC.hd,I38,Zs,Zr,Zp,Za,Zb,evI,opsI,stepI,wantI,opI,AAct.evI,look,AAct.put,mkVal,mkVM,intOpA,intA,shiftA,unA,ZP,ZO,Zh,Zt,reduceIte,Nat.reduceEqDiff,Nat.reduceLT,Zo,Zq,true_and,and_true,and_self,ZB,cellsAt,Zg,ZC,Zf,Zk,ZL,ZM,Nat.reduceAdd,Nat.reduceMul,ZN,AV.cells,AV.one,known,Zn,getE_0,getE_k,setE_0,setE_k,Zc,Zd,Zl,Zm,Zi,Zw,Zu,Zj,Z1,Zx,Zy,ZJ,ZI,ZH,ZD,ZE,splice,fillI,Nat.reduceLeDiff,strA,ZK,ZA,Ze,bq_ft,bq_tf,ZG,ZF,ZQ,Zv,Zz,isNilA,nilPtr,nilSl,nilIf,nilFn,nilMap,nilCheckA,if_true,if_false,lt_lit,le_lit,lt_lit2,le_lit2,le_sub1,le_sub2]; rfl
    rfl
  case g0 => exact l0
  case g1 => exact l1
  case g2 => exact l2
  case g6 => exact l6
  case g7 => exact l7
  case g8 => exact l8
  case g9 => exact l9
  case g10 => rfl
theorem ela_pan (n at_ many : Nat) (A B : Mem) (hlo : LoM A B) (mi : Nat) (nsv : List UInt8) (dp : Nat) (hm : ∀ L : Mem, ∀ a m, (A ++ rdr s a m :: (B ++ L))[mi]? = some (scope1 nsv)) (nm r : List UInt8) (hnm : isNm nm) (w1 : Wr) (ws2 : List Wr) (hw : ∀ w ∈ w1 :: ws2, WrOk w) (hk2 : ws2.length < 900)
    (hd0 : s.drop at_ = 60 :: (nm ++ (attsT (w1 :: ws2) ++ 47 :: 62 :: r))) (hmany : many < 16384) (hdp : dp ≤ 256) (at4 : Nat) (e4 : at4 = at_ + 1 + nm.length + (attsT (w1 :: ws2)).length + 2) (er : Int)
    (hS : ∃ M, evFI Tryz.prog (cfg ml) T N (n + 7) 66 [.map mi, .str [], .slc (A.length + (B.length + 3)) 0 (ws2.length + 1) 3 ws2.length] (A ++ rdr s at4 (many + 1) :: (B ++ [r27 [] [], rowW w1.pre w1.nm [w1.v], rowL2 (w1 :: ws2) ws2.length])) = some (.pan (failv er), M) ∧ M.take (A ++ rdr s at4 (many + 1) :: (B ++ [r27 [] [], rowW w1.pre w1.nm [w1.v], rowL2 (w1 :: ws2) ws2.length])).length = A ++ rdr s at4 (many + 1) :: (B ++ [r27 [] [], rowW w1.pre w1.nm [w1.v], rowL2 (w1 :: ws2) ws2.length])) :
    ∃ M, evFI Tryz.prog (cfg ml) T N (n + 8) 38 [.ptr A.length 0 0, .map mi, .int .i64 (dp : Nat)] (A ++ rdr s at_ many :: B) = some (.pan (failv er), M) ∧ M.take A.length = A := by
  obtain ⟨t, l0, l1, l2, l6, l7, l8, l9, l10, hpre⟩ := ela_pre (ml := ml) s hs hN hN2 n at_ many A B hlo mi nsv dp hm nm r hnm w1 ws2 hw hk2 hd0 hmany hdp at4 e4
  obtain ⟨M1, q1, hM1⟩ := hS
  have hA : M1.take A.length = A := by
    have h := congrArg (List.take A.length) hM1
    rw [List.take_take, Nat.min_eq_left (by simp), take_A] at h
    exact h
  obtain ⟨M, hM, hMA⟩ := fin_fail er (A := A) (H0 := A ++ rdr s at_ many :: B) (H1 := M1) hA (by simp)
  refine ⟨M, ?_, hMA⟩
  refine evF_pan (m := 126) (v := failv er) (a := ?aa) (H1 := M1) rfl t38 rfl ?hb ?hd hM
  case hb =>
    refine hpre.trans ?_
    apply evI_seq_pan
    simp only [pcE,IC.nb,IC.hd,I38,l1,l7,l9,q1,Zs,Zr,Zp,Za,Zb,evI,opsI,stepI,wantI,opI,AAct.evI,look,AAct.put,mkVal,mkVM,intOpA,intA,shiftA,unA,ZP,ZO,Zh,Zt,reduceIte,Nat.reduceEqDiff,Nat.reduceLT,Zo,Zq,true_and,and_true,and_self,ZB,cellsAt,Zg,ZC,Zf,Zk,ZL,ZM,Nat.reduceAdd,Nat.reduceMul,ZN,AV.cells,AV.one,known,Zn,getE_0,getE_k,setE_0,setE_k,Zc,Zd,Zl,Zm,Zi,Zw,Zu,Zj,Z1,Zx,Zy,ZJ,ZI,ZH,ZD,ZE,splice,fillI,Nat.reduceLeDiff,strA,ZK,ZA,Ze,bq_ft,bq_tf,ZG,ZF,ZQ,Zv,Zz,isNilA,nilPtr,nilSl,nilIf,nilFn,nilMap,nilCheckA,if_true,if_false,lt_lit,le_lit,lt_lit2,le_lit2,le_sub1,le_sub2]; rfl
  case hd => rfl
theorem ela_ok (n at_ many : Nat) (A B : Mem) (hlo : LoM A B) (mi : Nat) (nsv : List UInt8) (dp : Nat) (hm : ∀ L : Mem, ∀ a m, (A ++ rdr s a m :: (B ++ L))[mi]? = some (scope1 nsv)) (nm r : List UInt8) (hnm : isNm nm) (w1 : Wr) (ws2 : List Wr) (hw : ∀ w ∈ w1 :: ws2, WrOk w) (hk2 : ws2.length < 900)
    (hd0 : s.drop at_ = 60 :: (nm ++ (attsT (w1 :: ws2) ++ 47 :: 62 :: r))) (hmany : many < 16384) (hdp : dp ≤ 256) (at4 : Nat) (e4 : at4 = at_ + 1 + nm.length + (attsT (w1 :: ws2)).length + 2) (es : ES) (al : List T3) (k' : Nat) (hk' : al.length = k' + 1) (r1 r2 r3 : T3)
    (hS : evFI Tryz.prog (cfg ml) T N (n + 7) 66 [.map mi, .str [], .slc (A.length + (B.length + 3)) 0 (ws2.length + 1) 3 ws2.length] (A ++ rdr s at4 (many + 1) :: (B ++ [r27 [] [], rowW w1.pre w1.nm [w1.v], rowL2 (w1 :: ws2) ws2.length])) = some (.ret (.tup [.map (A.length + (B.length + 4)), .slc (A.length + (B.length + 9)) 0 (k' + 1) 3 k']), A ++ rdr s at4 (many + 1) :: (B ++ [r27 [] [], rowW w1.pre w1.nm [w1.v], rowL2 (w1 :: ws2) ws2.length, .map (mapE es), .miter mi 1, .row (c3 r1) 0 (87 + 1), .row (c3 r2) 0 (41 + 1), .row (c3 r3) 0 (41 + 1), .row (trC al) k' (41 + 1)]))) :
    evFI Tryz.prog (cfg ml) T N (n + 8) 38 [.ptr A.length 0 0, .map mi, .int .i64 (dp : Nat)] (A ++ rdr s at_ many :: B) = some (.ret (.agg [.str (lkE es []), .str nm, .str [], .lst (k' + 1) (trC al), .lst 0 []]), A ++ rdr s at4 (many + 1) :: B) := by
  obtain ⟨t, l0, l1, l2, l6, l7, l8, l9, l10, hpre⟩ := ela_pre (ml := ml) s hs hN hN2 n at_ many A B hlo mi nsv dp hm nm r hnm w1 ws2 hw hk2 hd0 hmany hdp at4 e4
  let L9 : Mem := [rowW w1.pre w1.nm [w1.v], rowL2 (w1 :: ws2) ws2.length, .map (mapE es), .miter mi 1, .row (c3 r1) 0 (87 + 1), .row (c3 r2) 0 (41 + 1), .row (c3 r3) 0 (41 + 1), .row (trC al) k' (41 + 1)]
  have ql : lookupD .string (.str []) (A ++ rdr s at4 (many + 1) :: (B ++ r27 [] [] :: L9)) (.map (A.length + (B.length + 4))) (.str []) false = some (.str (lkE es [])) := lookup_str (by rw [getE_k, List.getElem?_cons_succ, getE_k]; rfl) []
  let x : Blk := .row [.str (lkE es []), .str nm, .str [], .slc (A.length + (B.length + 9)) 0 (k' + 1) 3 k', .nilS] 0 (27 + 1)
  refine evF_ret (m := 126) (v := .agg [.str (lkE es []), .str nm, .str [], .slc (A.length + (B.length + 9)) 0 (k' + 1) 3 k', .nilS]) (a := ?aa) (H1 := A ++ rdr s at4 (many + 1) :: (B ++ x :: (L9 ++ [x]))) rfl t38 rfl ?hb ?hd ?hr ?hz
  case hb =>
    refine hpre.trans ?_
    apply evI_seq
    · simp only [pcE,IC.nb,IC.hd,I38,l1,l7,l9,hS,Zs,Zr,Zp,Za,Zb,evI,opsI,stepI,wantI,opI,AAct.evI,look,AAct.put,mkVal,mkVM,intOpA,intA,shiftA,unA,ZP,ZO,Zh,Zt,reduceIte,Nat.reduceEqDiff,Nat.reduceLT,Zo,Zq,true_and,and_true,and_self,ZB,cellsAt,Zg,ZC,Zf,Zk,ZL,ZM,Nat.reduceAdd,Nat.reduceMul,ZN,AV.cells,AV.one,known,Zn,getE_0,getE_k,setE_0,setE_k,Zc,Zd,Zl,Zm,Zi,Zw,Zu,Zj,Z1,Zx,Zy,ZJ,ZI,ZH,ZD,ZE,splice,fillI,Nat.reduceLeDiff,strA,ZK,ZA,Ze,bq_ft,bq_tf,ZG,ZF,ZQ,Zv,Zz,isNilA,nilPtr,nilSl,nilIf,nilFn,nilMap,nilCheckA,if_true,if_false,lt_lit,le_lit,lt_lit2,le_lit2,le_sub1,le_sub2]; rfl
    apply evI_seq (H' := A ++ rdr s at4 (many + 1) :: (B ++ r27 [] [] :: (L9 ++ [x])))
    · simp only [L9] at ql
      simp only [pcE,IC.nb,IC.hd,I38,l7,l8,ql,L9,x,Zs,Zr,Zp,Za,Zb,evI,opsI,stepI,wantI,opI,AAct.evI,look,AAct.put,mkVal,mkVM,intOpA,intA,shiftA,unA,ZP,ZO,Zh,Zt,reduceIte,Nat.reduceEqDiff,Nat.reduceLT,Zo,Zq,true_and,and_true,and_self,ZB,cellsAt,Zg,ZC,Zf,Zk,ZL,ZM,Nat.reduceAdd,Nat.reduceMul,ZN,AV.cells,AV.one,known,Zn,getE_0,getE_k,setE_0,setE_k,Zc,Zd,Zl,Zm,Zi,Zw,Zu,Zj,Z1,Zx,Zy,ZJ,ZI,ZH,ZD,ZE,splice,fillI,Nat.reduceLeDiff,strA,ZK,ZA,Ze,bq_ft,bq_tf,ZG,ZF,ZQ,Zv,Zz,isNilA,nilPtr,nilSl,nilIf,nilFn,nilMap,nilCheckA,if_true,if_false,lt_lit,le_lit,lt_lit2,le_lit2,le_sub1,le_sub2]; rfl
    rw [rest_split]
    apply evI_seq
    · apply evI_seq
      · simp only [pcE,IC.nb,IC.hd,I38,l10,Zs,Zr,Zp,Za,Zb,evI,opsI,stepI,wantI,opI,AAct.evI,look,AAct.put,mkVal,mkVM,intOpA,intA,shiftA,unA,ZP,ZO,Zh,Zt,reduceIte,Nat.reduceEqDiff,Nat.reduceLT,Zo,Zq,true_and,and_true,and_self,ZB,cellsAt,Zg,ZC,Zf,Zk,ZL,ZM,Nat.reduceAdd,Nat.reduceMul,ZN,AV.cells,AV.one,known,Zn,getE_0,getE_k,setE_0,setE_k,Zc,Zd,Zl,Zm,Zi,Zw,Zu,Zj,Z1,Zx,Zy,ZJ,ZI,ZH,ZD,ZE,splice,fillI,Nat.reduceLeDiff,strA,ZK,ZA,Ze,bq_ft,bq_tf,ZG,ZF,ZQ,Zv,Zz,isNilA,nilPtr,nilSl,nilIf,nilFn,nilMap,nilCheckA,if_true,if_false,lt_lit,le_lit,lt_lit2,le_lit2,le_sub1,le_sub2]; rfl
      apply evI_false rfl
      rfl
    simp only [endE,IC.nb,IC.hd,I38,l6,L9,x,Zs,Zr,Zp,Za,Zb,evI,opsI,stepI,wantI,opI,AAct.evI,look,AAct.put,mkVal,mkVM,intOpA,intA,shiftA,unA,ZP,ZO,Zh,Zt,reduceIte,Nat.reduceEqDiff,Nat.reduceLT,Zo,Zq,true_and,and_true,and_self,ZB,cellsAt,Zg,ZC,Zf,Zk,ZL,ZM,Nat.reduceAdd,Nat.reduceMul,ZN,AV.cells,AV.one,known,Zn,getE_0,getE_k,setE_0,setE_k,Zc,Zd,Zl,Zm,Zi,Zw,Zu,Zj,Z1,Zx,Zy,ZJ,ZI,ZH,ZD,ZE,splice,fillI,Nat.reduceLeDiff,strA,ZK,ZA,Ze,bq_ft,bq_tf,ZG,ZF,ZQ,Zv,Zz,isNilA,nilPtr,nilSl,nilIf,nilFn,nilMap,nilCheckA,if_true,if_false,lt_lit,le_lit,lt_lit2,le_lit2,le_sub1,le_sub2]; rfl
  case hd => rfl
  case hr => simp only [I38,resI,resLI,l6,L9,x,Zs,Zr,Zp,Za,Zb,evI,opsI,stepI,wantI,opI,AAct.evI,look,AAct.put,mkVal,mkVM,intOpA,intA,shiftA,unA,ZP,ZO,Zh,Zt,reduceIte,Nat.reduceEqDiff,Nat.reduceLT,Zo,Zq,true_and,and_true,and_self,ZB,cellsAt,Zg,ZC,Zf,Zk,ZL,ZM,Nat.reduceAdd,Nat.reduceMul,ZN,AV.cells,AV.one,known,Zn,getE_0,getE_k,setE_0,setE_k,Zc,Zd,Zl,Zm,Zi,Zw,Zu,Zj,Z1,Zx,Zy,ZJ,ZI,ZH,ZD,ZE,splice,fillI,Nat.reduceLeDiff,strA,ZK,ZA,Ze,bq_ft,bq_tf,ZG,ZF,ZQ,Zv,Zz,isNilA,nilPtr,nilSl,nilIf,nilFn,nilMap,nilCheckA,if_true,if_false,lt_lit,le_lit,lt_lit2,le_lit2,le_sub1,le_sub2]
  case hz =>
    have trl : ∀ j, lowL j (trC al) = true := fun j => by
      clear hk' hS ql
      induction al with
      | nil => rfl
      | cons y l ih =>
        have e : trC (y :: l) = c3 y ++ trC l := rfl
        rw [e, lowL_app, ih]; rfl
    have frt : ∀ n0 (H : Mem) k, frzL (frz n0 H (k + 1)) (trC al) = some (trC al) := fun n0 H k => by
      clear hk' hS ql trl
      induction al with
      | nil => rfl
      | cons y l ih =>
        have fc : ∀ {f : AV → Option AV} {c c' : AV} {cs cs' : List AV}, f c = some c' → frzL f cs = some cs' → frzL f (c :: cs) = some (c' :: cs') := fun h h2 => by simp only [frzL,h,h2]
        show frzL (frz n0 H (k + 1)) (.str y.1 :: .str y.2.1 :: .str y.2.2 :: trC l) = some (.str y.1 :: .str y.2.1 :: .str y.2.2 :: trC l)
        exact fc rfl (fc rfl (fc rfl ih))
    refine fin_cut rfl (v' := .agg [.str (lkE es []), .str nm, .str [], .lst (k' + 1) (trC al), .lst 0 []]) ?_ ?_ (take_rdr _ _ _ _ _) (by
      have := hlo.whole s at4 (many + 1)
      simp only [Zg,Zf] at this ⊢
      exact this)
    · have hg : (A ++ rdr s at4 (many + 1) :: (B ++ x :: (L9 ++ [x])))[A.length + (B.length + 9)]? = some (.row (trC al) k' (41 + 1)) := by
        rw [getE_k, List.getElem?_cons_succ, getE_k]; rfl
      have hf := frz_row (n0 := (A ++ rdr s at_ many :: B).length) (k := 10) (off := 0) (len := k' + 1) (sz := 3) (by simp only [Zg,Zf]; omega) hg (by rw [trC_len, hk']; omega) (cs' := trC al) (by
        rw [List.drop_zero, List.take_of_length_le (by rw [trC_len, hk']; omega)]
        exact frt _ _ _)
      show (frzL (frz _ _ 11) _).map AV.agg = _
      simp only [frzL,hf]
      rfl
    · simp only [low,lowL,trl,ZJ]
end
end Go.Proofs.YtmnajffpmbidiaaGreatDoor.Ev
