/- Parts of one proof. -/
import Derived.Test.YtmnajffpmbidiaaGreatDoorMdd
set_option linter.all false
namespace Go.Proofs.YtmnajffpmbidiaaGreatDoor.Ev
variable {ml : Int}
open Go.Proofs.YtmnajffpmbidiaaGreatDoor.Ic
set_option maxRecDepth 100000
set_option maxHeartbeats 4000000
def IC.a : IC → IC
  | .seq x _ => x
  | .cond _ x _ => x
  | .block _ c => c
  | .loop _ c => c
  | c => c
def IC.b : IC → IC
  | .seq _ y => y
  | .cond _ _ y => y
  | c => c
noncomputable def loopV1 : IC := (I79.c.loops).getD 0 .bad
noncomputable def leadV : IC := loopV1.b.a.b.b
noncomputable def sizeV : IC := leadV.b.b.b.b.a.b
noncomputable def chk2 : IC := sizeV.a
noncomputable def chk3 : IC := sizeV.b.b.a
noncomputable def chk4 : IC := sizeV.b.b.b.b.a
theorem chk2_eq (P : Program) (N n0 : Nat) (M : Mem) (q id ty ty2 : Nat) (s : List UInt8) (hq : M[q]? = some (.row (ofBytes s) 0 ty)) (off n : Nat) (l : List UInt8) (hl : s.drop off = l) (hn : l.length = n) (lo hi : Nat) (h6 : M[id]? = some (.row [.int .u8 (lo : Nat), .int .u8 (hi : Nat)] 0 ty2)) (t : List (Nat × AV)) (t0 : look t 0 = .slc q off n 1 0) (t6 : look t 6 = .ptr id 0 0) :
    match Lib.checkN l.length (l.getD 1 0).toNat (l.getD 2 0).toNat (l.getD 3 0).toNat 2 lo hi with
    | none => ∃ t', evI P (cfg ml) (evFI P (cfg ml) T N n0) N chk2 ⟨188, t, []⟩ M = some (.ret, ⟨188, t', []⟩, M) ∧ look t' 2 = .bool false
    | some j => ∃ t', evI P (cfg ml) (evFI P (cfg ml) T N n0) N chk2 ⟨188, t, []⟩ M = some (.normal, ⟨188, t', []⟩, M) ∧ look t' 0 = .slc q (off + j) (n - j) 1 0 ∧ j ≤ n ∧ 0 < j := by
  cases hi0 : decide ((n : Int) < 2)
  rotate_left
  · rw [show Lib.checkN l.length (l.getD 1 0).toNat (l.getD 2 0).toNat (l.getD 3 0).toNat 2 lo hi = none from by
      have := of_decide_eq_true hi0
      simp only [Lib.checkN]; rw [if_pos trivial, if_pos (by omega)]]
    exact ⟨_, by simp only [chk2,sizeV,leadV,loopV1,IC.a,IC.b,I79,IC.loops,Za,t0,t6,hq,h6,hi0,eC_len,eC_take,eC_one,eC_0,eC_1,eC_2,eC_3,eC_4,eCr,eCr_0,eCr_1,eCr_2,eCr_3,eCr_4,List.length_drop,Nat.reduceSub,ZR,atr,Zs,Zr,Zp,Za,Zb,evI,opsI,stepI,wantI,opI,AAct.evI,look,AAct.put,mkVal,mkVM,intOpA,intA,shiftA,unA,ZP,ZO,Zh,Zt,reduceIte,Nat.reduceEqDiff,Nat.reduceLT,Zo,Zq,true_and,and_true,and_self,ZB,cellsAt,Zg,ZC,Zf,Zk,ZL,ZM,Nat.reduceAdd,Nat.reduceMul,ZN,AV.cells,AV.one,known,Zn,getE_0,getE_k,setE_0,setE_k,Zc,Zd,Zl,Zm,Zi,Zw,Zu,Zj,Z1,Zx,Zy,ZJ,ZI,ZH,ZD,ZE,splice,fillI,Nat.reduceLeDiff,strA,ZK,ZA,Ze,bq_ft,bq_tf,ZG,ZF,ZQ,Zv,Zz,isNilA,nilPtr,nilSl,nilIf,nilFn,nilMap,nilCheckA,if_true,if_false,lt_lit,le_lit,lt_lit2,le_lit2,le_sub1,le_sub2,drawI,drawI2,drawI0,drawI20,lexD,valD,valI,putD,okD,roD,memAt,lastM,wantI,eqv_refl,eqM_refl,eqM_app,eqB,eqvL,eqv,List.getLast?_cons_cons,List.getLast?_singleton,Option.getD_some,Bool.or_true,Bool.true_or,ZA,resvV]; rfl, rfl⟩
  have hn2 : 2 ≤ n := by have := of_decide_eq_false hi0; omega
  obtain ⟨b0, b1, r, rfl⟩ : ∃ b0 b1 r, l = b0 :: b1 :: r := by
    match l, (show 2 ≤ l.length by omega) with
    | b0 :: b1 :: r, _ => exact ⟨b0, b1, r, rfl⟩
  simp only [Za,Zb]
  obtain ⟨d0, l0, z0⟩ := bytes_at hl
  obtain ⟨d1, l1, z1⟩ := bytes_at z0
  simp only [ZK,Nat.reduceAdd] at l1
  have i1 : 1 < n := by omega
  have n1 : natOf (.int .i64 1) = some 1 := rfl
  have nk : natOf (.int .i64 2) = some 2 := rfl
  have o0 : 0 < 2 := by decide
  generalize hb1 : Lib.checkN _ _ _ _ _ _ _ = ck
  cases c0 : decide ((b1.toNat : Int) < (lo : Int))
  rotate_left
  · have e : ck = none := by
      rw [← hb1]
      have := of_decide_eq_true c0
      simp only [Lib.checkN]; rw [if_pos trivial, if_pos (by omega)]
    subst e
    exact ⟨_, by simp only [chk2,sizeV,leadV,loopV1,IC.a,IC.b,I79,IC.loops,Za,t0,t6,hq,h6,hi0,d1,l1,i1,n1,c0,eC_len,eC_take,eC_one,eC_0,eC_1,eC_2,eC_3,eC_4,eCr,eCr_0,eCr_1,eCr_2,eCr_3,eCr_4,List.length_drop,Nat.reduceSub,ZR,atr,Zs,Zr,Zp,Za,Zb,evI,opsI,stepI,wantI,opI,AAct.evI,look,AAct.put,mkVal,mkVM,intOpA,intA,shiftA,unA,ZP,ZO,Zh,Zt,reduceIte,Nat.reduceEqDiff,Nat.reduceLT,Zo,Zq,true_and,and_true,and_self,ZB,cellsAt,Zg,ZC,Zf,Zk,ZL,ZM,Nat.reduceAdd,Nat.reduceMul,ZN,AV.cells,AV.one,known,Zn,getE_0,getE_k,setE_0,setE_k,Zc,Zd,Zl,Zm,Zi,Zw,Zu,Zj,Z1,Zx,Zy,ZJ,ZI,ZH,ZD,ZE,splice,fillI,Nat.reduceLeDiff,strA,ZK,ZA,Ze,bq_ft,bq_tf,ZG,ZF,ZQ,Zv,Zz,isNilA,nilPtr,nilSl,nilIf,nilFn,nilMap,nilCheckA,if_true,if_false,lt_lit,le_lit,lt_lit2,le_lit2,le_sub1,le_sub2,drawI,drawI2,drawI0,drawI20,lexD,valD,valI,putD,okD,roD,memAt,lastM,wantI,eqv_refl,eqM_refl,eqM_app,eqB,eqvL,eqv,List.getLast?_cons_cons,List.getLast?_singleton,Option.getD_some,Bool.or_true,Bool.true_or,ZA,resvV]; rfl, rfl⟩
  cases c1 : decide ((hi : Int) < (b1.toNat : Int))
  rotate_left
  · have e : ck = none := by
      rw [← hb1]
      have := of_decide_eq_true c1
      simp only [Lib.checkN]; rw [if_pos trivial, if_pos (by omega)]
    subst e
    exact ⟨_, by simp only [chk2,sizeV,leadV,loopV1,IC.a,IC.b,I79,IC.loops,Za,t0,t6,hq,h6,hi0,d1,l1,i1,n1,c0,c1,eC_len,eC_take,eC_one,eC_0,eC_1,eC_2,eC_3,eC_4,eCr,eCr_0,eCr_1,eCr_2,eCr_3,eCr_4,List.length_drop,Nat.reduceSub,ZR,atr,Zs,Zr,Zp,Za,Zb,evI,opsI,stepI,wantI,opI,AAct.evI,look,AAct.put,mkVal,mkVM,intOpA,intA,shiftA,unA,ZP,ZO,Zh,Zt,reduceIte,Nat.reduceEqDiff,Nat.reduceLT,Zo,Zq,true_and,and_true,and_self,ZB,cellsAt,Zg,ZC,Zf,Zk,ZL,ZM,Nat.reduceAdd,Nat.reduceMul,ZN,AV.cells,AV.one,known,Zn,getE_0,getE_k,setE_0,setE_k,Zc,Zd,Zl,Zm,Zi,Zw,Zu,Zj,Z1,Zx,Zy,ZJ,ZI,ZH,ZD,ZE,splice,fillI,Nat.reduceLeDiff,strA,ZK,ZA,Ze,bq_ft,bq_tf,ZG,ZF,ZQ,Zv,Zz,isNilA,nilPtr,nilSl,nilIf,nilFn,nilMap,nilCheckA,if_true,if_false,lt_lit,le_lit,lt_lit2,le_lit2,le_sub1,le_sub2,drawI,drawI2,drawI0,drawI20,lexD,valD,valI,putD,okD,roD,memAt,lastM,wantI,eqv_refl,eqM_refl,eqM_app,eqB,eqvL,eqv,List.getLast?_cons_cons,List.getLast?_singleton,Option.getD_some,Bool.or_true,Bool.true_or,ZA,resvV]; rfl, rfl⟩
  have e : ck = some 2 := by
    rw [← hb1]
    have g0 := of_decide_eq_false c0
    have g1 := of_decide_eq_false c1
    simp only [Lib.checkN]; rw [if_pos trivial, if_neg (by simp only [Zf] at hn ⊢; omega)]
  subst e
  exact ⟨_, by simp only [chk2,sizeV,leadV,loopV1,IC.a,IC.b,I79,IC.loops,Za,t0,t6,hq,h6,hi0,d1,l1,i1,n1,c0,c1,nk,bound,cutSD,hn2,ZQ,eC_len,eC_take,eC_one,eC_0,eC_1,eC_2,eC_3,eC_4,eCr,eCr_0,eCr_1,eCr_2,eCr_3,eCr_4,List.length_drop,Nat.reduceSub,ZR,atr,Zs,Zr,Zp,Za,Zb,evI,opsI,stepI,wantI,opI,AAct.evI,look,AAct.put,mkVal,mkVM,intOpA,intA,shiftA,unA,ZP,ZO,Zh,Zt,reduceIte,Nat.reduceEqDiff,Nat.reduceLT,Zo,Zq,true_and,and_true,and_self,ZB,cellsAt,Zg,ZC,Zf,Zk,ZL,ZM,Nat.reduceAdd,Nat.reduceMul,ZN,AV.cells,AV.one,known,Zn,getE_0,getE_k,setE_0,setE_k,Zc,Zd,Zl,Zm,Zi,Zw,Zu,Zj,Z1,Zx,Zy,ZJ,ZI,ZH,ZD,ZE,splice,fillI,Nat.reduceLeDiff,strA,ZK,ZA,Ze,bq_ft,bq_tf,ZG,ZF,ZQ,Zv,Zz,isNilA,nilPtr,nilSl,nilIf,nilFn,nilMap,nilCheckA,if_true,if_false,lt_lit,le_lit,lt_lit2,le_lit2,le_sub1,le_sub2,drawI,drawI2,drawI0,drawI20,lexD,valD,valI,putD,okD,roD,memAt,lastM,wantI,eqv_refl,eqM_refl,eqM_app,eqB,eqvL,eqv,List.getLast?_cons_cons,List.getLast?_singleton,Option.getD_some,Bool.or_true,Bool.true_or,ZA,resvV]; rfl, rfl, hn2, by decide⟩
theorem chk3_eq (P : Program) (N n0 : Nat) (M : Mem) (q id ty ty2 : Nat) (s : List UInt8) (hq : M[q]? = some (.row (ofBytes s) 0 ty)) (off n : Nat) (l : List UInt8) (hl : s.drop off = l) (hn : l.length = n) (lo hi : Nat) (h6 : M[id]? = some (.row [.int .u8 (lo : Nat), .int .u8 (hi : Nat)] 0 ty2)) (t : List (Nat × AV)) (t0 : look t 0 = .slc q off n 1 0) (t6 : look t 6 = .ptr id 0 0) :
    match Lib.checkN l.length (l.getD 1 0).toNat (l.getD 2 0).toNat (l.getD 3 0).toNat 3 lo hi with
    | none => ∃ t', evI P (cfg ml) (evFI P (cfg ml) T N n0) N chk3 ⟨188, t, []⟩ M = some (.ret, ⟨188, t', []⟩, M) ∧ look t' 2 = .bool false
    | some j => ∃ t', evI P (cfg ml) (evFI P (cfg ml) T N n0) N chk3 ⟨188, t, []⟩ M = some (.normal, ⟨188, t', []⟩, M) ∧ look t' 0 = .slc q (off + j) (n - j) 1 0 ∧ j ≤ n ∧ 0 < j := by
  cases hi0 : decide ((n : Int) < 3)
  rotate_left
  · rw [show Lib.checkN l.length (l.getD 1 0).toNat (l.getD 2 0).toNat (l.getD 3 0).toNat 3 lo hi = none from by
      have := of_decide_eq_true hi0
      simp only [Lib.checkN]; rw [if_neg (by decide), if_pos trivial, if_pos (by omega)]]
    exact ⟨_, by simp only [chk3,sizeV,leadV,loopV1,IC.a,IC.b,I79,IC.loops,Za,t0,t6,hq,h6,hi0,eC_len,eC_take,eC_one,eC_0,eC_1,eC_2,eC_3,eC_4,eCr,eCr_0,eCr_1,eCr_2,eCr_3,eCr_4,List.length_drop,Nat.reduceSub,ZR,atr,Zs,Zr,Zp,Za,Zb,evI,opsI,stepI,wantI,opI,AAct.evI,look,AAct.put,mkVal,mkVM,intOpA,intA,shiftA,unA,ZP,ZO,Zh,Zt,reduceIte,Nat.reduceEqDiff,Nat.reduceLT,Zo,Zq,true_and,and_true,and_self,ZB,cellsAt,Zg,ZC,Zf,Zk,ZL,ZM,Nat.reduceAdd,Nat.reduceMul,ZN,AV.cells,AV.one,known,Zn,getE_0,getE_k,setE_0,setE_k,Zc,Zd,Zl,Zm,Zi,Zw,Zu,Zj,Z1,Zx,Zy,ZJ,ZI,ZH,ZD,ZE,splice,fillI,Nat.reduceLeDiff,strA,ZK,ZA,Ze,bq_ft,bq_tf,ZG,ZF,ZQ,Zv,Zz,isNilA,nilPtr,nilSl,nilIf,nilFn,nilMap,nilCheckA,if_true,if_false,lt_lit,le_lit,lt_lit2,le_lit2,le_sub1,le_sub2,drawI,drawI2,drawI0,drawI20,lexD,valD,valI,putD,okD,roD,memAt,lastM,wantI,eqv_refl,eqM_refl,eqM_app,eqB,eqvL,eqv,List.getLast?_cons_cons,List.getLast?_singleton,Option.getD_some,Bool.or_true,Bool.true_or,ZA,resvV]; rfl, rfl⟩
  have hn3 : 3 ≤ n := by have := of_decide_eq_false hi0; omega
  obtain ⟨b0, b1, b2, r, rfl⟩ : ∃ b0 b1 b2 r, l = b0 :: b1 :: b2 :: r := by
    match l, (show 3 ≤ l.length by omega) with
    | b0 :: b1 :: b2 :: r, _ => exact ⟨b0, b1, b2, r, rfl⟩
  simp only [Za,Zb]
  obtain ⟨d0, l0, z0⟩ := bytes_at hl
  obtain ⟨d1, l1, z1⟩ := bytes_at z0
  obtain ⟨d2, l2, z2⟩ := bytes_at z1
  simp only [ZK,Nat.reduceAdd] at d2 l2
  simp only [ZK,Nat.reduceAdd] at l1
  have i1 : 1 < n := by omega
  have n1 : natOf (.int .i64 1) = some 1 := rfl
  have i2 : 2 < n := by omega
  have n2 : natOf (.int .i64 2) = some 2 := rfl
  have nk : natOf (.int .i64 3) = some 3 := rfl
  have o0 : 0 < 2 := by decide
  generalize hb1 : Lib.checkN _ _ _ _ _ _ _ = ck
  cases c0 : decide ((b1.toNat : Int) < (lo : Int))
  rotate_left
  · have e : ck = none := by
      rw [← hb1]
      have := of_decide_eq_true c0
      simp only [Lib.checkN]; rw [if_neg (by decide), if_pos trivial, if_pos (by omega)]
    subst e
    exact ⟨_, by simp only [chk3,sizeV,leadV,loopV1,IC.a,IC.b,I79,IC.loops,Za,t0,t6,hq,h6,hi0,d1,l1,i1,n1,d2,l2,i2,n2,c0,eC_len,eC_take,eC_one,eC_0,eC_1,eC_2,eC_3,eC_4,eCr,eCr_0,eCr_1,eCr_2,eCr_3,eCr_4,List.length_drop,Nat.reduceSub,ZR,atr,Zs,Zr,Zp,Za,Zb,evI,opsI,stepI,wantI,opI,AAct.evI,look,AAct.put,mkVal,mkVM,intOpA,intA,shiftA,unA,ZP,ZO,Zh,Zt,reduceIte,Nat.reduceEqDiff,Nat.reduceLT,Zo,Zq,true_and,and_true,and_self,ZB,cellsAt,Zg,ZC,Zf,Zk,ZL,ZM,Nat.reduceAdd,Nat.reduceMul,ZN,AV.cells,AV.one,known,Zn,getE_0,getE_k,setE_0,setE_k,Zc,Zd,Zl,Zm,Zi,Zw,Zu,Zj,Z1,Zx,Zy,ZJ,ZI,ZH,ZD,ZE,splice,fillI,Nat.reduceLeDiff,strA,ZK,ZA,Ze,bq_ft,bq_tf,ZG,ZF,ZQ,Zv,Zz,isNilA,nilPtr,nilSl,nilIf,nilFn,nilMap,nilCheckA,if_true,if_false,lt_lit,le_lit,lt_lit2,le_lit2,le_sub1,le_sub2,drawI,drawI2,drawI0,drawI20,lexD,valD,valI,putD,okD,roD,memAt,lastM,wantI,eqv_refl,eqM_refl,eqM_app,eqB,eqvL,eqv,List.getLast?_cons_cons,List.getLast?_singleton,Option.getD_some,Bool.or_true,Bool.true_or,ZA,resvV]; rfl, rfl⟩
  cases c1 : decide ((hi : Int) < (b1.toNat : Int))
  rotate_left
  · have e : ck = none := by
      rw [← hb1]
      have := of_decide_eq_true c1
      simp only [Lib.checkN]; rw [if_neg (by decide), if_pos trivial, if_pos (by omega)]
    subst e
    exact ⟨_, by simp only [chk3,sizeV,leadV,loopV1,IC.a,IC.b,I79,IC.loops,Za,t0,t6,hq,h6,hi0,d1,l1,i1,n1,d2,l2,i2,n2,c0,c1,eC_len,eC_take,eC_one,eC_0,eC_1,eC_2,eC_3,eC_4,eCr,eCr_0,eCr_1,eCr_2,eCr_3,eCr_4,List.length_drop,Nat.reduceSub,ZR,atr,Zs,Zr,Zp,Za,Zb,evI,opsI,stepI,wantI,opI,AAct.evI,look,AAct.put,mkVal,mkVM,intOpA,intA,shiftA,unA,ZP,ZO,Zh,Zt,reduceIte,Nat.reduceEqDiff,Nat.reduceLT,Zo,Zq,true_and,and_true,and_self,ZB,cellsAt,Zg,ZC,Zf,Zk,ZL,ZM,Nat.reduceAdd,Nat.reduceMul,ZN,AV.cells,AV.one,known,Zn,getE_0,getE_k,setE_0,setE_k,Zc,Zd,Zl,Zm,Zi,Zw,Zu,Zj,Z1,Zx,Zy,ZJ,ZI,ZH,ZD,ZE,splice,fillI,Nat.reduceLeDiff,strA,ZK,ZA,Ze,bq_ft,bq_tf,ZG,ZF,ZQ,Zv,Zz,isNilA,nilPtr,nilSl,nilIf,nilFn,nilMap,nilCheckA,if_true,if_false,lt_lit,le_lit,lt_lit2,le_lit2,le_sub1,le_sub2,drawI,drawI2,drawI0,drawI20,lexD,valD,valI,putD,okD,roD,memAt,lastM,wantI,eqv_refl,eqM_refl,eqM_app,eqB,eqvL,eqv,List.getLast?_cons_cons,List.getLast?_singleton,Option.getD_some,Bool.or_true,Bool.true_or,ZA,resvV]; rfl, rfl⟩
  cases c2 : decide ((b2.toNat : Int) < 128)
  rotate_left
  · have e : ck = none := by
      rw [← hb1]
      have := of_decide_eq_true c2
      simp only [Lib.checkN]; rw [if_neg (by decide), if_pos trivial, if_pos (by omega)]
    subst e
    exact ⟨_, by simp only [chk3,sizeV,leadV,loopV1,IC.a,IC.b,I79,IC.loops,Za,t0,t6,hq,h6,hi0,d1,l1,i1,n1,d2,l2,i2,n2,c0,c1,c2,eC_len,eC_take,eC_one,eC_0,eC_1,eC_2,eC_3,eC_4,eCr,eCr_0,eCr_1,eCr_2,eCr_3,eCr_4,List.length_drop,Nat.reduceSub,ZR,atr,Zs,Zr,Zp,Za,Zb,evI,opsI,stepI,wantI,opI,AAct.evI,look,AAct.put,mkVal,mkVM,intOpA,intA,shiftA,unA,ZP,ZO,Zh,Zt,reduceIte,Nat.reduceEqDiff,Nat.reduceLT,Zo,Zq,true_and,and_true,and_self,ZB,cellsAt,Zg,ZC,Zf,Zk,ZL,ZM,Nat.reduceAdd,Nat.reduceMul,ZN,AV.cells,AV.one,known,Zn,getE_0,getE_k,setE_0,setE_k,Zc,Zd,Zl,Zm,Zi,Zw,Zu,Zj,Z1,Zx,Zy,ZJ,ZI,ZH,ZD,ZE,splice,fillI,Nat.reduceLeDiff,strA,ZK,ZA,Ze,bq_ft,bq_tf,ZG,ZF,ZQ,Zv,Zz,isNilA,nilPtr,nilSl,nilIf,nilFn,nilMap,nilCheckA,if_true,if_false,lt_lit,le_lit,lt_lit2,le_lit2,le_sub1,le_sub2,drawI,drawI2,drawI0,drawI20,lexD,valD,valI,putD,okD,roD,memAt,lastM,wantI,eqv_refl,eqM_refl,eqM_app,eqB,eqvL,eqv,List.getLast?_cons_cons,List.getLast?_singleton,Option.getD_some,Bool.or_true,Bool.true_or,ZA,resvV]; rfl, rfl⟩
  cases c3 : decide ((191 : Int) < (b2.toNat : Int))
  rotate_left
  · have e : ck = none := by
      rw [← hb1]
      have := of_decide_eq_true c3
      simp only [Lib.checkN]; rw [if_neg (by decide), if_pos trivial, if_pos (by omega)]
    subst e
    exact ⟨_, by simp only [chk3,sizeV,leadV,loopV1,IC.a,IC.b,I79,IC.loops,Za,t0,t6,hq,h6,hi0,d1,l1,i1,n1,d2,l2,i2,n2,c0,c1,c2,c3,eC_len,eC_take,eC_one,eC_0,eC_1,eC_2,eC_3,eC_4,eCr,eCr_0,eCr_1,eCr_2,eCr_3,eCr_4,List.length_drop,Nat.reduceSub,ZR,atr,Zs,Zr,Zp,Za,Zb,evI,opsI,stepI,wantI,opI,AAct.evI,look,AAct.put,mkVal,mkVM,intOpA,intA,shiftA,unA,ZP,ZO,Zh,Zt,reduceIte,Nat.reduceEqDiff,Nat.reduceLT,Zo,Zq,true_and,and_true,and_self,ZB,cellsAt,Zg,ZC,Zf,Zk,ZL,ZM,Nat.reduceAdd,Nat.reduceMul,ZN,AV.cells,AV.one,known,Zn,getE_0,getE_k,setE_0,setE_k,Zc,Zd,Zl,Zm,Zi,Zw,Zu,Zj,Z1,Zx,Zy,ZJ,ZI,ZH,ZD,ZE,splice,fillI,Nat.reduceLeDiff,strA,ZK,ZA,Ze,bq_ft,bq_tf,ZG,ZF,ZQ,Zv,Zz,isNilA,nilPtr,nilSl,nilIf,nilFn,nilMap,nilCheckA,if_true,if_false,lt_lit,le_lit,lt_lit2,le_lit2,le_sub1,le_sub2,drawI,drawI2,drawI0,drawI20,lexD,valD,valI,putD,okD,roD,memAt,lastM,wantI,eqv_refl,eqM_refl,eqM_app,eqB,eqvL,eqv,List.getLast?_cons_cons,List.getLast?_singleton,Option.getD_some,Bool.or_true,Bool.true_or,ZA,resvV]; rfl, rfl⟩
  have e : ck = some 3 := by
    rw [← hb1]
    have g0 := of_decide_eq_false c0
    have g1 := of_decide_eq_false c1
    have g2 := of_decide_eq_false c2
    have g3 := of_decide_eq_false c3
    simp only [Lib.checkN]; rw [if_neg (by decide), if_pos trivial, if_neg (by simp only [Zf] at hn ⊢; omega)]
  subst e
  exact ⟨_, by simp only [chk3,sizeV,leadV,loopV1,IC.a,IC.b,I79,IC.loops,Za,t0,t6,hq,h6,hi0,d1,l1,i1,n1,d2,l2,i2,n2,c0,c1,c2,c3,nk,bound,cutSD,hn3,ZQ,eC_len,eC_take,eC_one,eC_0,eC_1,eC_2,eC_3,eC_4,eCr,eCr_0,eCr_1,eCr_2,eCr_3,eCr_4,List.length_drop,Nat.reduceSub,ZR,atr,Zs,Zr,Zp,Za,Zb,evI,opsI,stepI,wantI,opI,AAct.evI,look,AAct.put,mkVal,mkVM,intOpA,intA,shiftA,unA,ZP,ZO,Zh,Zt,reduceIte,Nat.reduceEqDiff,Nat.reduceLT,Zo,Zq,true_and,and_true,and_self,ZB,cellsAt,Zg,ZC,Zf,Zk,ZL,ZM,Nat.reduceAdd,Nat.reduceMul,ZN,AV.cells,AV.one,known,Zn,getE_0,getE_k,setE_0,setE_k,Zc,Zd,Zl,Zm,Zi,Zw,Zu,Zj,Z1,Zx,Zy,ZJ,ZI,ZH,ZD,ZE,splice,fillI,Nat.reduceLeDiff,strA,ZK,ZA,Ze,bq_ft,bq_tf,ZG,ZF,ZQ,Zv,Zz,isNilA,nilPtr,nilSl,nilIf,nilFn,nilMap,nilCheckA,if_true,if_false,lt_lit,le_lit,lt_lit2,le_lit2,le_sub1,le_sub2,drawI,drawI2,drawI0,drawI20,lexD,valD,valI,putD,okD,roD,memAt,lastM,wantI,eqv_refl,eqM_refl,eqM_app,eqB,eqvL,eqv,List.getLast?_cons_cons,List.getLast?_singleton,Option.getD_some,Bool.or_true,Bool.true_or,ZA,resvV]; rfl, rfl, hn3, by decide⟩
theorem chk4_eq (P : Program) (N n0 : Nat) (M : Mem) (q id ty ty2 : Nat) (s : List UInt8) (hq : M[q]? = some (.row (ofBytes s) 0 ty)) (off n : Nat) (l : List UInt8) (hl : s.drop off = l) (hn : l.length = n) (lo hi : Nat) (h6 : M[id]? = some (.row [.int .u8 (lo : Nat), .int .u8 (hi : Nat)] 0 ty2)) (t : List (Nat × AV)) (t0 : look t 0 = .slc q off n 1 0) (t6 : look t 6 = .ptr id 0 0) :
    match Lib.checkN l.length (l.getD 1 0).toNat (l.getD 2 0).toNat (l.getD 3 0).toNat 4 lo hi with
    | none => ∃ t', evI P (cfg ml) (evFI P (cfg ml) T N n0) N chk4 ⟨188, t, []⟩ M = some (.ret, ⟨188, t', []⟩, M) ∧ look t' 2 = .bool false
    | some j => ∃ t', evI P (cfg ml) (evFI P (cfg ml) T N n0) N chk4 ⟨188, t, []⟩ M = some (.normal, ⟨188, t', []⟩, M) ∧ look t' 0 = .slc q (off + j) (n - j) 1 0 ∧ j ≤ n ∧ 0 < j := by
  cases hi0 : decide ((n : Int) < 4)
  rotate_left
  · rw [show Lib.checkN l.length (l.getD 1 0).toNat (l.getD 2 0).toNat (l.getD 3 0).toNat 4 lo hi = none from by
      have := of_decide_eq_true hi0
      simp only [Lib.checkN]; rw [if_neg (by decide), if_neg (by decide), if_pos trivial, if_pos (by omega)]]
    exact ⟨_, by simp only [chk4,sizeV,leadV,loopV1,IC.a,IC.b,I79,IC.loops,Za,t0,t6,hq,h6,hi0,eC_len,eC_take,eC_one,eC_0,eC_1,eC_2,eC_3,eC_4,eCr,eCr_0,eCr_1,eCr_2,eCr_3,eCr_4,List.length_drop,Nat.reduceSub,ZR,atr,Zs,Zr,Zp,Za,Zb,evI,opsI,stepI,wantI,opI,AAct.evI,look,AAct.put,mkVal,mkVM,intOpA,intA,shiftA,unA,ZP,ZO,Zh,Zt,reduceIte,Nat.reduceEqDiff,Nat.reduceLT,Zo,Zq,true_and,and_true,and_self,ZB,cellsAt,Zg,ZC,Zf,Zk,ZL,ZM,Nat.reduceAdd,Nat.reduceMul,ZN,AV.cells,AV.one,known,Zn,getE_0,getE_k,setE_0,setE_k,Zc,Zd,Zl,Zm,Zi,Zw,Zu,Zj,Z1,Zx,Zy,ZJ,ZI,ZH,ZD,ZE,splice,fillI,Nat.reduceLeDiff,strA,ZK,ZA,Ze,bq_ft,bq_tf,ZG,ZF,ZQ,Zv,Zz,isNilA,nilPtr,nilSl,nilIf,nilFn,nilMap,nilCheckA,if_true,if_false,lt_lit,le_lit,lt_lit2,le_lit2,le_sub1,le_sub2,drawI,drawI2,drawI0,drawI20,lexD,valD,valI,putD,okD,roD,memAt,lastM,wantI,eqv_refl,eqM_refl,eqM_app,eqB,eqvL,eqv,List.getLast?_cons_cons,List.getLast?_singleton,Option.getD_some,Bool.or_true,Bool.true_or,ZA,resvV]; rfl, rfl⟩
  have hn4 : 4 ≤ n := by have := of_decide_eq_false hi0; omega
  obtain ⟨b0, b1, b2, b3, r, rfl⟩ : ∃ b0 b1 b2 b3 r, l = b0 :: b1 :: b2 :: b3 :: r := by
    match l, (show 4 ≤ l.length by omega) with
    | b0 :: b1 :: b2 :: b3 :: r, _ => exact ⟨b0, b1, b2, b3, r, rfl⟩
  simp only [Za,Zb]
  obtain ⟨d0, l0, z0⟩ := bytes_at hl
  obtain ⟨d1, l1, z1⟩ := bytes_at z0
  obtain ⟨d2, l2, z2⟩ := bytes_at z1
  obtain ⟨d3, l3, z3⟩ := bytes_at z2
  simp only [ZK,Nat.reduceAdd] at d2 l2
  simp only [ZK,Nat.reduceAdd] at d3 l3
  simp only [ZK,Nat.reduceAdd] at l1
  have i1 : 1 < n := by omega
  have n1 : natOf (.int .i64 1) = some 1 := rfl
  have i2 : 2 < n := by omega
  have n2 : natOf (.int .i64 2) = some 2 := rfl
  have i3 : 3 < n := by omega
  have n3 : natOf (.int .i64 3) = some 3 := rfl
  have nk : natOf (.int .i64 4) = some 4 := rfl
  have o0 : 0 < 2 := by decide
  generalize hb1 : Lib.checkN _ _ _ _ _ _ _ = ck
  cases c0 : decide ((b1.toNat : Int) < (lo : Int))
  rotate_left
  · have e : ck = none := by
      rw [← hb1]
      have := of_decide_eq_true c0
      simp only [Lib.checkN]; rw [if_neg (by decide), if_neg (by decide), if_pos trivial, if_pos (by omega)]
    subst e
    exact ⟨_, by simp only [chk4,sizeV,leadV,loopV1,IC.a,IC.b,I79,IC.loops,Za,t0,t6,hq,h6,hi0,d1,l1,i1,n1,d2,l2,i2,n2,d3,l3,i3,n3,c0,eC_len,eC_take,eC_one,eC_0,eC_1,eC_2,eC_3,eC_4,eCr,eCr_0,eCr_1,eCr_2,eCr_3,eCr_4,List.length_drop,Nat.reduceSub,ZR,atr,Zs,Zr,Zp,Za,Zb,evI,opsI,stepI,wantI,opI,AAct.evI,look,AAct.put,mkVal,mkVM,intOpA,intA,shiftA,unA,ZP,ZO,Zh,Zt,reduceIte,Nat.reduceEqDiff,Nat.reduceLT,Zo,Zq,true_and,and_true,and_self,ZB,cellsAt,Zg,ZC,Zf,Zk,ZL,ZM,Nat.reduceAdd,Nat.reduceMul,ZN,AV.cells,AV.one,known,Zn,getE_0,getE_k,setE_0,setE_k,Zc,Zd,Zl,Zm,Zi,Zw,Zu,Zj,Z1,Zx,Zy,ZJ,ZI,ZH,ZD,ZE,splice,fillI,Nat.reduceLeDiff,strA,ZK,ZA,Ze,bq_ft,bq_tf,ZG,ZF,ZQ,Zv,Zz,isNilA,nilPtr,nilSl,nilIf,nilFn,nilMap,nilCheckA,if_true,if_false,lt_lit,le_lit,lt_lit2,le_lit2,le_sub1,le_sub2,drawI,drawI2,drawI0,drawI20,lexD,valD,valI,putD,okD,roD,memAt,lastM,wantI,eqv_refl,eqM_refl,eqM_app,eqB,eqvL,eqv,List.getLast?_cons_cons,List.getLast?_singleton,Option.getD_some,Bool.or_true,Bool.true_or,ZA,resvV]; rfl, rfl⟩
  cases c1 : decide ((hi : Int) < (b1.toNat : Int))
  rotate_left
  · have e : ck = none := by
      rw [← hb1]
      have := of_decide_eq_true c1
      simp only [Lib.checkN]; rw [if_neg (by decide), if_neg (by decide), if_pos trivial, if_pos (by omega)]
    subst e
    exact ⟨_, by simp only [chk4,sizeV,leadV,loopV1,IC.a,IC.b,I79,IC.loops,Za,t0,t6,hq,h6,hi0,d1,l1,i1,n1,d2,l2,i2,n2,d3,l3,i3,n3,c0,c1,eC_len,eC_take,eC_one,eC_0,eC_1,eC_2,eC_3,eC_4,eCr,eCr_0,eCr_1,eCr_2,eCr_3,eCr_4,List.length_drop,Nat.reduceSub,ZR,atr,Zs,Zr,Zp,Za,Zb,evI,opsI,stepI,wantI,opI,AAct.evI,look,AAct.put,mkVal,mkVM,intOpA,intA,shiftA,unA,ZP,ZO,Zh,Zt,reduceIte,Nat.reduceEqDiff,Nat.reduceLT,Zo,Zq,true_and,and_true,and_self,ZB,cellsAt,Zg,ZC,Zf,Zk,ZL,ZM,Nat.reduceAdd,Nat.reduceMul,ZN,AV.cells,AV.one,known,Zn,getE_0,getE_k,setE_0,setE_k,Zc,Zd,Zl,Zm,Zi,Zw,Zu,Zj,Z1,Zx,Zy,ZJ,ZI,ZH,ZD,ZE,splice,fillI,Nat.reduceLeDiff,strA,ZK,ZA,Ze,bq_ft,bq_tf,ZG,ZF,ZQ,Zv,Zz,isNilA,nilPtr,nilSl,nilIf,nilFn,nilMap,nilCheckA,if_true,if_false,lt_lit,le_lit,lt_lit2,le_lit2,le_sub1,le_sub2,drawI,drawI2,drawI0,drawI20,lexD,valD,valI,putD,okD,roD,memAt,lastM,wantI,eqv_refl,eqM_refl,eqM_app,eqB,eqvL,eqv,List.getLast?_cons_cons,List.getLast?_singleton,Option.getD_some,Bool.or_true,Bool.true_or,ZA,resvV]; rfl, rfl⟩
  cases c2 : decide ((b2.toNat : Int) < 128)
  rotate_left
  · have e : ck = none := by
      rw [← hb1]
      have := of_decide_eq_true c2
      simp only [Lib.checkN]; rw [if_neg (by decide), if_neg (by decide), if_pos trivial, if_pos (by omega)]
    subst e
    exact ⟨_, by simp only [chk4,sizeV,leadV,loopV1,IC.a,IC.b,I79,IC.loops,Za,t0,t6,hq,h6,hi0,d1,l1,i1,n1,d2,l2,i2,n2,d3,l3,i3,n3,c0,c1,c2,eC_len,eC_take,eC_one,eC_0,eC_1,eC_2,eC_3,eC_4,eCr,eCr_0,eCr_1,eCr_2,eCr_3,eCr_4,List.length_drop,Nat.reduceSub,ZR,atr,Zs,Zr,Zp,Za,Zb,evI,opsI,stepI,wantI,opI,AAct.evI,look,AAct.put,mkVal,mkVM,intOpA,intA,shiftA,unA,ZP,ZO,Zh,Zt,reduceIte,Nat.reduceEqDiff,Nat.reduceLT,Zo,Zq,true_and,and_true,and_self,ZB,cellsAt,Zg,ZC,Zf,Zk,ZL,ZM,Nat.reduceAdd,Nat.reduceMul,ZN,AV.cells,AV.one,known,Zn,getE_0,getE_k,setE_0,setE_k,Zc,Zd,Zl,Zm,Zi,Zw,Zu,Zj,Z1,Zx,Zy,ZJ,ZI,ZH,ZD,ZE,splice,fillI,Nat.reduceLeDiff,strA,ZK,ZA,Ze,bq_ft,bq_tf,ZG,ZF,ZQ,Zv,Zz,isNilA,nilPtr,nilSl,nilIf,nilFn,nilMap,nilCheckA,if_true,if_false,lt_lit,le_lit,lt_lit2,le_lit2,le_sub1,le_sub2,drawI,drawI2,drawI0,drawI20,lexD,valD,valI,putD,okD,roD,memAt,lastM,wantI,eqv_refl,eqM_refl,eqM_app,eqB,eqvL,eqv,List.getLast?_cons_cons,List.getLast?_singleton,Option.getD_some,Bool.or_true,Bool.true_or,ZA,resvV]; rfl, rfl⟩
  cases c3 : decide ((191 : Int) < (b2.toNat : Int))
  rotate_left
  · have e : ck = none := by
      rw [← hb1]
      have := of_decide_eq_true c3
      simp only [Lib.checkN]; rw [if_neg (by decide), if_neg (by decide), if_pos trivial, if_pos (by omega)]
    subst e
    exact ⟨_, by simp only [chk4,sizeV,leadV,loopV1,IC.a,IC.b,I79,IC.loops,Za,t0,t6,hq,h6,hi0,d1,l1,i1,n1,d2,l2,i2,n2,d3,l3,i3,n3,c0,c1,c2,c3,eC_len,eC_take,eC_one,eC_0,eC_1,eC_2,eC_3,eC_4,eCr,eCr_0,eCr_1,eCr_2,eCr_3,eCr_4,List.length_drop,Nat.reduceSub,ZR,atr,Zs,Zr,Zp,Za,Zb,evI,opsI,stepI,wantI,opI,AAct.evI,look,AAct.put,mkVal,mkVM,intOpA,intA,shiftA,unA,ZP,ZO,Zh,Zt,reduceIte,Nat.reduceEqDiff,Nat.reduceLT,Zo,Zq,true_and,and_true,and_self,ZB,cellsAt,Zg,ZC,Zf,Zk,ZL,ZM,Nat.reduceAdd,Nat.reduceMul,ZN,AV.cells,AV.one,known,Zn,getE_0,getE_k,setE_0,setE_k,Zc,Zd,Zl,Zm,Zi,Zw,Zu,Zj,Z1,Zx,Zy,ZJ,ZI,ZH,ZD,ZE,splice,fillI,Nat.reduceLeDiff,strA,ZK,ZA,Ze,bq_ft,bq_tf,ZG,ZF,ZQ,Zv,Zz,isNilA,nilPtr,nilSl,nilIf,nilFn,nilMap,nilCheckA,if_true,if_false,lt_lit,le_lit,lt_lit2,le_lit2,le_sub1,le_sub2,drawI,drawI2,drawI0,drawI20,lexD,valD,valI,putD,okD,roD,memAt,lastM,wantI,eqv_refl,eqM_refl,eqM_app,eqB,eqvL,eqv,List.getLast?_cons_cons,List.getLast?_singleton,Option.getD_some,Bool.or_true,Bool.true_or,ZA,resvV]; rfl, rfl⟩
  cases c4 : decide ((b3.toNat : Int) < 128)
  rotate_left
  · have e : ck = none := by
      rw [← hb1]
      have := of_decide_eq_true c4
      simp only [Lib.checkN]; rw [if_neg (by decide), if_neg (by decide), if_pos trivial, if_pos (by omega)]
    subst e
    exact ⟨_, by simp only [chk4,sizeV,leadV,loopV1,IC.a,IC.b,I79,IC.loops,Za,t0,t6,hq,h6,hi0,d1,l1,i1,n1,d2,l2,i2,n2,d3,l3,i3,n3,c0,c1,c2,c3,c4,eC_len,eC_take,eC_one,eC_0,eC_1,eC_2,eC_3,eC_4,eCr,eCr_0,eCr_1,eCr_2,eCr_3,eCr_4,List.length_drop,Nat.reduceSub,ZR,atr,Zs,Zr,Zp,Za,Zb,evI,opsI,stepI,wantI,opI,AAct.evI,look,AAct.put,mkVal,mkVM,intOpA,intA,shiftA,unA,ZP,ZO,Zh,Zt,reduceIte,Nat.reduceEqDiff,Nat.reduceLT,Zo,Zq,true_and,and_true,and_self,ZB,cellsAt,Zg,ZC,Zf,Zk,ZL,ZM,Nat.reduceAdd,Nat.reduceMul,ZN,AV.cells,AV.one,known,Zn,getE_0,getE_k,setE_0,setE_k,Zc,Zd,Zl,Zm,Zi,Zw,Zu,Zj,Z1,Zx,Zy,ZJ,ZI,ZH,ZD,ZE,splice,fillI,Nat.reduceLeDiff,strA,ZK,ZA,Ze,bq_ft,bq_tf,ZG,ZF,ZQ,Zv,Zz,isNilA,nilPtr,nilSl,nilIf,nilFn,nilMap,nilCheckA,if_true,if_false,lt_lit,le_lit,lt_lit2,le_lit2,le_sub1,le_sub2,drawI,drawI2,drawI0,drawI20,lexD,valD,valI,putD,okD,roD,memAt,lastM,wantI,eqv_refl,eqM_refl,eqM_app,eqB,eqvL,eqv,List.getLast?_cons_cons,List.getLast?_singleton,Option.getD_some,Bool.or_true,Bool.true_or,ZA,resvV]; rfl, rfl⟩
  cases c5 : decide ((191 : Int) < (b3.toNat : Int))
  rotate_left
  · have e : ck = none := by
      rw [← hb1]
      have := of_decide_eq_true c5
      simp only [Lib.checkN]; rw [if_neg (by decide), if_neg (by decide), if_pos trivial, if_pos (by omega)]
    subst e
    exact ⟨_, by simp only [chk4,sizeV,leadV,loopV1,IC.a,IC.b,I79,IC.loops,Za,t0,t6,hq,h6,hi0,d1,l1,i1,n1,d2,l2,i2,n2,d3,l3,i3,n3,c0,c1,c2,c3,c4,c5,eC_len,eC_take,eC_one,eC_0,eC_1,eC_2,eC_3,eC_4,eCr,eCr_0,eCr_1,eCr_2,eCr_3,eCr_4,List.length_drop,Nat.reduceSub,ZR,atr,Zs,Zr,Zp,Za,Zb,evI,opsI,stepI,wantI,opI,AAct.evI,look,AAct.put,mkVal,mkVM,intOpA,intA,shiftA,unA,ZP,ZO,Zh,Zt,reduceIte,Nat.reduceEqDiff,Nat.reduceLT,Zo,Zq,true_and,and_true,and_self,ZB,cellsAt,Zg,ZC,Zf,Zk,ZL,ZM,Nat.reduceAdd,Nat.reduceMul,ZN,AV.cells,AV.one,known,Zn,getE_0,getE_k,setE_0,setE_k,Zc,Zd,Zl,Zm,Zi,Zw,Zu,Zj,Z1,Zx,Zy,ZJ,ZI,ZH,ZD,ZE,splice,fillI,Nat.reduceLeDiff,strA,ZK,ZA,Ze,bq_ft,bq_tf,ZG,ZF,ZQ,Zv,Zz,isNilA,nilPtr,nilSl,nilIf,nilFn,nilMap,nilCheckA,if_true,if_false,lt_lit,le_lit,lt_lit2,le_lit2,le_sub1,le_sub2,drawI,drawI2,drawI0,drawI20,lexD,valD,valI,putD,okD,roD,memAt,lastM,wantI,eqv_refl,eqM_refl,eqM_app,eqB,eqvL,eqv,List.getLast?_cons_cons,List.getLast?_singleton,Option.getD_some,Bool.or_true,Bool.true_or,ZA,resvV]; rfl, rfl⟩
  have e : ck = some 4 := by
    rw [← hb1]
    have g0 := of_decide_eq_false c0
    have g1 := of_decide_eq_false c1
    have g2 := of_decide_eq_false c2
    have g3 := of_decide_eq_false c3
    have g4 := of_decide_eq_false c4
    have g5 := of_decide_eq_false c5
    simp only [Lib.checkN]; rw [if_neg (by decide), if_neg (by decide), if_pos trivial, if_neg (by simp only [Zf] at hn ⊢; omega)]
  subst e
  exact ⟨_, by simp only [chk4,sizeV,leadV,loopV1,IC.a,IC.b,I79,IC.loops,Za,t0,t6,hq,h6,hi0,d1,l1,i1,n1,d2,l2,i2,n2,d3,l3,i3,n3,c0,c1,c2,c3,c4,c5,nk,bound,cutSD,hn4,ZQ,eC_len,eC_take,eC_one,eC_0,eC_1,eC_2,eC_3,eC_4,eCr,eCr_0,eCr_1,eCr_2,eCr_3,eCr_4,List.length_drop,Nat.reduceSub,ZR,atr,Zs,Zr,Zp,Za,Zb,evI,opsI,stepI,wantI,opI,AAct.evI,look,AAct.put,mkVal,mkVM,intOpA,intA,shiftA,unA,ZP,ZO,Zh,Zt,reduceIte,Nat.reduceEqDiff,Nat.reduceLT,Zo,Zq,true_and,and_true,and_self,ZB,cellsAt,Zg,ZC,Zf,Zk,ZL,ZM,Nat.reduceAdd,Nat.reduceMul,ZN,AV.cells,AV.one,known,Zn,getE_0,getE_k,setE_0,setE_k,Zc,Zd,Zl,Zm,Zi,Zw,Zu,Zj,Z1,Zx,Zy,ZJ,ZI,ZH,ZD,ZE,splice,fillI,Nat.reduceLeDiff,strA,ZK,ZA,Ze,bq_ft,bq_tf,ZG,ZF,ZQ,Zv,Zz,isNilA,nilPtr,nilSl,nilIf,nilFn,nilMap,nilCheckA,if_true,if_false,lt_lit,le_lit,lt_lit2,le_lit2,le_sub1,le_sub2,drawI,drawI2,drawI0,drawI20,lexD,valD,valI,putD,okD,roD,memAt,lastM,wantI,eqv_refl,eqM_refl,eqM_app,eqB,eqvL,eqv,List.getLast?_cons_cons,List.getLast?_singleton,Option.getD_some,Bool.or_true,Bool.true_or,ZA,resvV]; rfl, rfl, hn4, by decide⟩
noncomputable def testV : IC := loopV1.a
noncomputable def p0V : IC := loopV1.b.a.a
noncomputable def lsV : IC := loopV1.b.a.b.a
noncomputable def fastV : IC := lsV.b.a
noncomputable def t8V : IC := fastV.b.a.a
noncomputable def f8V : IC := fastV.b.a.b.a
noncomputable def t16V : IC := f8V.b.a
noncomputable def f16V : IC := f8V.b.b.a
theorem v1_split : loopV1 = .seq testV (.block 1 (.seq p0V (.seq (.seq lsV.a (.cond (.tmp 20) fastV .skip)) leadV))) := rfl
theorem fast_split : fastV = .seq fastV.a (.seq (.seq t8V (.cond (.tmp 31) f8V .skip)) (.exit 1)) := rfl
theorem f8_split : f8V = .seq f8V.a (.seq t16V (.cond (.tmp 46) f16V .skip)) := rfl
theorem f16_split : f16V = .seq f16V.a (.block 2 (.loop (some [0]) loopV2)) := rfl
theorem evI_skip {P : Program} {g : Cfg} {F : FSem} {N : Nat} {a : AAct} {H : Mem} : evI P g F N .skip a H = some (.normal, a, H) := rfl
theorem evI_exit {P : Program} {g : Cfg} {F : FSem} {N i : Nat} {a : AAct} {H : Mem} : evI P g F N (.exit i) a H = some (.exit i, a, H) := rfl
theorem keepT_one {m : Nat} {t : List (Nat × AV)} {v : AV} (h : look t 0 = v) : (⟨m, t, []⟩ : AAct).keepT [0] = ⟨m, [(0, v)], []⟩ := by
  simp only [AAct.keepT,Zv,Zz,h]
theorem hz_of (w : Nat) : (((w &&& 9259542123273814144 : Nat) : Int) == 0) = decide (w &&& 9259542123273814144 = 0) := by
  cases hd : decide (w &&& 9259542123273814144 = 0)
  · exact beq_false_of_ne (by have := of_decide_eq_false hd; omega)
  · exact beq_iff_eq.2 (by have := of_decide_eq_true hd; omega)
theorem v1_ascii (P : Program) (N n0 : Nat) (M : Mem) (q ty : Nat) (s : List UInt8) (hN : s.length < N) (hl : s.length ≤ 1099511627776) (hq : M[q]? = some (.row (ofBytes s) 0 ty)) (off n : Nat) (ho : off + n = s.length) (b0 : UInt8) (r : List UInt8) (hd : s.drop off = b0 :: r) (hb : b0.toNat < 128) :
    ∃ t off' n', evI P (cfg ml) (evFI P (cfg ml) T N (n0 + 1)) N loopV1 ⟨188, [(0, .slc q off n 1 0)], []⟩ M = some (.normal, ⟨188, t, []⟩, M) ∧ look t 0 = .slc q off' n' 1 0 ∧ off' + n' = s.length ∧ n' < n ∧ Lib.validD (s.drop off) = Lib.validD (s.drop off') := by
  obtain ⟨d0, l0, z0⟩ := bytes_at hd
  have hlen := congrArg List.length hd
  simp only [List.length_drop,Zf] at hlen
  have hv : Lib.validD (s.drop off) = Lib.validD (s.drop (off + 1)) := by rw [hd, Lib.validD_cons b0 r hb, z0]
  have c0 : decide ((n : Int) > 0) = true := decide_eq_true (by omega)
  have c1 : decide ((b0.toNat : Int) < 128) = true := decide_eq_true (by omega)
  have i0 : 0 < n := by omega
  have g1 : 1 ≤ n := by omega
  have n0' : natOf (.int .i64 0) = some 0 := rfl
  have n1 : natOf (.int .i64 1) = some 1 := rfl
  have n8 : natOf (.int .i64 8) = some 8 := rfl
  have n16 : natOf (.int .i64 16) = some 16 := rfl
  cases h8 : decide (((n - 1 : Nat) : Int) > 8)
  · refine ⟨?t, off + 1, n - 1, ?_, ?ht, by omega, by omega, hv⟩
    rotate_left
    · rw [v1_split]
      apply evI_seq
      · simp only [testV,loopV1,IC.a,I79,IC.loops,Za,c0,eC_len,eC_take,eC_one,eC_0,eC_1,eC_2,eC_3,eC_4,eCr,eCr_0,eCr_1,eCr_2,eCr_3,eCr_4,List.length_drop,Nat.reduceSub,ZR,atr,Zs,Zr,Zp,Za,Zb,evI,opsI,stepI,wantI,opI,AAct.evI,look,AAct.put,mkVal,mkVM,intOpA,intA,shiftA,unA,ZP,ZO,Zh,Zt,reduceIte,Nat.reduceEqDiff,Nat.reduceLT,Zo,Zq,true_and,and_true,and_self,ZB,cellsAt,Zg,ZC,Zf,Zk,ZL,ZM,Nat.reduceAdd,Nat.reduceMul,ZN,AV.cells,AV.one,known,Zn,getE_0,getE_k,setE_0,setE_k,Zc,Zd,Zl,Zm,Zi,Zw,Zu,Zj,Z1,Zx,Zy,ZJ,ZI,ZH,ZD,ZE,splice,fillI,Nat.reduceLeDiff,strA,ZK,ZA,Ze,bq_ft,bq_tf,ZG,ZF,ZQ,Zv,Zz,isNilA,nilPtr,nilSl,nilIf,nilFn,nilMap,nilCheckA,if_true,if_false,lt_lit,le_lit,lt_lit2,le_lit2,le_sub1,le_sub2]; rfl
      apply evI_block_exit
      apply evI_seq
      · simp only [p0V,loopV1,IC.a,IC.b,I79,IC.loops,Za,n0',i0,hq,d0,l0,eC_len,eC_take,eC_one,eC_0,eC_1,eC_2,eC_3,eC_4,eCr,eCr_0,eCr_1,eCr_2,eCr_3,eCr_4,List.length_drop,Nat.reduceSub,ZR,atr,Zs,Zr,Zp,Za,Zb,evI,opsI,stepI,wantI,opI,AAct.evI,look,AAct.put,mkVal,mkVM,intOpA,intA,shiftA,unA,ZP,ZO,Zh,Zt,reduceIte,Nat.reduceEqDiff,Nat.reduceLT,Zo,Zq,true_and,and_true,and_self,ZB,cellsAt,Zg,ZC,Zf,Zk,ZL,ZM,Nat.reduceAdd,Nat.reduceMul,ZN,AV.cells,AV.one,known,Zn,getE_0,getE_k,setE_0,setE_k,Zc,Zd,Zl,Zm,Zi,Zw,Zu,Zj,Z1,Zx,Zy,ZJ,ZI,ZH,ZD,ZE,splice,fillI,Nat.reduceLeDiff,strA,ZK,ZA,Ze,bq_ft,bq_tf,ZG,ZF,ZQ,Zv,Zz,isNilA,nilPtr,nilSl,nilIf,nilFn,nilMap,nilCheckA,if_true,if_false,lt_lit,le_lit,lt_lit2,le_lit2,le_sub1,le_sub2]; rfl
      apply evI_seq_exit
      apply evI_seq
      · simp only [lsV,loopV1,IC.a,IC.b,I79,IC.loops,Za,c1,eC_len,eC_take,eC_one,eC_0,eC_1,eC_2,eC_3,eC_4,eCr,eCr_0,eCr_1,eCr_2,eCr_3,eCr_4,List.length_drop,Nat.reduceSub,ZR,atr,Zs,Zr,Zp,Za,Zb,evI,opsI,stepI,wantI,opI,AAct.evI,look,AAct.put,mkVal,mkVM,intOpA,intA,shiftA,unA,ZP,ZO,Zh,Zt,reduceIte,Nat.reduceEqDiff,Nat.reduceLT,Zo,Zq,true_and,and_true,and_self,ZB,cellsAt,Zg,ZC,Zf,Zk,ZL,ZM,Nat.reduceAdd,Nat.reduceMul,ZN,AV.cells,AV.one,known,Zn,getE_0,getE_k,setE_0,setE_k,Zc,Zd,Zl,Zm,Zi,Zw,Zu,Zj,Z1,Zx,Zy,ZJ,ZI,ZH,ZD,ZE,splice,fillI,Nat.reduceLeDiff,strA,ZK,ZA,Ze,bq_ft,bq_tf,ZG,ZF,ZQ,Zv,Zz,isNilA,nilPtr,nilSl,nilIf,nilFn,nilMap,nilCheckA,if_true,if_false,lt_lit,le_lit,lt_lit2,le_lit2,le_sub1,le_sub2]; rfl
      apply evI_true rfl
      rw [fast_split]
      apply evI_seq
      · simp only [fastV,lsV,loopV1,IC.a,IC.b,I79,IC.loops,Za,n1,bound,cutSD,g1,eC_len,eC_take,eC_one,eC_0,eC_1,eC_2,eC_3,eC_4,eCr,eCr_0,eCr_1,eCr_2,eCr_3,eCr_4,List.length_drop,Nat.reduceSub,ZR,atr,Zs,Zr,Zp,Za,Zb,evI,opsI,stepI,wantI,opI,AAct.evI,look,AAct.put,mkVal,mkVM,intOpA,intA,shiftA,unA,ZP,ZO,Zh,Zt,reduceIte,Nat.reduceEqDiff,Nat.reduceLT,Zo,Zq,true_and,and_true,and_self,ZB,cellsAt,Zg,ZC,Zf,Zk,ZL,ZM,Nat.reduceAdd,Nat.reduceMul,ZN,AV.cells,AV.one,known,Zn,getE_0,getE_k,setE_0,setE_k,Zc,Zd,Zl,Zm,Zi,Zw,Zu,Zj,Z1,Zx,Zy,ZJ,ZI,ZH,ZD,ZE,splice,fillI,Nat.reduceLeDiff,strA,ZK,ZA,Ze,bq_ft,bq_tf,ZG,ZF,ZQ,Zv,Zz,isNilA,nilPtr,nilSl,nilIf,nilFn,nilMap,nilCheckA,if_true,if_false,lt_lit,le_lit,lt_lit2,le_lit2,le_sub1,le_sub2]; rfl
      apply evI_seq
      · apply evI_seq
        · simp only [t8V,fastV,lsV,loopV1,IC.a,IC.b,I79,IC.loops,Za,h8,eC_len,eC_take,eC_one,eC_0,eC_1,eC_2,eC_3,eC_4,eCr,eCr_0,eCr_1,eCr_2,eCr_3,eCr_4,List.length_drop,Nat.reduceSub,ZR,atr,Zs,Zr,Zp,Za,Zb,evI,opsI,stepI,wantI,opI,AAct.evI,look,AAct.put,mkVal,mkVM,intOpA,intA,shiftA,unA,ZP,ZO,Zh,Zt,reduceIte,Nat.reduceEqDiff,Nat.reduceLT,Zo,Zq,true_and,and_true,and_self,ZB,cellsAt,Zg,ZC,Zf,Zk,ZL,ZM,Nat.reduceAdd,Nat.reduceMul,ZN,AV.cells,AV.one,known,Zn,getE_0,getE_k,setE_0,setE_k,Zc,Zd,Zl,Zm,Zi,Zw,Zu,Zj,Z1,Zx,Zy,ZJ,ZI,ZH,ZD,ZE,splice,fillI,Nat.reduceLeDiff,strA,ZK,ZA,Ze,bq_ft,bq_tf,ZG,ZF,ZQ,Zv,Zz,isNilA,nilPtr,nilSl,nilIf,nilFn,nilMap,nilCheckA,if_true,if_false,lt_lit,le_lit,lt_lit2,le_lit2,le_sub1,le_sub2]; rfl
        apply evI_false rfl
        exact evI_skip
      exact evI_exit
    · rfl
  have g9 : 8 < n - 1 := by have := of_decide_eq_true h8; omega
  obtain ⟨w0, lw0, cw0, vw0⟩ := word_at (ml := ml) P N n0 M q ty s hq (off + 1) (by omega)
  have k0 := cw0 (n - 1) (by omega)
  have mm := maskU lw0
  have hz := hz_of w0
  have t8 : ∀ b, decide (w0 &&& 9259542123273814144 = 0) = b → True := fun _ _ => trivial
  cases hd0 : decide (w0 &&& 9259542123273814144 = 0)
  · rw [hd0] at hz
    refine ⟨?t2, off + 1, n - 1, ?_, ?ht2, by omega, by omega, hv⟩
    rotate_left
    · rw [v1_split]
      apply evI_seq
      · simp only [testV,loopV1,IC.a,I79,IC.loops,Za,c0,eC_len,eC_take,eC_one,eC_0,eC_1,eC_2,eC_3,eC_4,eCr,eCr_0,eCr_1,eCr_2,eCr_3,eCr_4,List.length_drop,Nat.reduceSub,ZR,atr,Zs,Zr,Zp,Za,Zb,evI,opsI,stepI,wantI,opI,AAct.evI,look,AAct.put,mkVal,mkVM,intOpA,intA,shiftA,unA,ZP,ZO,Zh,Zt,reduceIte,Nat.reduceEqDiff,Nat.reduceLT,Zo,Zq,true_and,and_true,and_self,ZB,cellsAt,Zg,ZC,Zf,Zk,ZL,ZM,Nat.reduceAdd,Nat.reduceMul,ZN,AV.cells,AV.one,known,Zn,getE_0,getE_k,setE_0,setE_k,Zc,Zd,Zl,Zm,Zi,Zw,Zu,Zj,Z1,Zx,Zy,ZJ,ZI,ZH,ZD,ZE,splice,fillI,Nat.reduceLeDiff,strA,ZK,ZA,Ze,bq_ft,bq_tf,ZG,ZF,ZQ,Zv,Zz,isNilA,nilPtr,nilSl,nilIf,nilFn,nilMap,nilCheckA,if_true,if_false,lt_lit,le_lit,lt_lit2,le_lit2,le_sub1,le_sub2]; rfl
      apply evI_block_exit
      apply evI_seq
      · simp only [p0V,loopV1,IC.a,IC.b,I79,IC.loops,Za,n0',i0,hq,d0,l0,eC_len,eC_take,eC_one,eC_0,eC_1,eC_2,eC_3,eC_4,eCr,eCr_0,eCr_1,eCr_2,eCr_3,eCr_4,List.length_drop,Nat.reduceSub,ZR,atr,Zs,Zr,Zp,Za,Zb,evI,opsI,stepI,wantI,opI,AAct.evI,look,AAct.put,mkVal,mkVM,intOpA,intA,shiftA,unA,ZP,ZO,Zh,Zt,reduceIte,Nat.reduceEqDiff,Nat.reduceLT,Zo,Zq,true_and,and_true,and_self,ZB,cellsAt,Zg,ZC,Zf,Zk,ZL,ZM,Nat.reduceAdd,Nat.reduceMul,ZN,AV.cells,AV.one,known,Zn,getE_0,getE_k,setE_0,setE_k,Zc,Zd,Zl,Zm,Zi,Zw,Zu,Zj,Z1,Zx,Zy,ZJ,ZI,ZH,ZD,ZE,splice,fillI,Nat.reduceLeDiff,strA,ZK,ZA,Ze,bq_ft,bq_tf,ZG,ZF,ZQ,Zv,Zz,isNilA,nilPtr,nilSl,nilIf,nilFn,nilMap,nilCheckA,if_true,if_false,lt_lit,le_lit,lt_lit2,le_lit2,le_sub1,le_sub2]; rfl
      apply evI_seq_exit
      apply evI_seq
      · simp only [lsV,loopV1,IC.a,IC.b,I79,IC.loops,Za,c1,eC_len,eC_take,eC_one,eC_0,eC_1,eC_2,eC_3,eC_4,eCr,eCr_0,eCr_1,eCr_2,eCr_3,eCr_4,List.length_drop,Nat.reduceSub,ZR,atr,Zs,Zr,Zp,Za,Zb,evI,opsI,stepI,wantI,opI,AAct.evI,look,AAct.put,mkVal,mkVM,intOpA,intA,shiftA,unA,ZP,ZO,Zh,Zt,reduceIte,Nat.reduceEqDiff,Nat.reduceLT,Zo,Zq,true_and,and_true,and_self,ZB,cellsAt,Zg,ZC,Zf,Zk,ZL,ZM,Nat.reduceAdd,Nat.reduceMul,ZN,AV.cells,AV.one,known,Zn,getE_0,getE_k,setE_0,setE_k,Zc,Zd,Zl,Zm,Zi,Zw,Zu,Zj,Z1,Zx,Zy,ZJ,ZI,ZH,ZD,ZE,splice,fillI,Nat.reduceLeDiff,strA,ZK,ZA,Ze,bq_ft,bq_tf,ZG,ZF,ZQ,Zv,Zz,isNilA,nilPtr,nilSl,nilIf,nilFn,nilMap,nilCheckA,if_true,if_false,lt_lit,le_lit,lt_lit2,le_lit2,le_sub1,le_sub2]; rfl
      apply evI_true rfl
      rw [fast_split]
      apply evI_seq
      · simp only [fastV,lsV,loopV1,IC.a,IC.b,I79,IC.loops,Za,n1,bound,cutSD,g1,eC_len,eC_take,eC_one,eC_0,eC_1,eC_2,eC_3,eC_4,eCr,eCr_0,eCr_1,eCr_2,eCr_3,eCr_4,List.length_drop,Nat.reduceSub,ZR,atr,Zs,Zr,Zp,Za,Zb,evI,opsI,stepI,wantI,opI,AAct.evI,look,AAct.put,mkVal,mkVM,intOpA,intA,shiftA,unA,ZP,ZO,Zh,Zt,reduceIte,Nat.reduceEqDiff,Nat.reduceLT,Zo,Zq,true_and,and_true,and_self,ZB,cellsAt,Zg,ZC,Zf,Zk,ZL,ZM,Nat.reduceAdd,Nat.reduceMul,ZN,AV.cells,AV.one,known,Zn,getE_0,getE_k,setE_0,setE_k,Zc,Zd,Zl,Zm,Zi,Zw,Zu,Zj,Z1,Zx,Zy,ZJ,ZI,ZH,ZD,ZE,splice,fillI,Nat.reduceLeDiff,strA,ZK,ZA,Ze,bq_ft,bq_tf,ZG,ZF,ZQ,Zv,Zz,isNilA,nilPtr,nilSl,nilIf,nilFn,nilMap,nilCheckA,if_true,if_false,lt_lit,le_lit,lt_lit2,le_lit2,le_sub1,le_sub2]; rfl
      apply evI_seq
      · apply evI_seq
        · simp only [t8V,fastV,lsV,loopV1,IC.a,IC.b,I79,IC.loops,Za,h8,k0,mm,hz,eC_len,eC_take,eC_one,eC_0,eC_1,eC_2,eC_3,eC_4,eCr,eCr_0,eCr_1,eCr_2,eCr_3,eCr_4,List.length_drop,Nat.reduceSub,ZR,atr,Zs,Zr,Zp,Za,Zb,evI,opsI,stepI,wantI,opI,AAct.evI,look,AAct.put,mkVal,mkVM,intOpA,intA,shiftA,unA,ZP,ZO,Zh,Zt,reduceIte,Nat.reduceEqDiff,Nat.reduceLT,Zo,Zq,true_and,and_true,and_self,ZB,cellsAt,Zg,ZC,Zf,Zk,ZL,ZM,Nat.reduceAdd,Nat.reduceMul,ZN,AV.cells,AV.one,known,Zn,getE_0,getE_k,setE_0,setE_k,Zc,Zd,Zl,Zm,Zi,Zw,Zu,Zj,Z1,Zx,Zy,ZJ,ZI,ZH,ZD,ZE,splice,fillI,Nat.reduceLeDiff,strA,ZK,ZA,Ze,bq_ft,bq_tf,ZG,ZF,ZQ,Zv,Zz,isNilA,nilPtr,nilSl,nilIf,nilFn,nilMap,nilCheckA,if_true,if_false,lt_lit,le_lit,lt_lit2,le_lit2,le_sub1,le_sub2]; rfl
        apply evI_false rfl
        exact evI_skip
      exact evI_exit
    · rfl
  rw [hd0] at hz
  have hv8 := vw0 (of_decide_eq_true hd0)
  have g8 : 8 ≤ n - 1 := by omega
  cases h16 : decide (((n - 1 - 8 : Nat) : Int) > 16)
  · refine ⟨?t3, off + 1 + 8, n - 1 - 8, ?_, ?ht3, by omega, by omega, hv.trans hv8⟩
    rotate_left
    · rw [v1_split]
      apply evI_seq
      · simp only [testV,loopV1,IC.a,I79,IC.loops,Za,c0,eC_len,eC_take,eC_one,eC_0,eC_1,eC_2,eC_3,eC_4,eCr,eCr_0,eCr_1,eCr_2,eCr_3,eCr_4,List.length_drop,Nat.reduceSub,ZR,atr,Zs,Zr,Zp,Za,Zb,evI,opsI,stepI,wantI,opI,AAct.evI,look,AAct.put,mkVal,mkVM,intOpA,intA,shiftA,unA,ZP,ZO,Zh,Zt,reduceIte,Nat.reduceEqDiff,Nat.reduceLT,Zo,Zq,true_and,and_true,and_self,ZB,cellsAt,Zg,ZC,Zf,Zk,ZL,ZM,Nat.reduceAdd,Nat.reduceMul,ZN,AV.cells,AV.one,known,Zn,getE_0,getE_k,setE_0,setE_k,Zc,Zd,Zl,Zm,Zi,Zw,Zu,Zj,Z1,Zx,Zy,ZJ,ZI,ZH,ZD,ZE,splice,fillI,Nat.reduceLeDiff,strA,ZK,ZA,Ze,bq_ft,bq_tf,ZG,ZF,ZQ,Zv,Zz,isNilA,nilPtr,nilSl,nilIf,nilFn,nilMap,nilCheckA,if_true,if_false,lt_lit,le_lit,lt_lit2,le_lit2,le_sub1,le_sub2]; rfl
      apply evI_block_exit
      apply evI_seq
      · simp only [p0V,loopV1,IC.a,IC.b,I79,IC.loops,Za,n0',i0,hq,d0,l0,eC_len,eC_take,eC_one,eC_0,eC_1,eC_2,eC_3,eC_4,eCr,eCr_0,eCr_1,eCr_2,eCr_3,eCr_4,List.length_drop,Nat.reduceSub,ZR,atr,Zs,Zr,Zp,Za,Zb,evI,opsI,stepI,wantI,opI,AAct.evI,look,AAct.put,mkVal,mkVM,intOpA,intA,shiftA,unA,ZP,ZO,Zh,Zt,reduceIte,Nat.reduceEqDiff,Nat.reduceLT,Zo,Zq,true_and,and_true,and_self,ZB,cellsAt,Zg,ZC,Zf,Zk,ZL,ZM,Nat.reduceAdd,Nat.reduceMul,ZN,AV.cells,AV.one,known,Zn,getE_0,getE_k,setE_0,setE_k,Zc,Zd,Zl,Zm,Zi,Zw,Zu,Zj,Z1,Zx,Zy,ZJ,ZI,ZH,ZD,ZE,splice,fillI,Nat.reduceLeDiff,strA,ZK,ZA,Ze,bq_ft,bq_tf,ZG,ZF,ZQ,Zv,Zz,isNilA,nilPtr,nilSl,nilIf,nilFn,nilMap,nilCheckA,if_true,if_false,lt_lit,le_lit,lt_lit2,le_lit2,le_sub1,le_sub2]; rfl
      apply evI_seq_exit
      apply evI_seq
      · simp only [lsV,loopV1,IC.a,IC.b,I79,IC.loops,Za,c1,eC_len,eC_take,eC_one,eC_0,eC_1,eC_2,eC_3,eC_4,eCr,eCr_0,eCr_1,eCr_2,eCr_3,eCr_4,List.length_drop,Nat.reduceSub,ZR,atr,Zs,Zr,Zp,Za,Zb,evI,opsI,stepI,wantI,opI,AAct.evI,look,AAct.put,mkVal,mkVM,intOpA,intA,shiftA,unA,ZP,ZO,Zh,Zt,reduceIte,Nat.reduceEqDiff,Nat.reduceLT,Zo,Zq,true_and,and_true,and_self,ZB,cellsAt,Zg,ZC,Zf,Zk,ZL,ZM,Nat.reduceAdd,Nat.reduceMul,ZN,AV.cells,AV.one,known,Zn,getE_0,getE_k,setE_0,setE_k,Zc,Zd,Zl,Zm,Zi,Zw,Zu,Zj,Z1,Zx,Zy,ZJ,ZI,ZH,ZD,ZE,splice,fillI,Nat.reduceLeDiff,strA,ZK,ZA,Ze,bq_ft,bq_tf,ZG,ZF,ZQ,Zv,Zz,isNilA,nilPtr,nilSl,nilIf,nilFn,nilMap,nilCheckA,if_true,if_false,lt_lit,le_lit,lt_lit2,le_lit2,le_sub1,le_sub2]; rfl
      apply evI_true rfl
      rw [fast_split]
      apply evI_seq
      · simp only [fastV,lsV,loopV1,IC.a,IC.b,I79,IC.loops,Za,n1,bound,cutSD,g1,eC_len,eC_take,eC_one,eC_0,eC_1,eC_2,eC_3,eC_4,eCr,eCr_0,eCr_1,eCr_2,eCr_3,eCr_4,List.length_drop,Nat.reduceSub,ZR,atr,Zs,Zr,Zp,Za,Zb,evI,opsI,stepI,wantI,opI,AAct.evI,look,AAct.put,mkVal,mkVM,intOpA,intA,shiftA,unA,ZP,ZO,Zh,Zt,reduceIte,Nat.reduceEqDiff,Nat.reduceLT,Zo,Zq,true_and,and_true,and_self,ZB,cellsAt,Zg,ZC,Zf,Zk,ZL,ZM,Nat.reduceAdd,Nat.reduceMul,ZN,AV.cells,AV.one,known,Zn,getE_0,getE_k,setE_0,setE_k,Zc,Zd,Zl,Zm,Zi,Zw,Zu,Zj,Z1,Zx,Zy,ZJ,ZI,ZH,ZD,ZE,splice,fillI,Nat.reduceLeDiff,strA,ZK,ZA,Ze,bq_ft,bq_tf,ZG,ZF,ZQ,Zv,Zz,isNilA,nilPtr,nilSl,nilIf,nilFn,nilMap,nilCheckA,if_true,if_false,lt_lit,le_lit,lt_lit2,le_lit2,le_sub1,le_sub2]; rfl
      apply evI_seq
      · apply evI_seq
        · simp only [t8V,fastV,lsV,loopV1,IC.a,IC.b,I79,IC.loops,Za,h8,k0,mm,hz,eC_len,eC_take,eC_one,eC_0,eC_1,eC_2,eC_3,eC_4,eCr,eCr_0,eCr_1,eCr_2,eCr_3,eCr_4,List.length_drop,Nat.reduceSub,ZR,atr,Zs,Zr,Zp,Za,Zb,evI,opsI,stepI,wantI,opI,AAct.evI,look,AAct.put,mkVal,mkVM,intOpA,intA,shiftA,unA,ZP,ZO,Zh,Zt,reduceIte,Nat.reduceEqDiff,Nat.reduceLT,Zo,Zq,true_and,and_true,and_self,ZB,cellsAt,Zg,ZC,Zf,Zk,ZL,ZM,Nat.reduceAdd,Nat.reduceMul,ZN,AV.cells,AV.one,known,Zn,getE_0,getE_k,setE_0,setE_k,Zc,Zd,Zl,Zm,Zi,Zw,Zu,Zj,Z1,Zx,Zy,ZJ,ZI,ZH,ZD,ZE,splice,fillI,Nat.reduceLeDiff,strA,ZK,ZA,Ze,bq_ft,bq_tf,ZG,ZF,ZQ,Zv,Zz,isNilA,nilPtr,nilSl,nilIf,nilFn,nilMap,nilCheckA,if_true,if_false,lt_lit,le_lit,lt_lit2,le_lit2,le_sub1,le_sub2]; rfl
        apply evI_true rfl
        rw [f8_split]
        apply evI_seq
        · simp only [f8V,fastV,lsV,loopV1,IC.a,IC.b,I79,IC.loops,Za,n8,bound,cutSD,g8,eC_len,eC_take,eC_one,eC_0,eC_1,eC_2,eC_3,eC_4,eCr,eCr_0,eCr_1,eCr_2,eCr_3,eCr_4,List.length_drop,Nat.reduceSub,ZR,atr,Zs,Zr,Zp,Za,Zb,evI,opsI,stepI,wantI,opI,AAct.evI,look,AAct.put,mkVal,mkVM,intOpA,intA,shiftA,unA,ZP,ZO,Zh,Zt,reduceIte,Nat.reduceEqDiff,Nat.reduceLT,Zo,Zq,true_and,and_true,and_self,ZB,cellsAt,Zg,ZC,Zf,Zk,ZL,ZM,Nat.reduceAdd,Nat.reduceMul,ZN,AV.cells,AV.one,known,Zn,getE_0,getE_k,setE_0,setE_k,Zc,Zd,Zl,Zm,Zi,Zw,Zu,Zj,Z1,Zx,Zy,ZJ,ZI,ZH,ZD,ZE,splice,fillI,Nat.reduceLeDiff,strA,ZK,ZA,Ze,bq_ft,bq_tf,ZG,ZF,ZQ,Zv,Zz,isNilA,nilPtr,nilSl,nilIf,nilFn,nilMap,nilCheckA,if_true,if_false,lt_lit,le_lit,lt_lit2,le_lit2,le_sub1,le_sub2]; rfl
        apply evI_seq
        · simp only [t16V,f8V,fastV,lsV,loopV1,IC.a,IC.b,I79,IC.loops,Za,h16,eC_len,eC_take,eC_one,eC_0,eC_1,eC_2,eC_3,eC_4,eCr,eCr_0,eCr_1,eCr_2,eCr_3,eCr_4,List.length_drop,Nat.reduceSub,ZR,atr,Zs,Zr,Zp,Za,Zb,evI,opsI,stepI,wantI,opI,AAct.evI,look,AAct.put,mkVal,mkVM,intOpA,intA,shiftA,unA,ZP,ZO,Zh,Zt,reduceIte,Nat.reduceEqDiff,Nat.reduceLT,Zo,Zq,true_and,and_true,and_self,ZB,cellsAt,Zg,ZC,Zf,Zk,ZL,ZM,Nat.reduceAdd,Nat.reduceMul,ZN,AV.cells,AV.one,known,Zn,getE_0,getE_k,setE_0,setE_k,Zc,Zd,Zl,Zm,Zi,Zw,Zu,Zj,Z1,Zx,Zy,ZJ,ZI,ZH,ZD,ZE,splice,fillI,Nat.reduceLeDiff,strA,ZK,ZA,Ze,bq_ft,bq_tf,ZG,ZF,ZQ,Zv,Zz,isNilA,nilPtr,nilSl,nilIf,nilFn,nilMap,nilCheckA,if_true,if_false,lt_lit,le_lit,lt_lit2,le_lit2,le_sub1,le_sub2,drawI,drawI2,drawI0,drawI20,lexD,valD,valI,putD,okD,roD,memAt,lastM,wantI,eqv_refl,eqM_refl,eqM_app,eqB,eqvL,eqv,List.getLast?_cons_cons,List.getLast?_singleton,Option.getD_some,Bool.or_true,Bool.true_or,ZA,resvV]; rfl
        apply evI_false rfl
        exact evI_skip
      exact evI_exit
    · rfl
  have g17 : 16 < n - 1 - 8 := by have := of_decide_eq_true h16; omega
  have g16 : 16 ≤ n - 1 - 8 := by omega
  have g8b : 8 ≤ n - 1 - 8 := by omega
  obtain ⟨w1, lw1, cw1, vw1⟩ := word_at (ml := ml) P N n0 M q ty s hq (off + 1 + 8) (by omega)
  obtain ⟨w2, lw2, cw2, vw2⟩ := word_at (ml := ml) P N n0 M q ty s hq (off + 1 + 8 + 8) (by omega)
  have k1 := cw1 (n - 1 - 8) (by omega)
  have k2 := cw2 (n - 1 - 8 - 8) (by omega)
  simp only [ZK,Nat.reduceAdd] at k1 k2
  have o1 := orU lw1 lw2
  have m1 : w1 ||| w2 < 18446744073709551616 := Nat.or_lt_two_pow (n := 64) lw1 lw2
  have mm1 := maskU m1
  have hz1 := hz_of (w1 ||| w2)
  cases hd1 : decide ((w1 ||| w2) &&& 9259542123273814144 = 0)
  · rw [hd1] at hz1
    refine ⟨?t4, off + 1 + 8, n - 1 - 8, ?_, ?ht4, by omega, by omega, hv.trans hv8⟩
    rotate_left
    · rw [v1_split]
      apply evI_seq
      · simp only [testV,loopV1,IC.a,I79,IC.loops,Za,c0,eC_len,eC_take,eC_one,eC_0,eC_1,eC_2,eC_3,eC_4,eCr,eCr_0,eCr_1,eCr_2,eCr_3,eCr_4,List.length_drop,Nat.reduceSub,ZR,atr,Zs,Zr,Zp,Za,Zb,evI,opsI,stepI,wantI,opI,AAct.evI,look,AAct.put,mkVal,mkVM,intOpA,intA,shiftA,unA,ZP,ZO,Zh,Zt,reduceIte,Nat.reduceEqDiff,Nat.reduceLT,Zo,Zq,true_and,and_true,and_self,ZB,cellsAt,Zg,ZC,Zf,Zk,ZL,ZM,Nat.reduceAdd,Nat.reduceMul,ZN,AV.cells,AV.one,known,Zn,getE_0,getE_k,setE_0,setE_k,Zc,Zd,Zl,Zm,Zi,Zw,Zu,Zj,Z1,Zx,Zy,ZJ,ZI,ZH,ZD,ZE,splice,fillI,Nat.reduceLeDiff,strA,ZK,ZA,Ze,bq_ft,bq_tf,ZG,ZF,ZQ,Zv,Zz,isNilA,nilPtr,nilSl,nilIf,nilFn,nilMap,nilCheckA,if_true,if_false,lt_lit,le_lit,lt_lit2,le_lit2,le_sub1,le_sub2]; rfl
      apply evI_block_exit
      apply evI_seq
      · simp only [p0V,loopV1,IC.a,IC.b,I79,IC.loops,Za,n0',i0,hq,d0,l0,eC_len,eC_take,eC_one,eC_0,eC_1,eC_2,eC_3,eC_4,eCr,eCr_0,eCr_1,eCr_2,eCr_3,eCr_4,List.length_drop,Nat.reduceSub,ZR,atr,Zs,Zr,Zp,Za,Zb,evI,opsI,stepI,wantI,opI,AAct.evI,look,AAct.put,mkVal,mkVM,intOpA,intA,shiftA,unA,ZP,ZO,Zh,Zt,reduceIte,Nat.reduceEqDiff,Nat.reduceLT,Zo,Zq,true_and,and_true,and_self,ZB,cellsAt,Zg,ZC,Zf,Zk,ZL,ZM,Nat.reduceAdd,Nat.reduceMul,ZN,AV.cells,AV.one,known,Zn,getE_0,getE_k,setE_0,setE_k,Zc,Zd,Zl,Zm,Zi,Zw,Zu,Zj,Z1,Zx,Zy,ZJ,ZI,ZH,ZD,ZE,splice,fillI,Nat.reduceLeDiff,strA,ZK,ZA,Ze,bq_ft,bq_tf,ZG,ZF,ZQ,Zv,Zz,isNilA,nilPtr,nilSl,nilIf,nilFn,nilMap,nilCheckA,if_true,if_false,lt_lit,le_lit,lt_lit2,le_lit2,le_sub1,le_sub2]; rfl
      apply evI_seq_exit
      apply evI_seq
      · simp only [lsV,loopV1,IC.a,IC.b,I79,IC.loops,Za,c1,eC_len,eC_take,eC_one,eC_0,eC_1,eC_2,eC_3,eC_4,eCr,eCr_0,eCr_1,eCr_2,eCr_3,eCr_4,List.length_drop,Nat.reduceSub,ZR,atr,Zs,Zr,Zp,Za,Zb,evI,opsI,stepI,wantI,opI,AAct.evI,look,AAct.put,mkVal,mkVM,intOpA,intA,shiftA,unA,ZP,ZO,Zh,Zt,reduceIte,Nat.reduceEqDiff,Nat.reduceLT,Zo,Zq,true_and,and_true,and_self,ZB,cellsAt,Zg,ZC,Zf,Zk,ZL,ZM,Nat.reduceAdd,Nat.reduceMul,ZN,AV.cells,AV.one,known,Zn,getE_0,getE_k,setE_0,setE_k,Zc,Zd,Zl,Zm,Zi,Zw,Zu,Zj,Z1,Zx,Zy,ZJ,ZI,ZH,ZD,ZE,splice,fillI,Nat.reduceLeDiff,strA,ZK,ZA,Ze,bq_ft,bq_tf,ZG,ZF,ZQ,Zv,Zz,isNilA,nilPtr,nilSl,nilIf,nilFn,nilMap,nilCheckA,if_true,if_false,lt_lit,le_lit,lt_lit2,le_lit2,le_sub1,le_sub2]; rfl
      apply evI_true rfl
      rw [fast_split]
      apply evI_seq
      · simp only [fastV,lsV,loopV1,IC.a,IC.b,I79,IC.loops,Za,n1,bound,cutSD,g1,eC_len,eC_take,eC_one,eC_0,eC_1,eC_2,eC_3,eC_4,eCr,eCr_0,eCr_1,eCr_2,eCr_3,eCr_4,List.length_drop,Nat.reduceSub,ZR,atr,Zs,Zr,Zp,Za,Zb,evI,opsI,stepI,wantI,opI,AAct.evI,look,AAct.put,mkVal,mkVM,intOpA,intA,shiftA,unA,ZP,ZO,Zh,Zt,reduceIte,Nat.reduceEqDiff,Nat.reduceLT,Zo,Zq,true_and,and_true,and_self,ZB,cellsAt,Zg,ZC,Zf,Zk,ZL,ZM,Nat.reduceAdd,Nat.reduceMul,ZN,AV.cells,AV.one,known,Zn,getE_0,getE_k,setE_0,setE_k,Zc,Zd,Zl,Zm,Zi,Zw,Zu,Zj,Z1,Zx,Zy,ZJ,ZI,ZH,ZD,ZE,splice,fillI,Nat.reduceLeDiff,strA,ZK,ZA,Ze,bq_ft,bq_tf,ZG,ZF,ZQ,Zv,Zz,isNilA,nilPtr,nilSl,nilIf,nilFn,nilMap,nilCheckA,if_true,if_false,lt_lit,le_lit,lt_lit2,le_lit2,le_sub1,le_sub2]; rfl
      apply evI_seq
      · apply evI_seq
        · simp only [t8V,fastV,lsV,loopV1,IC.a,IC.b,I79,IC.loops,Za,h8,k0,mm,hz,eC_len,eC_take,eC_one,eC_0,eC_1,eC_2,eC_3,eC_4,eCr,eCr_0,eCr_1,eCr_2,eCr_3,eCr_4,List.length_drop,Nat.reduceSub,ZR,atr,Zs,Zr,Zp,Za,Zb,evI,opsI,stepI,wantI,opI,AAct.evI,look,AAct.put,mkVal,mkVM,intOpA,intA,shiftA,unA,ZP,ZO,Zh,Zt,reduceIte,Nat.reduceEqDiff,Nat.reduceLT,Zo,Zq,true_and,and_true,and_self,ZB,cellsAt,Zg,ZC,Zf,Zk,ZL,ZM,Nat.reduceAdd,Nat.reduceMul,ZN,AV.cells,AV.one,known,Zn,getE_0,getE_k,setE_0,setE_k,Zc,Zd,Zl,Zm,Zi,Zw,Zu,Zj,Z1,Zx,Zy,ZJ,ZI,ZH,ZD,ZE,splice,fillI,Nat.reduceLeDiff,strA,ZK,ZA,Ze,bq_ft,bq_tf,ZG,ZF,ZQ,Zv,Zz,isNilA,nilPtr,nilSl,nilIf,nilFn,nilMap,nilCheckA,if_true,if_false,lt_lit,le_lit,lt_lit2,le_lit2,le_sub1,le_sub2]; rfl
        apply evI_true rfl
        rw [f8_split]
        apply evI_seq
        · simp only [f8V,fastV,lsV,loopV1,IC.a,IC.b,I79,IC.loops,Za,n8,bound,cutSD,g8,eC_len,eC_take,eC_one,eC_0,eC_1,eC_2,eC_3,eC_4,eCr,eCr_0,eCr_1,eCr_2,eCr_3,eCr_4,List.length_drop,Nat.reduceSub,ZR,atr,Zs,Zr,Zp,Za,Zb,evI,opsI,stepI,wantI,opI,AAct.evI,look,AAct.put,mkVal,mkVM,intOpA,intA,shiftA,unA,ZP,ZO,Zh,Zt,reduceIte,Nat.reduceEqDiff,Nat.reduceLT,Zo,Zq,true_and,and_true,and_self,ZB,cellsAt,Zg,ZC,Zf,Zk,ZL,ZM,Nat.reduceAdd,Nat.reduceMul,ZN,AV.cells,AV.one,known,Zn,getE_0,getE_k,setE_0,setE_k,Zc,Zd,Zl,Zm,Zi,Zw,Zu,Zj,Z1,Zx,Zy,ZJ,ZI,ZH,ZD,ZE,splice,fillI,Nat.reduceLeDiff,strA,ZK,ZA,Ze,bq_ft,bq_tf,ZG,ZF,ZQ,Zv,Zz,isNilA,nilPtr,nilSl,nilIf,nilFn,nilMap,nilCheckA,if_true,if_false,lt_lit,le_lit,lt_lit2,le_lit2,le_sub1,le_sub2]; rfl
        apply evI_seq
        · simp only [t16V,f8V,fastV,lsV,loopV1,IC.a,IC.b,I79,IC.loops,Za,h16,n8,bound,cutSD,g8b,k1,k2,o1,mm1,hz1,eC_len,eC_take,eC_one,eC_0,eC_1,eC_2,eC_3,eC_4,eCr,eCr_0,eCr_1,eCr_2,eCr_3,eCr_4,List.length_drop,Nat.reduceSub,ZR,atr,Zs,Zr,Zp,Za,Zb,evI,opsI,stepI,wantI,opI,AAct.evI,look,AAct.put,mkVal,mkVM,intOpA,intA,shiftA,unA,ZP,ZO,Zh,Zt,reduceIte,Nat.reduceEqDiff,Nat.reduceLT,Zo,Zq,true_and,and_true,and_self,ZB,cellsAt,Zg,ZC,Zf,Zk,ZL,ZM,Nat.reduceAdd,Nat.reduceMul,ZN,AV.cells,AV.one,known,Zn,getE_0,getE_k,setE_0,setE_k,Zc,Zd,Zl,Zm,Zi,Zw,Zu,Zj,Z1,Zx,Zy,ZJ,ZI,ZH,ZD,ZE,splice,fillI,Nat.reduceLeDiff,strA,ZK,ZA,Ze,bq_ft,bq_tf,ZG,ZF,ZQ,Zv,Zz,isNilA,nilPtr,nilSl,nilIf,nilFn,nilMap,nilCheckA,if_true,if_false,lt_lit,le_lit,lt_lit2,le_lit2,le_sub1,le_sub2,drawI,drawI2,drawI0,drawI20,lexD,valD,valI,putD,okD,roD,memAt,lastM,wantI,eqv_refl,eqM_refl,eqM_app,eqB,eqvL,eqv,List.getLast?_cons_cons,List.getLast?_singleton,Option.getD_some,Bool.or_true,Bool.true_or,ZA,resvV]; rfl
        apply evI_false rfl
        exact evI_skip
      exact evI_exit
    · rfl
  rw [hd1] at hz1
  have hz' := of_decide_eq_true hd1
  rw [Lib.or_mask] at hz'
  have hv24 : Lib.validD (s.drop off) = Lib.validD (s.drop (off + 1 + 8 + 16)) := by
    rw [hv, hv8, vw1 hz'.1, vw2 hz'.2]
  obtain ⟨t, off', n', hr, ht, h1, h2, h3⟩ := v2_loop (ml := ml) P N n0 M q ty s hl hq N (off + 1 + 8 + 16) (n - 1 - 8 - 16) (by omega) (by omega)
  simp only [ZK,Nat.reduceAdd] at hr
  refine ⟨t, off', n', ?_, ht, h1, by omega, hv24.trans h3⟩
  rw [v1_split]
  apply evI_seq
  · simp only [testV,loopV1,IC.a,I79,IC.loops,Za,c0,eC_len,eC_take,eC_one,eC_0,eC_1,eC_2,eC_3,eC_4,eCr,eCr_0,eCr_1,eCr_2,eCr_3,eCr_4,List.length_drop,Nat.reduceSub,ZR,atr,Zs,Zr,Zp,Za,Zb,evI,opsI,stepI,wantI,opI,AAct.evI,look,AAct.put,mkVal,mkVM,intOpA,intA,shiftA,unA,ZP,ZO,Zh,Zt,reduceIte,Nat.reduceEqDiff,Nat.reduceLT,Zo,Zq,true_and,and_true,and_self,ZB,cellsAt,Zg,ZC,Zf,Zk,ZL,ZM,Nat.reduceAdd,Nat.reduceMul,ZN,AV.cells,AV.one,known,Zn,getE_0,getE_k,setE_0,setE_k,Zc,Zd,Zl,Zm,Zi,Zw,Zu,Zj,Z1,Zx,Zy,ZJ,ZI,ZH,ZD,ZE,splice,fillI,Nat.reduceLeDiff,strA,ZK,ZA,Ze,bq_ft,bq_tf,ZG,ZF,ZQ,Zv,Zz,isNilA,nilPtr,nilSl,nilIf,nilFn,nilMap,nilCheckA,if_true,if_false,lt_lit,le_lit,lt_lit2,le_lit2,le_sub1,le_sub2]; rfl
  apply evI_block_exit
  apply evI_seq
  · simp only [p0V,loopV1,IC.a,IC.b,I79,IC.loops,Za,n0',i0,hq,d0,l0,eC_len,eC_take,eC_one,eC_0,eC_1,eC_2,eC_3,eC_4,eCr,eCr_0,eCr_1,eCr_2,eCr_3,eCr_4,List.length_drop,Nat.reduceSub,ZR,atr,Zs,Zr,Zp,Za,Zb,evI,opsI,stepI,wantI,opI,AAct.evI,look,AAct.put,mkVal,mkVM,intOpA,intA,shiftA,unA,ZP,ZO,Zh,Zt,reduceIte,Nat.reduceEqDiff,Nat.reduceLT,Zo,Zq,true_and,and_true,and_self,ZB,cellsAt,Zg,ZC,Zf,Zk,ZL,ZM,Nat.reduceAdd,Nat.reduceMul,ZN,AV.cells,AV.one,known,Zn,getE_0,getE_k,setE_0,setE_k,Zc,Zd,Zl,Zm,Zi,Zw,Zu,Zj,Z1,Zx,Zy,ZJ,ZI,ZH,ZD,ZE,splice,fillI,Nat.reduceLeDiff,strA,ZK,ZA,Ze,bq_ft,bq_tf,ZG,ZF,ZQ,Zv,Zz,isNilA,nilPtr,nilSl,nilIf,nilFn,nilMap,nilCheckA,if_true,if_false,lt_lit,le_lit,lt_lit2,le_lit2,le_sub1,le_sub2]; rfl
  apply evI_seq_exit
  apply evI_seq
  · simp only [lsV,loopV1,IC.a,IC.b,I79,IC.loops,Za,c1,eC_len,eC_take,eC_one,eC_0,eC_1,eC_2,eC_3,eC_4,eCr,eCr_0,eCr_1,eCr_2,eCr_3,eCr_4,List.length_drop,Nat.reduceSub,ZR,atr,Zs,Zr,Zp,Za,Zb,evI,opsI,stepI,wantI,opI,AAct.evI,look,AAct.put,mkVal,mkVM,intOpA,intA,shiftA,unA,ZP,ZO,Zh,Zt,reduceIte,Nat.reduceEqDiff,Nat.reduceLT,Zo,Zq,true_and,and_true,and_self,ZB,cellsAt,Zg,ZC,Zf,Zk,ZL,ZM,Nat.reduceAdd,Nat.reduceMul,ZN,AV.cells,AV.one,known,Zn,getE_0,getE_k,setE_0,setE_k,Zc,Zd,Zl,Zm,Zi,Zw,Zu,Zj,Z1,Zx,Zy,ZJ,ZI,ZH,ZD,ZE,splice,fillI,Nat.reduceLeDiff,strA,ZK,ZA,Ze,bq_ft,bq_tf,ZG,ZF,ZQ,Zv,Zz,isNilA,nilPtr,nilSl,nilIf,nilFn,nilMap,nilCheckA,if_true,if_false,lt_lit,le_lit,lt_lit2,le_lit2,le_sub1,le_sub2]; rfl
  apply evI_true rfl
  rw [fast_split]
  apply evI_seq
  · simp only [fastV,lsV,loopV1,IC.a,IC.b,I79,IC.loops,Za,n1,bound,cutSD,g1,eC_len,eC_take,eC_one,eC_0,eC_1,eC_2,eC_3,eC_4,eCr,eCr_0,eCr_1,eCr_2,eCr_3,eCr_4,List.length_drop,Nat.reduceSub,ZR,atr,Zs,Zr,Zp,Za,Zb,evI,opsI,stepI,wantI,opI,AAct.evI,look,AAct.put,mkVal,mkVM,intOpA,intA,shiftA,unA,ZP,ZO,Zh,Zt,reduceIte,Nat.reduceEqDiff,Nat.reduceLT,Zo,Zq,true_and,and_true,and_self,ZB,cellsAt,Zg,ZC,Zf,Zk,ZL,ZM,Nat.reduceAdd,Nat.reduceMul,ZN,AV.cells,AV.one,known,Zn,getE_0,getE_k,setE_0,setE_k,Zc,Zd,Zl,Zm,Zi,Zw,Zu,Zj,Z1,Zx,Zy,ZJ,ZI,ZH,ZD,ZE,splice,fillI,Nat.reduceLeDiff,strA,ZK,ZA,Ze,bq_ft,bq_tf,ZG,ZF,ZQ,Zv,Zz,isNilA,nilPtr,nilSl,nilIf,nilFn,nilMap,nilCheckA,if_true,if_false,lt_lit,le_lit,lt_lit2,le_lit2,le_sub1,le_sub2]; rfl
  apply evI_seq
  · apply evI_seq
    · simp only [t8V,fastV,lsV,loopV1,IC.a,IC.b,I79,IC.loops,Za,h8,k0,mm,hz,eC_len,eC_take,eC_one,eC_0,eC_1,eC_2,eC_3,eC_4,eCr,eCr_0,eCr_1,eCr_2,eCr_3,eCr_4,List.length_drop,Nat.reduceSub,ZR,atr,Zs,Zr,Zp,Za,Zb,evI,opsI,stepI,wantI,opI,AAct.evI,look,AAct.put,mkVal,mkVM,intOpA,intA,shiftA,unA,ZP,ZO,Zh,Zt,reduceIte,Nat.reduceEqDiff,Nat.reduceLT,Zo,Zq,true_and,and_true,and_self,ZB,cellsAt,Zg,ZC,Zf,Zk,ZL,ZM,Nat.reduceAdd,Nat.reduceMul,ZN,AV.cells,AV.one,known,Zn,getE_0,getE_k,setE_0,setE_k,Zc,Zd,Zl,Zm,Zi,Zw,Zu,Zj,Z1,Zx,Zy,ZJ,ZI,ZH,ZD,ZE,splice,fillI,Nat.reduceLeDiff,strA,ZK,ZA,Ze,bq_ft,bq_tf,ZG,ZF,ZQ,Zv,Zz,isNilA,nilPtr,nilSl,nilIf,nilFn,nilMap,nilCheckA,if_true,if_false,lt_lit,le_lit,lt_lit2,le_lit2,le_sub1,le_sub2]; rfl
    apply evI_true rfl
    rw [f8_split]
    apply evI_seq
    · simp only [f8V,fastV,lsV,loopV1,IC.a,IC.b,I79,IC.loops,Za,n8,bound,cutSD,g8,eC_len,eC_take,eC_one,eC_0,eC_1,eC_2,eC_3,eC_4,eCr,eCr_0,eCr_1,eCr_2,eCr_3,eCr_4,List.length_drop,Nat.reduceSub,ZR,atr,Zs,Zr,Zp,Za,Zb,evI,opsI,stepI,wantI,opI,AAct.evI,look,AAct.put,mkVal,mkVM,intOpA,intA,shiftA,unA,ZP,ZO,Zh,Zt,reduceIte,Nat.reduceEqDiff,Nat.reduceLT,Zo,Zq,true_and,and_true,and_self,ZB,cellsAt,Zg,ZC,Zf,Zk,ZL,ZM,Nat.reduceAdd,Nat.reduceMul,ZN,AV.cells,AV.one,known,Zn,getE_0,getE_k,setE_0,setE_k,Zc,Zd,Zl,Zm,Zi,Zw,Zu,Zj,Z1,Zx,Zy,ZJ,ZI,ZH,ZD,ZE,splice,fillI,Nat.reduceLeDiff,strA,ZK,ZA,Ze,bq_ft,bq_tf,ZG,ZF,ZQ,Zv,Zz,isNilA,nilPtr,nilSl,nilIf,nilFn,nilMap,nilCheckA,if_true,if_false,lt_lit,le_lit,lt_lit2,le_lit2,le_sub1,le_sub2]; rfl
    apply evI_seq
    · simp only [t16V,f8V,fastV,lsV,loopV1,IC.a,IC.b,I79,IC.loops,Za,h16,n8,bound,cutSD,g8b,k1,k2,o1,mm1,hz1,eC_len,eC_take,eC_one,eC_0,eC_1,eC_2,eC_3,eC_4,eCr,eCr_0,eCr_1,eCr_2,eCr_3,eCr_4,List.length_drop,Nat.reduceSub,ZR,atr,Zs,Zr,Zp,Za,Zb,evI,opsI,stepI,wantI,opI,AAct.evI,look,AAct.put,mkVal,mkVM,intOpA,intA,shiftA,unA,ZP,ZO,Zh,Zt,reduceIte,Nat.reduceEqDiff,Nat.reduceLT,Zo,Zq,true_and,and_true,and_self,ZB,cellsAt,Zg,ZC,Zf,Zk,ZL,ZM,Nat.reduceAdd,Nat.reduceMul,ZN,AV.cells,AV.one,known,Zn,getE_0,getE_k,setE_0,setE_k,Zc,Zd,Zl,Zm,Zi,Zw,Zu,Zj,Z1,Zx,Zy,ZJ,ZI,ZH,ZD,ZE,splice,fillI,Nat.reduceLeDiff,strA,ZK,ZA,Ze,bq_ft,bq_tf,ZG,ZF,ZQ,Zv,Zz,isNilA,nilPtr,nilSl,nilIf,nilFn,nilMap,nilCheckA,if_true,if_false,lt_lit,le_lit,lt_lit2,le_lit2,le_sub1,le_sub2,drawI,drawI2,drawI0,drawI20,lexD,valD,valI,putD,okD,roD,memAt,lastM,wantI,eqv_refl,eqM_refl,eqM_app,eqB,eqvL,eqv,List.getLast?_cons_cons,List.getLast?_singleton,Option.getD_some,Bool.or_true,Bool.true_or,ZA,resvV]; rfl
    apply evI_true rfl
    rw [f16_split]
    apply evI_seq
    · simp only [f16V,f8V,fastV,lsV,loopV1,IC.a,IC.b,I79,IC.loops,Za,n16,bound,cutSD,g16,eC_len,eC_take,eC_one,eC_0,eC_1,eC_2,eC_3,eC_4,eCr,eCr_0,eCr_1,eCr_2,eCr_3,eCr_4,List.length_drop,Nat.reduceSub,ZR,atr,Zs,Zr,Zp,Za,Zb,evI,opsI,stepI,wantI,opI,AAct.evI,look,AAct.put,mkVal,mkVM,intOpA,intA,shiftA,unA,ZP,ZO,Zh,Zt,reduceIte,Nat.reduceEqDiff,Nat.reduceLT,Zo,Zq,true_and,and_true,and_self,ZB,cellsAt,Zg,ZC,Zf,Zk,ZL,ZM,Nat.reduceAdd,Nat.reduceMul,ZN,AV.cells,AV.one,known,Zn,getE_0,getE_k,setE_0,setE_k,Zc,Zd,Zl,Zm,Zi,Zw,Zu,Zj,Z1,Zx,Zy,ZJ,ZI,ZH,ZD,ZE,splice,fillI,Nat.reduceLeDiff,strA,ZK,ZA,Ze,bq_ft,bq_tf,ZG,ZF,ZQ,Zv,Zz,isNilA,nilPtr,nilSl,nilIf,nilFn,nilMap,nilCheckA,if_true,if_false,lt_lit,le_lit,lt_lit2,le_lit2,le_sub1,le_sub2]; rfl
    apply evI_block_exit
    apply evI_loop
    exact hr
  exact evI_exit
end Go.Proofs.YtmnajffpmbidiaaGreatDoor.Ev
