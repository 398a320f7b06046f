/- Parts of one proof. -/
import Derived.Test.YtmnajffpmbidiaaGreatDoorMdb
set_option linter.all false
namespace Go.Proofs.YtmnajffpmbidiaaGreatDoor.Ev
variable {ml : Int}
open Go.Proofs.YtmnajffpmbidiaaGreatDoor.Ic
set_option maxRecDepth 100000
set_option maxHeartbeats 2000000
def nameFirst (c : Int) : Bool := decide (97 ≤ c ∧ c ≤ 122 ∨ 65 ≤ c ∧ c ≤ 90 ∨ c = 95 ∨ 128 ≤ c)
def nameNext (c : Int) : Bool := nameFirst c || decide (48 ≤ c ∧ c ≤ 57 ∨ c = 46 ∨ c = 45)
def runeOk (c : Int) : Bool := decide (c = 9 ∨ c = 10 ∨ c = 13 ∨ 32 ≤ c ∧ c ≤ 55295 ∨ 57344 ≤ c ∧ c ≤ 65533 ∨ 65536 ≤ c ∧ c ≤ 1114111)
def nxt8 (b : UInt8) : Bool := nameNext b.toNat
def fst8 (b : UInt8) : Bool := nameFirst b.toNat
theorem isFirst_eq (P : Program) (N n : Nat) (c : Int) (H : Mem) : evFI P (cfg ml) T N (n + 1) 48 [.int .u8 c] H = some (.ret (.bool (nameFirst c)), H) := by
  rcases Int.lt_or_le c 65 with u0 | u0
  · skip
    have g0 : decide (c ≥ 97) = false := decide_eq_false (by omega)
    have g1 : decide (c ≤ 122) = true := decide_eq_true (by omega)
    have g2 : decide (c ≥ 65) = false := decide_eq_false (by omega)
    have g3 : decide (c ≤ 90) = true := decide_eq_true (by omega)
    have g4 : (c == 95) = false := beq_false_of_ne (by omega)
    have g5 : decide (c ≥ 128) = false := decide_eq_false (by omega)
    have e : nameFirst c = false := by unfold nameFirst; exact decide_eq_false (by omega)
    rw [e]
    refine evF_ret (m := 25) (v := .bool false) (a := ?ar0) (H1 := ?Hr0) rfl t48 rfl ?hb ?hd ?hr ?hz
    case hb => simp only [Zf,Zk,idx,I48,g0,g1,g2,g3,g4,g5,eC_len,eC_take,eC_one,eC_0,eC_1,eC_2,eC_3,eC_4,eCr,eCr_0,eCr_1,eCr_2,eCr_3,eCr_4,List.length_drop,Nat.reduceSub,ZR,atr,Zs,Zr,Zp,Za,Zb,evI,opsI,stepI,wantI,opI,AAct.evI,look,AAct.put,mkVal,mkVM,intOpA,intA,shiftA,unA,ZP,ZO,Zh,Zt,reduceIte,Nat.reduceEqDiff,Nat.reduceLT,Zo,Zq,true_and,and_true,and_self,ZB,cellsAt,Zg,ZC,Zf,Zk,ZL,ZM,Nat.reduceAdd,Nat.reduceMul,ZN,AV.cells,AV.one,known,Zn,getE_0,getE_k,setE_0,setE_k,Zc,Zd,Zl,Zm,Zi,Zw,Zu,Zj,Z1,Zx,Zy,ZJ,ZI,ZH,ZD,ZE,splice,fillI,Nat.reduceLeDiff,strA,ZK,ZA,Ze,bq_ft,bq_tf,ZG,ZF,ZQ,Zv,Zz,isNilA,nilPtr,nilSl,nilIf,nilFn,nilMap,nilCheckA,if_true,if_false,lt_lit,le_lit,lt_lit2,le_lit2,le_sub1,le_sub2]; rfl
    case hd => rfl
    case hr => simp only [I48,resI,resLI,look,reduceIte,Nat.reduceEqDiff,Zh]
    case hz => exact fin_len rfl rfl
  rcases Int.lt_or_le c 91 with u1 | u1
  · skip
    have g0 : decide (c ≥ 97) = false := decide_eq_false (by omega)
    have g1 : decide (c ≤ 122) = true := decide_eq_true (by omega)
    have g2 : decide (c ≥ 65) = true := decide_eq_true (by omega)
    have g3 : decide (c ≤ 90) = true := decide_eq_true (by omega)
    have g4 : (c == 95) = false := beq_false_of_ne (by omega)
    have g5 : decide (c ≥ 128) = false := decide_eq_false (by omega)
    have e : nameFirst c = true := by unfold nameFirst; exact decide_eq_true (by omega)
    rw [e]
    refine evF_ret (m := 25) (v := .bool true) (a := ?ar1) (H1 := ?Hr1) rfl t48 rfl ?hb ?hd ?hr ?hz
    case hb => simp only [Zf,Zk,idx,I48,g0,g1,g2,g3,g4,g5,eC_len,eC_take,eC_one,eC_0,eC_1,eC_2,eC_3,eC_4,eCr,eCr_0,eCr_1,eCr_2,eCr_3,eCr_4,List.length_drop,Nat.reduceSub,ZR,atr,Zs,Zr,Zp,Za,Zb,evI,opsI,stepI,wantI,opI,AAct.evI,look,AAct.put,mkVal,mkVM,intOpA,intA,shiftA,unA,ZP,ZO,Zh,Zt,reduceIte,Nat.reduceEqDiff,Nat.reduceLT,Zo,Zq,true_and,and_true,and_self,ZB,cellsAt,Zg,ZC,Zf,Zk,ZL,ZM,Nat.reduceAdd,Nat.reduceMul,ZN,AV.cells,AV.one,known,Zn,getE_0,getE_k,setE_0,setE_k,Zc,Zd,Zl,Zm,Zi,Zw,Zu,Zj,Z1,Zx,Zy,ZJ,ZI,ZH,ZD,ZE,splice,fillI,Nat.reduceLeDiff,strA,ZK,ZA,Ze,bq_ft,bq_tf,ZG,ZF,ZQ,Zv,Zz,isNilA,nilPtr,nilSl,nilIf,nilFn,nilMap,nilCheckA,if_true,if_false,lt_lit,le_lit,lt_lit2,le_lit2,le_sub1,le_sub2]; rfl
    case hd => rfl
    case hr => simp only [I48,resI,resLI,look,reduceIte,Nat.reduceEqDiff,Zh]
    case hz => exact fin_len rfl rfl
  rcases Int.lt_or_le c 95 with u2 | u2
  · skip
    have g0 : decide (c ≥ 97) = false := decide_eq_false (by omega)
    have g1 : decide (c ≤ 122) = true := decide_eq_true (by omega)
    have g2 : decide (c ≥ 65) = true := decide_eq_true (by omega)
    have g3 : decide (c ≤ 90) = false := decide_eq_false (by omega)
    have g4 : (c == 95) = false := beq_false_of_ne (by omega)
    have g5 : decide (c ≥ 128) = false := decide_eq_false (by omega)
    have e : nameFirst c = false := by unfold nameFirst; exact decide_eq_false (by omega)
    rw [e]
    refine evF_ret (m := 25) (v := .bool false) (a := ?ar2) (H1 := ?Hr2) rfl t48 rfl ?hb ?hd ?hr ?hz
    case hb => simp only [Zf,Zk,idx,I48,g0,g1,g2,g3,g4,g5,eC_len,eC_take,eC_one,eC_0,eC_1,eC_2,eC_3,eC_4,eCr,eCr_0,eCr_1,eCr_2,eCr_3,eCr_4,List.length_drop,Nat.reduceSub,ZR,atr,Zs,Zr,Zp,Za,Zb,evI,opsI,stepI,wantI,opI,AAct.evI,look,AAct.put,mkVal,mkVM,intOpA,intA,shiftA,unA,ZP,ZO,Zh,Zt,reduceIte,Nat.reduceEqDiff,Nat.reduceLT,Zo,Zq,true_and,and_true,and_self,ZB,cellsAt,Zg,ZC,Zf,Zk,ZL,ZM,Nat.reduceAdd,Nat.reduceMul,ZN,AV.cells,AV.one,known,Zn,getE_0,getE_k,setE_0,setE_k,Zc,Zd,Zl,Zm,Zi,Zw,Zu,Zj,Z1,Zx,Zy,ZJ,ZI,ZH,ZD,ZE,splice,fillI,Nat.reduceLeDiff,strA,ZK,ZA,Ze,bq_ft,bq_tf,ZG,ZF,ZQ,Zv,Zz,isNilA,nilPtr,nilSl,nilIf,nilFn,nilMap,nilCheckA,if_true,if_false,lt_lit,le_lit,lt_lit2,le_lit2,le_sub1,le_sub2]; rfl
    case hd => rfl
    case hr => simp only [I48,resI,resLI,look,reduceIte,Nat.reduceEqDiff,Zh]
    case hz => exact fin_len rfl rfl
  rcases Int.lt_or_le c 96 with u3 | u3
  · skip
    have g0 : decide (c ≥ 97) = false := decide_eq_false (by omega)
    have g1 : decide (c ≤ 122) = true := decide_eq_true (by omega)
    have g2 : decide (c ≥ 65) = true := decide_eq_true (by omega)
    have g3 : decide (c ≤ 90) = false := decide_eq_false (by omega)
    have g4 : (c == 95) = true := beq_iff_eq.2 (by omega)
    have g5 : decide (c ≥ 128) = false := decide_eq_false (by omega)
    have e : nameFirst c = true := by unfold nameFirst; exact decide_eq_true (by omega)
    rw [e]
    refine evF_ret (m := 25) (v := .bool true) (a := ?ar3) (H1 := ?Hr3) rfl t48 rfl ?hb ?hd ?hr ?hz
    case hb => simp only [Zf,Zk,idx,I48,g0,g1,g2,g3,g4,g5,eC_len,eC_take,eC_one,eC_0,eC_1,eC_2,eC_3,eC_4,eCr,eCr_0,eCr_1,eCr_2,eCr_3,eCr_4,List.length_drop,Nat.reduceSub,ZR,atr,Zs,Zr,Zp,Za,Zb,evI,opsI,stepI,wantI,opI,AAct.evI,look,AAct.put,mkVal,mkVM,intOpA,intA,shiftA,unA,ZP,ZO,Zh,Zt,reduceIte,Nat.reduceEqDiff,Nat.reduceLT,Zo,Zq,true_and,and_true,and_self,ZB,cellsAt,Zg,ZC,Zf,Zk,ZL,ZM,Nat.reduceAdd,Nat.reduceMul,ZN,AV.cells,AV.one,known,Zn,getE_0,getE_k,setE_0,setE_k,Zc,Zd,Zl,Zm,Zi,Zw,Zu,Zj,Z1,Zx,Zy,ZJ,ZI,ZH,ZD,ZE,splice,fillI,Nat.reduceLeDiff,strA,ZK,ZA,Ze,bq_ft,bq_tf,ZG,ZF,ZQ,Zv,Zz,isNilA,nilPtr,nilSl,nilIf,nilFn,nilMap,nilCheckA,if_true,if_false,lt_lit,le_lit,lt_lit2,le_lit2,le_sub1,le_sub2]; rfl
    case hd => rfl
    case hr => simp only [I48,resI,resLI,look,reduceIte,Nat.reduceEqDiff,Zh]
    case hz => exact fin_len rfl rfl
  rcases Int.lt_or_le c 97 with u4 | u4
  · skip
    have g0 : decide (c ≥ 97) = false := decide_eq_false (by omega)
    have g1 : decide (c ≤ 122) = true := decide_eq_true (by omega)
    have g2 : decide (c ≥ 65) = true := decide_eq_true (by omega)
    have g3 : decide (c ≤ 90) = false := decide_eq_false (by omega)
    have g4 : (c == 95) = false := beq_false_of_ne (by omega)
    have g5 : decide (c ≥ 128) = false := decide_eq_false (by omega)
    have e : nameFirst c = false := by unfold nameFirst; exact decide_eq_false (by omega)
    rw [e]
    refine evF_ret (m := 25) (v := .bool false) (a := ?ar4) (H1 := ?Hr4) rfl t48 rfl ?hb ?hd ?hr ?hz
    case hb => simp only [Zf,Zk,idx,I48,g0,g1,g2,g3,g4,g5,eC_len,eC_take,eC_one,eC_0,eC_1,eC_2,eC_3,eC_4,eCr,eCr_0,eCr_1,eCr_2,eCr_3,eCr_4,List.length_drop,Nat.reduceSub,ZR,atr,Zs,Zr,Zp,Za,Zb,evI,opsI,stepI,wantI,opI,AAct.evI,look,AAct.put,mkVal,mkVM,intOpA,intA,shiftA,unA,ZP,ZO,Zh,Zt,reduceIte,Nat.reduceEqDiff,Nat.reduceLT,Zo,Zq,true_and,and_true,and_self,ZB,cellsAt,Zg,ZC,Zf,Zk,ZL,ZM,Nat.reduceAdd,Nat.reduceMul,ZN,AV.cells,AV.one,known,Zn,getE_0,getE_k,setE_0,setE_k,Zc,Zd,Zl,Zm,Zi,Zw,Zu,Zj,Z1,Zx,Zy,ZJ,ZI,ZH,ZD,ZE,splice,fillI,Nat.reduceLeDiff,strA,ZK,ZA,Ze,bq_ft,bq_tf,ZG,ZF,ZQ,Zv,Zz,isNilA,nilPtr,nilSl,nilIf,nilFn,nilMap,nilCheckA,if_true,if_false,lt_lit,le_lit,lt_lit2,le_lit2,le_sub1,le_sub2]; rfl
    case hd => rfl
    case hr => simp only [I48,resI,resLI,look,reduceIte,Nat.reduceEqDiff,Zh]
    case hz => exact fin_len rfl rfl
  rcases Int.lt_or_le c 123 with u5 | u5
  · skip
    have g0 : decide (c ≥ 97) = true := decide_eq_true (by omega)
    have g1 : decide (c ≤ 122) = true := decide_eq_true (by omega)
    have g2 : decide (c ≥ 65) = true := decide_eq_true (by omega)
    have g3 : decide (c ≤ 90) = false := decide_eq_false (by omega)
    have g4 : (c == 95) = false := beq_false_of_ne (by omega)
    have g5 : decide (c ≥ 128) = false := decide_eq_false (by omega)
    have e : nameFirst c = true := by unfold nameFirst; exact decide_eq_true (by omega)
    rw [e]
    refine evF_ret (m := 25) (v := .bool true) (a := ?ar5) (H1 := ?Hr5) rfl t48 rfl ?hb ?hd ?hr ?hz
    case hb => simp only [Zf,Zk,idx,I48,g0,g1,g2,g3,g4,g5,eC_len,eC_take,eC_one,eC_0,eC_1,eC_2,eC_3,eC_4,eCr,eCr_0,eCr_1,eCr_2,eCr_3,eCr_4,List.length_drop,Nat.reduceSub,ZR,atr,Zs,Zr,Zp,Za,Zb,evI,opsI,stepI,wantI,opI,AAct.evI,look,AAct.put,mkVal,mkVM,intOpA,intA,shiftA,unA,ZP,ZO,Zh,Zt,reduceIte,Nat.reduceEqDiff,Nat.reduceLT,Zo,Zq,true_and,and_true,and_self,ZB,cellsAt,Zg,ZC,Zf,Zk,ZL,ZM,Nat.reduceAdd,Nat.reduceMul,ZN,AV.cells,AV.one,known,Zn,getE_0,getE_k,setE_0,setE_k,Zc,Zd,Zl,Zm,Zi,Zw,Zu,Zj,Z1,Zx,Zy,ZJ,ZI,ZH,ZD,ZE,splice,fillI,Nat.reduceLeDiff,strA,ZK,ZA,Ze,bq_ft,bq_tf,ZG,ZF,ZQ,Zv,Zz,isNilA,nilPtr,nilSl,nilIf,nilFn,nilMap,nilCheckA,if_true,if_false,lt_lit,le_lit,lt_lit2,le_lit2,le_sub1,le_sub2]; rfl
    case hd => rfl
    case hr => simp only [I48,resI,resLI,look,reduceIte,Nat.reduceEqDiff,Zh]
    case hz => exact fin_len rfl rfl
  rcases Int.lt_or_le c 128 with u6 | u6
  · skip
    have g0 : decide (c ≥ 97) = true := decide_eq_true (by omega)
    have g1 : decide (c ≤ 122) = false := decide_eq_false (by omega)
    have g2 : decide (c ≥ 65) = true := decide_eq_true (by omega)
    have g3 : decide (c ≤ 90) = false := decide_eq_false (by omega)
    have g4 : (c == 95) = false := beq_false_of_ne (by omega)
    have g5 : decide (c ≥ 128) = false := decide_eq_false (by omega)
    have e : nameFirst c = false := by unfold nameFirst; exact decide_eq_false (by omega)
    rw [e]
    refine evF_ret (m := 25) (v := .bool false) (a := ?ar6) (H1 := ?Hr6) rfl t48 rfl ?hb ?hd ?hr ?hz
    case hb => simp only [Zf,Zk,idx,I48,g0,g1,g2,g3,g4,g5,eC_len,eC_take,eC_one,eC_0,eC_1,eC_2,eC_3,eC_4,eCr,eCr_0,eCr_1,eCr_2,eCr_3,eCr_4,List.length_drop,Nat.reduceSub,ZR,atr,Zs,Zr,Zp,Za,Zb,evI,opsI,stepI,wantI,opI,AAct.evI,look,AAct.put,mkVal,mkVM,intOpA,intA,shiftA,unA,ZP,ZO,Zh,Zt,reduceIte,Nat.reduceEqDiff,Nat.reduceLT,Zo,Zq,true_and,and_true,and_self,ZB,cellsAt,Zg,ZC,Zf,Zk,ZL,ZM,Nat.reduceAdd,Nat.reduceMul,ZN,AV.cells,AV.one,known,Zn,getE_0,getE_k,setE_0,setE_k,Zc,Zd,Zl,Zm,Zi,Zw,Zu,Zj,Z1,Zx,Zy,ZJ,ZI,ZH,ZD,ZE,splice,fillI,Nat.reduceLeDiff,strA,ZK,ZA,Ze,bq_ft,bq_tf,ZG,ZF,ZQ,Zv,Zz,isNilA,nilPtr,nilSl,nilIf,nilFn,nilMap,nilCheckA,if_true,if_false,lt_lit,le_lit,lt_lit2,le_lit2,le_sub1,le_sub2]; rfl
    case hd => rfl
    case hr => simp only [I48,resI,resLI,look,reduceIte,Nat.reduceEqDiff,Zh]
    case hz => exact fin_len rfl rfl
  have g0 : decide (c ≥ 97) = true := decide_eq_true (by omega)
  have g1 : decide (c ≤ 122) = false := decide_eq_false (by omega)
  have g2 : decide (c ≥ 65) = true := decide_eq_true (by omega)
  have g3 : decide (c ≤ 90) = false := decide_eq_false (by omega)
  have g4 : (c == 95) = false := beq_false_of_ne (by omega)
  have g5 : decide (c ≥ 128) = true := decide_eq_true (by omega)
  have e : nameFirst c = true := by unfold nameFirst; exact decide_eq_true (by omega)
  rw [e]
  refine evF_ret (m := 25) (v := .bool true) (a := ?ar7) (H1 := ?Hr7) rfl t48 rfl ?hb ?hd ?hr ?hz
  case hb => simp only [Zf,Zk,idx,I48,g0,g1,g2,g3,g4,g5,eC_len,eC_take,eC_one,eC_0,eC_1,eC_2,eC_3,eC_4,eCr,eCr_0,eCr_1,eCr_2,eCr_3,eCr_4,List.length_drop,Nat.reduceSub,ZR,atr,Zs,Zr,Zp,Za,Zb,evI,opsI,stepI,wantI,opI,AAct.evI,look,AAct.put,mkVal,mkVM,intOpA,intA,shiftA,unA,ZP,ZO,Zh,Zt,reduceIte,Nat.reduceEqDiff,Nat.reduceLT,Zo,Zq,true_and,and_true,and_self,ZB,cellsAt,Zg,ZC,Zf,Zk,ZL,ZM,Nat.reduceAdd,Nat.reduceMul,ZN,AV.cells,AV.one,known,Zn,getE_0,getE_k,setE_0,setE_k,Zc,Zd,Zl,Zm,Zi,Zw,Zu,Zj,Z1,Zx,Zy,ZJ,ZI,ZH,ZD,ZE,splice,fillI,Nat.reduceLeDiff,strA,ZK,ZA,Ze,bq_ft,bq_tf,ZG,ZF,ZQ,Zv,Zz,isNilA,nilPtr,nilSl,nilIf,nilFn,nilMap,nilCheckA,if_true,if_false,lt_lit,le_lit,lt_lit2,le_lit2,le_sub1,le_sub2]; rfl
  case hd => rfl
  case hr => simp only [I48,resI,resLI,look,reduceIte,Nat.reduceEqDiff,Zh]
  case hz => exact fin_len rfl rfl
theorem isNext_eq (P : Program) (N n : Nat) (c : Int) (H : Mem) : evFI P (cfg ml) T N (n + 2) 34 [.int .u8 c] H = some (.ret (.bool (nameNext c)), H) := by
  have hs := fun H => isFirst_eq (ml := ml) P N n c H
  cases hf : nameFirst c
  rotate_left
  · rw [hf] at hs
    have e : nameNext c = true := by simp [nameNext, hf]
    rw [e]
    refine evF_ret (m := 21) (v := .bool true) (a := ?ayes) (H1 := ?Hyes) rfl t34 rfl ?hb ?hd ?hr ?hz
    case hb => simp only [Zf,Zk,idx,I34,hs,eC_len,eC_take,eC_one,eC_0,eC_1,eC_2,eC_3,eC_4,eCr,eCr_0,eCr_1,eCr_2,eCr_3,eCr_4,List.length_drop,Nat.reduceSub,ZR,atr,Zs,Zr,Zp,Za,Zb,evI,opsI,stepI,wantI,opI,AAct.evI,look,AAct.put,mkVal,mkVM,intOpA,intA,shiftA,unA,ZP,ZO,Zh,Zt,reduceIte,Nat.reduceEqDiff,Nat.reduceLT,Zo,Zq,true_and,and_true,and_self,ZB,cellsAt,Zg,ZC,Zf,Zk,ZL,ZM,Nat.reduceAdd,Nat.reduceMul,ZN,AV.cells,AV.one,known,Zn,getE_0,getE_k,setE_0,setE_k,Zc,Zd,Zl,Zm,Zi,Zw,Zu,Zj,Z1,Zx,Zy,ZJ,ZI,ZH,ZD,ZE,splice,fillI,Nat.reduceLeDiff,strA,ZK,ZA,Ze,bq_ft,bq_tf,ZG,ZF,ZQ,Zv,Zz,isNilA,nilPtr,nilSl,nilIf,nilFn,nilMap,nilCheckA,if_true,if_false,lt_lit,le_lit,lt_lit2,le_lit2,le_sub1,le_sub2]; rfl
    case hd => rfl
    case hr => simp only [I34,resI,resLI,look,reduceIte,Nat.reduceEqDiff,Zh]
    case hz => exact fin_len rfl rfl
  rw [hf] at hs
  rcases Int.lt_or_le c 45 with u0 | u0
  · skip
    have g0 : decide (c ≥ 48) = false := decide_eq_false (by omega)
    have g1 : decide (c ≤ 57) = true := decide_eq_true (by omega)
    have g2 : (c == 46) = false := beq_false_of_ne (by omega)
    have g3 : (c == 45) = false := beq_false_of_ne (by omega)
    have e : nameNext c = false := by simp only [nameNext,hf,Bool.false_or]; exact decide_eq_false (by omega)
    rw [e]
    refine evF_ret (m := 21) (v := .bool false) (a := ?ar0) (H1 := ?Hr0) rfl t34 rfl ?hb ?hd ?hr ?hz
    case hb => simp only [Zf,Zk,idx,I34,g0,g1,g2,g3,hs,eC_len,eC_take,eC_one,eC_0,eC_1,eC_2,eC_3,eC_4,eCr,eCr_0,eCr_1,eCr_2,eCr_3,eCr_4,List.length_drop,Nat.reduceSub,ZR,atr,Zs,Zr,Zp,Za,Zb,evI,opsI,stepI,wantI,opI,AAct.evI,look,AAct.put,mkVal,mkVM,intOpA,intA,shiftA,unA,ZP,ZO,Zh,Zt,reduceIte,Nat.reduceEqDiff,Nat.reduceLT,Zo,Zq,true_and,and_true,and_self,ZB,cellsAt,Zg,ZC,Zf,Zk,ZL,ZM,Nat.reduceAdd,Nat.reduceMul,ZN,AV.cells,AV.one,known,Zn,getE_0,getE_k,setE_0,setE_k,Zc,Zd,Zl,Zm,Zi,Zw,Zu,Zj,Z1,Zx,Zy,ZJ,ZI,ZH,ZD,ZE,splice,fillI,Nat.reduceLeDiff,strA,ZK,ZA,Ze,bq_ft,bq_tf,ZG,ZF,ZQ,Zv,Zz,isNilA,nilPtr,nilSl,nilIf,nilFn,nilMap,nilCheckA,if_true,if_false,lt_lit,le_lit,lt_lit2,le_lit2,le_sub1,le_sub2]; rfl
    case hd => rfl
    case hr => simp only [I34,resI,resLI,look,reduceIte,Nat.reduceEqDiff,Zh]
    case hz => exact fin_len rfl rfl
  rcases Int.lt_or_le c 46 with u1 | u1
  · skip
    have g0 : decide (c ≥ 48) = false := decide_eq_false (by omega)
    have g1 : decide (c ≤ 57) = true := decide_eq_true (by omega)
    have g2 : (c == 46) = false := beq_false_of_ne (by omega)
    have g3 : (c == 45) = true := beq_iff_eq.2 (by omega)
    have e : nameNext c = true := by simp only [nameNext,hf,Bool.false_or]; exact decide_eq_true (by omega)
    rw [e]
    refine evF_ret (m := 21) (v := .bool true) (a := ?ar1) (H1 := ?Hr1) rfl t34 rfl ?hb ?hd ?hr ?hz
    case hb => simp only [Zf,Zk,idx,I34,g0,g1,g2,g3,hs,eC_len,eC_take,eC_one,eC_0,eC_1,eC_2,eC_3,eC_4,eCr,eCr_0,eCr_1,eCr_2,eCr_3,eCr_4,List.length_drop,Nat.reduceSub,ZR,atr,Zs,Zr,Zp,Za,Zb,evI,opsI,stepI,wantI,opI,AAct.evI,look,AAct.put,mkVal,mkVM,intOpA,intA,shiftA,unA,ZP,ZO,Zh,Zt,reduceIte,Nat.reduceEqDiff,Nat.reduceLT,Zo,Zq,true_and,and_true,and_self,ZB,cellsAt,Zg,ZC,Zf,Zk,ZL,ZM,Nat.reduceAdd,Nat.reduceMul,ZN,AV.cells,AV.one,known,Zn,getE_0,getE_k,setE_0,setE_k,Zc,Zd,Zl,Zm,Zi,Zw,Zu,Zj,Z1,Zx,Zy,ZJ,ZI,ZH,ZD,ZE,splice,fillI,Nat.reduceLeDiff,strA,ZK,ZA,Ze,bq_ft,bq_tf,ZG,ZF,ZQ,Zv,Zz,isNilA,nilPtr,nilSl,nilIf,nilFn,nilMap,nilCheckA,if_true,if_false,lt_lit,le_lit,lt_lit2,le_lit2,le_sub1,le_sub2]; rfl
    case hd => rfl
    case hr => simp only [I34,resI,resLI,look,reduceIte,Nat.reduceEqDiff,Zh]
    case hz => exact fin_len rfl rfl
  rcases Int.lt_or_le c 47 with u2 | u2
  · skip
    have g0 : decide (c ≥ 48) = false := decide_eq_false (by omega)
    have g1 : decide (c ≤ 57) = true := decide_eq_true (by omega)
    have g2 : (c == 46) = true := beq_iff_eq.2 (by omega)
    have g3 : (c == 45) = false := beq_false_of_ne (by omega)
    have e : nameNext c = true := by simp only [nameNext,hf,Bool.false_or]; exact decide_eq_true (by omega)
    rw [e]
    refine evF_ret (m := 21) (v := .bool true) (a := ?ar2) (H1 := ?Hr2) rfl t34 rfl ?hb ?hd ?hr ?hz
    case hb => simp only [Zf,Zk,idx,I34,g0,g1,g2,g3,hs,eC_len,eC_take,eC_one,eC_0,eC_1,eC_2,eC_3,eC_4,eCr,eCr_0,eCr_1,eCr_2,eCr_3,eCr_4,List.length_drop,Nat.reduceSub,ZR,atr,Zs,Zr,Zp,Za,Zb,evI,opsI,stepI,wantI,opI,AAct.evI,look,AAct.put,mkVal,mkVM,intOpA,intA,shiftA,unA,ZP,ZO,Zh,Zt,reduceIte,Nat.reduceEqDiff,Nat.reduceLT,Zo,Zq,true_and,and_true,and_self,ZB,cellsAt,Zg,ZC,Zf,Zk,ZL,ZM,Nat.reduceAdd,Nat.reduceMul,ZN,AV.cells,AV.one,known,Zn,getE_0,getE_k,setE_0,setE_k,Zc,Zd,Zl,Zm,Zi,Zw,Zu,Zj,Z1,Zx,Zy,ZJ,ZI,ZH,ZD,ZE,splice,fillI,Nat.reduceLeDiff,strA,ZK,ZA,Ze,bq_ft,bq_tf,ZG,ZF,ZQ,Zv,Zz,isNilA,nilPtr,nilSl,nilIf,nilFn,nilMap,nilCheckA,if_true,if_false,lt_lit,le_lit,lt_lit2,le_lit2,le_sub1,le_sub2]; rfl
    case hd => rfl
    case hr => simp only [I34,resI,resLI,look,reduceIte,Nat.reduceEqDiff,Zh]
    case hz => exact fin_len rfl rfl
  rcases Int.lt_or_le c 48 with u3 | u3
  · skip
    have g0 : decide (c ≥ 48) = false := decide_eq_false (by omega)
    have g1 : decide (c ≤ 57) = true := decide_eq_true (by omega)
    have g2 : (c == 46) = false := beq_false_of_ne (by omega)
    have g3 : (c == 45) = false := beq_false_of_ne (by omega)
    have e : nameNext c = false := by simp only [nameNext,hf,Bool.false_or]; exact decide_eq_false (by omega)
    rw [e]
    refine evF_ret (m := 21) (v := .bool false) (a := ?ar3) (H1 := ?Hr3) rfl t34 rfl ?hb ?hd ?hr ?hz
    case hb => simp only [Zf,Zk,idx,I34,g0,g1,g2,g3,hs,eC_len,eC_take,eC_one,eC_0,eC_1,eC_2,eC_3,eC_4,eCr,eCr_0,eCr_1,eCr_2,eCr_3,eCr_4,List.length_drop,Nat.reduceSub,ZR,atr,Zs,Zr,Zp,Za,Zb,evI,opsI,stepI,wantI,opI,AAct.evI,look,AAct.put,mkVal,mkVM,intOpA,intA,shiftA,unA,ZP,ZO,Zh,Zt,reduceIte,Nat.reduceEqDiff,Nat.reduceLT,Zo,Zq,true_and,and_true,and_self,ZB,cellsAt,Zg,ZC,Zf,Zk,ZL,ZM,Nat.reduceAdd,Nat.reduceMul,ZN,AV.cells,AV.one,known,Zn,getE_0,getE_k,setE_0,setE_k,Zc,Zd,Zl,Zm,Zi,Zw,Zu,Zj,Z1,Zx,Zy,ZJ,ZI,ZH,ZD,ZE,splice,fillI,Nat.reduceLeDiff,strA,ZK,ZA,Ze,bq_ft,bq_tf,ZG,ZF,ZQ,Zv,Zz,isNilA,nilPtr,nilSl,nilIf,nilFn,nilMap,nilCheckA,if_true,if_false,lt_lit,le_lit,lt_lit2,le_lit2,le_sub1,le_sub2]; rfl
    case hd => rfl
    case hr => simp only [I34,resI,resLI,look,reduceIte,Nat.reduceEqDiff,Zh]
    case hz => exact fin_len rfl rfl
  rcases Int.lt_or_le c 58 with u4 | u4
  · skip
    have g0 : decide (c ≥ 48) = true := decide_eq_true (by omega)
    have g1 : decide (c ≤ 57) = true := decide_eq_true (by omega)
    have g2 : (c == 46) = false := beq_false_of_ne (by omega)
    have g3 : (c == 45) = false := beq_false_of_ne (by omega)
    have e : nameNext c = true := by simp only [nameNext,hf,Bool.false_or]; exact decide_eq_true (by omega)
    rw [e]
    refine evF_ret (m := 21) (v := .bool true) (a := ?ar4) (H1 := ?Hr4) rfl t34 rfl ?hb ?hd ?hr ?hz
    case hb => simp only [Zf,Zk,idx,I34,g0,g1,g2,g3,hs,eC_len,eC_take,eC_one,eC_0,eC_1,eC_2,eC_3,eC_4,eCr,eCr_0,eCr_1,eCr_2,eCr_3,eCr_4,List.length_drop,Nat.reduceSub,ZR,atr,Zs,Zr,Zp,Za,Zb,evI,opsI,stepI,wantI,opI,AAct.evI,look,AAct.put,mkVal,mkVM,intOpA,intA,shiftA,unA,ZP,ZO,Zh,Zt,reduceIte,Nat.reduceEqDiff,Nat.reduceLT,Zo,Zq,true_and,and_true,and_self,ZB,cellsAt,Zg,ZC,Zf,Zk,ZL,ZM,Nat.reduceAdd,Nat.reduceMul,ZN,AV.cells,AV.one,known,Zn,getE_0,getE_k,setE_0,setE_k,Zc,Zd,Zl,Zm,Zi,Zw,Zu,Zj,Z1,Zx,Zy,ZJ,ZI,ZH,ZD,ZE,splice,fillI,Nat.reduceLeDiff,strA,ZK,ZA,Ze,bq_ft,bq_tf,ZG,ZF,ZQ,Zv,Zz,isNilA,nilPtr,nilSl,nilIf,nilFn,nilMap,nilCheckA,if_true,if_false,lt_lit,le_lit,lt_lit2,le_lit2,le_sub1,le_sub2]; rfl
    case hd => rfl
    case hr => simp only [I34,resI,resLI,look,reduceIte,Nat.reduceEqDiff,Zh]
    case hz => exact fin_len rfl rfl
  have g0 : decide (c ≥ 48) = true := decide_eq_true (by omega)
  have g1 : decide (c ≤ 57) = false := decide_eq_false (by omega)
  have g2 : (c == 46) = false := beq_false_of_ne (by omega)
  have g3 : (c == 45) = false := beq_false_of_ne (by omega)
  have e : nameNext c = false := by simp only [nameNext,hf,Bool.false_or]; exact decide_eq_false (by omega)
  rw [e]
  refine evF_ret (m := 21) (v := .bool false) (a := ?ar5) (H1 := ?Hr5) rfl t34 rfl ?hb ?hd ?hr ?hz
  case hb => simp only [Zf,Zk,idx,I34,g0,g1,g2,g3,hs,eC_len,eC_take,eC_one,eC_0,eC_1,eC_2,eC_3,eC_4,eCr,eCr_0,eCr_1,eCr_2,eCr_3,eCr_4,List.length_drop,Nat.reduceSub,ZR,atr,Zs,Zr,Zp,Za,Zb,evI,opsI,stepI,wantI,opI,AAct.evI,look,AAct.put,mkVal,mkVM,intOpA,intA,shiftA,unA,ZP,ZO,Zh,Zt,reduceIte,Nat.reduceEqDiff,Nat.reduceLT,Zo,Zq,true_and,and_true,and_self,ZB,cellsAt,Zg,ZC,Zf,Zk,ZL,ZM,Nat.reduceAdd,Nat.reduceMul,ZN,AV.cells,AV.one,known,Zn,getE_0,getE_k,setE_0,setE_k,Zc,Zd,Zl,Zm,Zi,Zw,Zu,Zj,Z1,Zx,Zy,ZJ,ZI,ZH,ZD,ZE,splice,fillI,Nat.reduceLeDiff,strA,ZK,ZA,Ze,bq_ft,bq_tf,ZG,ZF,ZQ,Zv,Zz,isNilA,nilPtr,nilSl,nilIf,nilFn,nilMap,nilCheckA,if_true,if_false,lt_lit,le_lit,lt_lit2,le_lit2,le_sub1,le_sub2]; rfl
  case hd => rfl
  case hr => simp only [I34,resI,resLI,look,reduceIte,Nat.reduceEqDiff,Zh]
  case hz => exact fin_len rfl rfl
theorem isRune_eq (P : Program) (N n : Nat) (c : Int) (H : Mem) : evFI P (cfg ml) T N (n + 1) 46 [.int .i32 c] H = some (.ret (.bool (runeOk c)), H) := by
  rcases Int.lt_or_le c 9 with u0 | u0
  · skip
    have g0 : (c == 9) = false := beq_false_of_ne (by omega)
    have g1 : (c == 10) = false := beq_false_of_ne (by omega)
    have g2 : (c == 13) = false := beq_false_of_ne (by omega)
    have g3 : decide (c ≥ 32) = false := decide_eq_false (by omega)
    have g4 : decide (c ≤ 55295) = true := decide_eq_true (by omega)
    have g5 : decide (c ≥ 57344) = false := decide_eq_false (by omega)
    have g6 : decide (c ≤ 65533) = true := decide_eq_true (by omega)
    have g7 : decide (c ≥ 65536) = false := decide_eq_false (by omega)
    have g8 : decide (c ≤ 1114111) = true := decide_eq_true (by omega)
    have e : runeOk c = false := by unfold runeOk; exact decide_eq_false (by omega)
    rw [e]
    refine evF_ret (m := 37) (v := .bool false) (a := ?ar0) (H1 := ?Hr0) rfl t46 rfl ?hb ?hd ?hr ?hz
    case hb => simp only [Zf,Zk,idx,I46,g0,g1,g2,g3,g4,g5,g6,g7,g8,eC_len,eC_take,eC_one,eC_0,eC_1,eC_2,eC_3,eC_4,eCr,eCr_0,eCr_1,eCr_2,eCr_3,eCr_4,List.length_drop,Nat.reduceSub,ZR,atr,Zs,Zr,Zp,Za,Zb,evI,opsI,stepI,wantI,opI,AAct.evI,look,AAct.put,mkVal,mkVM,intOpA,intA,shiftA,unA,ZP,ZO,Zh,Zt,reduceIte,Nat.reduceEqDiff,Nat.reduceLT,Zo,Zq,true_and,and_true,and_self,ZB,cellsAt,Zg,ZC,Zf,Zk,ZL,ZM,Nat.reduceAdd,Nat.reduceMul,ZN,AV.cells,AV.one,known,Zn,getE_0,getE_k,setE_0,setE_k,Zc,Zd,Zl,Zm,Zi,Zw,Zu,Zj,Z1,Zx,Zy,ZJ,ZI,ZH,ZD,ZE,splice,fillI,Nat.reduceLeDiff,strA,ZK,ZA,Ze,bq_ft,bq_tf,ZG,ZF,ZQ,Zv,Zz,isNilA,nilPtr,nilSl,nilIf,nilFn,nilMap,nilCheckA,if_true,if_false,lt_lit,le_lit,lt_lit2,le_lit2,le_sub1,le_sub2]; rfl
    case hd => rfl
    case hr => simp only [I46,resI,resLI,look,reduceIte,Nat.reduceEqDiff,Zh]
    case hz => exact fin_len rfl rfl
  rcases Int.lt_or_le c 10 with u1 | u1
  · skip
    have g0 : (c == 9) = true := beq_iff_eq.2 (by omega)
    have g1 : (c == 10) = false := beq_false_of_ne (by omega)
    have g2 : (c == 13) = false := beq_false_of_ne (by omega)
    have g3 : decide (c ≥ 32) = false := decide_eq_false (by omega)
    have g4 : decide (c ≤ 55295) = true := decide_eq_true (by omega)
    have g5 : decide (c ≥ 57344) = false := decide_eq_false (by omega)
    have g6 : decide (c ≤ 65533) = true := decide_eq_true (by omega)
    have g7 : decide (c ≥ 65536) = false := decide_eq_false (by omega)
    have g8 : decide (c ≤ 1114111) = true := decide_eq_true (by omega)
    have e : runeOk c = true := by unfold runeOk; exact decide_eq_true (by omega)
    rw [e]
    refine evF_ret (m := 37) (v := .bool true) (a := ?ar1) (H1 := ?Hr1) rfl t46 rfl ?hb ?hd ?hr ?hz
    case hb => simp only [Zf,Zk,idx,I46,g0,g1,g2,g3,g4,g5,g6,g7,g8,eC_len,eC_take,eC_one,eC_0,eC_1,eC_2,eC_3,eC_4,eCr,eCr_0,eCr_1,eCr_2,eCr_3,eCr_4,List.length_drop,Nat.reduceSub,ZR,atr,Zs,Zr,Zp,Za,Zb,evI,opsI,stepI,wantI,opI,AAct.evI,look,AAct.put,mkVal,mkVM,intOpA,intA,shiftA,unA,ZP,ZO,Zh,Zt,reduceIte,Nat.reduceEqDiff,Nat.reduceLT,Zo,Zq,true_and,and_true,and_self,ZB,cellsAt,Zg,ZC,Zf,Zk,ZL,ZM,Nat.reduceAdd,Nat.reduceMul,ZN,AV.cells,AV.one,known,Zn,getE_0,getE_k,setE_0,setE_k,Zc,Zd,Zl,Zm,Zi,Zw,Zu,Zj,Z1,Zx,Zy,ZJ,ZI,ZH,ZD,ZE,splice,fillI,Nat.reduceLeDiff,strA,ZK,ZA,Ze,bq_ft,bq_tf,ZG,ZF,ZQ,Zv,Zz,isNilA,nilPtr,nilSl,nilIf,nilFn,nilMap,nilCheckA,if_true,if_false,lt_lit,le_lit,lt_lit2,le_lit2,le_sub1,le_sub2]; rfl
    case hd => rfl
    case hr => simp only [I46,resI,resLI,look,reduceIte,Nat.reduceEqDiff,Zh]
    case hz => exact fin_len rfl rfl
  rcases Int.lt_or_le c 11 with u2 | u2
  · skip
    have g0 : (c == 9) = false := beq_false_of_ne (by omega)
    have g1 : (c == 10) = true := beq_iff_eq.2 (by omega)
    have g2 : (c == 13) = false := beq_false_of_ne (by omega)
    have g3 : decide (c ≥ 32) = false := decide_eq_false (by omega)
    have g4 : decide (c ≤ 55295) = true := decide_eq_true (by omega)
    have g5 : decide (c ≥ 57344) = false := decide_eq_false (by omega)
    have g6 : decide (c ≤ 65533) = true := decide_eq_true (by omega)
    have g7 : decide (c ≥ 65536) = false := decide_eq_false (by omega)
    have g8 : decide (c ≤ 1114111) = true := decide_eq_true (by omega)
    have e : runeOk c = true := by unfold runeOk; exact decide_eq_true (by omega)
    rw [e]
    refine evF_ret (m := 37) (v := .bool true) (a := ?ar2) (H1 := ?Hr2) rfl t46 rfl ?hb ?hd ?hr ?hz
    case hb => simp only [Zf,Zk,idx,I46,g0,g1,g2,g3,g4,g5,g6,g7,g8,eC_len,eC_take,eC_one,eC_0,eC_1,eC_2,eC_3,eC_4,eCr,eCr_0,eCr_1,eCr_2,eCr_3,eCr_4,List.length_drop,Nat.reduceSub,ZR,atr,Zs,Zr,Zp,Za,Zb,evI,opsI,stepI,wantI,opI,AAct.evI,look,AAct.put,mkVal,mkVM,intOpA,intA,shiftA,unA,ZP,ZO,Zh,Zt,reduceIte,Nat.reduceEqDiff,Nat.reduceLT,Zo,Zq,true_and,and_true,and_self,ZB,cellsAt,Zg,ZC,Zf,Zk,ZL,ZM,Nat.reduceAdd,Nat.reduceMul,ZN,AV.cells,AV.one,known,Zn,getE_0,getE_k,setE_0,setE_k,Zc,Zd,Zl,Zm,Zi,Zw,Zu,Zj,Z1,Zx,Zy,ZJ,ZI,ZH,ZD,ZE,splice,fillI,Nat.reduceLeDiff,strA,ZK,ZA,Ze,bq_ft,bq_tf,ZG,ZF,ZQ,Zv,Zz,isNilA,nilPtr,nilSl,nilIf,nilFn,nilMap,nilCheckA,if_true,if_false,lt_lit,le_lit,lt_lit2,le_lit2,le_sub1,le_sub2]; rfl
    case hd => rfl
    case hr => simp only [I46,resI,resLI,look,reduceIte,Nat.reduceEqDiff,Zh]
    case hz => exact fin_len rfl rfl
  rcases Int.lt_or_le c 13 with u3 | u3
  · skip
    have g0 : (c == 9) = false := beq_false_of_ne (by omega)
    have g1 : (c == 10) = false := beq_false_of_ne (by omega)
    have g2 : (c == 13) = false := beq_false_of_ne (by omega)
    have g3 : decide (c ≥ 32) = false := decide_eq_false (by omega)
    have g4 : decide (c ≤ 55295) = true := decide_eq_true (by omega)
    have g5 : decide (c ≥ 57344) = false := decide_eq_false (by omega)
    have g6 : decide (c ≤ 65533) = true := decide_eq_true (by omega)
    have g7 : decide (c ≥ 65536) = false := decide_eq_false (by omega)
    have g8 : decide (c ≤ 1114111) = true := decide_eq_true (by omega)
    have e : runeOk c = false := by unfold runeOk; exact decide_eq_false (by omega)
    rw [e]
    refine evF_ret (m := 37) (v := .bool false) (a := ?ar3) (H1 := ?Hr3) rfl t46 rfl ?hb ?hd ?hr ?hz
    case hb => simp only [Zf,Zk,idx,I46,g0,g1,g2,g3,g4,g5,g6,g7,g8,eC_len,eC_take,eC_one,eC_0,eC_1,eC_2,eC_3,eC_4,eCr,eCr_0,eCr_1,eCr_2,eCr_3,eCr_4,List.length_drop,Nat.reduceSub,ZR,atr,Zs,Zr,Zp,Za,Zb,evI,opsI,stepI,wantI,opI,AAct.evI,look,AAct.put,mkVal,mkVM,intOpA,intA,shiftA,unA,ZP,ZO,Zh,Zt,reduceIte,Nat.reduceEqDiff,Nat.reduceLT,Zo,Zq,true_and,and_true,and_self,ZB,cellsAt,Zg,ZC,Zf,Zk,ZL,ZM,Nat.reduceAdd,Nat.reduceMul,ZN,AV.cells,AV.one,known,Zn,getE_0,getE_k,setE_0,setE_k,Zc,Zd,Zl,Zm,Zi,Zw,Zu,Zj,Z1,Zx,Zy,ZJ,ZI,ZH,ZD,ZE,splice,fillI,Nat.reduceLeDiff,strA,ZK,ZA,Ze,bq_ft,bq_tf,ZG,ZF,ZQ,Zv,Zz,isNilA,nilPtr,nilSl,nilIf,nilFn,nilMap,nilCheckA,if_true,if_false,lt_lit,le_lit,lt_lit2,le_lit2,le_sub1,le_sub2]; rfl
    case hd => rfl
    case hr => simp only [I46,resI,resLI,look,reduceIte,Nat.reduceEqDiff,Zh]
    case hz => exact fin_len rfl rfl
  rcases Int.lt_or_le c 14 with u4 | u4
  · skip
    have g0 : (c == 9) = false := beq_false_of_ne (by omega)
    have g1 : (c == 10) = false := beq_false_of_ne (by omega)
    have g2 : (c == 13) = true := beq_iff_eq.2 (by omega)
    have g3 : decide (c ≥ 32) = false := decide_eq_false (by omega)
    have g4 : decide (c ≤ 55295) = true := decide_eq_true (by omega)
    have g5 : decide (c ≥ 57344) = false := decide_eq_false (by omega)
    have g6 : decide (c ≤ 65533) = true := decide_eq_true (by omega)
    have g7 : decide (c ≥ 65536) = false := decide_eq_false (by omega)
    have g8 : decide (c ≤ 1114111) = true := decide_eq_true (by omega)
    have e : runeOk c = true := by unfold runeOk; exact decide_eq_true (by omega)
    rw [e]
    refine evF_ret (m := 37) (v := .bool true) (a := ?ar4) (H1 := ?Hr4) rfl t46 rfl ?hb ?hd ?hr ?hz
    case hb => simp only [Zf,Zk,idx,I46,g0,g1,g2,g3,g4,g5,g6,g7,g8,eC_len,eC_take,eC_one,eC_0,eC_1,eC_2,eC_3,eC_4,eCr,eCr_0,eCr_1,eCr_2,eCr_3,eCr_4,List.length_drop,Nat.reduceSub,ZR,atr,Zs,Zr,Zp,Za,Zb,evI,opsI,stepI,wantI,opI,AAct.evI,look,AAct.put,mkVal,mkVM,intOpA,intA,shiftA,unA,ZP,ZO,Zh,Zt,reduceIte,Nat.reduceEqDiff,Nat.reduceLT,Zo,Zq,true_and,and_true,and_self,ZB,cellsAt,Zg,ZC,Zf,Zk,ZL,ZM,Nat.reduceAdd,Nat.reduceMul,ZN,AV.cells,AV.one,known,Zn,getE_0,getE_k,setE_0,setE_k,Zc,Zd,Zl,Zm,Zi,Zw,Zu,Zj,Z1,Zx,Zy,ZJ,ZI,ZH,ZD,ZE,splice,fillI,Nat.reduceLeDiff,strA,ZK,ZA,Ze,bq_ft,bq_tf,ZG,ZF,ZQ,Zv,Zz,isNilA,nilPtr,nilSl,nilIf,nilFn,nilMap,nilCheckA,if_true,if_false,lt_lit,le_lit,lt_lit2,le_lit2,le_sub1,le_sub2]; rfl
    case hd => rfl
    case hr => simp only [I46,resI,resLI,look,reduceIte,Nat.reduceEqDiff,Zh]
    case hz => exact fin_len rfl rfl
  rcases Int.lt_or_le c 32 with u5 | u5
  · skip
    have g0 : (c == 9) = false := beq_false_of_ne (by omega)
    have g1 : (c == 10) = false := beq_false_of_ne (by omega)
    have g2 : (c == 13) = false := beq_false_of_ne (by omega)
    have g3 : decide (c ≥ 32) = false := decide_eq_false (by omega)
    have g4 : decide (c ≤ 55295) = true := decide_eq_true (by omega)
    have g5 : decide (c ≥ 57344) = false := decide_eq_false (by omega)
    have g6 : decide (c ≤ 65533) = true := decide_eq_true (by omega)
    have g7 : decide (c ≥ 65536) = false := decide_eq_false (by omega)
    have g8 : decide (c ≤ 1114111) = true := decide_eq_true (by omega)
    have e : runeOk c = false := by unfold runeOk; exact decide_eq_false (by omega)
    rw [e]
    refine evF_ret (m := 37) (v := .bool false) (a := ?ar5) (H1 := ?Hr5) rfl t46 rfl ?hb ?hd ?hr ?hz
    case hb => simp only [Zf,Zk,idx,I46,g0,g1,g2,g3,g4,g5,g6,g7,g8,eC_len,eC_take,eC_one,eC_0,eC_1,eC_2,eC_3,eC_4,eCr,eCr_0,eCr_1,eCr_2,eCr_3,eCr_4,List.length_drop,Nat.reduceSub,ZR,atr,Zs,Zr,Zp,Za,Zb,evI,opsI,stepI,wantI,opI,AAct.evI,look,AAct.put,mkVal,mkVM,intOpA,intA,shiftA,unA,ZP,ZO,Zh,Zt,reduceIte,Nat.reduceEqDiff,Nat.reduceLT,Zo,Zq,true_and,and_true,and_self,ZB,cellsAt,Zg,ZC,Zf,Zk,ZL,ZM,Nat.reduceAdd,Nat.reduceMul,ZN,AV.cells,AV.one,known,Zn,getE_0,getE_k,setE_0,setE_k,Zc,Zd,Zl,Zm,Zi,Zw,Zu,Zj,Z1,Zx,Zy,ZJ,ZI,ZH,ZD,ZE,splice,fillI,Nat.reduceLeDiff,strA,ZK,ZA,Ze,bq_ft,bq_tf,ZG,ZF,ZQ,Zv,Zz,isNilA,nilPtr,nilSl,nilIf,nilFn,nilMap,nilCheckA,if_true,if_false,lt_lit,le_lit,lt_lit2,le_lit2,le_sub1,le_sub2]; rfl
    case hd => rfl
    case hr => simp only [I46,resI,resLI,look,reduceIte,Nat.reduceEqDiff,Zh]
    case hz => exact fin_len rfl rfl
  rcases Int.lt_or_le c 55296 with u6 | u6
  · skip
    have g0 : (c == 9) = false := beq_false_of_ne (by omega)
    have g1 : (c == 10) = false := beq_false_of_ne (by omega)
    have g2 : (c == 13) = false := beq_false_of_ne (by omega)
    have g3 : decide (c ≥ 32) = true := decide_eq_true (by omega)
    have g4 : decide (c ≤ 55295) = true := decide_eq_true (by omega)
    have g5 : decide (c ≥ 57344) = false := decide_eq_false (by omega)
    have g6 : decide (c ≤ 65533) = true := decide_eq_true (by omega)
    have g7 : decide (c ≥ 65536) = false := decide_eq_false (by omega)
    have g8 : decide (c ≤ 1114111) = true := decide_eq_true (by omega)
    have e : runeOk c = true := by unfold runeOk; exact decide_eq_true (by omega)
    rw [e]
    refine evF_ret (m := 37) (v := .bool true) (a := ?ar6) (H1 := ?Hr6) rfl t46 rfl ?hb ?hd ?hr ?hz
    case hb => simp only [Zf,Zk,idx,I46,g0,g1,g2,g3,g4,g5,g6,g7,g8,eC_len,eC_take,eC_one,eC_0,eC_1,eC_2,eC_3,eC_4,eCr,eCr_0,eCr_1,eCr_2,eCr_3,eCr_4,List.length_drop,Nat.reduceSub,ZR,atr,Zs,Zr,Zp,Za,Zb,evI,opsI,stepI,wantI,opI,AAct.evI,look,AAct.put,mkVal,mkVM,intOpA,intA,shiftA,unA,ZP,ZO,Zh,Zt,reduceIte,Nat.reduceEqDiff,Nat.reduceLT,Zo,Zq,true_and,and_true,and_self,ZB,cellsAt,Zg,ZC,Zf,Zk,ZL,ZM,Nat.reduceAdd,Nat.reduceMul,ZN,AV.cells,AV.one,known,Zn,getE_0,getE_k,setE_0,setE_k,Zc,Zd,Zl,Zm,Zi,Zw,Zu,Zj,Z1,Zx,Zy,ZJ,ZI,ZH,ZD,ZE,splice,fillI,Nat.reduceLeDiff,strA,ZK,ZA,Ze,bq_ft,bq_tf,ZG,ZF,ZQ,Zv,Zz,isNilA,nilPtr,nilSl,nilIf,nilFn,nilMap,nilCheckA,if_true,if_false,lt_lit,le_lit,lt_lit2,le_lit2,le_sub1,le_sub2]; rfl
    case hd => rfl
    case hr => simp only [I46,resI,resLI,look,reduceIte,Nat.reduceEqDiff,Zh]
    case hz => exact fin_len rfl rfl
  rcases Int.lt_or_le c 57344 with u7 | u7
  · skip
    have g0 : (c == 9) = false := beq_false_of_ne (by omega)
    have g1 : (c == 10) = false := beq_false_of_ne (by omega)
    have g2 : (c == 13) = false := beq_false_of_ne (by omega)
    have g3 : decide (c ≥ 32) = true := decide_eq_true (by omega)
    have g4 : decide (c ≤ 55295) = false := decide_eq_false (by omega)
    have g5 : decide (c ≥ 57344) = false := decide_eq_false (by omega)
    have g6 : decide (c ≤ 65533) = true := decide_eq_true (by omega)
    have g7 : decide (c ≥ 65536) = false := decide_eq_false (by omega)
    have g8 : decide (c ≤ 1114111) = true := decide_eq_true (by omega)
    have e : runeOk c = false := by unfold runeOk; exact decide_eq_false (by omega)
    rw [e]
    refine evF_ret (m := 37) (v := .bool false) (a := ?ar7) (H1 := ?Hr7) rfl t46 rfl ?hb ?hd ?hr ?hz
    case hb => simp only [Zf,Zk,idx,I46,g0,g1,g2,g3,g4,g5,g6,g7,g8,eC_len,eC_take,eC_one,eC_0,eC_1,eC_2,eC_3,eC_4,eCr,eCr_0,eCr_1,eCr_2,eCr_3,eCr_4,List.length_drop,Nat.reduceSub,ZR,atr,Zs,Zr,Zp,Za,Zb,evI,opsI,stepI,wantI,opI,AAct.evI,look,AAct.put,mkVal,mkVM,intOpA,intA,shiftA,unA,ZP,ZO,Zh,Zt,reduceIte,Nat.reduceEqDiff,Nat.reduceLT,Zo,Zq,true_and,and_true,and_self,ZB,cellsAt,Zg,ZC,Zf,Zk,ZL,ZM,Nat.reduceAdd,Nat.reduceMul,ZN,AV.cells,AV.one,known,Zn,getE_0,getE_k,setE_0,setE_k,Zc,Zd,Zl,Zm,Zi,Zw,Zu,Zj,Z1,Zx,Zy,ZJ,ZI,ZH,ZD,ZE,splice,fillI,Nat.reduceLeDiff,strA,ZK,ZA,Ze,bq_ft,bq_tf,ZG,ZF,ZQ,Zv,Zz,isNilA,nilPtr,nilSl,nilIf,nilFn,nilMap,nilCheckA,if_true,if_false,lt_lit,le_lit,lt_lit2,le_lit2,le_sub1,le_sub2]; rfl
    case hd => rfl
    case hr => simp only [I46,resI,resLI,look,reduceIte,Nat.reduceEqDiff,Zh]
    case hz => exact fin_len rfl rfl
  rcases Int.lt_or_le c 65534 with u8 | u8
  · skip
    have g0 : (c == 9) = false := beq_false_of_ne (by omega)
    have g1 : (c == 10) = false := beq_false_of_ne (by omega)
    have g2 : (c == 13) = false := beq_false_of_ne (by omega)
    have g3 : decide (c ≥ 32) = true := decide_eq_true (by omega)
    have g4 : decide (c ≤ 55295) = false := decide_eq_false (by omega)
    have g5 : decide (c ≥ 57344) = true := decide_eq_true (by omega)
    have g6 : decide (c ≤ 65533) = true := decide_eq_true (by omega)
    have g7 : decide (c ≥ 65536) = false := decide_eq_false (by omega)
    have g8 : decide (c ≤ 1114111) = true := decide_eq_true (by omega)
    have e : runeOk c = true := by unfold runeOk; exact decide_eq_true (by omega)
    rw [e]
    refine evF_ret (m := 37) (v := .bool true) (a := ?ar8) (H1 := ?Hr8) rfl t46 rfl ?hb ?hd ?hr ?hz
    case hb => simp only [Zf,Zk,idx,I46,g0,g1,g2,g3,g4,g5,g6,g7,g8,eC_len,eC_take,eC_one,eC_0,eC_1,eC_2,eC_3,eC_4,eCr,eCr_0,eCr_1,eCr_2,eCr_3,eCr_4,List.length_drop,Nat.reduceSub,ZR,atr,Zs,Zr,Zp,Za,Zb,evI,opsI,stepI,wantI,opI,AAct.evI,look,AAct.put,mkVal,mkVM,intOpA,intA,shiftA,unA,ZP,ZO,Zh,Zt,reduceIte,Nat.reduceEqDiff,Nat.reduceLT,Zo,Zq,true_and,and_true,and_self,ZB,cellsAt,Zg,ZC,Zf,Zk,ZL,ZM,Nat.reduceAdd,Nat.reduceMul,ZN,AV.cells,AV.one,known,Zn,getE_0,getE_k,setE_0,setE_k,Zc,Zd,Zl,Zm,Zi,Zw,Zu,Zj,Z1,Zx,Zy,ZJ,ZI,ZH,ZD,ZE,splice,fillI,Nat.reduceLeDiff,strA,ZK,ZA,Ze,bq_ft,bq_tf,ZG,ZF,ZQ,Zv,Zz,isNilA,nilPtr,nilSl,nilIf,nilFn,nilMap,nilCheckA,if_true,if_false,lt_lit,le_lit,lt_lit2,le_lit2,le_sub1,le_sub2]; rfl
    case hd => rfl
    case hr => simp only [I46,resI,resLI,look,reduceIte,Nat.reduceEqDiff,Zh]
    case hz => exact fin_len rfl rfl
  rcases Int.lt_or_le c 65536 with u9 | u9
  · skip
    have g0 : (c == 9) = false := beq_false_of_ne (by omega)
    have g1 : (c == 10) = false := beq_false_of_ne (by omega)
    have g2 : (c == 13) = false := beq_false_of_ne (by omega)
    have g3 : decide (c ≥ 32) = true := decide_eq_true (by omega)
    have g4 : decide (c ≤ 55295) = false := decide_eq_false (by omega)
    have g5 : decide (c ≥ 57344) = true := decide_eq_true (by omega)
    have g6 : decide (c ≤ 65533) = false := decide_eq_false (by omega)
    have g7 : decide (c ≥ 65536) = false := decide_eq_false (by omega)
    have g8 : decide (c ≤ 1114111) = true := decide_eq_true (by omega)
    have e : runeOk c = false := by unfold runeOk; exact decide_eq_false (by omega)
    rw [e]
    refine evF_ret (m := 37) (v := .bool false) (a := ?ar9) (H1 := ?Hr9) rfl t46 rfl ?hb ?hd ?hr ?hz
    case hb => simp only [Zf,Zk,idx,I46,g0,g1,g2,g3,g4,g5,g6,g7,g8,eC_len,eC_take,eC_one,eC_0,eC_1,eC_2,eC_3,eC_4,eCr,eCr_0,eCr_1,eCr_2,eCr_3,eCr_4,List.length_drop,Nat.reduceSub,ZR,atr,Zs,Zr,Zp,Za,Zb,evI,opsI,stepI,wantI,opI,AAct.evI,look,AAct.put,mkVal,mkVM,intOpA,intA,shiftA,unA,ZP,ZO,Zh,Zt,reduceIte,Nat.reduceEqDiff,Nat.reduceLT,Zo,Zq,true_and,and_true,and_self,ZB,cellsAt,Zg,ZC,Zf,Zk,ZL,ZM,Nat.reduceAdd,Nat.reduceMul,ZN,AV.cells,AV.one,known,Zn,getE_0,getE_k,setE_0,setE_k,Zc,Zd,Zl,Zm,Zi,Zw,Zu,Zj,Z1,Zx,Zy,ZJ,ZI,ZH,ZD,ZE,splice,fillI,Nat.reduceLeDiff,strA,ZK,ZA,Ze,bq_ft,bq_tf,ZG,ZF,ZQ,Zv,Zz,isNilA,nilPtr,nilSl,nilIf,nilFn,nilMap,nilCheckA,if_true,if_false,lt_lit,le_lit,lt_lit2,le_lit2,le_sub1,le_sub2]; rfl
    case hd => rfl
    case hr => simp only [I46,resI,resLI,look,reduceIte,Nat.reduceEqDiff,Zh]
    case hz => exact fin_len rfl rfl
  rcases Int.lt_or_le c 1114112 with u10 | u10
  · skip
    have g0 : (c == 9) = false := beq_false_of_ne (by omega)
    have g1 : (c == 10) = false := beq_false_of_ne (by omega)
    have g2 : (c == 13) = false := beq_false_of_ne (by omega)
    have g3 : decide (c ≥ 32) = true := decide_eq_true (by omega)
    have g4 : decide (c ≤ 55295) = false := decide_eq_false (by omega)
    have g5 : decide (c ≥ 57344) = true := decide_eq_true (by omega)
    have g6 : decide (c ≤ 65533) = false := decide_eq_false (by omega)
    have g7 : decide (c ≥ 65536) = true := decide_eq_true (by omega)
    have g8 : decide (c ≤ 1114111) = true := decide_eq_true (by omega)
    have e : runeOk c = true := by unfold runeOk; exact decide_eq_true (by omega)
    rw [e]
    refine evF_ret (m := 37) (v := .bool true) (a := ?ar10) (H1 := ?Hr10) rfl t46 rfl ?hb ?hd ?hr ?hz
    case hb => simp only [Zf,Zk,idx,I46,g0,g1,g2,g3,g4,g5,g6,g7,g8,eC_len,eC_take,eC_one,eC_0,eC_1,eC_2,eC_3,eC_4,eCr,eCr_0,eCr_1,eCr_2,eCr_3,eCr_4,List.length_drop,Nat.reduceSub,ZR,atr,Zs,Zr,Zp,Za,Zb,evI,opsI,stepI,wantI,opI,AAct.evI,look,AAct.put,mkVal,mkVM,intOpA,intA,shiftA,unA,ZP,ZO,Zh,Zt,reduceIte,Nat.reduceEqDiff,Nat.reduceLT,Zo,Zq,true_and,and_true,and_self,ZB,cellsAt,Zg,ZC,Zf,Zk,ZL,ZM,Nat.reduceAdd,Nat.reduceMul,ZN,AV.cells,AV.one,known,Zn,getE_0,getE_k,setE_0,setE_k,Zc,Zd,Zl,Zm,Zi,Zw,Zu,Zj,Z1,Zx,Zy,ZJ,ZI,ZH,ZD,ZE,splice,fillI,Nat.reduceLeDiff,strA,ZK,ZA,Ze,bq_ft,bq_tf,ZG,ZF,ZQ,Zv,Zz,isNilA,nilPtr,nilSl,nilIf,nilFn,nilMap,nilCheckA,if_true,if_false,lt_lit,le_lit,lt_lit2,le_lit2,le_sub1,le_sub2]; rfl
    case hd => rfl
    case hr => simp only [I46,resI,resLI,look,reduceIte,Nat.reduceEqDiff,Zh]
    case hz => exact fin_len rfl rfl
  have g0 : (c == 9) = false := beq_false_of_ne (by omega)
  have g1 : (c == 10) = false := beq_false_of_ne (by omega)
  have g2 : (c == 13) = false := beq_false_of_ne (by omega)
  have g3 : decide (c ≥ 32) = true := decide_eq_true (by omega)
  have g4 : decide (c ≤ 55295) = false := decide_eq_false (by omega)
  have g5 : decide (c ≥ 57344) = true := decide_eq_true (by omega)
  have g6 : decide (c ≤ 65533) = false := decide_eq_false (by omega)
  have g7 : decide (c ≥ 65536) = true := decide_eq_true (by omega)
  have g8 : decide (c ≤ 1114111) = false := decide_eq_false (by omega)
  have e : runeOk c = false := by unfold runeOk; exact decide_eq_false (by omega)
  rw [e]
  refine evF_ret (m := 37) (v := .bool false) (a := ?ar11) (H1 := ?Hr11) rfl t46 rfl ?hb ?hd ?hr ?hz
  case hb => simp only [Zf,Zk,idx,I46,g0,g1,g2,g3,g4,g5,g6,g7,g8,eC_len,eC_take,eC_one,eC_0,eC_1,eC_2,eC_3,eC_4,eCr,eCr_0,eCr_1,eCr_2,eCr_3,eCr_4,List.length_drop,Nat.reduceSub,ZR,atr,Zs,Zr,Zp,Za,Zb,evI,opsI,stepI,wantI,opI,AAct.evI,look,AAct.put,mkVal,mkVM,intOpA,intA,shiftA,unA,ZP,ZO,Zh,Zt,reduceIte,Nat.reduceEqDiff,Nat.reduceLT,Zo,Zq,true_and,and_true,and_self,ZB,cellsAt,Zg,ZC,Zf,Zk,ZL,ZM,Nat.reduceAdd,Nat.reduceMul,ZN,AV.cells,AV.one,known,Zn,getE_0,getE_k,setE_0,setE_k,Zc,Zd,Zl,Zm,Zi,Zw,Zu,Zj,Z1,Zx,Zy,ZJ,ZI,ZH,ZD,ZE,splice,fillI,Nat.reduceLeDiff,strA,ZK,ZA,Ze,bq_ft,bq_tf,ZG,ZF,ZQ,Zv,Zz,isNilA,nilPtr,nilSl,nilIf,nilFn,nilMap,nilCheckA,if_true,if_false,lt_lit,le_lit,lt_lit2,le_lit2,le_sub1,le_sub2]; rfl
  case hd => rfl
  case hr => simp only [I46,resI,resLI,look,reduceIte,Nat.reduceEqDiff,Zh]
  case hz => exact fin_len rfl rfl
end Go.Proofs.YtmnajffpmbidiaaGreatDoor.Ev
