/- Parts of one proof. -/
import Derived.Test.YtmnajffpmbidiaaGreatDoorMde
import Derived.Test.YtmnajffpmbidiaaGreatDoorMdd
import Derived.Lib.CountLaws
import Derived.Laws.RangeString
set_option linter.all false
namespace Go.Proofs.YtmnajffpmbidiaaGreatDoor.Ev
variable {ml : Int}
open Go.Proofs.YtmnajffpmbidiaaGreatDoor.Ic
set_option maxRecDepth 100000
set_option maxHeartbeats 4000000
noncomputable def l73 : IC := leadV.a
noncomputable def l75 : IC := leadV.b.a
noncomputable def l78 : IC := leadV.b.b.a
noncomputable def l82 : IC := leadV.b.b.b.a
noncomputable def c4V : IC := leadV.b.b.b.b.a
noncomputable def l107 : IC := sizeV.b.a
noncomputable def l142 : IC := sizeV.b.b.b.a
noncomputable def lbad : IC := sizeV.b.b.b.b.b
theorem lead_split : leadV = .seq l73 (.seq l75 (.seq l78 (.seq l82 (.block 4 c4V)))) := rfl
theorem c4_split : c4V = .seq c4V.a (.cond (.tmp 83) chk2 (.seq l107 (.cond (.tmp 106) chk3 (.seq l142 (.cond (.tmp 141) chk4 lbad))))) := rfl
theorem and7v : ∀ x : Fin 256, IntKind.wrap .u8 ((BitVec.ofInt (IntKind.bits .u8) ((x.val : Nat) : Int) &&& BitVec.ofInt (IntKind.bits .u8) 7).toNat : Int) = ((x.val % 8 : Nat) : Int) := by decide +kernel
theorem shr4 : ∀ x : Fin 256, IntKind.wrap .u8 (((x.val : Nat) : Int).fdiv (2 ^ min (Int.toNat 4) (IntKind.bits .u8))) = ((x.val / 16 : Nat) : Int) ∧ ((x.val : Nat) : Int).fdiv (2 ^ min (Int.toNat 4) (IntKind.bits .u8)) = ((x.val / 16 : Nat) : Int) := by decide +kernel
theorem conv8 : ∀ x : Fin 8, IntKind.wrap .i64 ((x.val : Nat) : Int) = ((x.val : Nat) : Int) := by decide +kernel
theorem firstT_lt (b : Nat) : Lib.firstT b < 256 := by
  unfold Lib.firstT
  repeat' split
  all_goals omega
theorem firstRow_len : firstRow.length = 256 := by simp [firstRow]
theorem accRow_len : accRow.length = 32 := by decide +kernel
theorem accRow_at : ∀ i : Fin 16, (accRow.drop (i.val * 2)).take 2 = [.int .u8 (Lib.accLo i.val), .int .u8 (Lib.accHi i.val)] := fun i => by
  obtain ⟨i, hi⟩ := i
  have h : ∀ i, i < 16 → (accRow.drop (i * 2)).take 2 = [.int .u8 (Lib.accLo i), .int .u8 (Lib.accHi i)] := by
    intro i hi
    match i, hi with
    | 0, _ => rfl
    | 1, _ => rfl
    | 2, _ => rfl
    | 3, _ => rfl
    | 4, _ => rfl
    | 5, _ => rfl
    | 6, _ => rfl
    | 7, _ => rfl
    | 8, _ => rfl
    | 9, _ => rfl
    | 10, _ => rfl
    | 11, _ => rfl
    | 12, _ => rfl
    | 13, _ => rfl
    | 14, _ => rfl
    | 15, _ => rfl
    | k + 16, h => exact absurd h (by omega)
  exact h i hi
theorem lead_pre (P : Program) (N n0 : Nat) (M : Mem) (q ty : Nat) (s : List UInt8) (hq : M[q]? = some (.row (ofBytes s) 0 ty)) (off n : Nat) (ho : off + n = s.length) (b0 : UInt8) (r : List UInt8) (hd : s.drop off = b0 :: r) (hb : 128 ≤ b0.toNat) :
    ∃ t, look t 0 = .slc q off n 1 0 ∧ look t 6 = .ptr M.length 0 0 ∧ look t 82 = .int .i64 ((Lib.firstT b0.toNat % 8 : Nat) : Int) ∧
      ∃ t1, evI P (cfg ml) (evFI P (cfg ml) T N n0) N testV ⟨188, [(0, .slc q off n 1 0)], []⟩ M = some (.normal, ⟨188, t1, []⟩, M) ∧
      evI P (cfg ml) (evFI P (cfg ml) T N n0) N (.seq p0V (.seq (.seq lsV.a (.cond (.tmp 20) fastV .skip)) leadV)) ⟨188, t1, []⟩ M = evI P (cfg ml) (evFI P (cfg ml) T N n0) N (.block 4 c4V) ⟨188, t, []⟩ (M ++ [.row [.int .u8 (Lib.accLo (Lib.firstT b0.toNat / 16) : Nat), .int .u8 (Lib.accHi (Lib.firstT b0.toNat / 16) : Nat)] 0 126]) := by
  obtain ⟨d0, l0, z0⟩ := bytes_at hd
  have hlen := congrArg List.length hd
  simp only [List.length_drop,Zf] at hlen
  have c0 : decide ((n : Int) > 0) = true := decide_eq_true (by omega)
  have c1 : decide ((b0.toNat : Int) < 128) = false := decide_eq_false (by omega)
  have i0 : 0 < n := by omega
  have n0' : natOf (.int .i64 0) = some 0 := rfl
  have hb2 := b0.toNat_lt
  have hfl := firstRow_len
  have hx := firstT_lt b0.toNat
  have hg0 : (cfg ml).glob 0 = some firstRow := rfl
  have hg1 : (cfg ml).glob 1 = some accRow := rfl
  have nb := natOf_nat b0.toNat .u8
  have fr : (firstRow.drop b0.toNat).take 1 = [.int .u8 (Lib.firstT b0.toNat : Nat)] := by
    have h1 := firstRow_at (n := b0.toNat) (by omega)
    have h2 : b0.toNat < firstRow.length := by omega
    rw [List.drop_eq_getElem_cons h2]
    rw [List.getElem?_eq_getElem h2] at h1
    injection h1 with h1
    rw [h1]; rfl
  have fl : 1 ≤ firstRow.length - b0.toNat := by omega
  have f256 : b0.toNat < 256 := hb2
  have f257 : b0.toNat + 1 ≤ firstRow.length := by omega
  have a7 := and7v ⟨Lib.firstT b0.toNat, hx⟩
  have s4 := shr4 ⟨Lib.firstT b0.toNat, hx⟩
  have c8 := conv8 ⟨Lib.firstT b0.toNat % 8, Nat.mod_lt _ (by decide)⟩
  have s42 := s4.2
  simp only [] at a7 s42 c8
  have hi16 : Lib.firstT b0.toNat / 16 < 16 := by omega
  have ac := accRow_at ⟨Lib.firstT b0.toNat / 16, hi16⟩
  simp only [] at ac
  have acl : 2 ≤ accRow.length - Lib.firstT b0.toNat / 16 * 2 := by rw [accRow_len]; omega
  have acl2 : Lib.firstT b0.toNat / 16 * 2 + 2 ≤ accRow.length := by rw [accRow_len]; omega
  have ni := natOf_nat (Lib.firstT b0.toNat / 16) .u8
  have w4 : ((4 : Int) < 0) = False := by simp
  have h01 : 0 < 1 := by decide
  have h02 : 0 < 2 := by decide
  have hm1 : ∀ x : Nat, x * 1 = x := Nat.mul_one
  generalize Lib.firstT b0.toNat = x at *
  refine ⟨?t, ?h0, ?h6, ?h82, ?t1, ?he1, ?he⟩
  case he1 => simp only [testV,loopV1,IC.a,I79,IC.loops,Za,c0,eC_len,eC_take,eC_one,eC_0,eC_1,eC_2,eC_3,eC_4,eCr,eCr_0,eCr_1,eCr_2,eCr_3,eCr_4,List.length_drop,Nat.reduceSub,ZR,atr,Zs,Zr,Zp,Za,Zb,evI,opsI,stepI,wantI,opI,AAct.evI,look,AAct.put,mkVal,mkVM,intOpA,intA,shiftA,unA,ZP,ZO,Zh,Zt,reduceIte,Nat.reduceEqDiff,Nat.reduceLT,Zo,Zq,true_and,and_true,and_self,ZB,cellsAt,Zg,ZC,Zf,Zk,ZL,ZM,Nat.reduceAdd,Nat.reduceMul,ZN,AV.cells,AV.one,known,Zn,getE_0,getE_k,setE_0,setE_k,Zc,Zd,Zl,Zm,Zi,Zw,Zu,Zj,Z1,Zx,Zy,ZJ,ZI,ZH,ZD,ZE,splice,fillI,Nat.reduceLeDiff,strA,ZK,ZA,Ze,bq_ft,bq_tf,ZG,ZF,ZQ,Zv,Zz,isNilA,nilPtr,nilSl,nilIf,nilFn,nilMap,nilCheckA,if_true,if_false,lt_lit,le_lit,lt_lit2,le_lit2,le_sub1,le_sub2]; rfl
  case he =>
    apply evI_seq
    · simp only [p0V,loopV1,IC.a,IC.b,I79,IC.loops,Za,n0',i0,hq,d0,l0,eC_len,eC_take,eC_one,eC_0,eC_1,eC_2,eC_3,eC_4,eCr,eCr_0,eCr_1,eCr_2,eCr_3,eCr_4,List.length_drop,Nat.reduceSub,ZR,atr,Zs,Zr,Zp,Za,Zb,evI,opsI,stepI,wantI,opI,AAct.evI,look,AAct.put,mkVal,mkVM,intOpA,intA,shiftA,unA,ZP,ZO,Zh,Zt,reduceIte,Nat.reduceEqDiff,Nat.reduceLT,Zo,Zq,true_and,and_true,and_self,ZB,cellsAt,Zg,ZC,Zf,Zk,ZL,ZM,Nat.reduceAdd,Nat.reduceMul,ZN,AV.cells,AV.one,known,Zn,getE_0,getE_k,setE_0,setE_k,Zc,Zd,Zl,Zm,Zi,Zw,Zu,Zj,Z1,Zx,Zy,ZJ,ZI,ZH,ZD,ZE,splice,fillI,Nat.reduceLeDiff,strA,ZK,ZA,Ze,bq_ft,bq_tf,ZG,ZF,ZQ,Zv,Zz,isNilA,nilPtr,nilSl,nilIf,nilFn,nilMap,nilCheckA,if_true,if_false,lt_lit,le_lit,lt_lit2,le_lit2,le_sub1,le_sub2]; rfl
    apply evI_seq
    · apply evI_seq
      · simp only [lsV,loopV1,IC.a,IC.b,I79,IC.loops,Za,c1,eC_len,eC_take,eC_one,eC_0,eC_1,eC_2,eC_3,eC_4,eCr,eCr_0,eCr_1,eCr_2,eCr_3,eCr_4,List.length_drop,Nat.reduceSub,ZR,atr,Zs,Zr,Zp,Za,Zb,evI,opsI,stepI,wantI,opI,AAct.evI,look,AAct.put,mkVal,mkVM,intOpA,intA,shiftA,unA,ZP,ZO,Zh,Zt,reduceIte,Nat.reduceEqDiff,Nat.reduceLT,Zo,Zq,true_and,and_true,and_self,ZB,cellsAt,Zg,ZC,Zf,Zk,ZL,ZM,Nat.reduceAdd,Nat.reduceMul,ZN,AV.cells,AV.one,known,Zn,getE_0,getE_k,setE_0,setE_k,Zc,Zd,Zl,Zm,Zi,Zw,Zu,Zj,Z1,Zx,Zy,ZJ,ZI,ZH,ZD,ZE,splice,fillI,Nat.reduceLeDiff,strA,ZK,ZA,Ze,bq_ft,bq_tf,ZG,ZF,ZQ,Zv,Zz,isNilA,nilPtr,nilSl,nilIf,nilFn,nilMap,nilCheckA,if_true,if_false,lt_lit,le_lit,lt_lit2,le_lit2,le_sub1,le_sub2]; rfl
      apply evI_false rfl
      exact evI_skip
    rw [lead_split]
    apply evI_seq
    · simp only [l73,leadV,loopV1,IC.a,IC.b,I79,IC.loops,Za,hg0,nb,hm1,f256,f257,h01,fr,fl,eC_len,eC_take,eC_one,eC_0,eC_1,eC_2,eC_3,eC_4,eCr,eCr_0,eCr_1,eCr_2,eCr_3,eCr_4,List.length_drop,Nat.reduceSub,ZR,atr,Zs,Zr,Zp,Za,Zb,evI,opsI,stepI,wantI,opI,AAct.evI,look,AAct.put,mkVal,mkVM,intOpA,intA,shiftA,unA,ZP,ZO,Zh,Zt,reduceIte,Nat.reduceEqDiff,Nat.reduceLT,Zo,Zq,true_and,and_true,and_self,ZB,cellsAt,Zg,ZC,Zf,Zk,ZL,ZM,Nat.reduceAdd,Nat.reduceMul,ZN,AV.cells,AV.one,known,Zn,getE_0,getE_k,setE_0,setE_k,Zc,Zd,Zl,Zm,Zi,Zw,Zu,Zj,Z1,Zx,Zy,ZJ,ZI,ZH,ZD,ZE,splice,fillI,Nat.reduceLeDiff,strA,ZK,ZA,Ze,bq_ft,bq_tf,ZG,ZF,ZQ,Zv,Zz,isNilA,nilPtr,nilSl,nilIf,nilFn,nilMap,nilCheckA,if_true,if_false,lt_lit,le_lit,lt_lit2,le_lit2,le_sub1,le_sub2]; rfl
    apply evI_seq
    · simp only [l75,leadV,loopV1,IC.a,IC.b,I79,IC.loops,Za,a7,c8,eC_len,eC_take,eC_one,eC_0,eC_1,eC_2,eC_3,eC_4,eCr,eCr_0,eCr_1,eCr_2,eCr_3,eCr_4,List.length_drop,Nat.reduceSub,ZR,atr,Zs,Zr,Zp,Za,Zb,evI,opsI,stepI,wantI,opI,AAct.evI,look,AAct.put,mkVal,mkVM,intOpA,intA,shiftA,unA,ZP,ZO,Zh,Zt,reduceIte,Nat.reduceEqDiff,Nat.reduceLT,Zo,Zq,true_and,and_true,and_self,ZB,cellsAt,Zg,ZC,Zf,Zk,ZL,ZM,Nat.reduceAdd,Nat.reduceMul,ZN,AV.cells,AV.one,known,Zn,getE_0,getE_k,setE_0,setE_k,Zc,Zd,Zl,Zm,Zi,Zw,Zu,Zj,Z1,Zx,Zy,ZJ,ZI,ZH,ZD,ZE,splice,fillI,Nat.reduceLeDiff,strA,ZK,ZA,Ze,bq_ft,bq_tf,ZG,ZF,ZQ,Zv,Zz,isNilA,nilPtr,nilSl,nilIf,nilFn,nilMap,nilCheckA,if_true,if_false,lt_lit,le_lit,lt_lit2,le_lit2,le_sub1,le_sub2]; rfl
    apply evI_seq
    · simp only [l78,leadV,loopV1,IC.a,IC.b,I79,IC.loops,Za,hg1,w4,s42,ni,hi16,h02,ac,acl,acl2,eC_len,eC_take,eC_one,eC_0,eC_1,eC_2,eC_3,eC_4,eCr,eCr_0,eCr_1,eCr_2,eCr_3,eCr_4,List.length_drop,Nat.reduceSub,ZR,atr,Zs,Zr,Zp,Za,Zb,evI,opsI,stepI,wantI,opI,AAct.evI,look,AAct.put,mkVal,mkVM,intOpA,intA,shiftA,unA,ZP,ZO,Zh,Zt,reduceIte,Nat.reduceEqDiff,Nat.reduceLT,Zo,Zq,true_and,and_true,and_self,ZB,cellsAt,Zg,ZC,Zf,Zk,ZL,ZM,Nat.reduceAdd,Nat.reduceMul,ZN,AV.cells,AV.one,known,Zn,getE_0,getE_k,setE_0,setE_k,Zc,Zd,Zl,Zm,Zi,Zw,Zu,Zj,Z1,Zx,Zy,ZJ,ZI,ZH,ZD,ZE,splice,fillI,Nat.reduceLeDiff,strA,ZK,ZA,Ze,bq_ft,bq_tf,ZG,ZF,ZQ,Zv,Zz,isNilA,nilPtr,nilSl,nilIf,nilFn,nilMap,nilCheckA,if_true,if_false,lt_lit,le_lit,lt_lit2,le_lit2,le_sub1,le_sub2]; rfl
    apply evI_seq
    · simp only [l82,leadV,loopV1,IC.a,IC.b,I79,IC.loops,Za,eC_len,eC_take,eC_one,eC_0,eC_1,eC_2,eC_3,eC_4,eCr,eCr_0,eCr_1,eCr_2,eCr_3,eCr_4,List.length_drop,Nat.reduceSub,ZR,atr,Zs,Zr,Zp,Za,Zb,evI,opsI,stepI,wantI,opI,AAct.evI,look,AAct.put,mkVal,mkVM,intOpA,intA,shiftA,unA,ZP,ZO,Zh,Zt,reduceIte,Nat.reduceEqDiff,Nat.reduceLT,Zo,Zq,true_and,and_true,and_self,ZB,cellsAt,Zg,ZC,Zf,Zk,ZL,ZM,Nat.reduceAdd,Nat.reduceMul,ZN,AV.cells,AV.one,known,Zn,getE_0,getE_k,setE_0,setE_k,Zc,Zd,Zl,Zm,Zi,Zw,Zu,Zj,Z1,Zx,Zy,ZJ,ZI,ZH,ZD,ZE,splice,fillI,Nat.reduceLeDiff,strA,ZK,ZA,Ze,bq_ft,bq_tf,ZG,ZF,ZQ,Zv,Zz,isNilA,nilPtr,nilSl,nilIf,nilFn,nilMap,nilCheckA,if_true,if_false,lt_lit,le_lit,lt_lit2,le_lit2,le_sub1,le_sub2]; rfl
    rfl
  case h0 => rfl
  case h6 => rfl
  case h82 => rfl
theorem v1_lead (P : Program) (N n0 : Nat) (M : Mem) (q ty : Nat) (s : List UInt8) (hq : M[q]? = some (.row (ofBytes s) 0 ty)) (off n : Nat) (ho : off + n = s.length) (b0 : UInt8) (r : List UInt8) (hd : s.drop off = b0 :: r) (hb : 128 ≤ b0.toNat) :
    ∃ bk, (∃ t off' n', evI P (cfg ml) (evFI P (cfg ml) T N n0) N loopV1 ⟨188, [(0, .slc q off n 1 0)], []⟩ M = some (.normal, ⟨188, t, []⟩, M ++ [bk]) ∧ look t 0 = .slc q off' n' 1 0 ∧ off' + n' = s.length ∧ n' < n ∧ Lib.validD (s.drop off) = Lib.validD (s.drop off')) ∨
      (∃ t, evI P (cfg ml) (evFI P (cfg ml) T N n0) N loopV1 ⟨188, [(0, .slc q off n 1 0)], []⟩ M = some (.ret, ⟨188, t, []⟩, M ++ [bk]) ∧ look t 2 = .bool false ∧ Lib.validD (s.drop off) = false) := by
  obtain ⟨t, h0, h6, h82, t1, e1, e2⟩ := lead_pre (ml := ml) P N n0 M q ty s hq off n ho b0 r hd hb
  have hlen := congrArg List.length hd
  simp only [List.length_drop,Zf] at hlen
  have hqlt : q < M.length := (List.getElem?_eq_some_iff.1 hq).1
  refine ⟨.row [.int .u8 (Lib.accLo (Lib.firstT b0.toNat / 16) : Nat), .int .u8 (Lib.accHi (Lib.firstT b0.toNat / 16) : Nat)] 0 126, ?_⟩
  have hV := Lib.validD_lead (s.drop off) (by rw [hd]; simp) (by rw [hd]; exact hb)
  have hg : (s.drop off).getD 0 0 = b0 := by rw [hd]; rfl
  rw [hg] at hV
  generalize hsz : Lib.firstT b0.toNat % 8 = sz at *
  generalize Lib.accLo (Lib.firstT b0.toNat / 16) = lo at *
  generalize Lib.accHi (Lib.firstT b0.toNat / 16) = hi at *
  have hq2 : (M ++ [Blk.row [.int .u8 (lo : Nat), .int .u8 (hi : Nat)] 0 126])[q]? = some (.row (ofBytes s) 0 ty) := by rw [List.getElem?_append_left hqlt]; exact hq
  have hid : (M ++ [Blk.row [.int .u8 (lo : Nat), .int .u8 (hi : Nat)] 0 126])[M.length]? = some (Blk.row [.int .u8 (lo : Nat), .int .u8 (hi : Nat)] 0 126) := by simp
  have hln : (s.drop off).length = n := by rw [List.length_drop]; omega
  have whole : ∀ (o : Out) (a : AAct) (H : Mem), evI P (cfg ml) (evFI P (cfg ml) T N n0) N (.block 4 c4V) ⟨188, t, []⟩ (M ++ [Blk.row [.int .u8 (lo : Nat), .int .u8 (hi : Nat)] 0 126]) = some (o, a, H) → (o = .normal ∨ o = .ret) → evI P (cfg ml) (evFI P (cfg ml) T N n0) N loopV1 ⟨188, [(0, .slc q off n 1 0)], []⟩ M = some (o, a, H) := by
    intro o a H h ho
    rw [v1_split]
    apply evI_seq e1
    rcases ho with rfl | rfl
    · exact evI_block (e2.trans h)
    · exact evI_block_ret (e2.trans h)
  have fin : ∀ (j : Nat) (t2 : List (Nat × AV)), look t2 0 = .slc q off n 1 0 → look t2 6 = .ptr M.length 0 0 → True := fun _ _ _ _ => trivial
  by_cases e : sz = 2
  · subst e
    have b2 : (((2 : Nat) : Int) == 2) = true := rfl
    have pre : ∃ t2, look t2 0 = .slc q off n 1 0 ∧ look t2 6 = .ptr M.length 0 0 ∧ look t2 83 = .bool true ∧ evI P (cfg ml) (evFI P (cfg ml) T N n0) N c4V.a ⟨188, t, []⟩ (M ++ [Blk.row [.int .u8 (lo : Nat), .int .u8 (hi : Nat)] 0 126]) = some (.normal, ⟨188, t2, []⟩, M ++ [Blk.row [.int .u8 (lo : Nat), .int .u8 (hi : Nat)] 0 126]) :=
      ⟨(83, .bool true) :: (84, .bool true) :: t, h0, h6, rfl, by simp only [c4V,leadV,loopV1,IC.a,IC.b,I79,IC.loops,Za,h82,b2,eC_len,eC_take,eC_one,eC_0,eC_1,eC_2,eC_3,eC_4,eCr,eCr_0,eCr_1,eCr_2,eCr_3,eCr_4,List.length_drop,Nat.reduceSub,ZR,atr,Zs,Zr,Zp,Za,Zb,evI,opsI,stepI,wantI,opI,AAct.evI,look,AAct.put,mkVal,mkVM,intOpA,intA,shiftA,unA,ZP,ZO,Zh,Zt,reduceIte,Nat.reduceEqDiff,Nat.reduceLT,Zo,Zq,true_and,and_true,and_self,ZB,cellsAt,Zg,ZC,Zf,Zk,ZL,ZM,Nat.reduceAdd,Nat.reduceMul,ZN,AV.cells,AV.one,known,Zn,getE_0,getE_k,setE_0,setE_k,Zc,Zd,Zl,Zm,Zi,Zw,Zu,Zj,Z1,Zx,Zy,ZJ,ZI,ZH,ZD,ZE,splice,fillI,Nat.reduceLeDiff,strA,ZK,ZA,Ze,bq_ft,bq_tf,ZG,ZF,ZQ,Zv,Zz,isNilA,nilPtr,nilSl,nilIf,nilFn,nilMap,nilCheckA,if_true,if_false,lt_lit,le_lit,lt_lit2,le_lit2,le_sub1,le_sub2]⟩
    obtain ⟨t2, h20, h26, h83, e3⟩ := pre
    have hc := chk2_eq (ml := ml) P N n0 _ q M.length ty 126 s hq2 off n _ rfl hln lo hi hid t2 h20 h26
    cases hk : Lib.checkN (s.drop off).length ((s.drop off).getD 1 0).toNat ((s.drop off).getD 2 0).toNat ((s.drop off).getD 3 0).toNat 2 lo hi with
    | none =>
      rw [hk] at hc hV
      obtain ⟨t', he, ht⟩ := hc
      exact .inr ⟨t', whole _ _ _ (evI_block_ret (by rw [c4_split]; exact evI_seq e3 (evI_true h83 he))) (.inr rfl), ht, hV⟩
    | some j =>
      rw [hk] at hc hV
      obtain ⟨t', he, ht, hj, hj0⟩ := hc
      exact .inl ⟨t', off + j, n - j, whole _ _ _ (evI_block (by rw [c4_split]; exact evI_seq e3 (evI_true h83 he))) (.inl rfl), ht, by omega, by omega, by rw [hV, ← List.drop_drop]⟩
  by_cases e' : sz = 3
  · subst e'
    have b2 : (((3 : Nat) : Int) == 2) = false := rfl
    have b3 : (((3 : Nat) : Int) == 3) = true := rfl
    have pre : ∃ t2, look t2 0 = .slc q off n 1 0 ∧ look t2 6 = .ptr M.length 0 0 ∧ look t2 106 = .bool true ∧ ∀ R, evI P (cfg ml) (evFI P (cfg ml) T N n0) N chk3 ⟨188, t2, []⟩ (M ++ [Blk.row [.int .u8 (lo : Nat), .int .u8 (hi : Nat)] 0 126]) = R → evI P (cfg ml) (evFI P (cfg ml) T N n0) N c4V ⟨188, t, []⟩ (M ++ [Blk.row [.int .u8 (lo : Nat), .int .u8 (hi : Nat)] 0 126]) = R :=
      ⟨(106, .bool true) :: (107, .bool true) :: (83, .bool false) :: (84, .bool false) :: t, h0, h6, rfl, fun R hR => by
        rw [c4_split]
        apply evI_seq
        · simp only [c4V,leadV,loopV1,IC.a,IC.b,I79,IC.loops,Za,h82,b2,eC_len,eC_take,eC_one,eC_0,eC_1,eC_2,eC_3,eC_4,eCr,eCr_0,eCr_1,eCr_2,eCr_3,eCr_4,List.length_drop,Nat.reduceSub,ZR,atr,Zs,Zr,Zp,Za,Zb,evI,opsI,stepI,wantI,opI,AAct.evI,look,AAct.put,mkVal,mkVM,intOpA,intA,shiftA,unA,ZP,ZO,Zh,Zt,reduceIte,Nat.reduceEqDiff,Nat.reduceLT,Zo,Zq,true_and,and_true,and_self,ZB,cellsAt,Zg,ZC,Zf,Zk,ZL,ZM,Nat.reduceAdd,Nat.reduceMul,ZN,AV.cells,AV.one,known,Zn,getE_0,getE_k,setE_0,setE_k,Zc,Zd,Zl,Zm,Zi,Zw,Zu,Zj,Z1,Zx,Zy,ZJ,ZI,ZH,ZD,ZE,splice,fillI,Nat.reduceLeDiff,strA,ZK,ZA,Ze,bq_ft,bq_tf,ZG,ZF,ZQ,Zv,Zz,isNilA,nilPtr,nilSl,nilIf,nilFn,nilMap,nilCheckA,if_true,if_false,lt_lit,le_lit,lt_lit2,le_lit2,le_sub1,le_sub2]; rfl
        apply evI_false rfl
        apply evI_seq
        · simp only [l107,sizeV,leadV,loopV1,IC.a,IC.b,I79,IC.loops,Za,h82,b3,eC_len,eC_take,eC_one,eC_0,eC_1,eC_2,eC_3,eC_4,eCr,eCr_0,eCr_1,eCr_2,eCr_3,eCr_4,List.length_drop,Nat.reduceSub,ZR,atr,Zs,Zr,Zp,Za,Zb,evI,opsI,stepI,wantI,opI,AAct.evI,look,AAct.put,mkVal,mkVM,intOpA,intA,shiftA,unA,ZP,ZO,Zh,Zt,reduceIte,Nat.reduceEqDiff,Nat.reduceLT,Zo,Zq,true_and,and_true,and_self,ZB,cellsAt,Zg,ZC,Zf,Zk,ZL,ZM,Nat.reduceAdd,Nat.reduceMul,ZN,AV.cells,AV.one,known,Zn,getE_0,getE_k,setE_0,setE_k,Zc,Zd,Zl,Zm,Zi,Zw,Zu,Zj,Z1,Zx,Zy,ZJ,ZI,ZH,ZD,ZE,splice,fillI,Nat.reduceLeDiff,strA,ZK,ZA,Ze,bq_ft,bq_tf,ZG,ZF,ZQ,Zv,Zz,isNilA,nilPtr,nilSl,nilIf,nilFn,nilMap,nilCheckA,if_true,if_false,lt_lit,le_lit,lt_lit2,le_lit2,le_sub1,le_sub2]; rfl
        exact evI_true rfl hR⟩
    obtain ⟨t2, h20, h26, h83, e3⟩ := pre
    have hc := chk3_eq (ml := ml) P N n0 _ q M.length ty 126 s hq2 off n _ rfl hln lo hi hid t2 h20 h26
    cases hk : Lib.checkN (s.drop off).length ((s.drop off).getD 1 0).toNat ((s.drop off).getD 2 0).toNat ((s.drop off).getD 3 0).toNat 3 lo hi with
    | none =>
      rw [hk] at hc hV
      obtain ⟨t', he, ht⟩ := hc
      exact .inr ⟨t', whole _ _ _ (evI_block_ret (e3 _ he)) (.inr rfl), ht, hV⟩
    | some j =>
      rw [hk] at hc hV
      obtain ⟨t', he, ht, hj, hj0⟩ := hc
      exact .inl ⟨t', off + j, n - j, whole _ _ _ (evI_block (e3 _ he)) (.inl rfl), ht, by omega, by omega, by rw [hV, ← List.drop_drop]⟩
  by_cases e'' : sz = 4
  · subst e''
    have b2 : (((4 : Nat) : Int) == 2) = false := rfl
    have b3 : (((4 : Nat) : Int) == 3) = false := rfl
    have b4 : (((4 : Nat) : Int) == 4) = true := rfl
    have pre : ∃ t2, look t2 0 = .slc q off n 1 0 ∧ look t2 6 = .ptr M.length 0 0 ∧ look t2 141 = .bool true ∧ ∀ R, evI P (cfg ml) (evFI P (cfg ml) T N n0) N chk4 ⟨188, t2, []⟩ (M ++ [Blk.row [.int .u8 (lo : Nat), .int .u8 (hi : Nat)] 0 126]) = R → evI P (cfg ml) (evFI P (cfg ml) T N n0) N c4V ⟨188, t, []⟩ (M ++ [Blk.row [.int .u8 (lo : Nat), .int .u8 (hi : Nat)] 0 126]) = R :=
      ⟨(141, .bool true) :: (142, .bool true) :: (106, .bool false) :: (107, .bool false) :: (83, .bool false) :: (84, .bool false) :: t, h0, h6, rfl, fun R hR => by
        rw [c4_split]
        apply evI_seq
        · simp only [c4V,leadV,loopV1,IC.a,IC.b,I79,IC.loops,Za,h82,b2,eC_len,eC_take,eC_one,eC_0,eC_1,eC_2,eC_3,eC_4,eCr,eCr_0,eCr_1,eCr_2,eCr_3,eCr_4,List.length_drop,Nat.reduceSub,ZR,atr,Zs,Zr,Zp,Za,Zb,evI,opsI,stepI,wantI,opI,AAct.evI,look,AAct.put,mkVal,mkVM,intOpA,intA,shiftA,unA,ZP,ZO,Zh,Zt,reduceIte,Nat.reduceEqDiff,Nat.reduceLT,Zo,Zq,true_and,and_true,and_self,ZB,cellsAt,Zg,ZC,Zf,Zk,ZL,ZM,Nat.reduceAdd,Nat.reduceMul,ZN,AV.cells,AV.one,known,Zn,getE_0,getE_k,setE_0,setE_k,Zc,Zd,Zl,Zm,Zi,Zw,Zu,Zj,Z1,Zx,Zy,ZJ,ZI,ZH,ZD,ZE,splice,fillI,Nat.reduceLeDiff,strA,ZK,ZA,Ze,bq_ft,bq_tf,ZG,ZF,ZQ,Zv,Zz,isNilA,nilPtr,nilSl,nilIf,nilFn,nilMap,nilCheckA,if_true,if_false,lt_lit,le_lit,lt_lit2,le_lit2,le_sub1,le_sub2]; rfl
        apply evI_false rfl
        apply evI_seq
        · simp only [l107,sizeV,leadV,loopV1,IC.a,IC.b,I79,IC.loops,Za,h82,b3,eC_len,eC_take,eC_one,eC_0,eC_1,eC_2,eC_3,eC_4,eCr,eCr_0,eCr_1,eCr_2,eCr_3,eCr_4,List.length_drop,Nat.reduceSub,ZR,atr,Zs,Zr,Zp,Za,Zb,evI,opsI,stepI,wantI,opI,AAct.evI,look,AAct.put,mkVal,mkVM,intOpA,intA,shiftA,unA,ZP,ZO,Zh,Zt,reduceIte,Nat.reduceEqDiff,Nat.reduceLT,Zo,Zq,true_and,and_true,and_self,ZB,cellsAt,Zg,ZC,Zf,Zk,ZL,ZM,Nat.reduceAdd,Nat.reduceMul,ZN,AV.cells,AV.one,known,Zn,getE_0,getE_k,setE_0,setE_k,Zc,Zd,Zl,Zm,Zi,Zw,Zu,Zj,Z1,Zx,Zy,ZJ,ZI,ZH,ZD,ZE,splice,fillI,Nat.reduceLeDiff,strA,ZK,ZA,Ze,bq_ft,bq_tf,ZG,ZF,ZQ,Zv,Zz,isNilA,nilPtr,nilSl,nilIf,nilFn,nilMap,nilCheckA,if_true,if_false,lt_lit,le_lit,lt_lit2,le_lit2,le_sub1,le_sub2]; rfl
        apply evI_false rfl
        apply evI_seq
        · simp only [l142,sizeV,leadV,loopV1,IC.a,IC.b,I79,IC.loops,Za,h82,b4,eC_len,eC_take,eC_one,eC_0,eC_1,eC_2,eC_3,eC_4,eCr,eCr_0,eCr_1,eCr_2,eCr_3,eCr_4,List.length_drop,Nat.reduceSub,ZR,atr,Zs,Zr,Zp,Za,Zb,evI,opsI,stepI,wantI,opI,AAct.evI,look,AAct.put,mkVal,mkVM,intOpA,intA,shiftA,unA,ZP,ZO,Zh,Zt,reduceIte,Nat.reduceEqDiff,Nat.reduceLT,Zo,Zq,true_and,and_true,and_self,ZB,cellsAt,Zg,ZC,Zf,Zk,ZL,ZM,Nat.reduceAdd,Nat.reduceMul,ZN,AV.cells,AV.one,known,Zn,getE_0,getE_k,setE_0,setE_k,Zc,Zd,Zl,Zm,Zi,Zw,Zu,Zj,Z1,Zx,Zy,ZJ,ZI,ZH,ZD,ZE,splice,fillI,Nat.reduceLeDiff,strA,ZK,ZA,Ze,bq_ft,bq_tf,ZG,ZF,ZQ,Zv,Zz,isNilA,nilPtr,nilSl,nilIf,nilFn,nilMap,nilCheckA,if_true,if_false,lt_lit,le_lit,lt_lit2,le_lit2,le_sub1,le_sub2]; rfl
        exact evI_true rfl hR⟩
    obtain ⟨t2, h20, h26, h83, e3⟩ := pre
    have hc := chk4_eq (ml := ml) P N n0 _ q M.length ty 126 s hq2 off n _ rfl hln lo hi hid t2 h20 h26
    cases hk : Lib.checkN (s.drop off).length ((s.drop off).getD 1 0).toNat ((s.drop off).getD 2 0).toNat ((s.drop off).getD 3 0).toNat 4 lo hi with
    | none =>
      rw [hk] at hc hV
      obtain ⟨t', he, ht⟩ := hc
      exact .inr ⟨t', whole _ _ _ (evI_block_ret (e3 _ he)) (.inr rfl), ht, hV⟩
    | some j =>
      rw [hk] at hc hV
      obtain ⟨t', he, ht, hj, hj0⟩ := hc
      exact .inl ⟨t', off + j, n - j, whole _ _ _ (evI_block (e3 _ he)) (.inl rfl), ht, by omega, by omega, by rw [hV, ← List.drop_drop]⟩
  · have b2 : ((sz : Int) == 2) = false := beq_false_of_ne (by omega)
    have b3 : ((sz : Int) == 3) = false := beq_false_of_ne (by omega)
    have b4 : ((sz : Int) == 4) = false := beq_false_of_ne (by omega)
    have hk : Lib.checkN (s.drop off).length ((s.drop off).getD 1 0).toNat ((s.drop off).getD 2 0).toNat ((s.drop off).getD 3 0).toNat sz lo hi = none := by
      simp only [Lib.checkN]; rw [if_neg e, if_neg e', if_neg e'']
    rw [hk] at hV
    refine .inr ⟨?t9, whole _ _ _ (evI_block_ret ?he9) (.inr rfl), ?ht9, hV⟩
    case he9 =>
      rw [c4_split]
      apply evI_seq
      · simp only [c4V,leadV,loopV1,IC.a,IC.b,I79,IC.loops,Za,h82,b2,eC_len,eC_take,eC_one,eC_0,eC_1,eC_2,eC_3,eC_4,eCr,eCr_0,eCr_1,eCr_2,eCr_3,eCr_4,List.length_drop,Nat.reduceSub,ZR,atr,Zs,Zr,Zp,Za,Zb,evI,opsI,stepI,wantI,opI,AAct.evI,look,AAct.put,mkVal,mkVM,intOpA,intA,shiftA,unA,ZP,ZO,Zh,Zt,reduceIte,Nat.reduceEqDiff,Nat.reduceLT,Zo,Zq,true_and,and_true,and_self,ZB,cellsAt,Zg,ZC,Zf,Zk,ZL,ZM,Nat.reduceAdd,Nat.reduceMul,ZN,AV.cells,AV.one,known,Zn,getE_0,getE_k,setE_0,setE_k,Zc,Zd,Zl,Zm,Zi,Zw,Zu,Zj,Z1,Zx,Zy,ZJ,ZI,ZH,ZD,ZE,splice,fillI,Nat.reduceLeDiff,strA,ZK,ZA,Ze,bq_ft,bq_tf,ZG,ZF,ZQ,Zv,Zz,isNilA,nilPtr,nilSl,nilIf,nilFn,nilMap,nilCheckA,if_true,if_false,lt_lit,le_lit,lt_lit2,le_lit2,le_sub1,le_sub2]; rfl
      apply evI_false rfl
      apply evI_seq
      · simp only [l107,sizeV,leadV,loopV1,IC.a,IC.b,I79,IC.loops,Za,h82,b3,eC_len,eC_take,eC_one,eC_0,eC_1,eC_2,eC_3,eC_4,eCr,eCr_0,eCr_1,eCr_2,eCr_3,eCr_4,List.length_drop,Nat.reduceSub,ZR,atr,Zs,Zr,Zp,Za,Zb,evI,opsI,stepI,wantI,opI,AAct.evI,look,AAct.put,mkVal,mkVM,intOpA,intA,shiftA,unA,ZP,ZO,Zh,Zt,reduceIte,Nat.reduceEqDiff,Nat.reduceLT,Zo,Zq,true_and,and_true,and_self,ZB,cellsAt,Zg,ZC,Zf,Zk,ZL,ZM,Nat.reduceAdd,Nat.reduceMul,ZN,AV.cells,AV.one,known,Zn,getE_0,getE_k,setE_0,setE_k,Zc,Zd,Zl,Zm,Zi,Zw,Zu,Zj,Z1,Zx,Zy,ZJ,ZI,ZH,ZD,ZE,splice,fillI,Nat.reduceLeDiff,strA,ZK,ZA,Ze,bq_ft,bq_tf,ZG,ZF,ZQ,Zv,Zz,isNilA,nilPtr,nilSl,nilIf,nilFn,nilMap,nilCheckA,if_true,if_false,lt_lit,le_lit,lt_lit2,le_lit2,le_sub1,le_sub2]; rfl
      apply evI_false rfl
      apply evI_seq
      · simp only [l142,sizeV,leadV,loopV1,IC.a,IC.b,I79,IC.loops,Za,h82,b4,eC_len,eC_take,eC_one,eC_0,eC_1,eC_2,eC_3,eC_4,eCr,eCr_0,eCr_1,eCr_2,eCr_3,eCr_4,List.length_drop,Nat.reduceSub,ZR,atr,Zs,Zr,Zp,Za,Zb,evI,opsI,stepI,wantI,opI,AAct.evI,look,AAct.put,mkVal,mkVM,intOpA,intA,shiftA,unA,ZP,ZO,Zh,Zt,reduceIte,Nat.reduceEqDiff,Nat.reduceLT,Zo,Zq,true_and,and_true,and_self,ZB,cellsAt,Zg,ZC,Zf,Zk,ZL,ZM,Nat.reduceAdd,Nat.reduceMul,ZN,AV.cells,AV.one,known,Zn,getE_0,getE_k,setE_0,setE_k,Zc,Zd,Zl,Zm,Zi,Zw,Zu,Zj,Z1,Zx,Zy,ZJ,ZI,ZH,ZD,ZE,splice,fillI,Nat.reduceLeDiff,strA,ZK,ZA,Ze,bq_ft,bq_tf,ZG,ZF,ZQ,Zv,Zz,isNilA,nilPtr,nilSl,nilIf,nilFn,nilMap,nilCheckA,if_true,if_false,lt_lit,le_lit,lt_lit2,le_lit2,le_sub1,le_sub2]; rfl
      apply evI_false rfl
      simp only [lbad,sizeV,leadV,loopV1,IC.a,IC.b,I79,IC.loops,Za,eC_len,eC_take,eC_one,eC_0,eC_1,eC_2,eC_3,eC_4,eCr,eCr_0,eCr_1,eCr_2,eCr_3,eCr_4,List.length_drop,Nat.reduceSub,ZR,atr,Zs,Zr,Zp,Za,Zb,evI,opsI,stepI,wantI,opI,AAct.evI,look,AAct.put,mkVal,mkVM,intOpA,intA,shiftA,unA,ZP,ZO,Zh,Zt,reduceIte,Nat.reduceEqDiff,Nat.reduceLT,Zo,Zq,true_and,and_true,and_self,ZB,cellsAt,Zg,ZC,Zf,Zk,ZL,ZM,Nat.reduceAdd,Nat.reduceMul,ZN,AV.cells,AV.one,known,Zn,getE_0,getE_k,setE_0,setE_k,Zc,Zd,Zl,Zm,Zi,Zw,Zu,Zj,Z1,Zx,Zy,ZJ,ZI,ZH,ZD,ZE,splice,fillI,Nat.reduceLeDiff,strA,ZK,ZA,Ze,bq_ft,bq_tf,ZG,ZF,ZQ,Zv,Zz,isNilA,nilPtr,nilSl,nilIf,nilFn,nilMap,nilCheckA,if_true,if_false,lt_lit,le_lit,lt_lit2,le_lit2,le_sub1,le_sub2]; rfl
    case ht9 => rfl
theorem v1_loop (P : Program) (N n0 : Nat) (M : Mem) (q ty : Nat) (s : List UInt8) (hN : s.length < N) (hl : s.length ≤ 1099511627776) (hq : M[q]? = some (.row (ofBytes s) 0 ty)) : ∀ (fuel off n : Nat), off + n = s.length → n < fuel →
    (Lib.validD (s.drop off) = true ∧ ∃ t, loopA (fun a H => evI P (cfg ml) (evFI P (cfg ml) T N (n0 + 1)) N loopV1 a H) (some [0]) fuel ⟨188, [(0, .slc q off n 1 0)], []⟩ M = some (.exit 0, ⟨188, t, []⟩, M)) ∨
    (Lib.validD (s.drop off) = false ∧ ∃ t bk, loopA (fun a H => evI P (cfg ml) (evFI P (cfg ml) T N (n0 + 1)) N loopV1 a H) (some [0]) fuel ⟨188, [(0, .slc q off n 1 0)], []⟩ M = some (.ret, ⟨188, t, []⟩, M ++ [bk]) ∧ look t 2 = .bool false)
  | 0, _, _, _, h => by omega
  | fuel + 1, off, n, ho, hf => by
    have hqlt : q < M.length := (List.getElem?_eq_some_iff.1 hq).1
    have re : ∀ (t : List (Nat × AV)) (off' n' : Nat) (bs : List Blk), look t 0 = .slc q off' n' 1 0 → roundEnd (some [0]) M ⟨188, t, []⟩ (M ++ bs) = (⟨188, [(0, .slc q off' n' 1 0)], []⟩, M) := by
      intro t off' n' bs ht
      simp only [roundEnd,keepT_one ht,lowT,Zx,Zy,low,hqlt,ZP,lowD,mayCut,List.take_left',eqM_refl,Bool.true_or,ZI,ZJ,if_true]
    cases hs : s.drop off with
    | nil =>
      have hn : n = 0 := by
        have := congrArg List.length hs
        simp only [List.length_drop,Zk] at this
        omega
      subst hn
      have c0 : decide (((0 : Nat) : Int) > 0) = false := rfl
      have hx : ∃ t, evI P (cfg ml) (evFI P (cfg ml) T N (n0 + 1)) N testV ⟨188, [(0, .slc q off 0 1 0)], []⟩ M = some (.exit 0, ⟨188, t, []⟩, M) :=
        ⟨_, by simp only [testV,loopV1,IC.a,I79,IC.loops,Za,c0,eC_len,eC_take,eC_one,eC_0,eC_1,eC_2,eC_3,eC_4,eCr,eCr_0,eCr_1,eCr_2,eCr_3,eCr_4,List.length_drop,Nat.reduceSub,ZR,atr,Zs,Zr,Zp,Za,Zb,evI,opsI,stepI,wantI,opI,AAct.evI,look,AAct.put,mkVal,mkVM,intOpA,intA,shiftA,unA,ZP,ZO,Zh,Zt,reduceIte,Nat.reduceEqDiff,Nat.reduceLT,Zo,Zq,true_and,and_true,and_self,ZB,cellsAt,Zg,ZC,Zf,Zk,ZL,ZM,Nat.reduceAdd,Nat.reduceMul,ZN,AV.cells,AV.one,known,Zn,getE_0,getE_k,setE_0,setE_k,Zc,Zd,Zl,Zm,Zi,Zw,Zu,Zj,Z1,Zx,Zy,ZJ,ZI,ZH,ZD,ZE,splice,fillI,Nat.reduceLeDiff,strA,ZK,ZA,Ze,bq_ft,bq_tf,ZG,ZF,ZQ,Zv,Zz,isNilA,nilPtr,nilSl,nilIf,nilFn,nilMap,nilCheckA,if_true,if_false,lt_lit,le_lit,lt_lit2,le_lit2,le_sub1,le_sub2]; rfl⟩
      obtain ⟨t, hx⟩ := hx
      exact .inl ⟨rfl, t, loopA_exit (by rw [v1_split]; exact evI_seq_exit hx)⟩
    | cons b0 r =>
      rw [← hs]
      rcases Nat.lt_or_ge b0.toNat 128 with hb | hb
      · obtain ⟨t, off', n', he, ht, h1, h2, h3⟩ := v1_ascii (ml := ml) P N n0 M q ty s hN hl hq off n ho b0 r hs hb
        have hr := re t off' n' [] ht
        rw [List.append_nil] at hr
        rw [h3]
        rcases v1_loop P N n0 M q ty s hN hl hq fuel off' n' h1 (by omega) with ⟨hv, t2, h4⟩ | ⟨hv, t2, bk, h4, h5⟩
        · exact .inl ⟨hv, t2, loopA_go he (by rw [hr]; exact h4)⟩
        · exact .inr ⟨hv, t2, bk, loopA_go he (by rw [hr]; exact h4), h5⟩
      · obtain ⟨bk, ⟨t, off', n', he, ht, h1, h2, h3⟩ | ⟨t, he, ht, hv⟩⟩ := v1_lead (ml := ml) P N (n0 + 1) M q ty s hq off n ho b0 r hs hb
        · have hr := re t off' n' [bk] ht
          rw [h3]
          rcases v1_loop P N n0 M q ty s hN hl hq fuel off' n' h1 (by omega) with ⟨hv, t2, h4⟩ | ⟨hv, t2, bk, h4, h5⟩
          · exact .inl ⟨hv, t2, loopA_go he (by rw [hr]; exact h4)⟩
          · exact .inr ⟨hv, t2, bk, loopA_go he (by rw [hr]; exact h4), h5⟩
        · exact .inr ⟨hv, t, bk, loopA_ret he, ht⟩
theorem valid_eq (P : Program) (N n0 : Nat) (M : Mem) (q ty : Nat) (s : List UInt8) (hN : s.length < N) (hl : s.length ≤ 1099511627776) (hq : M[q]? = some (.row (ofBytes s) 0 ty)) :
    evFI P (cfg ml) T N (n0 + 2) 79 [.slc q 0 s.length 1 0] M = some (.ret (.bool (Lib.validD s)), M) := by
  have g0 : bound 0 none = some 0 := rfl
  have gn := natOf_nat s.length .i64
  have hh := v1_loop (ml := ml) P N n0 M q ty s hN hl hq N 0 s.length (by omega) hN
  rw [List.drop_zero] at hh
  rcases hh with ⟨hv, t, h⟩ | ⟨hv, t, bk, h, h2⟩
  · rw [hv]
    refine evF_ret (m := 188) (v := .bool true) (a := ?aa) (H1 := ?Ha) rfl t79 rfl ?hb ?hd ?hr ?hz
    case hb =>
      apply evI_seq
      · simp only [Zf,Zk,idx,I79,eC_len,eC_take,eC_one,eC_0,eC_1,eC_2,eC_3,eC_4,eCr,eCr_0,eCr_1,eCr_2,eCr_3,eCr_4,List.length_drop,Nat.reduceSub,ZR,atr,Zs,Zr,Zp,Za,Zb,evI,opsI,stepI,wantI,opI,AAct.evI,look,AAct.put,mkVal,mkVM,intOpA,intA,shiftA,unA,ZP,ZO,Zh,Zt,reduceIte,Nat.reduceEqDiff,Nat.reduceLT,Zo,Zq,true_and,and_true,and_self,ZB,cellsAt,Zg,ZC,Zf,Zk,ZL,ZM,Nat.reduceAdd,Nat.reduceMul,ZN,AV.cells,AV.one,known,Zn,getE_0,getE_k,setE_0,setE_k,Zc,Zd,Zl,Zm,Zi,Zw,Zu,Zj,Z1,Zx,Zy,ZJ,ZI,ZH,ZD,ZE,splice,fillI,Nat.reduceLeDiff,strA,ZK,ZA,Ze,bq_ft,bq_tf,ZG,ZF,ZQ,Zv,Zz,isNilA,nilPtr,nilSl,nilIf,nilFn,nilMap,nilCheckA,if_true,if_false,lt_lit,le_lit,lt_lit2,le_lit2,le_sub1,le_sub2]; rfl
      apply evI_seq
      · simp only [gn,g0,cut3D,Nat.sub_zero,Nat.zero_le,eC_len,eC_take,eC_one,eC_0,eC_1,eC_2,eC_3,eC_4,eCr,eCr_0,eCr_1,eCr_2,eCr_3,eCr_4,List.length_drop,Nat.reduceSub,ZR,atr,Zs,Zr,Zp,Za,Zb,evI,opsI,stepI,wantI,opI,AAct.evI,look,AAct.put,mkVal,mkVM,intOpA,intA,shiftA,unA,ZP,ZO,Zh,Zt,reduceIte,Nat.reduceEqDiff,Nat.reduceLT,Zo,Zq,true_and,and_true,and_self,ZB,cellsAt,Zg,ZC,Zf,Zk,ZL,ZM,Nat.reduceAdd,Nat.reduceMul,ZN,AV.cells,AV.one,known,Zn,getE_0,getE_k,setE_0,setE_k,Zc,Zd,Zl,Zm,Zi,Zw,Zu,Zj,Z1,Zx,Zy,ZJ,ZI,ZH,ZD,ZE,splice,fillI,Nat.reduceLeDiff,strA,ZK,ZA,Ze,bq_ft,bq_tf,ZG,ZF,ZQ,Zv,Zz,isNilA,nilPtr,nilSl,nilIf,nilFn,nilMap,nilCheckA,if_true,if_false,lt_lit,le_lit,lt_lit2,le_lit2,le_sub1,le_sub2]; rfl
      apply evI_seq
      · apply evI_block_exit
        apply evI_loop
        rw [keepT_one (v := .slc q 0 s.length 1 0) rfl]
        exact h
      simp only [eC_len,eC_take,eC_one,eC_0,eC_1,eC_2,eC_3,eC_4,eCr,eCr_0,eCr_1,eCr_2,eCr_3,eCr_4,List.length_drop,Nat.reduceSub,ZR,atr,Zs,Zr,Zp,Za,Zb,evI,opsI,stepI,wantI,opI,AAct.evI,look,AAct.put,mkVal,mkVM,intOpA,intA,shiftA,unA,ZP,ZO,Zh,Zt,reduceIte,Nat.reduceEqDiff,Nat.reduceLT,Zo,Zq,true_and,and_true,and_self,ZB,cellsAt,Zg,ZC,Zf,Zk,ZL,ZM,Nat.reduceAdd,Nat.reduceMul,ZN,AV.cells,AV.one,known,Zn,getE_0,getE_k,setE_0,setE_k,Zc,Zd,Zl,Zm,Zi,Zw,Zu,Zj,Z1,Zx,Zy,ZJ,ZI,ZH,ZD,ZE,splice,fillI,Nat.reduceLeDiff,strA,ZK,ZA,Ze,bq_ft,bq_tf,ZG,ZF,ZQ,Zv,Zz,isNilA,nilPtr,nilSl,nilIf,nilFn,nilMap,nilCheckA,if_true,if_false,lt_lit,le_lit,lt_lit2,le_lit2,le_sub1,le_sub2]; rfl
    case hd => rfl
    case hr => simp only [I79,resI,resLI,look,reduceIte,Nat.reduceEqDiff,Zh]
    case hz => simp only [finish,finish,cfg,keep,Ze,if_false,frz,frzL,eC_low,kC_low,atsC_low,low,lowL,ZP,Zh,roundEnd,AAct.keepT,Zv,Zz,look,reduceIte,Nat.reduceEqDiff,lowT,Zx,Zy,low,lowL,lowD,mayCut,Zg,Zf,Zk,ZL,Nat.reduceAdd,takeS,takeE_0,takeE_k,Zi,Zw,eqM_app,eqM_refl,Bool.true_or,ZJ,ZI,ZH,ZP,Nat.lt_succ_self,Nat.lt_add_right_iff_pos,Nat.add_lt_add_iff_left,Nat.reduceLT,if_true,lt_k,Zn,Zp,Zr]
  · rw [hv]
    refine evF_ret (m := 188) (v := .bool false) (a := ?ab) (H1 := ?Hb) rfl t79 rfl ?hb ?hd ?hr ?hz
    case hb =>
      apply evI_seq
      · simp only [Zf,Zk,idx,I79,eC_len,eC_take,eC_one,eC_0,eC_1,eC_2,eC_3,eC_4,eCr,eCr_0,eCr_1,eCr_2,eCr_3,eCr_4,List.length_drop,Nat.reduceSub,ZR,atr,Zs,Zr,Zp,Za,Zb,evI,opsI,stepI,wantI,opI,AAct.evI,look,AAct.put,mkVal,mkVM,intOpA,intA,shiftA,unA,ZP,ZO,Zh,Zt,reduceIte,Nat.reduceEqDiff,Nat.reduceLT,Zo,Zq,true_and,and_true,and_self,ZB,cellsAt,Zg,ZC,Zf,Zk,ZL,ZM,Nat.reduceAdd,Nat.reduceMul,ZN,AV.cells,AV.one,known,Zn,getE_0,getE_k,setE_0,setE_k,Zc,Zd,Zl,Zm,Zi,Zw,Zu,Zj,Z1,Zx,Zy,ZJ,ZI,ZH,ZD,ZE,splice,fillI,Nat.reduceLeDiff,strA,ZK,ZA,Ze,bq_ft,bq_tf,ZG,ZF,ZQ,Zv,Zz,isNilA,nilPtr,nilSl,nilIf,nilFn,nilMap,nilCheckA,if_true,if_false,lt_lit,le_lit,lt_lit2,le_lit2,le_sub1,le_sub2]; rfl
      apply evI_seq
      · simp only [gn,g0,cut3D,Nat.sub_zero,Nat.zero_le,eC_len,eC_take,eC_one,eC_0,eC_1,eC_2,eC_3,eC_4,eCr,eCr_0,eCr_1,eCr_2,eCr_3,eCr_4,List.length_drop,Nat.reduceSub,ZR,atr,Zs,Zr,Zp,Za,Zb,evI,opsI,stepI,wantI,opI,AAct.evI,look,AAct.put,mkVal,mkVM,intOpA,intA,shiftA,unA,ZP,ZO,Zh,Zt,reduceIte,Nat.reduceEqDiff,Nat.reduceLT,Zo,Zq,true_and,and_true,and_self,ZB,cellsAt,Zg,ZC,Zf,Zk,ZL,ZM,Nat.reduceAdd,Nat.reduceMul,ZN,AV.cells,AV.one,known,Zn,getE_0,getE_k,setE_0,setE_k,Zc,Zd,Zl,Zm,Zi,Zw,Zu,Zj,Z1,Zx,Zy,ZJ,ZI,ZH,ZD,ZE,splice,fillI,Nat.reduceLeDiff,strA,ZK,ZA,Ze,bq_ft,bq_tf,ZG,ZF,ZQ,Zv,Zz,isNilA,nilPtr,nilSl,nilIf,nilFn,nilMap,nilCheckA,if_true,if_false,lt_lit,le_lit,lt_lit2,le_lit2,le_sub1,le_sub2]; rfl
      apply evI_seq_ret
      · apply evI_block_ret
        apply evI_loop
        rw [keepT_one (v := .slc q 0 s.length 1 0) rfl]
        exact h
    case hd => rfl
    case hr => simp only [I79,resI,resLI,h2,look,reduceIte,Nat.reduceEqDiff,Zh]
    case hz => simp only [finish,finish,cfg,keep,Ze,if_false,frz,frzL,eC_low,kC_low,atsC_low,low,lowL,ZP,Zh,roundEnd,AAct.keepT,Zv,Zz,look,reduceIte,Nat.reduceEqDiff,lowT,Zx,Zy,low,lowL,lowD,mayCut,Zg,Zf,Zk,ZL,Nat.reduceAdd,takeS,takeE_0,takeE_k,Zi,Zw,eqM_app,eqM_refl,Bool.true_or,ZJ,ZI,ZH,ZP,Nat.lt_succ_self,Nat.lt_add_right_iff_pos,Nat.add_lt_add_iff_left,Nat.reduceLT,if_true,lt_k,Zn,Zp,Zr]
theorem uvalid_eq (P : Program) (N n0 : Nat) (M : Mem) (q ty : Nat) (s : List UInt8) (hN : s.length < N) (hl : s.length ≤ 1099511627776) (hq : M[q]? = some (.row (ofBytes s) 0 ty)) :
    evFI P (cfg ml) T N (n0 + 3) 47 [.slc q 0 s.length 1 0] M = some (.ret (.bool (Lib.validD s)), M) := by
  have h := valid_eq (ml := ml) P N n0 M q ty s hN hl hq
  generalize Lib.validD s = v at *
  refine evF_ret (m := 5) (v := .bool v) (a := ?aa) (H1 := ?Ha) rfl t47 rfl ?hb ?hd ?hr ?hz
  case hb => simp only [Zf,Zk,idx,I47,h,eC_len,eC_take,eC_one,eC_0,eC_1,eC_2,eC_3,eC_4,eCr,eCr_0,eCr_1,eCr_2,eCr_3,eCr_4,List.length_drop,Nat.reduceSub,ZR,atr,Zs,Zr,Zp,Za,Zb,evI,opsI,stepI,wantI,opI,AAct.evI,look,AAct.put,mkVal,mkVM,intOpA,intA,shiftA,unA,ZP,ZO,Zh,Zt,reduceIte,Nat.reduceEqDiff,Nat.reduceLT,Zo,Zq,true_and,and_true,and_self,ZB,cellsAt,Zg,ZC,Zf,Zk,ZL,ZM,Nat.reduceAdd,Nat.reduceMul,ZN,AV.cells,AV.one,known,Zn,getE_0,getE_k,setE_0,setE_k,Zc,Zd,Zl,Zm,Zi,Zw,Zu,Zj,Z1,Zx,Zy,ZJ,ZI,ZH,ZD,ZE,splice,fillI,Nat.reduceLeDiff,strA,ZK,ZA,Ze,bq_ft,bq_tf,ZG,ZF,ZQ,Zv,Zz,isNilA,nilPtr,nilSl,nilIf,nilFn,nilMap,nilCheckA,if_true,if_false,lt_lit,le_lit,lt_lit2,le_lit2,le_sub1,le_sub2]; rfl
  case hd => rfl
  case hr => simp only [I47,resI,resLI,look,reduceIte,Nat.reduceEqDiff,Zh]
  case hz => simp only [finish,finish,cfg,keep,Ze,if_false,frz,frzL,eC_low,kC_low,atsC_low,low,lowL,ZP,Zh,roundEnd,AAct.keepT,Zv,Zz,look,reduceIte,Nat.reduceEqDiff,lowT,Zx,Zy,low,lowL,lowD,mayCut,Zg,Zf,Zk,ZL,Nat.reduceAdd,takeS,takeE_0,takeE_k,Zi,Zw,eqM_app,eqM_refl,Bool.true_or,ZJ,ZI,ZH,ZP,Nat.lt_succ_self,Nat.lt_add_right_iff_pos,Nat.add_lt_add_iff_left,Nat.reduceLT,if_true,lt_k,Zn,Zp,Zr]
set_option maxHeartbeats 2000000
theorem index_no13 (r : List UInt8) : ∀ x : List UInt8, (∀ b ∈ x, b ≠ 13) → Lib.index x (13 :: r) = -1
  | [], _ => rfl
  | b :: x, h => by
    have hb : b ≠ 13 := h b (by simp)
    have ih := index_no13 r x fun c hc => h c (by simp [hc])
    unfold Lib.index
    have hp : (13 :: r).isPrefixOf (b :: x) = false := by
      simp only [List.isPrefixOf,Bool.and_eq_false_iff,beq_eq_false_iff_ne]
      exact .inl (fun e => hb e.symm)
    rw [hp, ih]; rfl
theorem replace_no13 (r u x : List UInt8) (h : ∀ b ∈ x, b ≠ 13) : Lib.replaceAll x (13 :: r) u = x := by
  have hi := index_no13 r x h
  unfold Lib.replaceAll Lib.replace
  split
  · rfl
  · generalize Lib.replaceNum x (13 :: r) (-1) = k
    cases k with
    | zero => rfl
    | succ k => rw [Lib.replaceK, hi]; rfl
theorem repl_lib (r u x : List UInt8) (h : ∀ b ∈ x, b ≠ 13) (hs : x.length < 4294967281) (H : Mem) : replLib [.str x, .str (13 :: r), .str u] H = some (.str x, H) := by
  have hc : Lib.countB ⟨x.toArray⟩ ⟨(13 :: r).toArray⟩ = 0 := Lib.count_miss (by simpa using index_no13 r x h)
  simp only [replLib]
  rw [if_pos ⟨hs, by simp, by rw [hc]; omega⟩, replace_no13 r u x h]
def plainB (b : UInt8) : Bool := decide (b = 9 ∨ b = 10 ∨ (32 ≤ b.toNat ∧ b.toNat < 128))
theorem plainB_lt {b : UInt8} (h : plainB b = true) : b.toNat < 128 := by
  unfold plainB at h
  rcases of_decide_eq_true h with rfl | rfl | h
  · decide
  · decide
  · exact h.2
theorem plainB_ok {b : UInt8} (h : plainB b = true) : runeOk (b.toNat : Int) = true := by
  unfold plainB at h
  unfold runeOk
  rcases of_decide_eq_true h with rfl | rfl | h
  · decide
  · decide
  · exact decide_eq_true (by omega)
theorem plainB_13 {b : UInt8} (h : plainB b = true) : b ≠ 13 := by
  rintro rfl
  revert h; decide
theorem dec_plain (s : List UInt8) (pos : Nat) (b : UInt8) (h : s[pos]? = some b) (hb : b.toNat < 128) : dec s pos = (b.toNat, 1) := by
  obtain ⟨hlt, e⟩ := List.getElem?_eq_some_iff.1 h
  unfold dec
  have h1 : pos < (⟨s.toArray⟩ : ByteArray).size := by show pos < s.toArray.size; simpa using hlt
  have h2 : (⟨s.toArray⟩ : ByteArray)[pos]'h1 = b := by show s.toArray[pos] = b; simpa using e
  rw [decode_ascii _ pos h1 (by rw [h2]; exact hb), h2]
theorem runes_plain (s : List UInt8) (h : ∀ b ∈ s, plainB b = true) : ∀ (f pos : Nat), runesFrom s f pos = true
  | 0, _ => rfl
  | f + 1, pos => by
    simp only [runesFrom]
    by_cases hp : pos < s.length
    · have hb := h s[pos] (List.getElem_mem hp)
      rw [if_pos hp, dec_plain s pos s[pos] (List.getElem?_eq_getElem hp) (plainB_lt hb), plainB_ok hb, runes_plain s h f]; rfl
    · rw [if_neg hp]
theorem valid_plain (s : List UInt8) (h : ∀ b ∈ s, plainB b = true) : Lib.validD s = true := by
  rw [Lib.validD_ascii s.length s fun b hb => plainB_lt (h b (List.mem_of_mem_take hb)), List.drop_length]
  rfl
theorem plain_text (P : Program) (N n : Nat) (s : List UInt8) (hN : s.length < N) (hl : s.length ≤ 1099511627776) (hp : ∀ b ∈ s, plainB b = true) (H : Mem) :
    evFI P (cfg ml) T N (n + 4) 19 [.str s] H = some (.ret (.bool true), H) := by
  obtain ⟨t, p, ht, h0⟩ := ptext_loop (ml := ml) P N (n + 2) s H N 0 (by omega)
  simp only [runes_plain s hp,if_true] at ht
  have hv := uvalid_eq (ml := ml) P N n (H ++ [.siter s p, .row (ofBytes s) 0 (5 + 1)]) (H.length + 1) (5 + 1) s hN hl (by simp)
  rw [valid_plain s hp] at hv
  have h40 : s.length ≤ 2 ^ 40 := by omega
  simp only [Nat.reduceAdd] at hv
  refine evF_ret (m := 16) (v := .bool true) (a := ?ab) (H1 := ?Hb) rfl t19 rfl ?hb ?hd ?hr ?hz
  case hb =>
    apply evI_seq
    · simp only [Zf,Zk,idx,I19,Zs,Zr,Zp,Za,Zb,evI,opsI,stepI,wantI,opI,AAct.evI,look,AAct.put,mkVal,mkVM,intOpA,intA,shiftA,unA,ZP,ZO,Zh,Zt,reduceIte,Nat.reduceEqDiff,Nat.reduceLT,Zo,Zq,true_and,and_true,and_self,ZB,cellsAt,Zg,ZC,Zf,Zk,ZL,ZM,Nat.reduceAdd,Nat.reduceMul,ZN,AV.cells,AV.one,known,Zn,getE_0,getE_k,setE_0,setE_k,Zc,Zd,Zl,Zm,Zi,Zw,Zu,Zj,Z1,Zx,Zy,ZJ,ZI,ZH,ZD,ZE,splice,fillI,Nat.reduceLeDiff,strA,ZK,ZA,Ze,bq_ft,bq_tf,ZG,ZF,ZQ,Zv,Zz,isNilA,nilPtr,nilSl,nilIf,nilFn,nilMap,nilCheckA,if_true,if_false,lt_lit,le_lit,lt_lit2,le_lit2,le_sub1,le_sub2]; rfl
    apply evI_seq
    · apply evI_seq
      · simp only [Zs,Zr,Zp,Za,Zb,evI,opsI,stepI,wantI,opI,AAct.evI,look,AAct.put,mkVal,mkVM,intOpA,intA,shiftA,unA,ZP,ZO,Zh,Zt,reduceIte,Nat.reduceEqDiff,Nat.reduceLT,Zo,Zq,true_and,and_true,and_self,ZB,cellsAt,Zg,ZC,Zf,Zk,ZL,ZM,Nat.reduceAdd,Nat.reduceMul,ZN,AV.cells,AV.one,known,Zn,getE_0,getE_k,setE_0,setE_k,Zc,Zd,Zl,Zm,Zi,Zw,Zu,Zj,Z1,Zx,Zy,ZJ,ZI,ZH,ZD,ZE,splice,fillI,Nat.reduceLeDiff,strA,ZK,ZA,Ze,bq_ft,bq_tf,ZG,ZF,ZQ,Zv,Zz,isNilA,nilPtr,nilSl,nilIf,nilFn,nilMap,nilCheckA,if_true,if_false,lt_lit,le_lit,lt_lit2,le_lit2,le_sub1,le_sub2]; rfl
      apply evI_block_exit
      apply evI_loop
      exact ht
    simp only [h0,hv,h40,Zs,Zr,Zp,Za,Zb,evI,opsI,stepI,wantI,opI,AAct.evI,look,AAct.put,mkVal,mkVM,intOpA,intA,shiftA,unA,ZP,ZO,Zh,Zt,reduceIte,Nat.reduceEqDiff,Nat.reduceLT,Zo,Zq,true_and,and_true,and_self,ZB,cellsAt,Zg,ZC,Zf,Zk,ZL,ZM,Nat.reduceAdd,Nat.reduceMul,ZN,AV.cells,AV.one,known,Zn,getE_0,getE_k,setE_0,setE_k,Zc,Zd,Zl,Zm,Zi,Zw,Zu,Zj,Z1,Zx,Zy,ZJ,ZI,ZH,ZD,ZE,splice,fillI,Nat.reduceLeDiff,strA,ZK,ZA,Ze,bq_ft,bq_tf,ZG,ZF,ZQ,Zv,Zz,isNilA,nilPtr,nilSl,nilIf,nilFn,nilMap,nilCheckA,if_true,if_false,lt_lit,le_lit,lt_lit2,le_lit2,le_sub1,le_sub2]; rfl
  case hd => rfl
  case hr => simp only [I19,resI,resLI,look,reduceIte,Nat.reduceEqDiff,Zh]
  case hz => simp only [finish,finish,cfg,keep,Ze,if_false,frz,frzL,eC_low,kC_low,atsC_low,low,lowL,ZP,Zh,roundEnd,AAct.keepT,Zv,Zz,look,reduceIte,Nat.reduceEqDiff,lowT,Zx,Zy,low,lowL,lowD,mayCut,Zg,Zf,Zk,ZL,Nat.reduceAdd,takeS,takeE_0,takeE_k,Zi,Zw,eqM_app,eqM_refl,Bool.true_or,ZJ,ZI,ZH,ZP,Nat.lt_succ_self,Nat.lt_add_right_iff_pos,Nat.add_lt_add_iff_left,Nat.reduceLT,if_true,lt_k,Zn,Zp,Zr]
theorem toBytes_of : ∀ s : List UInt8, toBytes (ofBytes s) = some s
  | [] => rfl
  | b :: s => by
    have ih := toBytes_of s
    have h := b.toNat_lt
    unfold ofBytes at *
    have h1 : (0 : Int) ≤ (b.toNat : Int) := by omega
    have h2 : (b.toNat : Int) < 256 := by omega
    simp only [Zv,toBytes,toByte,h1,h2,and_self,if_true,ih,Int.toNat_natCast,UInt8.ofNat_toNat]
theorem op_defer : (opAt Tryz.f13 3).op = .defer ⟨.value (.tmp 6), #[], #[]⟩ := by kernel_rfl
theorem exec_defer {ρ : Operand → AV} {H : Mem} {k : Nat} {cap : List AV} (hρ : ρ (.tmp 6) = .fn (.func k) cap) : exec1 Tryz.prog ρ (opAt Tryz.f13 3) H = some (.dfr (.fn (.func k) cap) []) := by
  unfold exec1
  rw [op_defer]
  simp only [hρ]
  rfl
def nsX : List UInt8 := [104, 116, 116, 112, 58, 47, 47, 119, 119, 119, 46, 119, 51, 46, 111, 114, 103, 47, 88, 77, 76, 47, 49, 57, 57, 56, 47, 110, 97, 109, 101, 115, 112, 97, 99, 101]
abbrev rowE (e : Int) : Blk := .row [.int .i64 e] 0 (28 + 1)
section
variable {P : Program} {g : Cfg} {T : FuncId → Option IF} {N n f m : Nat} {i : IF} {args : List AV} {H H1 H2 : Mem} {a : AAct} {v : AV} {r : End × Mem}
theorem evF_retD (hl : g.lib f = none) (hT : T f = some i) (hm : max args.length i.n = m) (hb : evI P g (evFI P g T N n) N i.c ⟨m, idx 0 args, []⟩ H = some (.ret, a, H1)) (hd : a.d.isEmpty = false) (hz : tailI P g (evFI P g T N n) T N i (g.keep f) H a none H1 = some r) :
    evFI P g T N (n + 1) f args H = some r := by
  simp only [evFI,hl,hT,hm,hb,hd,Ze,if_false,hz]
theorem evF_panD (hl : g.lib f = none) (hT : T f = some i) (hm : max args.length i.n = m) (hb : evI P g (evFI P g T N n) N i.c ⟨m, idx 0 args, []⟩ H = some (.pan v, a, H1)) (hd : a.d.isEmpty = false) (hz : tailI P g (evFI P g T N n) T N i (g.keep f) H a (some v) H1 = some r) :
    evFI P g T N (n + 1) f args H = some r := by
  simp only [evFI,hl,hT,hm,hb,hd,Ze,if_false,hz]
end
noncomputable def pcR (n : Nat) : IC := (I13.c.nb n).hd
theorem read_split : I13.c = .seq (pcR 0) (.seq (pcR 1) (.seq (pcR 2) (.seq (pcR 3) (.seq (pcR 4) (.seq (pcR 5) (.seq (pcR 6) (.seq (pcR 7) (.seq (pcR 8) (.seq (pcR 9) (.seq (pcR 10) .ret)))))))))) := rfl
theorem trim_mark (P : Program) (N d : Nat) (hd : 4 ≤ d) (x p : List UInt8) (h : hasP x p = false) (H : Mem) : evFI P (cfg ml) T N d 30 [.str x, .str p] H = some (.ret (.str x), H) := by
  obtain ⟨n, rfl⟩ : ∃ n, d = n + 4 := ⟨d - 4, by omega⟩
  have h1 : evFI P (cfg ml) T N (n + 2) 55 [.str x, .str p] H = some (.ret (.bool (hasP x p)), H) := slHasPrefix_eq (n + 2) (by omega) x p H
  rw [h] at h1
  have h2 : evFI P (cfg ml) T N (n + 3) 53 [.str x, .str p] H = some (.ret (.str x), H) := by
    refine evF_ret (m := 13) (v := .str x) (a := ?aa) (H1 := ?Ha) rfl t53 rfl ?hb ?hd ?hr ?hz
    case hb => simp only [Zf,Zk,idx,I53,h1,Zs,Zr,Zp,Za,Zb,evI,opsI,stepI,wantI,opI,AAct.evI,look,AAct.put,mkVal,mkVM,intOpA,intA,shiftA,unA,ZP,ZO,Zh,Zt,reduceIte,Nat.reduceEqDiff,Nat.reduceLT,Zo,Zq,true_and,and_true,and_self,ZB,cellsAt,Zg,ZC,Zf,Zk,ZL,ZM,Nat.reduceAdd,Nat.reduceMul,ZN,AV.cells,AV.one,known,Zn,getE_0,getE_k,setE_0,setE_k,Zc,Zd,Zl,Zm,Zi,Zw,Zu,Zj,Z1,Zx,Zy,ZJ,ZI,ZH,ZD,ZE,splice,fillI,Nat.reduceLeDiff,strA,ZK,ZA,Ze,bq_ft,bq_tf,ZG,ZF,ZQ,Zv,Zz,isNilA,nilPtr,nilSl,nilIf,nilFn,nilMap,nilCheckA,if_true,if_false,lt_lit,le_lit,lt_lit2,le_lit2,le_sub1,le_sub2]; rfl
    case hd => rfl
    case hr => simp only [I53,resI,resLI,look,reduceIte,Nat.reduceEqDiff,Zh]
    case hz => exact fin_len rfl rfl
  refine evF_ret (m := 8) (v := .str x) (a := ?ab) (H1 := ?Hb) rfl t30 rfl ?hb ?hd ?hr ?hz
  case hb => simp only [Zf,Zk,idx,I30,h2,Zs,Zr,Zp,Za,Zb,evI,opsI,stepI,wantI,opI,AAct.evI,look,AAct.put,mkVal,mkVM,intOpA,intA,shiftA,unA,ZP,ZO,Zh,Zt,reduceIte,Nat.reduceEqDiff,Nat.reduceLT,Zo,Zq,true_and,and_true,and_self,ZB,cellsAt,Zg,ZC,Zf,Zk,ZL,ZM,Nat.reduceAdd,Nat.reduceMul,ZN,AV.cells,AV.one,known,Zn,getE_0,getE_k,setE_0,setE_k,Zc,Zd,Zl,Zm,Zi,Zw,Zu,Zj,Z1,Zx,Zy,ZJ,ZI,ZH,ZD,ZE,splice,fillI,Nat.reduceLeDiff,strA,ZK,ZA,Ze,bq_ft,bq_tf,ZG,ZF,ZQ,Zv,Zz,isNilA,nilPtr,nilSl,nilIf,nilFn,nilMap,nilCheckA,if_true,if_false,lt_lit,le_lit,lt_lit2,le_lit2,le_sub1,le_sub2]; rfl
  case hd => rfl
  case hr => simp only [I30,resI,resLI,look,reduceIte,Nat.reduceEqDiff,Zh]
  case hz => exact fin_len rfl rfl
section
variable {N : Nat} (x : List UInt8) (hs : x.length < 4294967281) (hN : x.length < N) (hp : ∀ b ∈ x, plainB b = true)
variable (n q ty : Nat) (H : Mem) (hq : H[q]? = some (.row (ofBytes x) 0 ty))
variable (hx1 : hasP x [239, 187, 191] = false) (hx2 : hasP x [60, 63, 120, 109, 108] = false)
variable (at1 : Nat) (hM1 : ∀ A : Mem, evFI Tryz.prog (cfg ml) T N n 37 [.ptr A.length 0 0, .bool true] (A ++ rdr x 0 0 :: []) = some (.ret (.tup []), A ++ rdr x at1 0 :: []))
include hs hN hp hq hx1 hx2 hM1
theorem read_pre (hn : 4 ≤ n) :
    ∃ t, look t 2 = .ptr H.length 0 0 ∧ look t 3 = .ptr (H.length + 1) 0 0 ∧ look t 5 = .ptr (H.length + 2) 0 0 ∧
      evI Tryz.prog (cfg ml) (evFI Tryz.prog (cfg ml) T N n) N I13.c ⟨51, [(0, .slc q 0 x.length 1 0)], []⟩ H = evI Tryz.prog (cfg ml) (evFI Tryz.prog (cfg ml) T N n) N (.seq (pcR 7) (.seq (pcR 8) (.seq (pcR 9) (.seq (pcR 10) .ret)))) ⟨51, t, [(.fn (.func 29) [.ptr H.length 0 0, .ptr (H.length + 1) 0 0], [])]⟩ (H ++ [r27 [] [], rowE 0, rdr x at1 0]) := by
  obtain ⟨n, rfl⟩ : ∃ k, n = k + 4 := ⟨n - 4, by omega⟩
  have hql : q < H.length := (List.getElem?_eq_some_iff.1 hq).1
  have hq2 : ∀ L : Mem, (H ++ L)[q]? = some (.row (ofBytes x) 0 ty) := fun L => by rw [List.getElem?_append_left hql]; exact hq
  have hol : (ofBytes x).length = x.length := by simp [ofBytes]
  have hle : x.length ≤ (ofBytes x).length := by omega
  have htk : (ofBytes x).take x.length = ofBytes x := List.take_of_length_le (by omega)
  have htb := toBytes_of x
  have hm1 : ∀ k : Nat, k * 1 = k := Nat.mul_one
  have q1 := fun H => trim_mark (ml := ml) Tryz.prog N (n + 4) (by omega) x [239, 187, 191] hx1 H
  have q2 := fun H => plain_text (ml := ml) Tryz.prog N n x hN (by omega) hp H
  have q3 := fun e H => must_t (P := Tryz.prog) (N := N) (ml := ml) (n + 4) (by omega) e H
  have hl : (cfg ml).lib 32 = some replLib := rfl
  have q4 : ∀ (r u : List UInt8) H, evFI Tryz.prog (cfg ml) T N (n + 4) 32 [.str x, .str (13 :: r), .str u] H = some (.ret (.str x), H) := fun r u H => by
    simp only [evFI,hl,repl_lib r u x (fun b hb => plainB_13 (hp b hb)) hs,Zh]
  have q5 := fun H => hasPrefix_eq (P := Tryz.prog) (N := N) (ml := ml) (n + 4) (by omega) x [60, 63, 120, 109, 108] H
  rw [hx2] at q5
  have q6 := hM1 (H ++ [r27 [] [], rowE 0])
  simp only [Zg,Zf,Zk,ZL,Nat.reduceAdd,Zn,Zp,Zr] at q6
  refine ⟨?t, ?g2, ?g3, ?g5, ?main⟩
  case main =>
    rw [read_split]
    apply evI_seq
    · simp only [pcR,IC.nb,IC.hd,I13,Zs,Zr,Zp,Za,Zb,evI,opsI,stepI,wantI,opI,AAct.evI,look,AAct.put,mkVal,mkVM,intOpA,intA,shiftA,unA,ZP,ZO,Zh,Zt,reduceIte,Nat.reduceEqDiff,Nat.reduceLT,Zo,Zq,true_and,and_true,and_self,ZB,cellsAt,Zg,ZC,Zf,Zk,ZL,ZM,Nat.reduceAdd,Nat.reduceMul,ZN,AV.cells,AV.one,known,Zn,getE_0,getE_k,setE_0,setE_k,Zc,Zd,Zl,Zm,Zi,Zw,Zu,Zj,Z1,Zx,Zy,ZJ,ZI,ZH,ZD,ZE,splice,fillI,Nat.reduceLeDiff,strA,ZK,ZA,Ze,bq_ft,bq_tf,ZG,ZF,ZQ,Zv,Zz,isNilA,nilPtr,nilSl,nilIf,nilFn,nilMap,nilCheckA,if_true,if_false,lt_lit,le_lit,lt_lit2,le_lit2,le_sub1,le_sub2]; rfl
    apply evI_seq
    · simp only [pcR,IC.nb,IC.hd,I13,AAct.eval,exec_defer,Zs,Zr,Zp,Za,Zb,evI,opsI,stepI,wantI,opI,AAct.evI,look,AAct.put,mkVal,mkVM,intOpA,intA,shiftA,unA,ZP,ZO,Zh,Zt,reduceIte,Nat.reduceEqDiff,Nat.reduceLT,Zo,Zq,true_and,and_true,and_self,ZB,cellsAt,Zg,ZC,Zf,Zk,ZL,ZM,Nat.reduceAdd,Nat.reduceMul,ZN,AV.cells,AV.one,known,Zn,getE_0,getE_k,setE_0,setE_k,Zc,Zd,Zl,Zm,Zi,Zw,Zu,Zj,Z1,Zx,Zy,ZJ,ZI,ZH,ZD,ZE,splice,fillI,Nat.reduceLeDiff,strA,ZK,ZA,Ze,bq_ft,bq_tf,ZG,ZF,ZQ,Zv,Zz,isNilA,nilPtr,nilSl,nilIf,nilFn,nilMap,nilCheckA,if_true,if_false,lt_lit,le_lit,lt_lit2,le_lit2,le_sub1,le_sub2]; rfl
    apply evI_seq
    · simp only [pcR,IC.nb,IC.hd,I13,held,hq2,hm1,hle,htk,htb,q1,Zs,Zr,Zp,Za,Zb,evI,opsI,stepI,wantI,opI,AAct.evI,look,AAct.put,mkVal,mkVM,intOpA,intA,shiftA,unA,ZP,ZO,Zh,Zt,reduceIte,Nat.reduceEqDiff,Nat.reduceLT,Zo,Zq,true_and,and_true,and_self,ZB,cellsAt,Zg,ZC,Zf,Zk,ZL,ZM,Nat.reduceAdd,Nat.reduceMul,ZN,AV.cells,AV.one,known,Zn,getE_0,getE_k,setE_0,setE_k,Zc,Zd,Zl,Zm,Zi,Zw,Zu,Zj,Z1,Zx,Zy,ZJ,ZI,ZH,ZD,ZE,splice,fillI,Nat.reduceLeDiff,strA,ZK,ZA,Ze,bq_ft,bq_tf,ZG,ZF,ZQ,Zv,Zz,isNilA,nilPtr,nilSl,nilIf,nilFn,nilMap,nilCheckA,if_true,if_false,lt_lit,le_lit,lt_lit2,le_lit2,le_sub1,le_sub2]; rfl
    apply evI_seq
    · simp only [pcR,IC.nb,IC.hd,I13,q2,q3,Zs,Zr,Zp,Za,Zb,evI,opsI,stepI,wantI,opI,AAct.evI,look,AAct.put,mkVal,mkVM,intOpA,intA,shiftA,unA,ZP,ZO,Zh,Zt,reduceIte,Nat.reduceEqDiff,Nat.reduceLT,Zo,Zq,true_and,and_true,and_self,ZB,cellsAt,Zg,ZC,Zf,Zk,ZL,ZM,Nat.reduceAdd,Nat.reduceMul,ZN,AV.cells,AV.one,known,Zn,getE_0,getE_k,setE_0,setE_k,Zc,Zd,Zl,Zm,Zi,Zw,Zu,Zj,Z1,Zx,Zy,ZJ,ZI,ZH,ZD,ZE,splice,fillI,Nat.reduceLeDiff,strA,ZK,ZA,Ze,bq_ft,bq_tf,ZG,ZF,ZQ,Zv,Zz,isNilA,nilPtr,nilSl,nilIf,nilFn,nilMap,nilCheckA,if_true,if_false,lt_lit,le_lit,lt_lit2,le_lit2,le_sub1,le_sub2]; rfl
    apply evI_seq (H' := H ++ [r27 [] [], rowE 0, rdr x 0 0])
    · simp only [pcR,IC.nb,IC.hd,I13,q4,rdr,Zs,Zr,Zp,Za,Zb,evI,opsI,stepI,wantI,opI,AAct.evI,look,AAct.put,mkVal,mkVM,intOpA,intA,shiftA,unA,ZP,ZO,Zh,Zt,reduceIte,Nat.reduceEqDiff,Nat.reduceLT,Zo,Zq,true_and,and_true,and_self,ZB,cellsAt,Zg,ZC,Zf,Zk,ZL,ZM,Nat.reduceAdd,Nat.reduceMul,ZN,AV.cells,AV.one,known,Zn,getE_0,getE_k,setE_0,setE_k,Zc,Zd,Zl,Zm,Zi,Zw,Zu,Zj,Z1,Zx,Zy,ZJ,ZI,ZH,ZD,ZE,splice,fillI,Nat.reduceLeDiff,strA,ZK,ZA,Ze,bq_ft,bq_tf,ZG,ZF,ZQ,Zv,Zz,isNilA,nilPtr,nilSl,nilIf,nilFn,nilMap,nilCheckA,if_true,if_false,lt_lit,le_lit,lt_lit2,le_lit2,le_sub1,le_sub2]; rfl
    apply evI_seq (H' := H ++ [r27 [] [], rowE 0, rdr x 0 0])
    · simp only [pcR,IC.nb,IC.hd,I13,rdr,q5,Zs,Zr,Zp,Za,Zb,evI,opsI,stepI,wantI,opI,AAct.evI,look,AAct.put,mkVal,mkVM,intOpA,intA,shiftA,unA,ZP,ZO,Zh,Zt,reduceIte,Nat.reduceEqDiff,Nat.reduceLT,Zo,Zq,true_and,and_true,and_self,ZB,cellsAt,Zg,ZC,Zf,Zk,ZL,ZM,Nat.reduceAdd,Nat.reduceMul,ZN,AV.cells,AV.one,known,Zn,getE_0,getE_k,setE_0,setE_k,Zc,Zd,Zl,Zm,Zi,Zw,Zu,Zj,Z1,Zx,Zy,ZJ,ZI,ZH,ZD,ZE,splice,fillI,Nat.reduceLeDiff,strA,ZK,ZA,Ze,bq_ft,bq_tf,ZG,ZF,ZQ,Zv,Zz,isNilA,nilPtr,nilSl,nilIf,nilFn,nilMap,nilCheckA,if_true,if_false,lt_lit,le_lit,lt_lit2,le_lit2,le_sub1,le_sub2]; rfl
    apply evI_seq
    · simp only [pcR,IC.nb,IC.hd,I13,q6,Zs,Zr,Zp,Za,Zb,evI,opsI,stepI,wantI,opI,AAct.evI,look,AAct.put,mkVal,mkVM,intOpA,intA,shiftA,unA,ZP,ZO,Zh,Zt,reduceIte,Nat.reduceEqDiff,Nat.reduceLT,Zo,Zq,true_and,and_true,and_self,ZB,cellsAt,Zg,ZC,Zf,Zk,ZL,ZM,Nat.reduceAdd,Nat.reduceMul,ZN,AV.cells,AV.one,known,Zn,getE_0,getE_k,setE_0,setE_k,Zc,Zd,Zl,Zm,Zi,Zw,Zu,Zj,Z1,Zx,Zy,ZJ,ZI,ZH,ZD,ZE,splice,fillI,Nat.reduceLeDiff,strA,ZK,ZA,Ze,bq_ft,bq_tf,ZG,ZF,ZQ,Zv,Zz,isNilA,nilPtr,nilSl,nilIf,nilFn,nilMap,nilCheckA,if_true,if_false,lt_lit,le_lit,lt_lit2,le_lit2,le_sub1,le_sub2]; rfl
    rfl
  case g2 => rfl
  case g3 => rfl
  case g5 => rfl
theorem read_ok (hn : 4 ≤ n) (sp nm tx : List UInt8) (at2 many kn an : Nat) (ac kc : List AV) (hac : lowL 0 ac = true) (hkc : lowL 0 kc = true)
    (hE : ∀ A : Mem, LoM A [scope1 nsX] → evFI Tryz.prog (cfg ml) T N n 38 [.ptr A.length 0 0, .map (A.length + 1), .int .i64 0] (A ++ rdr x at1 0 :: [scope1 nsX]) = some (.ret (.agg [.str sp, .str nm, .str tx, .lst an ac, .lst kn kc]), A ++ rdr x at2 many :: [scope1 nsX]))
    (hM2 : ∀ A B : Mem, evFI Tryz.prog (cfg ml) T N n 37 [.ptr A.length 0 0, .bool false] (A ++ rdr x at2 many :: B) = some (.ret (.tup []), A ++ rdr x x.length many :: B)) (hlo : lowM H.length H = true) :
    evFI Tryz.prog (cfg ml) T N (n + 1) 13 [.slc q 0 x.length 1 0] H = some (.ret (.tup [.agg [.str sp, .str nm, .str tx, .lst an ac, .lst kn kc], .int .i64 0]), H) := by
  obtain ⟨t, l2, l3, l5, hpre⟩ := read_pre (ml := ml) x hs hN hp n q ty H hq hx1 hx2 at1 hM1 hn
  have hlA : LoM (H ++ [r27 [] [], rowE 0]) [scope1 nsX] := by
    refine ⟨?_, rfl⟩
    unfold lowM at *
    rw [List.all_append, List.all_eq_true.2 fun y hy => lowB_mono (by simp; omega) (List.all_eq_true.1 hlo y hy)]
    rfl
  have q1 := hE (H ++ [r27 [] [], rowE 0]) hlA
  have q2 := hM2 (H ++ [.row [.str sp, .str nm, .str tx, .lst an ac, .lst kn kc] 0 (27 + 1), rowE 0]) [scope1 nsX]
  have q3 := fun e H => must_t (P := Tryz.prog) (N := N) (ml := ml) n (by omega) e H
  have hbq : ((x.length : Int) == (x.length : Int)) = true := beq_self_eq_true _
  simp only [nsX,Zg,Zf,Zk,ZL,ZK,Nat.reduceAdd,Zn,Zp,Zr] at q1 q2
  have hac' : ∀ j, lowL j ac = true := fun j => pureL_low hac j
  have hkc' : ∀ j, lowL j kc = true := fun j => pureL_low hkc j
  have hT : T 29 = some I29 := t29
  refine evF_retD (m := 51) (a := ?aa) (H1 := H ++ [.row [.str sp, .str nm, .str tx, .lst an ac, .lst kn kc] 0 (27 + 1), rowE 0, rdr x x.length many, scope1 nsX]) rfl t13 rfl ?hb ?hd ?hz
  case hb =>
    refine hpre.trans ?_
    apply evI_seq
    · simp only [pcR,IC.nb,IC.hd,I13,l2,l5,updateD,findA,isKey,mkM,q1,Zs,Zr,Zp,Za,Zb,evI,opsI,stepI,wantI,opI,AAct.evI,look,AAct.put,mkVal,mkVM,intOpA,intA,shiftA,unA,ZP,ZO,Zh,Zt,reduceIte,Nat.reduceEqDiff,Nat.reduceLT,Zo,Zq,true_and,and_true,and_self,ZB,cellsAt,Zg,ZC,Zf,Zk,ZL,ZM,Nat.reduceAdd,Nat.reduceMul,ZN,AV.cells,AV.one,known,Zn,getE_0,getE_k,setE_0,setE_k,Zc,Zd,Zl,Zm,Zi,Zw,Zu,Zj,Z1,Zx,Zy,ZJ,ZI,ZH,ZD,ZE,splice,fillI,Nat.reduceLeDiff,strA,ZK,ZA,Ze,bq_ft,bq_tf,ZG,ZF,ZQ,Zv,Zz,isNilA,nilPtr,nilSl,nilIf,nilFn,nilMap,nilCheckA,if_true,if_false,lt_lit,le_lit,lt_lit2,le_lit2,le_sub1,le_sub2]; rfl
    apply evI_seq
    · simp only [pcR,IC.nb,IC.hd,I13,l5,q2,Zs,Zr,Zp,Za,Zb,evI,opsI,stepI,wantI,opI,AAct.evI,look,AAct.put,mkVal,mkVM,intOpA,intA,shiftA,unA,ZP,ZO,Zh,Zt,reduceIte,Nat.reduceEqDiff,Nat.reduceLT,Zo,Zq,true_and,and_true,and_self,ZB,cellsAt,Zg,ZC,Zf,Zk,ZL,ZM,Nat.reduceAdd,Nat.reduceMul,ZN,AV.cells,AV.one,known,Zn,getE_0,getE_k,setE_0,setE_k,Zc,Zd,Zl,Zm,Zi,Zw,Zu,Zj,Z1,Zx,Zy,ZJ,ZI,ZH,ZD,ZE,splice,fillI,Nat.reduceLeDiff,strA,ZK,ZA,Ze,bq_ft,bq_tf,ZG,ZF,ZQ,Zv,Zz,isNilA,nilPtr,nilSl,nilIf,nilFn,nilMap,nilCheckA,if_true,if_false,lt_lit,le_lit,lt_lit2,le_lit2,le_sub1,le_sub2]; rfl
    apply evI_seq
    · simp only [pcR,IC.nb,IC.hd,I13,rdr,l5,hbq,q3,Zs,Zr,Zp,Za,Zb,evI,opsI,stepI,wantI,opI,AAct.evI,look,AAct.put,mkVal,mkVM,intOpA,intA,shiftA,unA,ZP,ZO,Zh,Zt,reduceIte,Nat.reduceEqDiff,Nat.reduceLT,Zo,Zq,true_and,and_true,and_self,ZB,cellsAt,Zg,ZC,Zf,Zk,ZL,ZM,Nat.reduceAdd,Nat.reduceMul,ZN,AV.cells,AV.one,known,Zn,getE_0,getE_k,setE_0,setE_k,Zc,Zd,Zl,Zm,Zi,Zw,Zu,Zj,Z1,Zx,Zy,ZJ,ZI,ZH,ZD,ZE,splice,fillI,Nat.reduceLeDiff,strA,ZK,ZA,Ze,bq_ft,bq_tf,ZG,ZF,ZQ,Zv,Zz,isNilA,nilPtr,nilSl,nilIf,nilFn,nilMap,nilCheckA,if_true,if_false,lt_lit,le_lit,lt_lit2,le_lit2,le_sub1,le_sub2,drawI,drawI2,drawI0,drawI20,lexD,valD,valI,putD,okD,roD,memAt,lastM,wantI,eqv_refl,eqM_refl,eqM_app,eqB,eqvL,eqv,List.getLast?_cons_cons,List.getLast?_singleton,Option.getD_some,Bool.or_true,Bool.true_or,ZA,resvV]; rfl
    apply evI_seq
    · simp only [pcR,IC.nb,IC.hd,I13,l2,l3,Zs,Zr,Zp,Za,Zb,evI,opsI,stepI,wantI,opI,AAct.evI,look,AAct.put,mkVal,mkVM,intOpA,intA,shiftA,unA,ZP,ZO,Zh,Zt,reduceIte,Nat.reduceEqDiff,Nat.reduceLT,Zo,Zq,true_and,and_true,and_self,ZB,cellsAt,Zg,ZC,Zf,Zk,ZL,ZM,Nat.reduceAdd,Nat.reduceMul,ZN,AV.cells,AV.one,known,Zn,getE_0,getE_k,setE_0,setE_k,Zc,Zd,Zl,Zm,Zi,Zw,Zu,Zj,Z1,Zx,Zy,ZJ,ZI,ZH,ZD,ZE,splice,fillI,Nat.reduceLeDiff,strA,ZK,ZA,Ze,bq_ft,bq_tf,ZG,ZF,ZQ,Zv,Zz,isNilA,nilPtr,nilSl,nilIf,nilFn,nilMap,nilCheckA,if_true,if_false,lt_lit,le_lit,lt_lit2,le_lit2,le_sub1,le_sub2]; rfl
    rfl
  case hd => rfl
  case hz =>
    have hk : (cfg ml).keep 13 = false := rfl
    have hmax : max 2 14 = 14 := rfl
    simp only [hmax,takeE_0,takeS,eqM_refl,tailI,defI,hT,I29,I13,resI,resLI,Option.getD_none,Zf,Zk,idx,hk,l2,l3,List.isEmpty_nil,finish,frz,frzL,low,lowL,hac',hkc',mayCut,Zs,Zr,Zp,Za,Zb,evI,opsI,stepI,wantI,opI,AAct.evI,look,AAct.put,mkVal,mkVM,intOpA,intA,shiftA,unA,ZP,ZO,Zh,Zt,reduceIte,Nat.reduceEqDiff,Nat.reduceLT,Zo,Zq,true_and,and_true,and_self,ZB,cellsAt,Zg,ZC,Zf,Zk,ZL,ZM,Nat.reduceAdd,Nat.reduceMul,ZN,AV.cells,AV.one,known,Zn,getE_0,getE_k,setE_0,setE_k,Zc,Zd,Zl,Zm,Zi,Zw,Zu,Zj,Z1,Zx,Zy,ZJ,ZI,ZH,ZD,ZE,splice,fillI,Nat.reduceLeDiff,strA,ZK,ZA,Ze,bq_ft,bq_tf,ZG,ZF,ZQ,Zv,Zz,isNilA,nilPtr,nilSl,nilIf,nilFn,nilMap,nilCheckA,if_true,if_false,lt_lit,le_lit,lt_lit2,le_lit2,le_sub1,le_sub2]
    rfl
theorem read_pan (hn : 4 ≤ n) (er : Int) (hE : ∀ A : Mem, LoM A [scope1 nsX] → ∃ M, evFI Tryz.prog (cfg ml) T N n 38 [.ptr A.length 0 0, .map (A.length + 1), .int .i64 0] (A ++ rdr x at1 0 :: [scope1 nsX]) = some (.pan (failv er), M) ∧ M.take A.length = A) (hlo : lowM H.length H = true) :
    evFI Tryz.prog (cfg ml) T N (n + 1) 13 [.slc q 0 x.length 1 0] H = some (.ret (.tup [.agg [.str [], .str [], .str [], .lst 0 [], .lst 0 []], .int .i64 er]), H) := by
  obtain ⟨t, l2, l3, l5, hpre⟩ := read_pre (ml := ml) x hs hN hp n q ty H hq hx1 hx2 at1 hM1 hn
  have hlA : LoM (H ++ [r27 [] [], rowE 0]) [scope1 nsX] := by
    refine ⟨?_, rfl⟩
    unfold lowM at *
    rw [List.all_append, List.all_eq_true.2 fun y hy => lowB_mono (by simp; omega) (List.all_eq_true.1 hlo y hy)]
    rfl
  obtain ⟨M, q1, hMA⟩ := hE (H ++ [r27 [] [], rowE 0]) hlA
  have hM : M = H ++ r27 [] [] :: rowE 0 :: M.drop (H.length + 2) := by
    have h := List.take_append_drop (H ++ [r27 [] [], rowE 0]).length M
    rw [hMA] at h
    rw [← h]
    simp
  generalize M.drop (H.length + 2) = L at hM
  subst hM
  simp only [nsX,Zg,Zf,Zk,ZL,ZK,Nat.reduceAdd,Zn,Zp,Zr] at q1
  have hT : T 29 = some I29 := t29
  refine evF_panD (m := 51) (v := failv er) (a := ?aa) (H1 := H ++ r27 [] [] :: rowE 0 :: L) rfl t13 rfl ?hb ?hd ?hz
  case hb =>
    refine hpre.trans ?_
    apply evI_seq_pan
    simp only [pcR,IC.nb,IC.hd,I13,l2,l5,updateD,findA,isKey,mkM,q1,Zs,Zr,Zp,Za,Zb,evI,opsI,stepI,wantI,opI,AAct.evI,look,AAct.put,mkVal,mkVM,intOpA,intA,shiftA,unA,ZP,ZO,Zh,Zt,reduceIte,Nat.reduceEqDiff,Nat.reduceLT,Zo,Zq,true_and,and_true,and_self,ZB,cellsAt,Zg,ZC,Zf,Zk,ZL,ZM,Nat.reduceAdd,Nat.reduceMul,ZN,AV.cells,AV.one,known,Zn,getE_0,getE_k,setE_0,setE_k,Zc,Zd,Zl,Zm,Zi,Zw,Zu,Zj,Z1,Zx,Zy,ZJ,ZI,ZH,ZD,ZE,splice,fillI,Nat.reduceLeDiff,strA,ZK,ZA,Ze,bq_ft,bq_tf,ZG,ZF,ZQ,Zv,Zz,isNilA,nilPtr,nilSl,nilIf,nilFn,nilMap,nilCheckA,if_true,if_false,lt_lit,le_lit,lt_lit2,le_lit2,le_sub1,le_sub2]; rfl
  case hd => rfl
  case hz =>
    have hk : (cfg ml).keep 13 = false := rfl
    have hmax : max 2 14 = 14 := rfl
    have e55 : (55 = 55) = True := by simp
    simp only [hmax,failv,assertD,e55,takeE_0,takeS,eqM_refl,tailI,defI,hT,I29,I13,resI,resLI,Option.getD_some,Zf,Zk,idx,hk,l2,l3,List.isEmpty_nil,finish,frz,frzL,low,lowL,mayCut,Zs,Zr,Zp,Za,Zb,evI,opsI,stepI,wantI,opI,AAct.evI,look,AAct.put,mkVal,mkVM,intOpA,intA,shiftA,unA,ZP,ZO,Zh,Zt,reduceIte,Nat.reduceEqDiff,Nat.reduceLT,Zo,Zq,true_and,and_true,and_self,ZB,cellsAt,Zg,ZC,Zf,Zk,ZL,ZM,Nat.reduceAdd,Nat.reduceMul,ZN,AV.cells,AV.one,known,Zn,getE_0,getE_k,setE_0,setE_k,Zc,Zd,Zl,Zm,Zi,Zw,Zu,Zj,Z1,Zx,Zy,ZJ,ZI,ZH,ZD,ZE,splice,fillI,Nat.reduceLeDiff,strA,ZK,ZA,Ze,bq_ft,bq_tf,ZG,ZF,ZQ,Zv,Zz,isNilA,nilPtr,nilSl,nilIf,nilFn,nilMap,nilCheckA,if_true,if_false,lt_lit,le_lit,lt_lit2,le_lit2,le_sub1,le_sub2,drawI,drawI2,drawI0,drawI20,lexD,valD,valI,putD,okD,roD,memAt,lastM,wantI,eqv_refl,eqM_refl,eqM_app,eqB,eqvL,eqv,List.getLast?_cons_cons,List.getLast?_singleton,Option.getD_some,Bool.or_true,Bool.true_or,ZA,resvV]
end
theorem known_ok (P : Program) (N d : Nat) (hd : 1 ≤ d) (H : Mem) : evFI P (cfg ml) T N d 17 [] H = some (.ret (.bool true), H) := by
  obtain ⟨n, rfl⟩ : ∃ k, d = k + 1 := ⟨d - 1, by omega⟩
  have hl : (cfg ml).lib 17 = some trueLib := rfl
  simp only [evFI,hl,trueLib,Zh]
theorem ofBytes_low (n : Nat) : ∀ s : List UInt8, lowL n (ofBytes s) = true
  | [] => rfl
  | b :: s => by
    have ih := ofBytes_low n s
    unfold ofBytes at *
    simp only [Zv,lowL,low,ZH,ih]
theorem bytes_row (x : List UInt8) (ty : Nat) : lowM [Blk.row (ofBytes x) 0 ty].length [Blk.row (ofBytes x) 0 ty] = true := by
  unfold lowM
  simp only [Zx,Zy,lowB,ofBytes_low,ZJ]
theorem op_c7 : (opAt Tryz.f105 7).op = .convert 102 147 (.tmp 8) := by kernel_rfl
theorem op_c9 : (opAt Tryz.f105 9).op = .convert 147 102 (.tmp 10) := by kernel_rfl
theorem op_s5 : (opAt Tryz.f85 5).op = .call ⟨.builtin .unsafeSliceData, #[.tmp 6], #[22]⟩ := by kernel_rfl
theorem op_s11 : (opAt Tryz.f85 11).op = .call ⟨.builtin .unsafeString, #[.tmp 7, .tmp 12], #[128, 3]⟩ := by kernel_rfl
theorem und_up : Tryz.prog.underlying 147 = some .unsafePointer := by kernel_rfl
theorem und_bp : Tryz.prog.underlying 102 = some (.pointer 104) := by kernel_rfl
theorem und_pu : Tryz.prog.underlying 128 = some (.pointer 5) := by kernel_rfl
theorem lies_b : liesAt Tryz.prog Tryz.prog.depth 104 (2 / Tryz.prog.cellsOf 104) 0 104 1 = true := by kernel_rfl
theorem info_b : ((Tryz.prog.info? 104).map fun j => decide (j.size ≠ 0)) = some true := by kernel_rfl
theorem info_b2 : (Tryz.prog.info? 104).isSome = true := by kernel_rfl
theorem cells_u8 : Tryz.prog.cellsOf 5 = 1 := by kernel_rfl
theorem exec_c7 {ρ : Operand → AV} {H : Mem} {β : Nat} {x y : AV} (hρ : ρ (.tmp 8) = .ptr β 0 0) (hH : H[β]? = some (.row [x, y] 0 (104 + 1))) : exec1 Tryz.prog ρ (opAt Tryz.f105 7) H = some (.val (.ptr β 0 0) H) := by
  unfold exec1
  rw [op_c7]
  simp only [hρ,convA,und_bp,und_up,hH,info_b,mkVM,Zf,Zk,ZB,and_self,if_true,Zh]
theorem exec_c9 {ρ : Operand → AV} {H : Mem} {β : Nat} {x y : AV} (hρ : ρ (.tmp 10) = .ptr β 0 0) (hH : H[β]? = some (.row [x, y] 0 (104 + 1))) : exec1 Tryz.prog ρ (opAt Tryz.f105 9) H = some (.val (.ptr β 0 0) H) := by
  unfold exec1
  rw [op_c9]
  simp only [hρ,convA,und_bp,und_up,hH,info_b2,lies_b,mkVM,Zf,Zk,ZL,Nat.reduceAdd,and_self,if_true,Zh]
theorem exec_s5 {ρ : Operand → AV} {H : Mem} {q off len sz st : Nat} (hρ : ρ (.tmp 6) = .slc q off len sz st) (hl : 0 < len) : exec1 Tryz.prog ρ (opAt Tryz.f85 5) H = some (.val (.ptr q off st) H) := by
  unfold exec1
  rw [op_s5]
  simp only [builtinA,hρ,sliceDataA,hl,mkVal,if_true,Zh,Zv,Zz]
theorem exec_s11 {ρ : Operand → AV} {H : Mem} {q st : Nat} {cs : List AV} {s : List UInt8} (hρ : ρ (.tmp 7) = .ptr q 0 st) (hρ2 : ρ (.tmp 12) = .int .i64 (s.length : Int)) (hH : H[q]? = some (.row cs st (5 + 1))) (hcs : cs = ofBytes s) (hs : 0 < s.length) (hs2 : s.length < 1000000) : exec1 Tryz.prog ρ (opAt Tryz.f85 11) H = some (.val (.str s) (H.set q (.row [] (st + 1) 0))) := by
  have hl : cs.length = s.length := by rw [hcs]; simp [ofBytes]
  have htk : cs.take s.length = ofBytes s := by rw [← hl, List.take_length, hcs]
  have h0 : (0 : Int) < (s.length : Int) := by omega
  have h1 : (s.length : Int).toNat ≤ cs.length := by omega
  have h2 : (s.length : Int) < 2 ^ 60 := by omega
  have h3 : s.length ≤ cs.length := by omega
  unfold exec1
  rw [op_s11]
  simp only [builtinA,hρ,hρ2,unsafeStrA,hH,und_pu,cells_u8,h0,h1,h2,h3,true_and,and_true,Int.toNat_natCast,htk,toBytes_of,mkVM,and_self,if_true,Zh,Zv,Zz]
theorem fin_keep {keep : Bool} {v : AV} {H0 H1 : Mem} {b : Blk} (hf : (if keep then some v else frz H0.length H1 12 v) = some v) (hb : b ∈ H1.take H0.length) (hl : lowB H0.length b = false) (hn : H1.take H0.length ≠ H0) : finish keep H0 v H1 = (v, H1) := by
  have h1 : lowM H0.length (H1.take H0.length) = false := by
    cases h : lowM H0.length (H1.take H0.length) with
    | false => rfl
    | true =>
      unfold lowM at h
      rw [List.all_eq_true.1 h b hb] at hl; cases hl
  have h2 : eqM (H1.take H0.length) H0 = false := by
    cases h : eqM (H1.take H0.length) H0 with
    | false => rfl
    | true => exact absurd (eqM_eq h) hn
  unfold finish
  simp only [hf,mayCut,h1,h2,Bool.or_self,ZD,Ze,if_false]
section
variable {N : Nat}
theorem check_new (d : Nat) (hd : 1 ≤ d) (H : Mem) (β : Nat) (y : AV) (hH : H[β]? = some (.row [.nilP, y] 0 (104 + 1))) :
    evFI Tryz.prog (cfg ml) T N d 105 [.ptr β 0 0] H = some (.ret (.tup []), H.set β (.row [.ptr β 0 0, y] 0 (104 + 1))) := by
  obtain ⟨n, rfl⟩ : ∃ n, d = n + 1 := ⟨d - 1, by omega⟩
  have q7 : ∀ ρ : Operand → AV, ρ (.tmp 8) = .ptr β 0 0 → exec1 Tryz.prog ρ (opAt Tryz.f105 7) H = some (.val (.ptr β 0 0) H) := fun ρ h => exec_c7 h hH
  have q9 : ∀ ρ : Operand → AV, ρ (.tmp 10) = .ptr β 0 0 → exec1 Tryz.prog ρ (opAt Tryz.f105 9) H = some (.val (.ptr β 0 0) H) := fun ρ h => exec_c9 h hH
  have hlt : β < H.length := (List.getElem?_eq_some_iff.1 hH).1
  refine evF_nrm (m := 20) (v := .tup []) (a := ?aa) (H1 := H.set β (.row [.ptr β 0 0, y] 0 (104 + 1))) rfl t105 rfl ?hb ?hd ?hr ?hz
  case hb =>
    apply evI_seq
    · simp only [Zf,Zk,idx,I105,hH,Zs,Zr,Zp,Za,Zb,evI,opsI,stepI,wantI,opI,AAct.evI,look,AAct.put,mkVal,mkVM,intOpA,intA,shiftA,unA,ZP,ZO,Zh,Zt,reduceIte,Nat.reduceEqDiff,Nat.reduceLT,Zo,Zq,true_and,and_true,and_self,ZB,cellsAt,Zg,ZC,Zf,Zk,ZL,ZM,Nat.reduceAdd,Nat.reduceMul,ZN,AV.cells,AV.one,known,Zn,getE_0,getE_k,setE_0,setE_k,Zc,Zd,Zl,Zm,Zi,Zw,Zu,Zj,Z1,Zx,Zy,ZJ,ZI,ZH,ZD,ZE,splice,fillI,Nat.reduceLeDiff,strA,ZK,ZA,Ze,bq_ft,bq_tf,ZG,ZF,ZQ,Zv,Zz,isNilA,nilPtr,nilSl,nilIf,nilFn,nilMap,nilCheckA,if_true,if_false,lt_lit,le_lit,lt_lit2,le_lit2,le_sub1,le_sub2]; rfl
    apply evI_true rfl
    simp only [AAct.eval,q7,q9,hH,Zs,Zr,Zp,Za,Zb,evI,opsI,stepI,wantI,opI,AAct.evI,look,AAct.put,mkVal,mkVM,intOpA,intA,shiftA,unA,ZP,ZO,Zh,Zt,reduceIte,Nat.reduceEqDiff,Nat.reduceLT,Zo,Zq,true_and,and_true,and_self,ZB,cellsAt,Zg,ZC,Zf,Zk,ZL,ZM,Nat.reduceAdd,Nat.reduceMul,ZN,AV.cells,AV.one,known,Zn,getE_0,getE_k,setE_0,setE_k,Zc,Zd,Zl,Zm,Zi,Zw,Zu,Zj,Z1,Zx,Zy,ZJ,ZI,ZH,ZD,ZE,splice,fillI,Nat.reduceLeDiff,strA,ZK,ZA,Ze,bq_ft,bq_tf,ZG,ZF,ZQ,Zv,Zz,isNilA,nilPtr,nilSl,nilIf,nilFn,nilMap,nilCheckA,if_true,if_false,lt_lit,le_lit,lt_lit2,le_lit2,le_sub1,le_sub2]; rfl
  case hd => rfl
  case hr => simp only [I105,resI,resLI,look,reduceIte,Nat.reduceEqDiff,Zh]
  case hz => exact fin_len rfl (by simp)
theorem byte_new (d : Nat) (hd : 2 ≤ d) (H : Mem) (β : Nat) (hH : H[β]? = some (.row [.nilP, .nilS] 0 (104 + 1))) (c : UInt8) :
    evFI Tryz.prog (cfg ml) T N d 89 [.ptr β 0 0, .int .u8 c.toNat] H = some (.ret .nilI, H.set β (.row [.ptr β 0 0, .slc (H.length + 1) 0 1 1 0] 0 (104 + 1)) ++ [.row [.int .u8 c.toNat] 0 (5 + 1), .row [.int .u8 c.toNat] 0 (5 + 1)]) := by
  obtain ⟨n, rfl⟩ : ∃ n, d = n + 2 := ⟨d - 2, by omega⟩
  have q1 := check_new (N := N) (ml := ml) (n + 1) (by omega) H β .nilS hH
  have hlt : β < H.length := (List.getElem?_eq_some_iff.1 hH).1
  have g1 : ∀ L : Mem, ∀ b, (H.set β b ++ L)[β]? = some b := fun L b => by rw [List.getElem?_append_left (by simp; exact hlt), List.getElem?_set_self hlt]
  have g2 : ∀ L : Mem, ∀ b b', (H.set β b ++ L).set β b' = H.set β b' ++ L := fun L b b' => by rw [List.set_append_left _ _ (by simp; exact hlt), List.set_set]
  have g3 : ∀ b, (H.set β b)[β]? = some b := fun b => List.getElem?_set_self hlt
  have g4 : ∀ L : Mem, ∀ b, (H.set β b ++ L)[H.length]? = L[0]? := fun L b => by rw [List.getElem?_append_right (by simp)]; simp
  have g5 : ∀ b, (H.set β b).length = H.length := fun b => List.length_set
  have hp34 : (1 : Nat) ≤ 2 ^ 34 := by decide
  refine evF_ret (m := 17) (v := .nilI) (a := ?aa) (H1 := H.set β (.row [.ptr β 0 0, .slc (H.length + 1) 0 1 1 0] 0 (104 + 1)) ++ [.row [.int .u8 c.toNat] 0 (5 + 1), .row [.int .u8 c.toNat] 0 (5 + 1)]) rfl t89 rfl ?hb ?hd ?hr ?hz
  case hb =>
    apply evI_seq
    · simp only [Zf,Zk,idx,I89,Zs,Zr,Zp,Za,Zb,evI,opsI,stepI,wantI,opI,AAct.evI,look,AAct.put,mkVal,mkVM,intOpA,intA,shiftA,unA,ZP,ZO,Zh,Zt,reduceIte,Nat.reduceEqDiff,Nat.reduceLT,Zo,Zq,true_and,and_true,and_self,ZB,cellsAt,Zg,ZC,Zf,Zk,ZL,ZM,Nat.reduceAdd,Nat.reduceMul,ZN,AV.cells,AV.one,known,Zn,getE_0,getE_k,setE_0,setE_k,Zc,Zd,Zl,Zm,Zi,Zw,Zu,Zj,Z1,Zx,Zy,ZJ,ZI,ZH,ZD,ZE,splice,fillI,Nat.reduceLeDiff,strA,ZK,ZA,Ze,bq_ft,bq_tf,ZG,ZF,ZQ,Zv,Zz,isNilA,nilPtr,nilSl,nilIf,nilFn,nilMap,nilCheckA,if_true,if_false,lt_lit,le_lit,lt_lit2,le_lit2,le_sub1,le_sub2]; rfl
    apply evI_seq
    · simp only [q1,Zs,Zr,Zp,Za,Zb,evI,opsI,stepI,wantI,opI,AAct.evI,look,AAct.put,mkVal,mkVM,intOpA,intA,shiftA,unA,ZP,ZO,Zh,Zt,reduceIte,Nat.reduceEqDiff,Nat.reduceLT,Zo,Zq,true_and,and_true,and_self,ZB,cellsAt,Zg,ZC,Zf,Zk,ZL,ZM,Nat.reduceAdd,Nat.reduceMul,ZN,AV.cells,AV.one,known,Zn,getE_0,getE_k,setE_0,setE_k,Zc,Zd,Zl,Zm,Zi,Zw,Zu,Zj,Z1,Zx,Zy,ZJ,ZI,ZH,ZD,ZE,splice,fillI,Nat.reduceLeDiff,strA,ZK,ZA,Ze,bq_ft,bq_tf,ZG,ZF,ZQ,Zv,Zz,isNilA,nilPtr,nilSl,nilIf,nilFn,nilMap,nilCheckA,if_true,if_false,lt_lit,le_lit,lt_lit2,le_lit2,le_sub1,le_sub2]; rfl
    apply evI_seq
    · simp only [g1,g2,g3,g4,g5,srcA,held,app2,hp34,Zs,Zr,Zp,Za,Zb,evI,opsI,stepI,wantI,opI,AAct.evI,look,AAct.put,mkVal,mkVM,intOpA,intA,shiftA,unA,ZP,ZO,Zh,Zt,reduceIte,Nat.reduceEqDiff,Nat.reduceLT,Zo,Zq,true_and,and_true,and_self,ZB,cellsAt,Zg,ZC,Zf,Zk,ZL,ZM,Nat.reduceAdd,Nat.reduceMul,ZN,AV.cells,AV.one,known,Zn,getE_0,getE_k,setE_0,setE_k,Zc,Zd,Zl,Zm,Zi,Zw,Zu,Zj,Z1,Zx,Zy,ZJ,ZI,ZH,ZD,ZE,splice,fillI,Nat.reduceLeDiff,strA,ZK,ZA,Ze,bq_ft,bq_tf,ZG,ZF,ZQ,Zv,Zz,isNilA,nilPtr,nilSl,nilIf,nilFn,nilMap,nilCheckA,if_true,if_false,lt_lit,le_lit,lt_lit2,le_lit2,le_sub1,le_sub2]; rfl
    apply evI_seq
    · simp only [Zs,Zr,Zp,Za,Zb,evI,opsI,stepI,wantI,opI,AAct.evI,look,AAct.put,mkVal,mkVM,intOpA,intA,shiftA,unA,ZP,ZO,Zh,Zt,reduceIte,Nat.reduceEqDiff,Nat.reduceLT,Zo,Zq,true_and,and_true,and_self,ZB,cellsAt,Zg,ZC,Zf,Zk,ZL,ZM,Nat.reduceAdd,Nat.reduceMul,ZN,AV.cells,AV.one,known,Zn,getE_0,getE_k,setE_0,setE_k,Zc,Zd,Zl,Zm,Zi,Zw,Zu,Zj,Z1,Zx,Zy,ZJ,ZI,ZH,ZD,ZE,splice,fillI,Nat.reduceLeDiff,strA,ZK,ZA,Ze,bq_ft,bq_tf,ZG,ZF,ZQ,Zv,Zz,isNilA,nilPtr,nilSl,nilIf,nilFn,nilMap,nilCheckA,if_true,if_false,lt_lit,le_lit,lt_lit2,le_lit2,le_sub1,le_sub2]; rfl
    rfl
  case hd => rfl
  case hr => simp only [I89,resI,resLI,look,reduceIte,Nat.reduceEqDiff,Zh]
  case hz =>
    have ht : (H.set β (Blk.row [.ptr β 0 0, .slc (H.length + 1) 0 1 1 0] 0 (104 + 1)) ++ [Blk.row [.int .u8 c.toNat] 0 (5 + 1), Blk.row [.int .u8 c.toNat] 0 (5 + 1)]).take H.length = H.set β (.row [.ptr β 0 0, .slc (H.length + 1) 0 1 1 0] 0 (104 + 1)) := List.take_left' (by simp)
    refine fin_keep (b := .row [.ptr β 0 0, .slc (H.length + 1) 0 1 1 0] 0 (104 + 1)) rfl ?_ ?_ ?_
    · rw [ht]; exact List.mem_of_getElem? (g3 _)
    · have h1 : decide (H.length + 1 < H.length) = false := decide_eq_false (by omega)
      simp only [lowB,lowL,low,h1,ZD,ZE]
    · rw [ht]
      intro h
      have h1 := congrArg (fun M : Mem => M[β]?) h
      simp only [g3,hH] at h1
      simp at h1
theorem str_one (d : Nat) (hd : 1 ≤ d) (H : Mem) (β q st : Nat) (x : AV) (hH : H[β]? = some (.row [x, .slc q 0 1 1 st] 0 (104 + 1))) (c : UInt8) (hq : H[q]? = some (.row [.int .u8 c.toNat] st (5 + 1))) (hne : β ≠ q) :
    evFI Tryz.prog (cfg ml) T N d 85 [.ptr β 0 0] H = some (.ret (.str [c]), H.set q (.row [] (st + 1) 0)) := by
  obtain ⟨n, rfl⟩ : ∃ n, d = n + 1 := ⟨d - 1, by omega⟩
  have q5 : ∀ (ρ : Operand → AV) (M : Mem), ρ (.tmp 6) = .slc q 0 1 1 st → exec1 Tryz.prog ρ (opAt Tryz.f85 5) M = some (.val (.ptr q 0 st) M) := fun ρ M h => exec_s5 h (by decide)
  have q11 : ∀ (ρ : Operand → AV), ρ (.tmp 7) = .ptr q 0 st → ρ (.tmp 12) = .int .i64 ((1 : Nat) : Int) → exec1 Tryz.prog ρ (opAt Tryz.f85 11) H = some (.val (.str [c]) (H.set q (.row [] (st + 1) 0))) := fun ρ h1 h2 => exec_s11 (s := [c]) h1 h2 hq rfl (by simp) (by simp)
  have g1 : ∀ b, (H.set q b)[β]? = H[β]? := fun b => List.getElem?_set_ne (fun h => hne h.symm)
  refine evF_ret (m := 14) (v := .str [c]) (a := ?aa) (H1 := H.set q (.row [] (st + 1) 0)) rfl t85 rfl ?hb ?hd ?hr ?hz
  case hb =>
    apply evI_seq
    · simp only [Zf,Zk,idx,I85,Zs,Zr,Zp,Za,Zb,evI,opsI,stepI,wantI,opI,AAct.evI,look,AAct.put,mkVal,mkVM,intOpA,intA,shiftA,unA,ZP,ZO,Zh,Zt,reduceIte,Nat.reduceEqDiff,Nat.reduceLT,Zo,Zq,true_and,and_true,and_self,ZB,cellsAt,Zg,ZC,Zf,Zk,ZL,ZM,Nat.reduceAdd,Nat.reduceMul,ZN,AV.cells,AV.one,known,Zn,getE_0,getE_k,setE_0,setE_k,Zc,Zd,Zl,Zm,Zi,Zw,Zu,Zj,Z1,Zx,Zy,ZJ,ZI,ZH,ZD,ZE,splice,fillI,Nat.reduceLeDiff,strA,ZK,ZA,Ze,bq_ft,bq_tf,ZG,ZF,ZQ,Zv,Zz,isNilA,nilPtr,nilSl,nilIf,nilFn,nilMap,nilCheckA,if_true,if_false,lt_lit,le_lit,lt_lit2,le_lit2,le_sub1,le_sub2]; rfl
    apply evI_seq
    · simp only [AAct.eval,q5,q11,hH,g1,Zx,Zy,Zs,Zr,Zp,Za,Zb,evI,opsI,stepI,wantI,opI,AAct.evI,look,AAct.put,mkVal,mkVM,intOpA,intA,shiftA,unA,ZP,ZO,Zh,Zt,reduceIte,Nat.reduceEqDiff,Nat.reduceLT,Zo,Zq,true_and,and_true,and_self,ZB,cellsAt,Zg,ZC,Zf,Zk,ZL,ZM,Nat.reduceAdd,Nat.reduceMul,ZN,AV.cells,AV.one,known,Zn,getE_0,getE_k,setE_0,setE_k,Zc,Zd,Zl,Zm,Zi,Zw,Zu,Zj,Z1,Zx,Zy,ZJ,ZI,ZH,ZD,ZE,splice,fillI,Nat.reduceLeDiff,strA,ZK,ZA,Ze,bq_ft,bq_tf,ZG,ZF,ZQ,Zv,Zz,isNilA,nilPtr,nilSl,nilIf,nilFn,nilMap,nilCheckA,if_true,if_false,lt_lit,le_lit,lt_lit2,le_lit2,le_sub1,le_sub2,drawI,drawI2,drawI0,drawI20,lexD,valD,valI,putD,okD,roD,memAt,lastM,wantI,eqv_refl,eqM_refl,eqM_app,eqB,eqvL,eqv,List.getLast?_cons_cons,List.getLast?_singleton,Option.getD_some,Bool.or_true,Bool.true_or,ZA,resvV]; rfl
    rfl
  case hd => rfl
  case hr => simp only [I85,resI,resLI,look,reduceIte,Nat.reduceEqDiff,Zh]
  case hz => exact fin_len rfl (by simp)
end
end Go.Proofs.YtmnajffpmbidiaaGreatDoor.Ev
