/- Parts of one proof. -/
import Derived.Test.YtmnajffpmbidiaaGreatDoorMdc
import Derived.Lib.DecodeN
import Derived.Lib.ValidLaws
set_option linter.all false
namespace Go.Proofs.YtmnajffpmbidiaaGreatDoor.Ev
variable {ml : Int}
open Go.Proofs.YtmnajffpmbidiaaGreatDoor.Ic
set_option maxRecDepth 100000
set_option maxHeartbeats 2000000
def rdr (s : List UInt8) (at_ many : Nat) : Blk := .row [.str s, .int .i64 (at_ : Nat), .int .i64 (many : Nat)] 0 (61 + 1)
def failv (e : Int) : AV := .iface 55 (.agg [.int .i64 e])
def hasP (t p : List UInt8) : Bool := decide (p.length ≤ t.length) && (t.take p.length == p)
section
variable {P : Program} {g : Cfg} {F : FSem} {N : Nat} {x y c : IC} {a a' : AAct} {H H' : Mem} {v : AV} {id : Nat}
theorem evI_seq_pan (h : evI P g F N x a H = some (.pan v, a', H')) : evI P g F N (.seq x y) a H = some (.pan v, a', H') := by simp only [evI,h]
theorem evI_block_pan (h : evI P g F N c a H = some (.pan v, a', H')) : evI P g F N (.block id c) a H = some (.pan v, a', H') := by simp only [evI,h]
theorem loopA_pan {body : AAct → Mem → Option (Out × AAct × Mem)} {lv : Option (List Tmp)} {n : Nat} (h : body a H = some (.pan v, a', H')) : loopA body lv (n + 1) a H = some (.pan v, a', H') := by
  rw [loopA_succ, h]
end
section
variable {P : Program} {g : Cfg} {T : FuncId → Option IF} {N n f m : Nat} {i : IF} {args : List AV} {H H1 H2 : Mem} {a : AAct} {v v' : AV}
theorem evF_pan (hl : g.lib f = none) (hT : T f = some i) (hm : max args.length i.n = m) (hb : evI P g (evFI P g T N n) N i.c ⟨m, idx 0 args, []⟩ H = some (.pan v, a, H1)) (hd : a.d = []) (hz : finish false H v H1 = (v', H2)) :
    evFI P g T N (n + 1) f args H = some (.pan v', H2) := by
  simp only [evFI,hl,hT,hm,hb,hd,List.isEmpty_nil,if_true,hz]
theorem fin_fail (e : Int) {A H0 H1 : Mem} (hA : H1.take A.length = A) (hle : A.length ≤ H0.length) : ∃ M, finish false H0 (failv e) H1 = (failv e, M) ∧ M.take A.length = A := by
  have hf : frz H0.length H1 12 (failv e) = some (failv e) := rfl
  unfold finish
  simp only [Ze,if_false,hf]
  split
  · refine ⟨_, rfl, ?_⟩
    rw [List.take_take, Nat.min_eq_left hle, hA]
  · exact ⟨_, rfl, hA⟩
end
variable {P : Program} {N : Nat}
theorem must_t (d : Nat) (hd : 1 ≤ d) (e : Int) (H : Mem) : evFI P (cfg ml) T N d 31 [.bool true, .int .i64 e] H = some (.ret (.tup []), H) := by
  obtain ⟨n, rfl⟩ : ∃ n, d = n + 1 := ⟨d - 1, by omega⟩
  refine evF_nrm (m := 9) (v := .tup []) (a := ?aa) (H1 := ?Ha) rfl t31 rfl ?hb ?hd ?hr ?hz
  case hb => simp only [Zf,Zk,idx,I31,Zs,Zr,Zp,Za,Zb,evI,opsI,stepI,wantI,opI,AAct.evI,look,AAct.put,mkVal,mkVM,intOpA,intA,shiftA,unA,ZP,ZO,Zh,Zt,reduceIte,Nat.reduceEqDiff,Nat.reduceLT,Zo,Zq,true_and,and_true,and_self,ZB,cellsAt,Zg,ZC,Zf,Zk,ZL,ZM,Nat.reduceAdd,Nat.reduceMul,ZN,AV.cells,AV.one,known,Zn,getE_0,getE_k,setE_0,setE_k,Zc,Zd,Zl,Zm,Zi,Zw,Zu,Zj,Z1,Zx,Zy,ZJ,ZI,ZH,ZD,ZE,splice,fillI,Nat.reduceLeDiff,strA,ZK,ZA,Ze,bq_ft,bq_tf,ZG,ZF,ZQ,Zv,Zz,isNilA,nilPtr,nilSl,nilIf,nilFn,nilMap,nilCheckA,if_true,if_false,lt_lit,le_lit,lt_lit2,le_lit2,le_sub1,le_sub2]; rfl
  case hd => rfl
  case hr => simp only [I31,resI,resLI,look,reduceIte,Nat.reduceEqDiff,Zh]
  case hz => exact fin_len rfl rfl
theorem must_f (d : Nat) (hd : 1 ≤ d) (e : Int) (H : Mem) : evFI P (cfg ml) T N d 31 [.bool false, .int .i64 e] H = some (.pan (failv e), H) := by
  obtain ⟨n, rfl⟩ : ∃ n, d = n + 1 := ⟨d - 1, by omega⟩
  refine evF_pan (m := 9) (v := failv e) (a := ?aa) (H1 := ?Ha) rfl t31 rfl ?hb ?hd ?hz
  case hb => simp only [Zf,Zk,idx,I31,failv,Zs,Zr,Zp,Za,Zb,evI,opsI,stepI,wantI,opI,AAct.evI,look,AAct.put,mkVal,mkVM,intOpA,intA,shiftA,unA,ZP,ZO,Zh,Zt,reduceIte,Nat.reduceEqDiff,Nat.reduceLT,Zo,Zq,true_and,and_true,and_self,ZB,cellsAt,Zg,ZC,Zf,Zk,ZL,ZM,Nat.reduceAdd,Nat.reduceMul,ZN,AV.cells,AV.one,known,Zn,getE_0,getE_k,setE_0,setE_k,Zc,Zd,Zl,Zm,Zi,Zw,Zu,Zj,Z1,Zx,Zy,ZJ,ZI,ZH,ZD,ZE,splice,fillI,Nat.reduceLeDiff,strA,ZK,ZA,Ze,bq_ft,bq_tf,ZG,ZF,ZQ,Zv,Zz,isNilA,nilPtr,nilSl,nilIf,nilFn,nilMap,nilCheckA,if_true,if_false,lt_lit,le_lit,lt_lit2,le_lit2,le_sub1,le_sub2]; rfl
  case hd => rfl
  case hz => exact fin_len rfl rfl
theorem slHasPrefix_eq (d : Nat) (hd : 1 ≤ d) (x p : List UInt8) (H : Mem) : evFI P (cfg ml) T N d 55 [.str x, .str p] H = some (.ret (.bool (hasP x p)), H) := by
    obtain ⟨n, rfl⟩ : ∃ n, d = n + 1 := ⟨d - 1, by omega⟩
    have hn := natOf_nat p.length .i64
    have b0 : bound 0 none = some 0 := rfl
    cases hc : decide ((x.length : Int) ≥ (p.length : Int))
    · have e : hasP x p = false := by
        have := of_decide_eq_false hc
        unfold hasP
        rw [decide_eq_false (by omega)]; rfl
      rw [e]
      refine evF_ret (m := 18) (v := .bool false) (a := ?aa) (H1 := ?Ha) rfl t55 rfl ?hb ?hd ?hr ?hz
      case hb => simp only [Zf,Zk,idx,I55,hc,Zs,Zr,Zp,Za,Zb,evI,opsI,stepI,wantI,opI,AAct.evI,look,AAct.put,mkVal,mkVM,intOpA,intA,shiftA,unA,ZP,ZO,Zh,Zt,reduceIte,Nat.reduceEqDiff,Nat.reduceLT,Zo,Zq,true_and,and_true,and_self,ZB,cellsAt,Zg,ZC,Zf,Zk,ZL,ZM,Nat.reduceAdd,Nat.reduceMul,ZN,AV.cells,AV.one,known,Zn,getE_0,getE_k,setE_0,setE_k,Zc,Zd,Zl,Zm,Zi,Zw,Zu,Zj,Z1,Zx,Zy,ZJ,ZI,ZH,ZD,ZE,splice,fillI,Nat.reduceLeDiff,strA,ZK,ZA,Ze,bq_ft,bq_tf,ZG,ZF,ZQ,Zv,Zz,isNilA,nilPtr,nilSl,nilIf,nilFn,nilMap,nilCheckA,if_true,if_false,lt_lit,le_lit,lt_lit2,le_lit2,le_sub1,le_sub2]; rfl
      case hd => rfl
      case hr => simp only [I55,resI,resLI,look,reduceIte,Nat.reduceEqDiff,Zh]
      case hz => exact fin_len rfl rfl
    · have hle : p.length ≤ x.length := by have := of_decide_eq_true hc; omega
      have e : hasP x p = (x.take p.length == p) := by
        unfold hasP
        rw [decide_eq_true hle]; rfl
      rw [e]
      generalize hq : (x.take p.length == p) = q
      refine evF_ret (m := 18) (v := .bool q) (a := ?ab) (H1 := ?Hb) rfl t55 rfl ?hb ?hd ?hr ?hz
      case hb => simp only [Zf,Zk,idx,I55,hc,bound,hn,hle,Nat.zero_le,Nat.sub_zero,hq,Zs,Zr,Zp,Za,Zb,evI,opsI,stepI,wantI,opI,AAct.evI,look,AAct.put,mkVal,mkVM,intOpA,intA,shiftA,unA,ZP,ZO,Zh,Zt,reduceIte,Nat.reduceEqDiff,Nat.reduceLT,Zo,Zq,true_and,and_true,and_self,ZB,cellsAt,Zg,ZC,Zf,Zk,ZL,ZM,Nat.reduceAdd,Nat.reduceMul,ZN,AV.cells,AV.one,known,Zn,getE_0,getE_k,setE_0,setE_k,Zc,Zd,Zl,Zm,Zi,Zw,Zu,Zj,Z1,Zx,Zy,ZJ,ZI,ZH,ZD,ZE,splice,fillI,Nat.reduceLeDiff,strA,ZK,ZA,Ze,bq_ft,bq_tf,ZG,ZF,ZQ,Zv,Zz,isNilA,nilPtr,nilSl,nilIf,nilFn,nilMap,nilCheckA,if_true,if_false,lt_lit,le_lit,lt_lit2,le_lit2,le_sub1,le_sub2]; rfl
      case hd => rfl
      case hr => simp only [I55,resI,resLI,look,reduceIte,Nat.reduceEqDiff,Zh]
      case hz => exact fin_len rfl rfl
theorem hasPrefix_eq (d : Nat) (hd : 2 ≤ d) (x p : List UInt8) (H : Mem) : evFI P (cfg ml) T N d 33 [.str x, .str p] H = some (.ret (.bool (hasP x p)), H) := by
  obtain ⟨n, rfl⟩ : ∃ n, d = n + 2 := ⟨d - 2, by omega⟩
  have h1 := slHasPrefix_eq (P := P) (N := N) (ml := ml) (n + 1) (by omega) x p H
  generalize hasP x p = q at *
  refine evF_ret (m := 8) (v := .bool q) (a := ?ac) (H1 := ?Hc) rfl t33 rfl ?hb ?hd ?hr ?hz
  case hb => simp only [Zf,Zk,idx,I33,h1,Zs,Zr,Zp,Za,Zb,evI,opsI,stepI,wantI,opI,AAct.evI,look,AAct.put,mkVal,mkVM,intOpA,intA,shiftA,unA,ZP,ZO,Zh,Zt,reduceIte,Nat.reduceEqDiff,Nat.reduceLT,Zo,Zq,true_and,and_true,and_self,ZB,cellsAt,Zg,ZC,Zf,Zk,ZL,ZM,Nat.reduceAdd,Nat.reduceMul,ZN,AV.cells,AV.one,known,Zn,getE_0,getE_k,setE_0,setE_k,Zc,Zd,Zl,Zm,Zi,Zw,Zu,Zj,Z1,Zx,Zy,ZJ,ZI,ZH,ZD,ZE,splice,fillI,Nat.reduceLeDiff,strA,ZK,ZA,Ze,bq_ft,bq_tf,ZG,ZF,ZQ,Zv,Zz,isNilA,nilPtr,nilSl,nilIf,nilFn,nilMap,nilCheckA,if_true,if_false,lt_lit,le_lit,lt_lit2,le_lit2,le_sub1,le_sub2]; rfl
  case hd => rfl
  case hr => simp only [I33,resI,resLI,look,reduceIte,Nat.reduceEqDiff,Zh]
  case hz => exact fin_len rfl rfl
section
variable (s : List UInt8) (at_ many : Nat) (A B : Mem) (hs : s.length < 4294967281) (hat : at_ ≤ s.length)
include hat
theorem has_eq (d : Nat) (hd : 3 ≤ d) (p : List UInt8) : evFI P (cfg ml) T N d 62 [.ptr A.length 0 0, .str p] (A ++ rdr s at_ many :: B) = some (.ret (.bool (hasP (s.drop at_) p)), A ++ rdr s at_ many :: B) := by
  obtain ⟨n, rfl⟩ : ∃ n, d = n + 3 := ⟨d - 3, by omega⟩
  have hn := natOf_nat at_ .i64
  have htk : (s.drop at_).take (s.length - at_) = s.drop at_ := List.take_of_length_le (by rw [List.length_drop]; omega)
  have h1 := hasPrefix_eq (P := P) (ml := ml) (N := N) (n + 2) (by omega) (s.drop at_) p (A ++ rdr s at_ many :: B)
  generalize hasP (s.drop at_) p = q at *
  simp only [rdr] at h1
  refine evF_ret (m := 16) (v := .bool q) (a := ?aa) (H1 := ?Ha) rfl t62 rfl ?hb ?hd ?hr ?hz
  case hb => simp only [Zf,Zk,idx,I62,rdr,bound,hn,hat,htk,h1,Zs,Zr,Zp,Za,Zb,evI,opsI,stepI,wantI,opI,AAct.evI,look,AAct.put,mkVal,mkVM,intOpA,intA,shiftA,unA,ZP,ZO,Zh,Zt,reduceIte,Nat.reduceEqDiff,Nat.reduceLT,Zo,Zq,true_and,and_true,and_self,ZB,cellsAt,Zg,ZC,Zf,Zk,ZL,ZM,Nat.reduceAdd,Nat.reduceMul,ZN,AV.cells,AV.one,known,Zn,getE_0,getE_k,setE_0,setE_k,Zc,Zd,Zl,Zm,Zi,Zw,Zu,Zj,Z1,Zx,Zy,ZJ,ZI,ZH,ZD,ZE,splice,fillI,Nat.reduceLeDiff,strA,ZK,ZA,Ze,bq_ft,bq_tf,ZG,ZF,ZQ,Zv,Zz,isNilA,nilPtr,nilSl,nilIf,nilFn,nilMap,nilCheckA,if_true,if_false,lt_lit,le_lit,lt_lit2,le_lit2,le_sub1,le_sub2,drawI,drawI2,drawI0,drawI20,lexD,valD,valI,putD,okD,roD,memAt,lastM,wantI,eqv_refl,eqM_refl,eqM_app,eqB,eqvL,eqv,List.getLast?_cons_cons,List.getLast?_singleton,Option.getD_some,Bool.or_true,Bool.true_or,ZA,resvV]; rfl
  case hd => rfl
  case hr => simp only [I62,resI,resLI,look,reduceIte,Nat.reduceEqDiff,Zh]
  case hz => exact fin_len rfl rfl
theorem byteAt_in (d : Nat) (hd : 1 ≤ d) (k : Nat) (b : UInt8) (hk : s[at_ + k]? = some b) (hs : s.length < 4294967281) : evFI P (cfg ml) T N d 35 [.ptr A.length 0 0, .int .i64 k] (A ++ rdr s at_ many :: B) = some (.ret (.int .u8 b.toNat), A ++ rdr s at_ many :: B) := by
  obtain ⟨n, rfl⟩ : ∃ n, d = n + 1 := ⟨d - 1, by omega⟩
  have hlt : at_ + k < s.length := (List.getElem?_eq_some_iff.1 hk).1
  have hw : IntKind.wrap .i64 ((at_ : Int) + (k : Int)) = ((at_ + k : Nat) : Int) := by rw [wrap64] <;> omega
  have hc : decide (((at_ + k : Nat) : Int) ≥ (s.length : Int)) = false := decide_eq_false (by omega)
  have hn := natOf_nat (at_ + k) .i64
  refine evF_ret (m := 28) (v := .int .u8 b.toNat) (a := ?aa) (H1 := ?Ha) rfl t35 rfl ?hb ?hd ?hr ?hz
  case hb => simp only [Zf,Zk,idx,I35,rdr,hw,hc,hn,hk,Zs,Zr,Zp,Za,Zb,evI,opsI,stepI,wantI,opI,AAct.evI,look,AAct.put,mkVal,mkVM,intOpA,intA,shiftA,unA,ZP,ZO,Zh,Zt,reduceIte,Nat.reduceEqDiff,Nat.reduceLT,Zo,Zq,true_and,and_true,and_self,ZB,cellsAt,Zg,ZC,Zf,Zk,ZL,ZM,Nat.reduceAdd,Nat.reduceMul,ZN,AV.cells,AV.one,known,Zn,getE_0,getE_k,setE_0,setE_k,Zc,Zd,Zl,Zm,Zi,Zw,Zu,Zj,Z1,Zx,Zy,ZJ,ZI,ZH,ZD,ZE,splice,fillI,Nat.reduceLeDiff,strA,ZK,ZA,Ze,bq_ft,bq_tf,ZG,ZF,ZQ,Zv,Zz,isNilA,nilPtr,nilSl,nilIf,nilFn,nilMap,nilCheckA,if_true,if_false,lt_lit,le_lit,lt_lit2,le_lit2,le_sub1,le_sub2,drawI,drawI2,drawI0,drawI20,lexD,valD,valI,putD,okD,roD,memAt,lastM,wantI,eqv_refl,eqM_refl,eqM_app,eqB,eqvL,eqv,List.getLast?_cons_cons,List.getLast?_singleton,Option.getD_some,Bool.or_true,Bool.true_or,ZA,resvV]; rfl
  case hd => rfl
  case hr => simp only [I35,resI,resLI,look,reduceIte,Nat.reduceEqDiff,Zh]
  case hz => exact fin_len rfl rfl
include hs
theorem take_t (d : Nat) (hd : 4 ≤ d) (p : List UInt8) (hp : hasP (s.drop at_) p = true) : evFI P (cfg ml) T N d 59 [.ptr A.length 0 0, .str p] (A ++ rdr s at_ many :: B) = some (.ret (.bool true), A ++ rdr s (at_ + p.length) many :: B) := by
  obtain ⟨n, rfl⟩ : ∃ n, d = n + 4 := ⟨d - 4, by omega⟩
  have h1 := has_eq (P := P) (ml := ml) (N := N) s at_ many A B hat (n + 3) (by omega) p
  have hle : p.length ≤ (s.drop at_).length := by
    unfold hasP at hp
    exact of_decide_eq_true (Bool.and_eq_true _ _ |>.mp hp).1
  rw [List.length_drop] at hle
  have hw : IntKind.wrap .i64 ((at_ : Int) + (p.length : Int)) = ((at_ + p.length : Nat) : Int) := by rw [wrap64] <;> omega
  rw [hp] at h1
  simp only [rdr] at h1
  refine evF_ret (m := 20) (v := .bool true) (a := ?aa) (H1 := A ++ rdr s (at_ + p.length) many :: B) rfl t59 rfl ?hb ?hd ?hr ?hz
  case hb => simp only [Zf,Zk,idx,I59,rdr,h1,hw,Zs,Zr,Zp,Za,Zb,evI,opsI,stepI,wantI,opI,AAct.evI,look,AAct.put,mkVal,mkVM,intOpA,intA,shiftA,unA,ZP,ZO,Zh,Zt,reduceIte,Nat.reduceEqDiff,Nat.reduceLT,Zo,Zq,true_and,and_true,and_self,ZB,cellsAt,Zg,ZC,Zf,Zk,ZL,ZM,Nat.reduceAdd,Nat.reduceMul,ZN,AV.cells,AV.one,known,Zn,getE_0,getE_k,setE_0,setE_k,Zc,Zd,Zl,Zm,Zi,Zw,Zu,Zj,Z1,Zx,Zy,ZJ,ZI,ZH,ZD,ZE,splice,fillI,Nat.reduceLeDiff,strA,ZK,ZA,Ze,bq_ft,bq_tf,ZG,ZF,ZQ,Zv,Zz,isNilA,nilPtr,nilSl,nilIf,nilFn,nilMap,nilCheckA,if_true,if_false,lt_lit,le_lit,lt_lit2,le_lit2,le_sub1,le_sub2,drawI,drawI2,drawI0,drawI20,lexD,valD,valI,putD,okD,roD,memAt,lastM,wantI,eqv_refl,eqM_refl,eqM_app,eqB,eqvL,eqv,List.getLast?_cons_cons,List.getLast?_singleton,Option.getD_some,Bool.or_true,Bool.true_or,ZA,resvV]; rfl
  case hd => rfl
  case hr => simp only [I59,resI,resLI,look,reduceIte,Nat.reduceEqDiff,Zh]
  case hz => exact fin_len rfl (by simp)
theorem take_f (d : Nat) (hd : 4 ≤ d) (p : List UInt8) (hp : hasP (s.drop at_) p = false) : evFI P (cfg ml) T N d 59 [.ptr A.length 0 0, .str p] (A ++ rdr s at_ many :: B) = some (.ret (.bool false), A ++ rdr s at_ many :: B) := by
  obtain ⟨n, rfl⟩ : ∃ n, d = n + 4 := ⟨d - 4, by omega⟩
  have h1 := has_eq (P := P) (ml := ml) (N := N) s at_ many A B hat (n + 3) (by omega) p
  rw [hp] at h1
  refine evF_ret (m := 20) (v := .bool false) (a := ?aa) (H1 := A ++ rdr s at_ many :: B) rfl t59 rfl ?hb ?hd ?hr ?hz
  case hb => simp only [Zf,Zk,idx,I59,h1,Zs,Zr,Zp,Za,Zb,evI,opsI,stepI,wantI,opI,AAct.evI,look,AAct.put,mkVal,mkVM,intOpA,intA,shiftA,unA,ZP,ZO,Zh,Zt,reduceIte,Nat.reduceEqDiff,Nat.reduceLT,Zo,Zq,true_and,and_true,and_self,ZB,cellsAt,Zg,ZC,Zf,Zk,ZL,ZM,Nat.reduceAdd,Nat.reduceMul,ZN,AV.cells,AV.one,known,Zn,getE_0,getE_k,setE_0,setE_k,Zc,Zd,Zl,Zm,Zi,Zw,Zu,Zj,Z1,Zx,Zy,ZJ,ZI,ZH,ZD,ZE,splice,fillI,Nat.reduceLeDiff,strA,ZK,ZA,Ze,bq_ft,bq_tf,ZG,ZF,ZQ,Zv,Zz,isNilA,nilPtr,nilSl,nilIf,nilFn,nilMap,nilCheckA,if_true,if_false,lt_lit,le_lit,lt_lit2,le_lit2,le_sub1,le_sub2,drawI,drawI2,drawI0,drawI20,lexD,valD,valI,putD,okD,roD,memAt,lastM,wantI,eqv_refl,eqM_refl,eqM_app,eqB,eqvL,eqv,List.getLast?_cons_cons,List.getLast?_singleton,Option.getD_some,Bool.or_true,Bool.true_or,ZA,resvV]; rfl
  case hd => rfl
  case hr => simp only [I59,resI,resLI,look,reduceIte,Nat.reduceEqDiff,Zh]
  case hz => exact fin_len rfl rfl
theorem wants_t (d : Nat) (hd : 5 ≤ d) (p : List UInt8) (hp : hasP (s.drop at_) p = true) : evFI P (cfg ml) T N d 56 [.ptr A.length 0 0, .str p] (A ++ rdr s at_ many :: B) = some (.ret (.tup []), A ++ rdr s (at_ + p.length) many :: B) := by
  obtain ⟨n, rfl⟩ : ∃ n, d = n + 5 := ⟨d - 5, by omega⟩
  have h1 := take_t (P := P) (ml := ml) (N := N) s at_ many A B hs hat (n + 4) (by omega) p hp
  have h2 := fun H => must_t (P := P) (ml := ml) (N := N) (n + 4) (by omega) 10 H
  refine evF_nrm (m := 8) (v := .tup []) (a := ?aa) (H1 := A ++ rdr s (at_ + p.length) many :: B) rfl t56 rfl ?hb ?hd ?hr ?hz
  case hb => simp only [Zf,Zk,idx,I56,h1,h2,Zs,Zr,Zp,Za,Zb,evI,opsI,stepI,wantI,opI,AAct.evI,look,AAct.put,mkVal,mkVM,intOpA,intA,shiftA,unA,ZP,ZO,Zh,Zt,reduceIte,Nat.reduceEqDiff,Nat.reduceLT,Zo,Zq,true_and,and_true,and_self,ZB,cellsAt,Zg,ZC,Zf,Zk,ZL,ZM,Nat.reduceAdd,Nat.reduceMul,ZN,AV.cells,AV.one,known,Zn,getE_0,getE_k,setE_0,setE_k,Zc,Zd,Zl,Zm,Zi,Zw,Zu,Zj,Z1,Zx,Zy,ZJ,ZI,ZH,ZD,ZE,splice,fillI,Nat.reduceLeDiff,strA,ZK,ZA,Ze,bq_ft,bq_tf,ZG,ZF,ZQ,Zv,Zz,isNilA,nilPtr,nilSl,nilIf,nilFn,nilMap,nilCheckA,if_true,if_false,lt_lit,le_lit,lt_lit2,le_lit2,le_sub1,le_sub2,drawI,drawI2,drawI0,drawI20,lexD,valD,valI,putD,okD,roD,memAt,lastM,wantI,eqv_refl,eqM_refl,eqM_app,eqB,eqvL,eqv,List.getLast?_cons_cons,List.getLast?_singleton,Option.getD_some,Bool.or_true,Bool.true_or,ZA,resvV]; rfl
  case hd => rfl
  case hr => simp only [I56,resI,resLI,look,reduceIte,Nat.reduceEqDiff,Zh]
  case hz => exact fin_len rfl (by simp)
end
end Go.Proofs.YtmnajffpmbidiaaGreatDoor.Ev
namespace Go.Proofs.YtmnajffpmbidiaaGreatDoor.Ev
variable {ml : Int}
open Go.Proofs.YtmnajffpmbidiaaGreatDoor.Ic
set_option maxRecDepth 100000
set_option maxHeartbeats 2000000
def isBl (c : UInt8) : Bool := c == 32 || c == 9 || c == 10
def blN (t : List UInt8) : Nat := (t.takeWhile isBl).length
def nmN (t : List UInt8) : Nat := (t.takeWhile nxt8).length
theorem bl_index : ∀ x : Fin 256, decide (Lib.indexByte [32, 9, 10] (UInt8.ofNat x.val) ≥ 0) = isBl (UInt8.ofNat x.val) := by decide +kernel
theorem bl_is (b : UInt8) : decide (Lib.indexByte [32, 9, 10] b ≥ 0) = isBl b := by
  have h := bl_index ⟨b.toNat, b.toNat_lt⟩
  simp only [UInt8.ofNat_toNat] at h
  exact h
theorem fst_nxt (b : UInt8) (h : fst8 b = true) : nxt8 b = true := by
  unfold nxt8 nameNext; unfold fst8 at h; rw [h]; rfl
theorem re_len {l : List Tmp} {a : AAct} {H H' : Mem} (h : H'.length = H.length) : roundEnd (some l) H a H' = (a.keepT l, H') := by
  unfold roundEnd
  simp only []
  split
  · rw [List.take_of_length_le (by omega)]
  · rfl
theorem takeWhile_le {α : Type} (p : α → Bool) (t : List α) : (t.takeWhile p).length ≤ t.length := by
  induction t with
  | nil => simp
  | cons a t ih => rw [List.takeWhile_cons]; split <;> simp; omega
section
variable {P : Program} {N : Nat}
variable (s : List UInt8) (many : Nat) (A B : Mem) (hs : s.length < 4294967281)
noncomputable def loopBl : IC := (I60.c.loops).getD 0 .bad
include hs
theorem blank_loop (n at0 : Nat) : ∀ (fuel k : Nat), k ≤ s.length → s.length - k < fuel →
    ∃ t, loopA (fun a H => evI P (cfg ml) (evFI P (cfg ml) T N (n + 1)) N loopBl a H) (some [0, 3]) fuel ⟨44, [(0, .ptr A.length 0 0), (3, .int .i64 at0)], []⟩ (A ++ rdr s k many :: B) = some (.exit 0, ⟨44, t, []⟩, A ++ rdr s (k + blN (s.drop k)) many :: B) ∧ look t 0 = .ptr A.length 0 0 ∧ look t 3 = .int .i64 at0
  | 0, _, _, h => by omega
  | fuel + 1, k, hk, hf => by
    rcases Nat.lt_or_ge k s.length with hlt | hge
    · obtain ⟨b, hb⟩ := all_drop hlt
      have hget : s[k]? = some b := by
        have := congrArg (·[0]?) hb
        simpa using this
      have hi : decide ((k : Int) < (s.length : Int)) = true := decide_eq_true (by omega)
      have hn := natOf_nat k .i64
      have hlib : evFI P (cfg ml) T N (n + 1) 87 [.str [32, 9, 10], .int .u8 (b.toNat : Int)] (A ++ rdr s k many :: B) = some (.ret (.int .i64 (Lib.indexByte [32, 9, 10] b)), A ++ rdr s k many :: B) := by
        have hl : (cfg ml).lib 87 = some idxByteLib := rfl
        have e : (b.toNat : Int).toNat.toUInt8 = b := by simp
        simp only [evFI,hl,idxByteLib,Zh,e]
      have hbl := bl_is b
      simp only [rdr] at hlib
      cases hc : isBl b
      · rw [hc] at hbl
        have e : blN (s.drop k) = 0 := by rw [hb]; unfold blN; rw [List.takeWhile_cons, hc]; rfl
        rw [e, Nat.add_zero]
        exact ⟨_, loopA_exit (by simp only [loopBl,I60,IC.loops,Za,rdr,hi,hn,hget,hlib,hbl,Zs,Zr,Zp,Za,Zb,evI,opsI,stepI,wantI,opI,AAct.evI,look,AAct.put,mkVal,mkVM,intOpA,intA,shiftA,unA,ZP,ZO,Zh,Zt,reduceIte,Nat.reduceEqDiff,Nat.reduceLT,Zo,Zq,true_and,and_true,and_self,ZB,cellsAt,Zg,ZC,Zf,Zk,ZL,ZM,Nat.reduceAdd,Nat.reduceMul,ZN,AV.cells,AV.one,known,Zn,getE_0,getE_k,setE_0,setE_k,Zc,Zd,Zl,Zm,Zi,Zw,Zu,Zj,Z1,Zx,Zy,ZJ,ZI,ZH,ZD,ZE,splice,fillI,Nat.reduceLeDiff,strA,ZK,ZA,Ze,bq_ft,bq_tf,ZG,ZF,ZQ,Zv,Zz,isNilA,nilPtr,nilSl,nilIf,nilFn,nilMap,nilCheckA,if_true,if_false,lt_lit,le_lit,lt_lit2,le_lit2,le_sub1,le_sub2,drawI,drawI2,drawI0,drawI20,lexD,valD,valI,putD,okD,roD,memAt,lastM,wantI,eqv_refl,eqM_refl,eqM_app,eqB,eqvL,eqv,List.getLast?_cons_cons,List.getLast?_singleton,Option.getD_some,Bool.or_true,Bool.true_or,ZA,resvV]; rfl), rfl, rfl⟩
      · rw [hc] at hbl
        have e : k + blN (s.drop k) = k + 1 + blN (s.drop (k + 1)) := by rw [hb]; unfold blN; rw [List.takeWhile_cons, hc]; simp; omega
        obtain ⟨t, ht, h0, h3⟩ := blank_loop n at0 fuel (k + 1) (by omega) (by omega)
        have hw : IntKind.wrap .i64 ((k : Int) + 1) = ((k + 1 : Nat) : Int) := by rw [wrap64] <;> omega
        rw [e]
        refine ⟨t, ?_, h0, h3⟩
        refine loopA_go (H' := A ++ rdr s (k + 1) many :: B) (by simp only [loopBl,I60,IC.loops,Za,rdr,hi,hn,hget,hlib,hbl,hw,Zs,Zr,Zp,Za,Zb,evI,opsI,stepI,wantI,opI,AAct.evI,look,AAct.put,mkVal,mkVM,intOpA,intA,shiftA,unA,ZP,ZO,Zh,Zt,reduceIte,Nat.reduceEqDiff,Nat.reduceLT,Zo,Zq,true_and,and_true,and_self,ZB,cellsAt,Zg,ZC,Zf,Zk,ZL,ZM,Nat.reduceAdd,Nat.reduceMul,ZN,AV.cells,AV.one,known,Zn,getE_0,getE_k,setE_0,setE_k,Zc,Zd,Zl,Zm,Zi,Zw,Zu,Zj,Z1,Zx,Zy,ZJ,ZI,ZH,ZD,ZE,splice,fillI,Nat.reduceLeDiff,strA,ZK,ZA,Ze,bq_ft,bq_tf,ZG,ZF,ZQ,Zv,Zz,isNilA,nilPtr,nilSl,nilIf,nilFn,nilMap,nilCheckA,if_true,if_false,lt_lit,le_lit,lt_lit2,le_lit2,le_sub1,le_sub2,drawI,drawI2,drawI0,drawI20,lexD,valD,valI,putD,okD,roD,memAt,lastM,wantI,eqv_refl,eqM_refl,eqM_app,eqB,eqvL,eqv,List.getLast?_cons_cons,List.getLast?_singleton,Option.getD_some,Bool.or_true,Bool.true_or,ZA,resvV]; rfl) ?_
        rw [re_len (by simp)]
        exact ht
    · have hi : decide ((k : Int) < (s.length : Int)) = false := decide_eq_false (by omega)
      have e : blN (s.drop k) = 0 := by rw [List.drop_eq_nil_of_le hge]; rfl
      rw [e, Nat.add_zero]
      exact ⟨_, loopA_exit (by simp only [loopBl,I60,IC.loops,Za,rdr,hi,Zs,Zr,Zp,Za,Zb,evI,opsI,stepI,wantI,opI,AAct.evI,look,AAct.put,mkVal,mkVM,intOpA,intA,shiftA,unA,ZP,ZO,Zh,Zt,reduceIte,Nat.reduceEqDiff,Nat.reduceLT,Zo,Zq,true_and,and_true,and_self,ZB,cellsAt,Zg,ZC,Zf,Zk,ZL,ZM,Nat.reduceAdd,Nat.reduceMul,ZN,AV.cells,AV.one,known,Zn,getE_0,getE_k,setE_0,setE_k,Zc,Zd,Zl,Zm,Zi,Zw,Zu,Zj,Z1,Zx,Zy,ZJ,ZI,ZH,ZD,ZE,splice,fillI,Nat.reduceLeDiff,strA,ZK,ZA,Ze,bq_ft,bq_tf,ZG,ZF,ZQ,Zv,Zz,isNilA,nilPtr,nilSl,nilIf,nilFn,nilMap,nilCheckA,if_true,if_false,lt_lit,le_lit,lt_lit2,le_lit2,le_sub1,le_sub2,drawI,drawI2,drawI0,drawI20,lexD,valD,valI,putD,okD,roD,memAt,lastM,wantI,eqv_refl,eqM_refl,eqM_app,eqB,eqvL,eqv,List.getLast?_cons_cons,List.getLast?_singleton,Option.getD_some,Bool.or_true,Bool.true_or,ZA,resvV]; rfl), rfl, rfl⟩
theorem blank_eq (hN : s.length < N) (at_ : Nat) (hat : at_ ≤ s.length) (d : Nat) (hd : 2 ≤ d) :
    evFI P (cfg ml) T N d 60 [.ptr A.length 0 0] (A ++ rdr s at_ many :: B) = some (.ret (.bool (decide (0 < blN (s.drop at_)))), A ++ rdr s (at_ + blN (s.drop at_)) many :: B) := by
  obtain ⟨n, rfl⟩ : ∃ n, d = n + 2 := ⟨d - 2, by omega⟩
  obtain ⟨t, ht, h0, h3⟩ := blank_loop (P := P) (N := N) (ml := ml) s many A B hs n at_ N at_ hat (by omega)
  have hg : decide (((at_ + blN (s.drop at_) : Nat) : Int) > (at_ : Int)) = decide (0 < blN (s.drop at_)) := by
    congr 1; apply propext; omega
  generalize hq : decide (0 < blN (s.drop at_)) = q at *
  refine evF_ret (m := 44) (v := .bool q) (a := ?aa) (H1 := A ++ rdr s (at_ + blN (s.drop at_)) many :: B) rfl t60 rfl ?hb ?hd ?hr ?hz
  case hb =>
    apply evI_seq
    · simp only [Zf,Zk,idx,I60,Zs,Zr,Zp,Za,Zb,evI,opsI,stepI,wantI,opI,AAct.evI,look,AAct.put,mkVal,mkVM,intOpA,intA,shiftA,unA,ZP,ZO,Zh,Zt,reduceIte,Nat.reduceEqDiff,Nat.reduceLT,Zo,Zq,true_and,and_true,and_self,ZB,cellsAt,Zg,ZC,Zf,Zk,ZL,ZM,Nat.reduceAdd,Nat.reduceMul,ZN,AV.cells,AV.one,known,Zn,getE_0,getE_k,setE_0,setE_k,Zc,Zd,Zl,Zm,Zi,Zw,Zu,Zj,Z1,Zx,Zy,ZJ,ZI,ZH,ZD,ZE,splice,fillI,Nat.reduceLeDiff,strA,ZK,ZA,Ze,bq_ft,bq_tf,ZG,ZF,ZQ,Zv,Zz,isNilA,nilPtr,nilSl,nilIf,nilFn,nilMap,nilCheckA,if_true,if_false,lt_lit,le_lit,lt_lit2,le_lit2,le_sub1,le_sub2]; rfl
    apply evI_seq
    · simp only [rdr,Zs,Zr,Zp,Za,Zb,evI,opsI,stepI,wantI,opI,AAct.evI,look,AAct.put,mkVal,mkVM,intOpA,intA,shiftA,unA,ZP,ZO,Zh,Zt,reduceIte,Nat.reduceEqDiff,Nat.reduceLT,Zo,Zq,true_and,and_true,and_self,ZB,cellsAt,Zg,ZC,Zf,Zk,ZL,ZM,Nat.reduceAdd,Nat.reduceMul,ZN,AV.cells,AV.one,known,Zn,getE_0,getE_k,setE_0,setE_k,Zc,Zd,Zl,Zm,Zi,Zw,Zu,Zj,Z1,Zx,Zy,ZJ,ZI,ZH,ZD,ZE,splice,fillI,Nat.reduceLeDiff,strA,ZK,ZA,Ze,bq_ft,bq_tf,ZG,ZF,ZQ,Zv,Zz,isNilA,nilPtr,nilSl,nilIf,nilFn,nilMap,nilCheckA,if_true,if_false,lt_lit,le_lit,lt_lit2,le_lit2,le_sub1,le_sub2]; rfl
    apply evI_seq
    · apply evI_block_exit
      apply evI_loop
      exact ht
    simp only [rdr,h0,h3,hg,Zs,Zr,Zp,Za,Zb,evI,opsI,stepI,wantI,opI,AAct.evI,look,AAct.put,mkVal,mkVM,intOpA,intA,shiftA,unA,ZP,ZO,Zh,Zt,reduceIte,Nat.reduceEqDiff,Nat.reduceLT,Zo,Zq,true_and,and_true,and_self,ZB,cellsAt,Zg,ZC,Zf,Zk,ZL,ZM,Nat.reduceAdd,Nat.reduceMul,ZN,AV.cells,AV.one,known,Zn,getE_0,getE_k,setE_0,setE_k,Zc,Zd,Zl,Zm,Zi,Zw,Zu,Zj,Z1,Zx,Zy,ZJ,ZI,ZH,ZD,ZE,splice,fillI,Nat.reduceLeDiff,strA,ZK,ZA,Ze,bq_ft,bq_tf,ZG,ZF,ZQ,Zv,Zz,isNilA,nilPtr,nilSl,nilIf,nilFn,nilMap,nilCheckA,if_true,if_false,lt_lit,le_lit,lt_lit2,le_lit2,le_sub1,le_sub2]; rfl
  case hd => rfl
  case hr => simp only [I60,resI,resLI,look,reduceIte,Nat.reduceEqDiff,Zh]
  case hz => exact fin_len rfl (by simp)
noncomputable def loopNm : IC := (I57.c.loops).getD 0 .bad
theorem name_loop (n at0 : Nat) : ∀ (fuel k : Nat), k ≤ s.length → s.length - k < fuel →
    ∃ t, loopA (fun a H => evI P (cfg ml) (evFI P (cfg ml) T N (n + 2)) N loopNm a H) (some [0, 3]) fuel ⟨70, [(0, .ptr A.length 0 0), (3, .int .i64 at0)], []⟩ (A ++ rdr s k many :: B) = some (.exit 0, ⟨70, t, []⟩, A ++ rdr s (k + nmN (s.drop k)) many :: B) ∧ look t 0 = .ptr A.length 0 0 ∧ look t 3 = .int .i64 at0
  | 0, _, _, h => by omega
  | fuel + 1, k, hk, hf => by
    rcases Nat.lt_or_ge k s.length with hlt | hge
    · obtain ⟨b, hb⟩ := all_drop hlt
      have hget : s[k]? = some b := by
        have := congrArg (·[0]?) hb
        simpa using this
      have hi : decide ((k : Int) < (s.length : Int)) = true := decide_eq_true (by omega)
      have hn := natOf_nat k .i64
      have hX := fun H => isNext_eq (ml := ml) P N n (b.toNat : Int) H
      have hbl : nameNext (b.toNat : Int) = nxt8 b := rfl
      rw [hbl] at hX
      cases hc : nxt8 b
      · rw [hc] at hX
        have e : nmN (s.drop k) = 0 := by rw [hb]; unfold nmN; rw [List.takeWhile_cons, hc]; rfl
        rw [e, Nat.add_zero]
        exact ⟨_, loopA_exit (by simp only [loopNm,I57,IC.loops,Za,rdr,hi,hn,hget,hX,Zs,Zr,Zp,Za,Zb,evI,opsI,stepI,wantI,opI,AAct.evI,look,AAct.put,mkVal,mkVM,intOpA,intA,shiftA,unA,ZP,ZO,Zh,Zt,reduceIte,Nat.reduceEqDiff,Nat.reduceLT,Zo,Zq,true_and,and_true,and_self,ZB,cellsAt,Zg,ZC,Zf,Zk,ZL,ZM,Nat.reduceAdd,Nat.reduceMul,ZN,AV.cells,AV.one,known,Zn,getE_0,getE_k,setE_0,setE_k,Zc,Zd,Zl,Zm,Zi,Zw,Zu,Zj,Z1,Zx,Zy,ZJ,ZI,ZH,ZD,ZE,splice,fillI,Nat.reduceLeDiff,strA,ZK,ZA,Ze,bq_ft,bq_tf,ZG,ZF,ZQ,Zv,Zz,isNilA,nilPtr,nilSl,nilIf,nilFn,nilMap,nilCheckA,if_true,if_false,lt_lit,le_lit,lt_lit2,le_lit2,le_sub1,le_sub2,drawI,drawI2,drawI0,drawI20,lexD,valD,valI,putD,okD,roD,memAt,lastM,wantI,eqv_refl,eqM_refl,eqM_app,eqB,eqvL,eqv,List.getLast?_cons_cons,List.getLast?_singleton,Option.getD_some,Bool.or_true,Bool.true_or,ZA,resvV]; rfl), rfl, rfl⟩
      · rw [hc] at hX
        have e : k + nmN (s.drop k) = k + 1 + nmN (s.drop (k + 1)) := by rw [hb]; unfold nmN; rw [List.takeWhile_cons, hc]; simp; omega
        obtain ⟨t, ht, h0, h3⟩ := name_loop n at0 fuel (k + 1) (by omega) (by omega)
        have hw : IntKind.wrap .i64 ((k : Int) + 1) = ((k + 1 : Nat) : Int) := by rw [wrap64] <;> omega
        rw [e]
        refine ⟨t, ?_, h0, h3⟩
        refine loopA_go (H' := A ++ rdr s (k + 1) many :: B) (by simp only [loopNm,I57,IC.loops,Za,rdr,hi,hn,hget,hX,hw,Zs,Zr,Zp,Za,Zb,evI,opsI,stepI,wantI,opI,AAct.evI,look,AAct.put,mkVal,mkVM,intOpA,intA,shiftA,unA,ZP,ZO,Zh,Zt,reduceIte,Nat.reduceEqDiff,Nat.reduceLT,Zo,Zq,true_and,and_true,and_self,ZB,cellsAt,Zg,ZC,Zf,Zk,ZL,ZM,Nat.reduceAdd,Nat.reduceMul,ZN,AV.cells,AV.one,known,Zn,getE_0,getE_k,setE_0,setE_k,Zc,Zd,Zl,Zm,Zi,Zw,Zu,Zj,Z1,Zx,Zy,ZJ,ZI,ZH,ZD,ZE,splice,fillI,Nat.reduceLeDiff,strA,ZK,ZA,Ze,bq_ft,bq_tf,ZG,ZF,ZQ,Zv,Zz,isNilA,nilPtr,nilSl,nilIf,nilFn,nilMap,nilCheckA,if_true,if_false,lt_lit,le_lit,lt_lit2,le_lit2,le_sub1,le_sub2,drawI,drawI2,drawI0,drawI20,lexD,valD,valI,putD,okD,roD,memAt,lastM,wantI,eqv_refl,eqM_refl,eqM_app,eqB,eqvL,eqv,List.getLast?_cons_cons,List.getLast?_singleton,Option.getD_some,Bool.or_true,Bool.true_or,ZA,resvV]; rfl) ?_
        rw [re_len (by simp)]
        exact ht
    · have hi : decide ((k : Int) < (s.length : Int)) = false := decide_eq_false (by omega)
      have e : nmN (s.drop k) = 0 := by rw [List.drop_eq_nil_of_le hge]; rfl
      rw [e, Nat.add_zero]
      exact ⟨_, loopA_exit (by simp only [loopNm,I57,IC.loops,Za,rdr,hi,Zs,Zr,Zp,Za,Zb,evI,opsI,stepI,wantI,opI,AAct.evI,look,AAct.put,mkVal,mkVM,intOpA,intA,shiftA,unA,ZP,ZO,Zh,Zt,reduceIte,Nat.reduceEqDiff,Nat.reduceLT,Zo,Zq,true_and,and_true,and_self,ZB,cellsAt,Zg,ZC,Zf,Zk,ZL,ZM,Nat.reduceAdd,Nat.reduceMul,ZN,AV.cells,AV.one,known,Zn,getE_0,getE_k,setE_0,setE_k,Zc,Zd,Zl,Zm,Zi,Zw,Zu,Zj,Z1,Zx,Zy,ZJ,ZI,ZH,ZD,ZE,splice,fillI,Nat.reduceLeDiff,strA,ZK,ZA,Ze,bq_ft,bq_tf,ZG,ZF,ZQ,Zv,Zz,isNilA,nilPtr,nilSl,nilIf,nilFn,nilMap,nilCheckA,if_true,if_false,lt_lit,le_lit,lt_lit2,le_lit2,le_sub1,le_sub2,drawI,drawI2,drawI0,drawI20,lexD,valD,valI,putD,okD,roD,memAt,lastM,wantI,eqv_refl,eqM_refl,eqM_app,eqB,eqvL,eqv,List.getLast?_cons_cons,List.getLast?_singleton,Option.getD_some,Bool.or_true,Bool.true_or,ZA,resvV]; rfl), rfl, rfl⟩
theorem name_eq (hN : s.length < N) (at_ : Nat) (b : UInt8) (hb : s[at_]? = some b) (hf : fst8 b = true) (d : Nat) (hd : 3 ≤ d) :
    evFI P (cfg ml) T N d 57 [.ptr A.length 0 0] (A ++ rdr s at_ many :: B) = some (.ret (.str ((s.drop at_).take (nmN (s.drop at_)))), A ++ rdr s (at_ + nmN (s.drop at_)) many :: B) := by
  obtain ⟨n, rfl⟩ : ∃ n, d = n + 3 := ⟨d - 3, by omega⟩
  have hlt : at_ < s.length := (List.getElem?_eq_some_iff.1 hb).1
  obtain ⟨t, ht, h0, h3⟩ := name_loop (P := P) (N := N) (ml := ml) s many A B hs n at_ N at_ (by omega) (by omega)
  have hle : nmN (s.drop at_) ≤ s.length - at_ := by
    have := takeWhile_le nxt8 (s.drop at_)
    rw [List.length_drop] at this
    exact this
  have hi : decide ((at_ : Int) < (s.length : Int)) = true := decide_eq_true (by omega)
  have hn := natOf_nat at_ .i64
  have hX := fun H => isFirst_eq (ml := ml) P N (n + 1) (b.toNat : Int) H
  have hbl : nameFirst (b.toNat : Int) = true := hf
  rw [hbl] at hX
  have hM := fun H => must_t (P := P) (N := N) (ml := ml) (n + 2) (by omega) 10 H
  generalize nmN (s.drop at_) = m at *
  have hn2 := natOf_nat (at_ + m) .i64
  have h1 : at_ ≤ at_ + m := by omega
  have h2 : at_ + m ≤ s.length := by omega
  have h4 : at_ + m - at_ = m := by omega
  refine evF_ret (m := 70) (v := .str ((s.drop at_).take m)) (a := ?aa) (H1 := A ++ rdr s (at_ + m) many :: B) rfl t57 rfl ?hb ?hd ?hr ?hz
  case hb =>
    apply evI_seq
    · simp only [Zf,Zk,idx,I57,Zs,Zr,Zp,Za,Zb,evI,opsI,stepI,wantI,opI,AAct.evI,look,AAct.put,mkVal,mkVM,intOpA,intA,shiftA,unA,ZP,ZO,Zh,Zt,reduceIte,Nat.reduceEqDiff,Nat.reduceLT,Zo,Zq,true_and,and_true,and_self,ZB,cellsAt,Zg,ZC,Zf,Zk,ZL,ZM,Nat.reduceAdd,Nat.reduceMul,ZN,AV.cells,AV.one,known,Zn,getE_0,getE_k,setE_0,setE_k,Zc,Zd,Zl,Zm,Zi,Zw,Zu,Zj,Z1,Zx,Zy,ZJ,ZI,ZH,ZD,ZE,splice,fillI,Nat.reduceLeDiff,strA,ZK,ZA,Ze,bq_ft,bq_tf,ZG,ZF,ZQ,Zv,Zz,isNilA,nilPtr,nilSl,nilIf,nilFn,nilMap,nilCheckA,if_true,if_false,lt_lit,le_lit,lt_lit2,le_lit2,le_sub1,le_sub2]; rfl
    apply evI_seq
    · simp only [rdr,Zs,Zr,Zp,Za,Zb,evI,opsI,stepI,wantI,opI,AAct.evI,look,AAct.put,mkVal,mkVM,intOpA,intA,shiftA,unA,ZP,ZO,Zh,Zt,reduceIte,Nat.reduceEqDiff,Nat.reduceLT,Zo,Zq,true_and,and_true,and_self,ZB,cellsAt,Zg,ZC,Zf,Zk,ZL,ZM,Nat.reduceAdd,Nat.reduceMul,ZN,AV.cells,AV.one,known,Zn,getE_0,getE_k,setE_0,setE_k,Zc,Zd,Zl,Zm,Zi,Zw,Zu,Zj,Z1,Zx,Zy,ZJ,ZI,ZH,ZD,ZE,splice,fillI,Nat.reduceLeDiff,strA,ZK,ZA,Ze,bq_ft,bq_tf,ZG,ZF,ZQ,Zv,Zz,isNilA,nilPtr,nilSl,nilIf,nilFn,nilMap,nilCheckA,if_true,if_false,lt_lit,le_lit,lt_lit2,le_lit2,le_sub1,le_sub2]; rfl
    apply evI_seq
    · simp only [rdr,hi,hn,hb,hX,hM,Zs,Zr,Zp,Za,Zb,evI,opsI,stepI,wantI,opI,AAct.evI,look,AAct.put,mkVal,mkVM,intOpA,intA,shiftA,unA,ZP,ZO,Zh,Zt,reduceIte,Nat.reduceEqDiff,Nat.reduceLT,Zo,Zq,true_and,and_true,and_self,ZB,cellsAt,Zg,ZC,Zf,Zk,ZL,ZM,Nat.reduceAdd,Nat.reduceMul,ZN,AV.cells,AV.one,known,Zn,getE_0,getE_k,setE_0,setE_k,Zc,Zd,Zl,Zm,Zi,Zw,Zu,Zj,Z1,Zx,Zy,ZJ,ZI,ZH,ZD,ZE,splice,fillI,Nat.reduceLeDiff,strA,ZK,ZA,Ze,bq_ft,bq_tf,ZG,ZF,ZQ,Zv,Zz,isNilA,nilPtr,nilSl,nilIf,nilFn,nilMap,nilCheckA,if_true,if_false,lt_lit,le_lit,lt_lit2,le_lit2,le_sub1,le_sub2,drawI,drawI2,drawI0,drawI20,lexD,valD,valI,putD,okD,roD,memAt,lastM,wantI,eqv_refl,eqM_refl,eqM_app,eqB,eqvL,eqv,List.getLast?_cons_cons,List.getLast?_singleton,Option.getD_some,Bool.or_true,Bool.true_or,ZA,resvV]; rfl
    apply evI_seq
    · apply evI_block_exit
      apply evI_loop
      exact ht
    simp only [rdr,h0,h3,bound,hn,hn2,h1,h2,h4,Zs,Zr,Zp,Za,Zb,evI,opsI,stepI,wantI,opI,AAct.evI,look,AAct.put,mkVal,mkVM,intOpA,intA,shiftA,unA,ZP,ZO,Zh,Zt,reduceIte,Nat.reduceEqDiff,Nat.reduceLT,Zo,Zq,true_and,and_true,and_self,ZB,cellsAt,Zg,ZC,Zf,Zk,ZL,ZM,Nat.reduceAdd,Nat.reduceMul,ZN,AV.cells,AV.one,known,Zn,getE_0,getE_k,setE_0,setE_k,Zc,Zd,Zl,Zm,Zi,Zw,Zu,Zj,Z1,Zx,Zy,ZJ,ZI,ZH,ZD,ZE,splice,fillI,Nat.reduceLeDiff,strA,ZK,ZA,Ze,bq_ft,bq_tf,ZG,ZF,ZQ,Zv,Zz,isNilA,nilPtr,nilSl,nilIf,nilFn,nilMap,nilCheckA,if_true,if_false,lt_lit,le_lit,lt_lit2,le_lit2,le_sub1,le_sub2,drawI,drawI2,drawI0,drawI20,lexD,valD,valI,putD,okD,roD,memAt,lastM,wantI,eqv_refl,eqM_refl,eqM_app,eqB,eqvL,eqv,List.getLast?_cons_cons,List.getLast?_singleton,Option.getD_some,Bool.or_true,Bool.true_or,ZA,resvV]; rfl
  case hd => rfl
  case hr => simp only [I57,resI,resLI,look,reduceIte,Nat.reduceEqDiff,Zh]
  case hz => exact fin_len rfl (by simp)
theorem qual_plain (hN : s.length < N) (at_ : Nat) (b : UInt8) (hb : s[at_]? = some b) (hf : fst8 b = true) (hq : hasP (s.drop (at_ + nmN (s.drop at_))) [58] = false) (d : Nat) (hd : 5 ≤ d) :
    evFI P (cfg ml) T N d 64 [.ptr A.length 0 0] (A ++ rdr s at_ many :: B) = some (.ret (.tup [.str [], .str ((s.drop at_).take (nmN (s.drop at_)))]), A ++ rdr s (at_ + nmN (s.drop at_)) many :: B) := by
  obtain ⟨n, rfl⟩ : ∃ n, d = n + 5 := ⟨d - 5, by omega⟩
  have hlt : at_ < s.length := (List.getElem?_eq_some_iff.1 hb).1
  have hle : nmN (s.drop at_) ≤ s.length - at_ := by
    have := takeWhile_le nxt8 (s.drop at_)
    rw [List.length_drop] at this
    exact this
  have h1 := name_eq (P := P) (N := N) (ml := ml) s many A B hs hN at_ b hb hf (n + 4) (by omega)
  have h2 := take_f (P := P) (N := N) (ml := ml) s (at_ + nmN (s.drop at_)) many A B hs (by omega) (n + 4) (by omega) [58] hq
  refine evF_ret (m := 12) (v := .tup [.str [], .str ((s.drop at_).take (nmN (s.drop at_)))]) (a := ?aa) (H1 := A ++ rdr s (at_ + nmN (s.drop at_)) many :: B) rfl t64 rfl ?hb ?hd ?hr ?hz
  case hb => simp only [Zf,Zk,idx,I64,h1,h2,Zs,Zr,Zp,Za,Zb,evI,opsI,stepI,wantI,opI,AAct.evI,look,AAct.put,mkVal,mkVM,intOpA,intA,shiftA,unA,ZP,ZO,Zh,Zt,reduceIte,Nat.reduceEqDiff,Nat.reduceLT,Zo,Zq,true_and,and_true,and_self,ZB,cellsAt,Zg,ZC,Zf,Zk,ZL,ZM,Nat.reduceAdd,Nat.reduceMul,ZN,AV.cells,AV.one,known,Zn,getE_0,getE_k,setE_0,setE_k,Zc,Zd,Zl,Zm,Zi,Zw,Zu,Zj,Z1,Zx,Zy,ZJ,ZI,ZH,ZD,ZE,splice,fillI,Nat.reduceLeDiff,strA,ZK,ZA,Ze,bq_ft,bq_tf,ZG,ZF,ZQ,Zv,Zz,isNilA,nilPtr,nilSl,nilIf,nilFn,nilMap,nilCheckA,if_true,if_false,lt_lit,le_lit,lt_lit2,le_lit2,le_sub1,le_sub2]; rfl
  case hd => rfl
  case hr => simp only [I64,resI,resLI,look,reduceIte,Nat.reduceEqDiff,Zh]
  case hz => exact fin_len rfl (by simp)
theorem qual_pre (hN : s.length < N) (at_ : Nat) (b c : UInt8) (hb : s[at_]? = some b) (hf : fst8 b = true) (hq : hasP (s.drop (at_ + nmN (s.drop at_))) [58] = true) (at2 : Nat) (h2a : at2 = at_ + nmN (s.drop at_) + 1) (hc : s[at2]? = some c) (hf2 : fst8 c = true) (d : Nat) (hd : 5 ≤ d) :
    evFI P (cfg ml) T N d 64 [.ptr A.length 0 0] (A ++ rdr s at_ many :: B) = some (.ret (.tup [.str ((s.drop at_).take (nmN (s.drop at_))), .str ((s.drop at2).take (nmN (s.drop at2)))]), A ++ rdr s (at2 + nmN (s.drop at2)) many :: B) := by
  obtain ⟨n, rfl⟩ : ∃ n, d = n + 5 := ⟨d - 5, by omega⟩
  have hlt : at_ < s.length := (List.getElem?_eq_some_iff.1 hb).1
  have hle : nmN (s.drop at_) ≤ s.length - at_ := by
    have := takeWhile_le nxt8 (s.drop at_)
    rw [List.length_drop] at this
    exact this
  have h1 := name_eq (P := P) (N := N) (ml := ml) s many A B hs hN at_ b hb hf (n + 4) (by omega)
  have h2 := take_t (P := P) (N := N) (ml := ml) s (at_ + nmN (s.drop at_)) many A B hs (by omega) (n + 4) (by omega) [58] hq
  have h3 := name_eq (P := P) (N := N) (ml := ml) s many A B hs hN at2 c hc hf2 (n + 4) (by omega)
  simp only [Zf,Zk,ZL] at h2
  rw [← h2a] at h2
  refine evF_ret (m := 12) (v := .tup [.str ((s.drop at_).take (nmN (s.drop at_))), .str ((s.drop at2).take (nmN (s.drop at2)))]) (a := ?aa) (H1 := A ++ rdr s (at2 + nmN (s.drop at2)) many :: B) rfl t64 rfl ?hb ?hd ?hr ?hz
  case hb => simp only [Zf,Zk,idx,I64,h1,h2,h3,Zs,Zr,Zp,Za,Zb,evI,opsI,stepI,wantI,opI,AAct.evI,look,AAct.put,mkVal,mkVM,intOpA,intA,shiftA,unA,ZP,ZO,Zh,Zt,reduceIte,Nat.reduceEqDiff,Nat.reduceLT,Zo,Zq,true_and,and_true,and_self,ZB,cellsAt,Zg,ZC,Zf,Zk,ZL,ZM,Nat.reduceAdd,Nat.reduceMul,ZN,AV.cells,AV.one,known,Zn,getE_0,getE_k,setE_0,setE_k,Zc,Zd,Zl,Zm,Zi,Zw,Zu,Zj,Z1,Zx,Zy,ZJ,ZI,ZH,ZD,ZE,splice,fillI,Nat.reduceLeDiff,strA,ZK,ZA,Ze,bq_ft,bq_tf,ZG,ZF,ZQ,Zv,Zz,isNilA,nilPtr,nilSl,nilIf,nilFn,nilMap,nilCheckA,if_true,if_false,lt_lit,le_lit,lt_lit2,le_lit2,le_sub1,le_sub2]; rfl
  case hd => rfl
  case hr => simp only [I64,resI,resLI,look,reduceIte,Nat.reduceEqDiff,Zh]
  case hz => exact fin_len rfl (by simp)
theorem misc_no (hN : s.length < N) (at_ : Nat) (hat : at_ ≤ s.length) (ah : Bool) (h0 : blN (s.drop at_) = 0) (h1 : hasP (s.drop at_) [60, 33, 45, 45] = false) (h2 : hasP (s.drop at_) [60, 63] = false) (h3 : ah = true → hasP (s.drop at_) [60, 33, 68, 79, 67, 84, 89, 80, 69] = false) (d : Nat) (hd : 5 ≤ d) :
    evFI P (cfg ml) T N d 37 [.ptr A.length 0 0, .bool ah] (A ++ rdr s at_ many :: B) = some (.ret (.tup []), A ++ rdr s at_ many :: B) := by
  obtain ⟨n, rfl⟩ : ∃ n, d = n + 5 := ⟨d - 5, by omega⟩
  have e0 := blank_eq (P := P) (N := N) (ml := ml) s many A B hs hN at_ hat (n + 4) (by omega)
  rw [h0] at e0
  simp only [ZM,Nat.lt_irrefl,ZO] at e0
  have e1 := has_eq (P := P) (N := N) (ml := ml) s at_ many A B hat (n + 4) (by omega) [60, 33, 45, 45]
  have e2 := has_eq (P := P) (N := N) (ml := ml) s at_ many A B hat (n + 4) (by omega) [60, 63]
  have e3 := has_eq (P := P) (N := N) (ml := ml) s at_ many A B hat (n + 4) (by omega) [60, 33, 68, 79, 67, 84, 89, 80, 69]
  rw [h1] at e1
  rw [h2] at e2
  obtain ⟨N, rfl⟩ : ∃ m, N = m + 1 := ⟨N - 1, by omega⟩
  cases ah
  · refine evF_ret (m := 24) (v := .tup []) (a := ?aa) (H1 := A ++ rdr s at_ many :: B) rfl t37 rfl ?hb ?hd ?hr ?hz
    case hb =>
      apply evI_block_ret
      apply evI_loop
      apply loopA_ret
      simp only [Zf,Zk,idx,I37,AAct.keepT,e0,e1,e2,Zs,Zr,Zp,Za,Zb,evI,opsI,stepI,wantI,opI,AAct.evI,look,AAct.put,mkVal,mkVM,intOpA,intA,shiftA,unA,ZP,ZO,Zh,Zt,reduceIte,Nat.reduceEqDiff,Nat.reduceLT,Zo,Zq,true_and,and_true,and_self,ZB,cellsAt,Zg,ZC,Zf,Zk,ZL,ZM,Nat.reduceAdd,Nat.reduceMul,ZN,AV.cells,AV.one,known,Zn,getE_0,getE_k,setE_0,setE_k,Zc,Zd,Zl,Zm,Zi,Zw,Zu,Zj,Z1,Zx,Zy,ZJ,ZI,ZH,ZD,ZE,splice,fillI,Nat.reduceLeDiff,strA,ZK,ZA,Ze,bq_ft,bq_tf,ZG,ZF,ZQ,Zv,Zz,isNilA,nilPtr,nilSl,nilIf,nilFn,nilMap,nilCheckA,if_true,if_false,lt_lit,le_lit,lt_lit2,le_lit2,le_sub1,le_sub2]; rfl
    case hd => rfl
    case hr => simp only [I37,resI,resLI,look,reduceIte,Nat.reduceEqDiff,Zh]
    case hz => exact fin_len rfl rfl
  · rw [h3 rfl] at e3
    refine evF_ret (m := 24) (v := .tup []) (a := ?ab) (H1 := A ++ rdr s at_ many :: B) rfl t37 rfl ?hb ?hd ?hr ?hz
    case hb =>
      apply evI_block_ret
      apply evI_loop
      apply loopA_ret
      simp only [Zf,Zk,idx,I37,AAct.keepT,e0,e1,e2,e3,Zs,Zr,Zp,Za,Zb,evI,opsI,stepI,wantI,opI,AAct.evI,look,AAct.put,mkVal,mkVM,intOpA,intA,shiftA,unA,ZP,ZO,Zh,Zt,reduceIte,Nat.reduceEqDiff,Nat.reduceLT,Zo,Zq,true_and,and_true,and_self,ZB,cellsAt,Zg,ZC,Zf,Zk,ZL,ZM,Nat.reduceAdd,Nat.reduceMul,ZN,AV.cells,AV.one,known,Zn,getE_0,getE_k,setE_0,setE_k,Zc,Zd,Zl,Zm,Zi,Zw,Zu,Zj,Z1,Zx,Zy,ZJ,ZI,ZH,ZD,ZE,splice,fillI,Nat.reduceLeDiff,strA,ZK,ZA,Ze,bq_ft,bq_tf,ZG,ZF,ZQ,Zv,Zz,isNilA,nilPtr,nilSl,nilIf,nilFn,nilMap,nilCheckA,if_true,if_false,lt_lit,le_lit,lt_lit2,le_lit2,le_sub1,le_sub2]; rfl
    case hd => rfl
    case hr => simp only [I37,resI,resLI,look,reduceIte,Nat.reduceEqDiff,Zh]
    case hz => exact fin_len rfl rfl
end
theorem op_range : (opAt Tryz.f66 24).op = .range 68 (.tmp 37) := by kernel_rfl
theorem range_map {ρ : Operand → AV} {H : Mem} {mi : Nat} {e : AV × AV} (hρ : ρ (.tmp 37) = .map mi) (hm : H[mi]? = some (.map [e])) : exec1 Tryz.prog ρ (opAt Tryz.f66 24) H = some (.val (.ptr H.length 0 0) (H ++ [.miter mi 0])) := by
  unfold exec1
  rw [op_range]
  simp only [hρ,mkVM,rangeA,Tryz.underlying68,hm,Zh]
section
variable {N : Nat}
end
set_option maxHeartbeats 4000000
def IC.nb : Nat → IC → IC
  | n + 1, .seq _ y => y.nb n
  | _, c => c
def IC.hd : IC → IC
  | .seq x _ => x
  | c => c
def LoM (A B : Mem) : Prop := lowM (A.length + (B.length + 1)) A = true ∧ lowM (A.length + (B.length + 1)) B = true
theorem LoM.whole {A B : Mem} (h : LoM A B) (s : List UInt8) (at_ many : Nat) : lowM (A ++ rdr s at_ many :: B).length (A ++ rdr s at_ many :: B) = true := by
  obtain ⟨h1, h2⟩ := h
  unfold lowM at *
  have hl : (A ++ rdr s at_ many :: B).length = A.length + (B.length + 1) := by simp
  rw [hl, List.all_append, h1, List.all_cons, h2]; rfl
theorem LoM.more {A B C : Mem} (h : LoM A B) (hC : ∀ x ∈ C, lowB (A.length + (B.length + 1)) x = true) : LoM A (B ++ C) := by
  have hle : A.length + (B.length + 1) ≤ A.length + ((B ++ C).length + 1) := by rw [List.length_append]; omega
  have up : ∀ (M : Mem), lowM (A.length + (B.length + 1)) M = true → lowM (A.length + ((B ++ C).length + 1)) M = true := fun M hM => by
    unfold lowM at *
    rw [List.all_eq_true] at *
    exact fun x hx => lowB_mono hle (hM x hx)
  refine ⟨up _ h.1, ?_⟩
  have h2 := up _ h.2
  unfold lowM at *
  rw [List.all_append, h2, Bool.true_and, List.all_eq_true]
  exact fun x hx => lowB_mono hle (hC x hx)
theorem fin_cut {keep : Bool} {v v' : AV} {H0 H1 H2 : Mem} (hk : keep = false) (hf : frz H0.length H1 12 v = some v') (hl : low H0.length v' = true) (ht : H1.take H0.length = H2) (hm : lowM H0.length H2 = true) : finish keep H0 v H1 = (v', H2) := by
  subst hk
  unfold finish
  simp only [Ze,if_false,hf,mayCut,ht,hl,hm,Bool.or_true,ZI,if_true]
abbrev r27 (a b : List UInt8) : Blk := .row [.str a, .str b, .str [], .nilS, .nilS] 0 (27 + 1)
def ownK : List UInt8 := [120, 109, 108]
abbrev scope1 (v : List UInt8) : Blk := .map [(.str [120, 109, 108], .str v)]
noncomputable def restE : IC := I38.c.nb 12
noncomputable def pcE (n : Nat) : IC := (I38.c.nb n).hd
theorem elem_split : I38.c = .seq (pcE 0) (.seq (pcE 1) (.seq (pcE 2) (.seq (pcE 3) (.seq (pcE 4) (.seq (pcE 5) (.seq (pcE 6) (.seq (pcE 7) (.seq (pcE 8) (.seq (pcE 9) (.seq (pcE 10) (.seq (pcE 11) restE))))))))))) := rfl
theorem hasP_head (s : List UInt8) (at_ : Nat) (b : UInt8) (h : s[at_]? = some b) : hasP (s.drop at_) [b] = true := by
  obtain ⟨hlt, e⟩ := List.getElem?_eq_some_iff.1 h
  rw [List.drop_eq_getElem_cons hlt, e]
  simp [hasP]
theorem drop_next {s l r : List UInt8} {k : Nat} (h : s.drop k = l ++ r) : s.drop (k + l.length) = r := by
  rw [← List.drop_drop, h, List.drop_left]
theorem get_at {s r : List UInt8} {k : Nat} {c : UInt8} (h : s.drop k = c :: r) : s[k]? = some c := by
  have := congrArg (·[0]?) h
  simpa using this
theorem drop_one {s r : List UInt8} {k : Nat} {c : UInt8} (h : s.drop k = c :: r) : s.drop (k + 1) = r := by
  rw [← List.drop_drop, h]; rfl
theorem nmN_app (a r : List UInt8) (d : UInt8) (ha : ∀ c ∈ a, nxt8 c = true) (hd : nxt8 d = false) : nmN (a ++ d :: r) = a.length := by
  unfold nmN
  induction a with
  | nil => rw [List.nil_append, List.takeWhile_cons, hd]; rfl
  | cons c a ih =>
    rw [List.cons_append, List.takeWhile_cons, ha c (by simp)]
    simp only [if_true,Zf]
    rw [ih fun e he => ha e (by simp [he])]
theorem hasP_two (c a0 d : UInt8) (r p : List UInt8) (h : a0 ≠ d) : hasP (c :: a0 :: r) (c :: d :: p) = false := by
  unfold hasP
  have : ((c :: a0 :: r).take (c :: d :: p).length == c :: d :: p) = false := by
    refine beq_false_of_ne fun e => h ?_
    simp only [Zf,Zi,List.cons.injEq] at e
    exact e.2.1
  rw [this, Bool.and_false]
section
variable {N : Nat}
variable (s : List UInt8) (hs : s.length < 4294967281) (hN : s.length < N)
include hs hN
end
def IC.sx : IC → IC
  | .cond _ x _ => x
  | c => c
noncomputable def ccE (n : Nat) : IC := ((((pcE 12).nb 1).sx).nb n).hd
noncomputable def ccL : IC := (((pcE 12).nb 1).sx).nb 5
noncomputable def endE : IC := I38.c.nb 13
theorem rest_split : restE = .seq (.seq (pcE 12).hd (.cond (.tmp 99) (.seq (ccE 0) (.seq (ccE 1) (.seq (ccE 2) (.seq (ccE 3) (.seq (ccE 4) ccL))))) .skip)) endE := rfl
theorem take_rdr (A B C : Mem) (x y : Blk) : (A ++ x :: (B ++ C)).take (A ++ y :: B).length = A ++ x :: B := by
  have h : A ++ x :: (B ++ C) = (A ++ x :: B) ++ C := by simp
  rw [h]
  exact List.take_left' (by simp)
theorem take_A (A L : Mem) : (A ++ L).take A.length = A := by simp
section
variable {N : Nat}
variable (s : List UInt8) (hs : s.length < 4294967281) (hN : s.length < N)
include hs hN
end
section
variable {N : Nat}
variable (s : List UInt8) (hs : s.length < 4294967281) (hN : s.length < N)
include hs hN
end
abbrev rowB : Blk := .row [.nilP, .nilS] 0 (104 + 1)
theorem re_keep {l : List Tmp} {a : AAct} {H H' : Mem} {b : Blk} (hb : b ∈ H'.take H.length) (hl : lowB H.length b = false) (hn : H'.take H.length ≠ H) : roundEnd (some l) H a H' = (a.keepT l, H') := by
  have h1 : lowM H.length (H'.take H.length) = false := by
    cases h : lowM H.length (H'.take H.length) with
    | false => rfl
    | true =>
      unfold lowM at h
      rw [List.all_eq_true.1 h b hb] at hl; cases hl
  have h2 : eqM (H'.take H.length) H = false := by
    cases h : eqM (H'.take H.length) H with
    | false => rfl
    | true => exact absurd (eqM_eq h) hn
  unfold roundEnd
  simp only [mayCut,h1,h2,Bool.or_self,ZD,Ze,if_false]
section
variable {P : Program} {N : Nat}
variable (s : List UInt8)
end
section
variable {N : Nat}
variable (s : List UInt8) (hs : s.length < 4294967281)
include hs
end
theorem frz_row {n0 k q off len sz st ty : Nat} {H : Mem} {cs cs' : List AV} (h : ¬ q < n0) (hq : H[q]? = some (.row cs st ty)) (hl : off + len * sz ≤ cs.length) (hf : frzL (frz n0 H k) ((cs.drop off).take (len * sz)) = some cs') : frz n0 H (k + 1) (.slc q off len sz st) = some (.lst len cs') := by
  show (if q < n0 then _ else _) = _
  rw [if_neg h, hq]
  show (if st = st ∧ _ then _ else _) = _
  rw [if_pos ⟨rfl, hl⟩, hf]; rfl
section
variable {N : Nat}
variable (s : List UInt8) (hs : s.length < 4294967281)
include hs
end
section
variable {N : Nat}
variable (s : List UInt8) (hs : s.length < 4294967281) (hN : s.length < N)
include hs hN
end
def dec (s : List UInt8) (pos : Nat) : Nat × Nat := Utf8.decode ⟨s.toArray⟩ pos
theorem dec_pos (s : List UInt8) (pos : Nat) : 1 ≤ (dec s pos).2 := by
  unfold dec
  rw [Lib.decode_at]
  unfold Lib.decodeN
  repeat' split
  all_goals simp
def runesFrom (s : List UInt8) : Nat → Nat → Bool
  | 0, _ => true
  | f + 1, pos => if pos < s.length then runeOk ((dec s pos).1 : Int) && runesFrom s f (pos + (dec s pos).2) else true
noncomputable def loopPT : IC := (I19.c.loops).getD 0 .bad
theorem ptext_loop (P : Program) (N n : Nat) (s : List UInt8) (H : Mem) : ∀ (fuel pos : Nat), s.length - pos < fuel →
    ∃ t p, loopA (fun a H => evI P (cfg ml) (evFI P (cfg ml) T N (n + 1)) N loopPT a H) (some [0, 6]) fuel ⟨16, [(0, .str s), (6, .ptr H.length 0 0)], []⟩ (H ++ [.siter s pos]) =
      (if runesFrom s fuel pos = true then some (.exit 0, ⟨16, t, []⟩, H ++ [.siter s p]) else some (.ret, ⟨16, (2, .bool false) :: t, []⟩, H ++ [.siter s p])) ∧ look t 0 = .str s
  | 0, _, h => by omega
  | fuel + 1, pos, hf => by
    rcases Nat.lt_or_ge pos s.length with hlt | hge
    · have hR := fun H => isRune_eq (ml := ml) P N n ((dec s pos).1 : Int) H
      have hw := dec_pos s pos
      obtain ⟨t, p, ht, h0⟩ := ptext_loop P N n s H fuel (pos + (dec s pos).2) (by omega)
      simp only [runesFrom,if_pos hlt]
      have hd : Utf8.decode ⟨s.toArray⟩ pos = dec s pos := rfl
      cases hc : runeOk ((dec s pos).1 : Int)
      · rw [hc] at hR
        simp only [ZE,Ze,if_false]
        exact ⟨_, _, loopA_ret (by simp only [loopPT,I19,IC.loops,nextA,hd,hlt,hR,eC_len,eC_take,eC_one,eC_0,eC_1,eC_2,eC_3,eC_4,eCr,eCr_0,eCr_1,eCr_2,eCr_3,eCr_4,List.length_drop,Nat.reduceSub,ZR,atr,Zs,Zr,Zp,Za,Zb,evI,opsI,stepI,wantI,opI,AAct.evI,look,AAct.put,mkVal,mkVM,intOpA,intA,shiftA,unA,ZP,ZO,Zh,Zt,reduceIte,Nat.reduceEqDiff,Nat.reduceLT,Zo,Zq,true_and,and_true,and_self,ZB,cellsAt,Zg,ZC,Zf,Zk,ZL,ZM,Nat.reduceAdd,Nat.reduceMul,ZN,AV.cells,AV.one,known,Zn,getE_0,getE_k,setE_0,setE_k,Zc,Zd,Zl,Zm,Zi,Zw,Zu,Zj,Z1,Zx,Zy,ZJ,ZI,ZH,ZD,ZE,splice,fillI,Nat.reduceLeDiff,strA,ZK,ZA,Ze,bq_ft,bq_tf,ZG,ZF,ZQ,Zv,Zz,isNilA,nilPtr,nilSl,nilIf,nilFn,nilMap,nilCheckA,if_true,if_false,lt_lit,le_lit,lt_lit2,le_lit2,le_sub1,le_sub2]; rfl), rfl⟩
      · rw [hc] at hR
        refine ⟨t, p, ?_, h0⟩
        simp only [ZH]
        refine loopA_go (by simp only [loopPT,I19,IC.loops,nextA,hd,hlt,hR,eC_len,eC_take,eC_one,eC_0,eC_1,eC_2,eC_3,eC_4,eCr,eCr_0,eCr_1,eCr_2,eCr_3,eCr_4,List.length_drop,Nat.reduceSub,ZR,atr,Zs,Zr,Zp,Za,Zb,evI,opsI,stepI,wantI,opI,AAct.evI,look,AAct.put,mkVal,mkVM,intOpA,intA,shiftA,unA,ZP,ZO,Zh,Zt,reduceIte,Nat.reduceEqDiff,Nat.reduceLT,Zo,Zq,true_and,and_true,and_self,ZB,cellsAt,Zg,ZC,Zf,Zk,ZL,ZM,Nat.reduceAdd,Nat.reduceMul,ZN,AV.cells,AV.one,known,Zn,getE_0,getE_k,setE_0,setE_k,Zc,Zd,Zl,Zm,Zi,Zw,Zu,Zj,Z1,Zx,Zy,ZJ,ZI,ZH,ZD,ZE,splice,fillI,Nat.reduceLeDiff,strA,ZK,ZA,Ze,bq_ft,bq_tf,ZG,ZF,ZQ,Zv,Zz,isNilA,nilPtr,nilSl,nilIf,nilFn,nilMap,nilCheckA,if_true,if_false,lt_lit,le_lit,lt_lit2,le_lit2,le_sub1,le_sub2]; rfl) ?_
        simp only [ite_self,roundEnd,AAct.keepT,Zv,Zz,look,reduceIte,Nat.reduceEqDiff,lowT,Zx,Zy,low,lowL,lowD,mayCut,Zg,Zf,Zk,ZL,Nat.reduceAdd,takeS,takeE_0,takeE_k,Zi,Zw,eqM_app,eqM_refl,Bool.true_or,ZJ,ZI,ZH,ZP,Nat.lt_succ_self,Nat.lt_add_right_iff_pos,Nat.add_lt_add_iff_left,Nat.reduceLT,if_true,lt_k,Zn,Zp,Zr]
        exact ht
    · simp only [runesFrom,if_neg (show ¬ pos < s.length by omega),if_true]
      exact ⟨_, _, loopA_exit (by simp only [loopPT,I19,IC.loops,nextA,if_neg (show ¬ pos < s.length by omega),eC_len,eC_take,eC_one,eC_0,eC_1,eC_2,eC_3,eC_4,eCr,eCr_0,eCr_1,eCr_2,eCr_3,eCr_4,List.length_drop,Nat.reduceSub,ZR,atr,Zs,Zr,Zp,Za,Zb,evI,opsI,stepI,wantI,opI,AAct.evI,look,AAct.put,mkVal,mkVM,intOpA,intA,shiftA,unA,ZP,ZO,Zh,Zt,reduceIte,Nat.reduceEqDiff,Nat.reduceLT,Zo,Zq,true_and,and_true,and_self,ZB,cellsAt,Zg,ZC,Zf,Zk,ZL,ZM,Nat.reduceAdd,Nat.reduceMul,ZN,AV.cells,AV.one,known,Zn,getE_0,getE_k,setE_0,setE_k,Zc,Zd,Zl,Zm,Zi,Zw,Zu,Zj,Z1,Zx,Zy,ZJ,ZI,ZH,ZD,ZE,splice,fillI,Nat.reduceLeDiff,strA,ZK,ZA,Ze,bq_ft,bq_tf,ZG,ZF,ZQ,Zv,Zz,isNilA,nilPtr,nilSl,nilIf,nilFn,nilMap,nilCheckA,if_true,if_false,lt_lit,le_lit,lt_lit2,le_lit2,le_sub1,le_sub2]; rfl), rfl⟩
theorem wrapU {n : Nat} (h : n < 18446744073709551616) : IntKind.wrap .u64 (n : Int) = (n : Int) := by
  simp [IntKind.wrap, IntKind.bits, IntKind.signed]
  omega
theorem or64 {x y k : Nat} (hx : x < 2 ^ k) (hy : x + y * 2 ^ k < 18446744073709551616) : IntKind.wrap .u64 ((BitVec.ofInt (IntKind.bits .u64) (x : Int) ||| BitVec.ofInt (IntKind.bits .u64) ((y * 2 ^ k : Nat) : Int)).toNat : Int) = ((x + y * 2 ^ k : Nat) : Int) := by
  have e : (BitVec.ofInt (IntKind.bits .u64) (x : Int) ||| BitVec.ofInt (IntKind.bits .u64) ((y * 2 ^ k : Nat) : Int)).toNat = x + y * 2 ^ k := by
    rw [BitVec.ofInt_natCast, BitVec.ofInt_natCast, BitVec.toNat_or, BitVec.toNat_ofNat, BitVec.toNat_ofNat]
    have e1 : x % 2 ^ (IntKind.bits .u64) = x := Nat.mod_eq_of_lt (by simp [IntKind.bits]; omega)
    have e2 : y * 2 ^ k % 2 ^ (IntKind.bits .u64) = y * 2 ^ k := Nat.mod_eq_of_lt (by simp [IntKind.bits]; omega)
    rw [e1, e2, Nat.or_comm, Nat.mul_comm, ← Nat.two_pow_add_eq_or_of_lt hx y, Nat.add_comm]
  rw [e, wrapU hy]
theorem bytes_at {s r : List UInt8} {off : Nat} {b : UInt8} (h : s.drop off = b :: r) : ((ofBytes s).drop off).take 1 = [.int .u8 b.toNat] ∧ off + 1 ≤ (ofBytes s).length ∧ s.drop (off + 1) = r := by
  refine ⟨by unfold ofBytes; rw [← List.map_drop, h]; rfl, ?_, by rw [← List.drop_drop, h]; rfl⟩
  have := congrArg List.length h
  simp only [List.length_drop,Zf] at this
  unfold ofBytes
  rw [List.length_map]; omega
theorem word_eq (P : Program) (N n0 : Nat) (M : Mem) (q off n : Nat) (ty : Nat) (s r : List UInt8) (b0 b1 b2 b3 b4 b5 b6 b7 : UInt8) (hs : s.drop off = b0 :: b1 :: b2 :: b3 :: b4 :: b5 :: b6 :: b7 :: r) (hq : M[q]? = some (.row (ofBytes s) 0 ty)) (hn : 8 ≤ n) :
    evFI P (cfg ml) T N (n0 + 1) 102 [.slc q off n 1 0] M = some (.ret (.int .u64 (Lib.leNat [b0, b1, b2, b3, b4, b5, b6, b7] : Nat)), M) := by
  obtain ⟨d0, l0, z0⟩ := bytes_at hs
  obtain ⟨d1, l1, z1⟩ := bytes_at z0
  obtain ⟨d2, l2, z2⟩ := bytes_at z1
  obtain ⟨d3, l3, z3⟩ := bytes_at z2
  obtain ⟨d4, l4, z4⟩ := bytes_at z3
  obtain ⟨d5, l5, z5⟩ := bytes_at z4
  obtain ⟨d6, l6, z6⟩ := bytes_at z5
  obtain ⟨d7, l7, z7⟩ := bytes_at z6
  simp only [ZK,Nat.reduceAdd] at d1 l1
  simp only [ZK,Nat.reduceAdd] at d2 l2
  simp only [ZK,Nat.reduceAdd] at d3 l3
  simp only [ZK,Nat.reduceAdd] at d4 l4
  simp only [ZK,Nat.reduceAdd] at d5 l5
  simp only [ZK,Nat.reduceAdd] at d6 l6
  simp only [ZK,Nat.reduceAdd] at d7 l7
  have h0 := b0.toNat_lt
  have i0 : 0 < n := by omega
  have n0 : natOf (.int .i64 0) = some 0 := rfl
  have c0 : IntKind.wrap .u64 (b0.toNat : Int) = (b0.toNat : Int) := wrapU (by omega)
  have h1 := b1.toNat_lt
  have i1 : 1 < n := by omega
  have n1 : natOf (.int .i64 1) = some 1 := rfl
  have c1 : IntKind.wrap .u64 (b1.toNat : Int) = (b1.toNat : Int) := wrapU (by omega)
  have h2 := b2.toNat_lt
  have i2 : 2 < n := by omega
  have n2 : natOf (.int .i64 2) = some 2 := rfl
  have c2 : IntKind.wrap .u64 (b2.toNat : Int) = (b2.toNat : Int) := wrapU (by omega)
  have h3 := b3.toNat_lt
  have i3 : 3 < n := by omega
  have n3 : natOf (.int .i64 3) = some 3 := rfl
  have c3 : IntKind.wrap .u64 (b3.toNat : Int) = (b3.toNat : Int) := wrapU (by omega)
  have h4 := b4.toNat_lt
  have i4 : 4 < n := by omega
  have n4 : natOf (.int .i64 4) = some 4 := rfl
  have c4 : IntKind.wrap .u64 (b4.toNat : Int) = (b4.toNat : Int) := wrapU (by omega)
  have h5 := b5.toNat_lt
  have i5 : 5 < n := by omega
  have n5 : natOf (.int .i64 5) = some 5 := rfl
  have c5 : IntKind.wrap .u64 (b5.toNat : Int) = (b5.toNat : Int) := wrapU (by omega)
  have h6 := b6.toNat_lt
  have i6 : 6 < n := by omega
  have n6 : natOf (.int .i64 6) = some 6 := rfl
  have c6 : IntKind.wrap .u64 (b6.toNat : Int) = (b6.toNat : Int) := wrapU (by omega)
  have h7 := b7.toNat_lt
  have i7 : 7 < n := by omega
  have n7 : natOf (.int .i64 7) = some 7 := rfl
  have c7 : IntKind.wrap .u64 (b7.toNat : Int) = (b7.toNat : Int) := wrapU (by omega)
  have s1 : IntKind.wrap .u64 ((b1.toNat : Int) * 2 ^ min (Int.toNat 8) (IntKind.bits .u64)) = ((b1.toNat * 2 ^ 8 : Nat) : Int) := by
    have e : ((b1.toNat : Int) * 2 ^ min (Int.toNat 8) (IntKind.bits .u64)) = ((b1.toNat * 2 ^ 8 : Nat) : Int) := by
      have : min (Int.toNat 8) (IntKind.bits .u64) = 8 := rfl
      rw [this]; omega
    rw [e, wrapU (by omega)]
  have o1 := or64 (x := b0.toNat) (y := b1.toNat) (k := 8) (by omega) (by omega)
  obtain ⟨x1, e1⟩ : ∃ x, b0.toNat + b1.toNat * 2 ^ 8 = x := ⟨_, rfl⟩
  rw [e1] at o1
  have s2 : IntKind.wrap .u64 ((b2.toNat : Int) * 2 ^ min (Int.toNat 16) (IntKind.bits .u64)) = ((b2.toNat * 2 ^ 16 : Nat) : Int) := by
    have e : ((b2.toNat : Int) * 2 ^ min (Int.toNat 16) (IntKind.bits .u64)) = ((b2.toNat * 2 ^ 16 : Nat) : Int) := by
      have : min (Int.toNat 16) (IntKind.bits .u64) = 16 := rfl
      rw [this]; omega
    rw [e, wrapU (by omega)]
  have o2 := or64 (x := x1) (y := b2.toNat) (k := 16) (by omega) (by omega)
  obtain ⟨x2, e2⟩ : ∃ x, x1 + b2.toNat * 2 ^ 16 = x := ⟨_, rfl⟩
  rw [e2] at o2
  have s3 : IntKind.wrap .u64 ((b3.toNat : Int) * 2 ^ min (Int.toNat 24) (IntKind.bits .u64)) = ((b3.toNat * 2 ^ 24 : Nat) : Int) := by
    have e : ((b3.toNat : Int) * 2 ^ min (Int.toNat 24) (IntKind.bits .u64)) = ((b3.toNat * 2 ^ 24 : Nat) : Int) := by
      have : min (Int.toNat 24) (IntKind.bits .u64) = 24 := rfl
      rw [this]; omega
    rw [e, wrapU (by omega)]
  have o3 := or64 (x := x2) (y := b3.toNat) (k := 24) (by omega) (by omega)
  obtain ⟨x3, e3⟩ : ∃ x, x2 + b3.toNat * 2 ^ 24 = x := ⟨_, rfl⟩
  rw [e3] at o3
  have s4 : IntKind.wrap .u64 ((b4.toNat : Int) * 2 ^ min (Int.toNat 32) (IntKind.bits .u64)) = ((b4.toNat * 2 ^ 32 : Nat) : Int) := by
    have e : ((b4.toNat : Int) * 2 ^ min (Int.toNat 32) (IntKind.bits .u64)) = ((b4.toNat * 2 ^ 32 : Nat) : Int) := by
      have : min (Int.toNat 32) (IntKind.bits .u64) = 32 := rfl
      rw [this]; omega
    rw [e, wrapU (by omega)]
  have o4 := or64 (x := x3) (y := b4.toNat) (k := 32) (by omega) (by omega)
  obtain ⟨x4, e4⟩ : ∃ x, x3 + b4.toNat * 2 ^ 32 = x := ⟨_, rfl⟩
  rw [e4] at o4
  have s5 : IntKind.wrap .u64 ((b5.toNat : Int) * 2 ^ min (Int.toNat 40) (IntKind.bits .u64)) = ((b5.toNat * 2 ^ 40 : Nat) : Int) := by
    have e : ((b5.toNat : Int) * 2 ^ min (Int.toNat 40) (IntKind.bits .u64)) = ((b5.toNat * 2 ^ 40 : Nat) : Int) := by
      have : min (Int.toNat 40) (IntKind.bits .u64) = 40 := rfl
      rw [this]; omega
    rw [e, wrapU (by omega)]
  have o5 := or64 (x := x4) (y := b5.toNat) (k := 40) (by omega) (by omega)
  obtain ⟨x5, e5⟩ : ∃ x, x4 + b5.toNat * 2 ^ 40 = x := ⟨_, rfl⟩
  rw [e5] at o5
  have s6 : IntKind.wrap .u64 ((b6.toNat : Int) * 2 ^ min (Int.toNat 48) (IntKind.bits .u64)) = ((b6.toNat * 2 ^ 48 : Nat) : Int) := by
    have e : ((b6.toNat : Int) * 2 ^ min (Int.toNat 48) (IntKind.bits .u64)) = ((b6.toNat * 2 ^ 48 : Nat) : Int) := by
      have : min (Int.toNat 48) (IntKind.bits .u64) = 48 := rfl
      rw [this]; omega
    rw [e, wrapU (by omega)]
  have o6 := or64 (x := x5) (y := b6.toNat) (k := 48) (by omega) (by omega)
  obtain ⟨x6, e6⟩ : ∃ x, x5 + b6.toNat * 2 ^ 48 = x := ⟨_, rfl⟩
  rw [e6] at o6
  have s7 : IntKind.wrap .u64 ((b7.toNat : Int) * 2 ^ min (Int.toNat 56) (IntKind.bits .u64)) = ((b7.toNat * 2 ^ 56 : Nat) : Int) := by
    have e : ((b7.toNat : Int) * 2 ^ min (Int.toNat 56) (IntKind.bits .u64)) = ((b7.toNat * 2 ^ 56 : Nat) : Int) := by
      have : min (Int.toNat 56) (IntKind.bits .u64) = 56 := rfl
      rw [this]; omega
    rw [e, wrapU (by omega)]
  have o7 := or64 (x := x6) (y := b7.toNat) (k := 56) (by omega) (by omega)
  obtain ⟨x7, e7⟩ : ∃ x, x6 + b7.toNat * 2 ^ 56 = x := ⟨_, rfl⟩
  rw [e7] at o7
  have et : Lib.leNat [b0, b1, b2, b3, b4, b5, b6, b7] = x7 := by simp only [Lib.leNat]; omega
  have w1 : ((8 : Int) < 0) = False := by simp
  have w2 : ((16 : Int) < 0) = False := by simp
  have w3 : ((24 : Int) < 0) = False := by simp
  have w4 : ((32 : Int) < 0) = False := by simp
  have w5 : ((40 : Int) < 0) = False := by simp
  have w6 : ((48 : Int) < 0) = False := by simp
  have w7 : ((56 : Int) < 0) = False := by simp
  rw [et]
  refine evF_ret (m := 71) (v := .int .u64 (x7 : Int)) (a := ?aa) (H1 := ?Ha) rfl t102 rfl ?hb ?hd ?hr ?hz
  case hb =>
    simp only [Zf,Zk,idx,I102,hq,d0,l0,i0,n0,c0,d1,l1,i1,n1,c1,d2,l2,i2,n2,c2,d3,l3,i3,n3,c3,d4,l4,i4,n4,c4,d5,l5,i5,n5,c5,d6,l6,i6,n6,c6,d7,l7,i7,n7,c7,s1,o1,s2,o2,s3,o3,s4,o4,s5,o5,s6,o6,s7,o7,w1,w2,w3,w4,w5,w6,w7,eC_len,eC_take,eC_one,eC_0,eC_1,eC_2,eC_3,eC_4,eCr,eCr_0,eCr_1,eCr_2,eCr_3,eCr_4,List.length_drop,Nat.reduceSub,ZR,atr,Zs,Zr,Zp,Za,Zb,evI,opsI,stepI,wantI,opI,AAct.evI,look,AAct.put,mkVal,mkVM,intOpA,intA,shiftA,unA,ZP,ZO,Zh,Zt,reduceIte,Nat.reduceEqDiff,Nat.reduceLT,Zo,Zq,true_and,and_true,and_self,ZB,cellsAt,Zg,ZC,Zf,Zk,ZL,ZM,Nat.reduceAdd,Nat.reduceMul,ZN,AV.cells,AV.one,known,Zn,getE_0,getE_k,setE_0,setE_k,Zc,Zd,Zl,Zm,Zi,Zw,Zu,Zj,Z1,Zx,Zy,ZJ,ZI,ZH,ZD,ZE,splice,fillI,Nat.reduceLeDiff,strA,ZK,ZA,Ze,bq_ft,bq_tf,ZG,ZF,ZQ,Zv,Zz,isNilA,nilPtr,nilSl,nilIf,nilFn,nilMap,nilCheckA,if_true,if_false,lt_lit,le_lit,lt_lit2,le_lit2,le_sub1,le_sub2,drawI,drawI2,drawI0,drawI20,lexD,valD,valI,putD,okD,roD,memAt,lastM,wantI,eqv_refl,eqM_refl,eqM_app,eqB,eqvL,eqv,List.getLast?_cons_cons,List.getLast?_singleton,Option.getD_some,Bool.or_true,Bool.true_or,ZA,resvV]; rfl
  case hd => rfl
  case hr => simp only [I102,resI,resLI,Zs,Zr,Zp,Za,Zb,evI,opsI,stepI,wantI,opI,AAct.evI,look,AAct.put,mkVal,mkVM,intOpA,intA,shiftA,unA,ZP,ZO,Zh,Zt,reduceIte,Nat.reduceEqDiff,Nat.reduceLT,Zo,Zq,true_and,and_true,and_self,ZB,cellsAt,Zg,ZC,Zf,Zk,ZL,ZM,Nat.reduceAdd,Nat.reduceMul,ZN,AV.cells,AV.one,known,Zn,getE_0,getE_k,setE_0,setE_k,Zc,Zd,Zl,Zm,Zi,Zw,Zu,Zj,Z1,Zx,Zy,ZJ,ZI,ZH,ZD,ZE,splice,fillI,Nat.reduceLeDiff,strA,ZK,ZA,Ze,bq_ft,bq_tf,ZG,ZF,ZQ,Zv,Zz,isNilA,nilPtr,nilSl,nilIf,nilFn,nilMap,nilCheckA,if_true,if_false,lt_lit,le_lit,lt_lit2,le_lit2,le_sub1,le_sub2]
  case hz => exact fin_len rfl rfl
theorem maskU {w : Nat} (hw : w < 18446744073709551616) : IntKind.wrap .u64 ((BitVec.ofInt (IntKind.bits .u64) (w : Int) &&& BitVec.ofInt (IntKind.bits .u64) 9259542123273814144).toNat : Int) = ((w &&& 9259542123273814144 : Nat) : Int) := by
  have e : (BitVec.ofInt (IntKind.bits .u64) (w : Int) &&& BitVec.ofInt (IntKind.bits .u64) 9259542123273814144).toNat = w &&& 9259542123273814144 := by
    have : (9259542123273814144 : Int) = ((9259542123273814144 : Nat) : Int) := rfl
    rw [this, BitVec.ofInt_natCast, BitVec.ofInt_natCast, BitVec.toNat_and, BitVec.toNat_ofNat, BitVec.toNat_ofNat]
    have e1 : w % 2 ^ (IntKind.bits .u64) = w := Nat.mod_eq_of_lt (by simp [IntKind.bits]; omega)
    have e2 : 9259542123273814144 % 2 ^ (IntKind.bits .u64) = 9259542123273814144 := by decide
    rw [e1, e2]
  rw [e, wrapU]
  exact Nat.lt_of_le_of_lt Nat.and_le_left hw
theorem orU {a b : Nat} (ha : a < 18446744073709551616) (hb : b < 18446744073709551616) : IntKind.wrap .u64 ((BitVec.ofInt (IntKind.bits .u64) (a : Int) ||| BitVec.ofInt (IntKind.bits .u64) (b : Int)).toNat : Int) = ((a ||| b : Nat) : Int) := by
  have hlt : a ||| b < 2 ^ 64 := Nat.or_lt_two_pow (by omega) (by omega)
  have e : (BitVec.ofInt (IntKind.bits .u64) (a : Int) ||| BitVec.ofInt (IntKind.bits .u64) (b : Int)).toNat = a ||| b := by
    rw [BitVec.ofInt_natCast, BitVec.ofInt_natCast, BitVec.toNat_or, BitVec.toNat_ofNat, BitVec.toNat_ofNat]
    have e1 : a % 2 ^ (IntKind.bits .u64) = a := Nat.mod_eq_of_lt (by simp [IntKind.bits]; omega)
    have e2 : b % 2 ^ (IntKind.bits .u64) = b := Nat.mod_eq_of_lt (by simp [IntKind.bits]; omega)
    rw [e1, e2]
  rw [e, wrapU]
  omega
theorem skip8 {l r : List UInt8} {b0 b1 b2 b3 b4 b5 b6 b7 : UInt8} (h : l = b0 :: b1 :: b2 :: b3 :: b4 :: b5 :: b6 :: b7 :: r) (hw : Lib.leNat [b0, b1, b2, b3, b4, b5, b6, b7] &&& 9259542123273814144 = 0) : Lib.validD l = Lib.validD r := by
  have h8 := (Lib.leNat_mask [b0, b1, b2, b3, b4, b5, b6, b7]).1 (by rw [show [b0, b1, b2, b3, b4, b5, b6, b7].length = 8 from rfl, Lib.maskN8]; exact hw)
  subst h
  exact Lib.validD_ascii 8 _ h8
theorem word_lt8 (b0 b1 b2 b3 b4 b5 b6 b7 : UInt8) : Lib.leNat [b0, b1, b2, b3, b4, b5, b6, b7] < 18446744073709551616 := by
  have h := Lib.leNat_lt [b0, b1, b2, b3, b4, b5, b6, b7]
  have e : 256 ^ [b0, b1, b2, b3, b4, b5, b6, b7].length = 18446744073709551616 := by
    show 256 ^ 8 = _
    decide +kernel
  rw [e] at h
  exact h
theorem eight {l : List UInt8} (h : 8 ≤ l.length) : ∃ b0 b1 b2 b3 b4 b5 b6 b7, l = b0 :: b1 :: b2 :: b3 :: b4 :: b5 :: b6 :: b7 :: l.drop 8 := by
  match l, h with
  | b0 :: b1 :: b2 :: b3 :: b4 :: b5 :: b6 :: b7 :: r, _ => exact ⟨b0, b1, b2, b3, b4, b5, b6, b7, rfl⟩
theorem drop8 {s : List UInt8} {off : Nat} (h : off + 8 ≤ s.length) : ∃ b0 b1 b2 b3 b4 b5 b6 b7, s.drop off = b0 :: b1 :: b2 :: b3 :: b4 :: b5 :: b6 :: b7 :: s.drop (off + 8) := by
  obtain ⟨b0, b1, b2, b3, b4, b5, b6, b7, e⟩ := eight (l := s.drop off) (by rw [List.length_drop]; omega)
  exact ⟨b0, b1, b2, b3, b4, b5, b6, b7, by rw [List.drop_drop] at e; exact e⟩
theorem word_at (P : Program) (N n0 : Nat) (M : Mem) (q ty : Nat) (s : List UInt8) (hq : M[q]? = some (.row (ofBytes s) 0 ty)) (off : Nat) (h : off + 8 ≤ s.length) :
    ∃ w : Nat, w < 18446744073709551616 ∧ (∀ n, 8 ≤ n → evFI P (cfg ml) T N (n0 + 1) 102 [.slc q off n 1 0] M = some (.ret (.int .u64 (w : Int)), M)) ∧ (w &&& 9259542123273814144 = 0 → Lib.validD (s.drop off) = Lib.validD (s.drop (off + 8))) := by
  obtain ⟨b0, b1, b2, b3, b4, b5, b6, b7, e⟩ := drop8 h
  exact ⟨_, word_lt8 b0 b1 b2 b3 b4 b5 b6 b7, fun n hn => word_eq P N n0 M q off n ty s _ b0 b1 b2 b3 b4 b5 b6 b7 e hq hn, fun hw => skip8 e hw⟩
noncomputable def loopV2 : IC := (I79.c.loops).getD 1 .bad
theorem v2_loop (P : Program) (N n0 : Nat) (M : Mem) (q ty : Nat) (s : List UInt8) (hl : s.length ≤ 1099511627776) (hq : M[q]? = some (.row (ofBytes s) 0 ty)) : ∀ (fuel off n : Nat), off + n = s.length → n < fuel →
    ∃ t off' n', loopA (fun a H => evI P (cfg ml) (evFI P (cfg ml) T N (n0 + 1)) N loopV2 a H) (some [0]) fuel ⟨188, [(0, .slc q off n 1 0)], []⟩ M = some (.exit 2, ⟨188, t, []⟩, M) ∧ look t 0 = .slc q off' n' 1 0 ∧ off' + n' = s.length ∧ n' ≤ n ∧ Lib.validD (s.drop off) = Lib.validD (s.drop off')
  | 0, _, _, _, h => by omega
  | fuel + 1, off, n, ho, hf => by
    rcases Nat.lt_or_ge 32 n with hlt | hge
    · obtain ⟨w0, l0, c0, v0⟩ := word_at (ml := ml) P N n0 M q ty s hq off (by omega)
      obtain ⟨w1, l1, c1, v1⟩ := word_at (ml := ml) P N n0 M q ty s hq (off + 8) (by omega)
      obtain ⟨w2, l2, c2, v2⟩ := word_at (ml := ml) P N n0 M q ty s hq (off + 16) (by omega)
      obtain ⟨w3, l3, c3, v3⟩ := word_at (ml := ml) P N n0 M q ty s hq (off + 24) (by omega)
      have hi : decide ((n : Int) > 32) = true := decide_eq_true (by omega)
      have n8 : natOf (.int .i64 8) = some 8 := rfl
      have n16 : natOf (.int .i64 16) = some 16 := rfl
      have n24 : natOf (.int .i64 24) = some 24 := rfl
      have n32 : natOf (.int .i64 32) = some 32 := rfl
      have g8 : 8 ≤ n := by omega
      have g16 : 16 ≤ n := by omega
      have g24 : 24 ≤ n := by omega
      have g32 : 32 ≤ n := by omega
      have k0 := c0 n (by omega)
      have k1 := c1 (n - 8) (by omega)
      have k2 := c2 (n - 16) (by omega)
      have k3 := c3 (n - 24) (by omega)
      have o1 := orU l0 l1
      have o2 := orU l2 l3
      have m1 : w0 ||| w1 < 18446744073709551616 := Nat.or_lt_two_pow (n := 64) l0 l1
      have m2 : w2 ||| w3 < 18446744073709551616 := Nat.or_lt_two_pow (n := 64) l2 l3
      have o3 := orU m1 m2
      have m3 : w0 ||| w1 ||| (w2 ||| w3) < 18446744073709551616 := Nat.or_lt_two_pow (n := 64) m1 m2
      have mm := maskU m3
      have hz : ((((w0 ||| w1 ||| (w2 ||| w3)) &&& 9259542123273814144 : Nat) : Int) == 0) = decide ((w0 ||| w1 ||| (w2 ||| w3)) &&& 9259542123273814144 = 0) := by
        cases hd : decide ((w0 ||| w1 ||| (w2 ||| w3)) &&& 9259542123273814144 = 0)
        · exact beq_false_of_ne (by have := of_decide_eq_false hd; omega)
        · exact beq_iff_eq.2 (by have := of_decide_eq_true hd; omega)
      cases hd : decide ((w0 ||| w1 ||| (w2 ||| w3)) &&& 9259542123273814144 = 0)
      · rw [hd] at hz
        refine ⟨_, off, n, loopA_exit (by simp only [loopV2,I79,IC.loops,bound,cutSD,hi,n8,n16,n24,n32,g8,g16,g24,g32,k0,k1,k2,k3,o1,o2,o3,mm,hz,eC_len,eC_take,eC_one,eC_0,eC_1,eC_2,eC_3,eC_4,eCr,eCr_0,eCr_1,eCr_2,eCr_3,eCr_4,List.length_drop,Nat.reduceSub,ZR,atr,Zs,Zr,Zp,Za,Zb,evI,opsI,stepI,wantI,opI,AAct.evI,look,AAct.put,mkVal,mkVM,intOpA,intA,shiftA,unA,ZP,ZO,Zh,Zt,reduceIte,Nat.reduceEqDiff,Nat.reduceLT,Zo,Zq,true_and,and_true,and_self,ZB,cellsAt,Zg,ZC,Zf,Zk,ZL,ZM,Nat.reduceAdd,Nat.reduceMul,ZN,AV.cells,AV.one,known,Zn,getE_0,getE_k,setE_0,setE_k,Zc,Zd,Zl,Zm,Zi,Zw,Zu,Zj,Z1,Zx,Zy,ZJ,ZI,ZH,ZD,ZE,splice,fillI,Nat.reduceLeDiff,strA,ZK,ZA,Ze,bq_ft,bq_tf,ZG,ZF,ZQ,Zv,Zz,isNilA,nilPtr,nilSl,nilIf,nilFn,nilMap,nilCheckA,if_true,if_false,lt_lit,le_lit,lt_lit2,le_lit2,le_sub1,le_sub2,drawI,drawI2,drawI0,drawI20,lexD,valD,valI,putD,okD,roD,memAt,lastM,wantI,eqv_refl,eqM_refl,eqM_app,eqB,eqvL,eqv,List.getLast?_cons_cons,List.getLast?_singleton,Option.getD_some,Bool.or_true,Bool.true_or,ZA,resvV]; rfl), rfl, ho, Nat.le_refl _, rfl⟩
      · rw [hd] at hz
        have hz' := of_decide_eq_true hd
        rw [Lib.or_mask, Lib.or_mask, Lib.or_mask] at hz'
        obtain ⟨t, off', n', hr, ht, h1, h2, h3⟩ := v2_loop P N n0 M q ty s hl hq fuel (off + 32) (n - 32) (by omega) (by omega)
        refine ⟨t, off', n', ?_, ht, h1, by omega, ?_⟩
        · refine loopA_go (by simp only [loopV2,I79,IC.loops,bound,cutSD,hi,n8,n16,n24,n32,g8,g16,g24,g32,k0,k1,k2,k3,o1,o2,o3,mm,hz,eC_len,eC_take,eC_one,eC_0,eC_1,eC_2,eC_3,eC_4,eCr,eCr_0,eCr_1,eCr_2,eCr_3,eCr_4,List.length_drop,Nat.reduceSub,ZR,atr,Zs,Zr,Zp,Za,Zb,evI,opsI,stepI,wantI,opI,AAct.evI,look,AAct.put,mkVal,mkVM,intOpA,intA,shiftA,unA,ZP,ZO,Zh,Zt,reduceIte,Nat.reduceEqDiff,Nat.reduceLT,Zo,Zq,true_and,and_true,and_self,ZB,cellsAt,Zg,ZC,Zf,Zk,ZL,ZM,Nat.reduceAdd,Nat.reduceMul,ZN,AV.cells,AV.one,known,Zn,getE_0,getE_k,setE_0,setE_k,Zc,Zd,Zl,Zm,Zi,Zw,Zu,Zj,Z1,Zx,Zy,ZJ,ZI,ZH,ZD,ZE,splice,fillI,Nat.reduceLeDiff,strA,ZK,ZA,Ze,bq_ft,bq_tf,ZG,ZF,ZQ,Zv,Zz,isNilA,nilPtr,nilSl,nilIf,nilFn,nilMap,nilCheckA,if_true,if_false,lt_lit,le_lit,lt_lit2,le_lit2,le_sub1,le_sub2,drawI,drawI2,drawI0,drawI20,lexD,valD,valI,putD,okD,roD,memAt,lastM,wantI,eqv_refl,eqM_refl,eqM_app,eqB,eqvL,eqv,List.getLast?_cons_cons,List.getLast?_singleton,Option.getD_some,Bool.or_true,Bool.true_or,ZA,resvV]; rfl) ?_
          simp only [ite_self,roundEnd,AAct.keepT,Zv,Zz,look,reduceIte,Nat.reduceEqDiff,lowT,Zx,Zy,low,lowL,lowD,mayCut,Zg,Zf,Zk,ZL,Nat.reduceAdd,takeS,takeE_0,takeE_k,Zi,Zw,eqM_app,eqM_refl,Bool.true_or,ZJ,ZI,ZH,ZP,Nat.lt_succ_self,Nat.lt_add_right_iff_pos,Nat.add_lt_add_iff_left,Nat.reduceLT,if_true,lt_k,Zn,Zp,Zr]
          exact hr
        · rw [v0 hz'.1.1, v1 hz'.1.2, v2 hz'.2.1, v3 hz'.2.2]
          exact h3
    · have hi : decide ((n : Int) > 32) = false := decide_eq_false (by omega)
      exact ⟨_, off, n, loopA_exit (by simp only [loopV2,I79,IC.loops,hi,eC_len,eC_take,eC_one,eC_0,eC_1,eC_2,eC_3,eC_4,eCr,eCr_0,eCr_1,eCr_2,eCr_3,eCr_4,List.length_drop,Nat.reduceSub,ZR,atr,Zs,Zr,Zp,Za,Zb,evI,opsI,stepI,wantI,opI,AAct.evI,look,AAct.put,mkVal,mkVM,intOpA,intA,shiftA,unA,ZP,ZO,Zh,Zt,reduceIte,Nat.reduceEqDiff,Nat.reduceLT,Zo,Zq,true_and,and_true,and_self,ZB,cellsAt,Zg,ZC,Zf,Zk,ZL,ZM,Nat.reduceAdd,Nat.reduceMul,ZN,AV.cells,AV.one,known,Zn,getE_0,getE_k,setE_0,setE_k,Zc,Zd,Zl,Zm,Zi,Zw,Zu,Zj,Z1,Zx,Zy,ZJ,ZI,ZH,ZD,ZE,splice,fillI,Nat.reduceLeDiff,strA,ZK,ZA,Ze,bq_ft,bq_tf,ZG,ZF,ZQ,Zv,Zz,isNilA,nilPtr,nilSl,nilIf,nilFn,nilMap,nilCheckA,if_true,if_false,lt_lit,le_lit,lt_lit2,le_lit2,le_sub1,le_sub2,drawI,drawI2,drawI0,drawI20,lexD,valD,valI,putD,okD,roD,memAt,lastM,wantI,eqv_refl,eqM_refl,eqM_app,eqB,eqvL,eqv,List.getLast?_cons_cons,List.getLast?_singleton,Option.getD_some,Bool.or_true,Bool.true_or,ZA,resvV]; rfl), rfl, ho, Nat.le_refl _, rfl⟩
end Go.Proofs.YtmnajffpmbidiaaGreatDoor.Ev
