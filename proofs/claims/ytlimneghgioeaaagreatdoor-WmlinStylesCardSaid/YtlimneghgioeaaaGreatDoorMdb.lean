/- Parts of one proof. -/
import Derived.Test.YtlimneghgioeaaaGreatDoorMda
set_option linter.all false
namespace Go.Proofs.YtlimneghgioeaaaGreatDoor.Ev
open Go.Proofs.YtlimneghgioeaaaGreatDoor.Ic
set_option maxRecDepth 100000
def wNs : List UInt8 := [104, 116, 116, 112, 58, 47, 47, 115, 99, 104, 101, 109, 97, 115, 46, 111, 112, 101, 110, 120, 109, 108, 102, 111, 114, 109, 97, 116, 115, 46, 111, 114, 103, 47, 119, 111, 114, 100, 112, 114, 111, 99, 101, 115, 115, 105, 110, 103, 109, 108, 47, 50, 48, 48, 54, 47, 109, 97, 105, 110]
def valS : List UInt8 := [118, 97, 108]
def attrOf (e : El) (nm : List UInt8) : List UInt8 := (getIn wNs nm e.ats).getD []
def kidOf (e : El) (nm : List UInt8) : El := (findIn wNs nm e.kids).getD zEl
def valOf (e : El) (nm : List UInt8) : List UInt8 := attrOf (kidOf e nm) valS
inductive Fits : El → Prop
  | mk (sp nm tx : List UInt8) (ats : List (List UInt8 × List UInt8 × List UInt8)) (kids : List El) (ha : ats.length ≤ 9223372036854775807) (hk : kids.length ≤ 9223372036854775807) (h : ∀ k ∈ kids, Fits k) (hv : ∀ a ∈ ats, a.2.2.length ≤ 9223372036854775807) : Fits (.mk sp nm tx ats kids)
theorem Fits.ats {e : El} (h : Fits e) : e.ats.length ≤ 9223372036854775807 := by cases h; assumption
theorem Fits.len {e : El} (h : Fits e) : e.kids.length ≤ 9223372036854775807 := by cases h; assumption
theorem Fits.kid {e k : El} (h : Fits e) (hk : k ∈ e.kids) : Fits k := by cases h with | mk _ _ _ _ _ _ _ h _ => exact h k hk
theorem Fits.z : Fits zEl := .mk _ _ _ _ _ (by simp) (by simp) (by simp) (by simp)
theorem findIn_mem {s n : List UInt8} {x : El} : ∀ {l : List El}, findIn s n l = some x → x ∈ l
  | [], h => by simp [findIn] at h
  | k :: ks, h => by
    simp only [findIn] at h
    split at h
    · injection h with h; subst h; exact List.mem_cons_self
    · exact List.mem_cons_of_mem _ (findIn_mem h)
theorem getIn_mem {s n v : List UInt8} : ∀ {l : List (List UInt8 × List UInt8 × List UInt8)}, getIn s n l = some v → ∃ a ∈ l, a.2.2 = v
  | [], h => by simp [getIn] at h
  | k :: ks, h => by
    simp only [getIn] at h
    split at h
    · injection h with h; exact ⟨k, List.mem_cons_self, h⟩
    · obtain ⟨a, h1, h2⟩ := getIn_mem h
      exact ⟨a, List.mem_cons_of_mem _ h1, h2⟩
theorem Fits.attr {e : El} (h : Fits e) (nm : List UInt8) : (attrOf e nm).length ≤ 9223372036854775807 := by
  unfold attrOf
  cases hg : getIn wNs nm e.ats with
  | none => simp
  | some v =>
    obtain ⟨a, h1, rfl⟩ := getIn_mem hg
    cases h with | mk _ _ _ _ _ _ _ _ hv => exact hv a h1
theorem Fits.found {e : El} (h : Fits e) (s n : List UInt8) : Fits ((findIn s n e.kids).getD zEl) := by
  cases hf : findIn s n e.kids with
  | none => exact .z
  | some x => exact h.kid (findIn_mem hf)
theorem Fits.kidOf {e : El} (h : Fits e) (nm : List UInt8) : Fits (kidOf e nm) := h.found _ _
theorem Fits.val {e : El} (h : Fits e) (nm : List UInt8) : (valOf e nm).length ≤ 9223372036854775807 := (h.kidOf nm).attr valS
theorem attr_eq (P : Program) (N n : Nat) (hN : 9223372036854775808 ≤ N) (nm : List UInt8) (e : El) (he : Fits e) (H : Mem) :
    evFI P cfg T N (n + 2) 12 [.agg (eC e), .str nm] H = some (.ret (.str (attrOf e nm)), H) := by
  have hg := fun H => get_eq P N n hN wNs nm e he.ats H
  simp only [wNs] at hg
  refine evF_ret (m := 14) (v := .str (attrOf e nm)) (a := ?a) (H1 := ?H1) rfl t12 rfl ?hb ?hd ?hr ?hz
  case hb => simp only [Zf,Zk,idx,I12,hg,eC_len,eC_take,eC_one,eC_0,eC_1,eC_2,eC_3,eC_4,eCr,eCr_0,eCr_1,eCr_2,eCr_3,eCr_4,List.length_drop,Nat.reduceSub,ZR,atr,Zs,Zr,Zp,Za,Zb,evI,opsI,stepI,wantI,opI,AAct.evI,look,AAct.put,mkVal,mkVM,intOpA,intA,shiftA,unA,ZP,ZO,Zh,Zt,reduceIte,Nat.reduceEqDiff,Nat.reduceLT,Zo,Zq,true_and,and_true,and_self,ZB,cellsAt,Zg,ZC,Zf,Zk,ZL,ZM,Nat.reduceAdd,Nat.reduceMul,ZN,AV.cells,AV.one,known,Zn,getE_0,getE_k,setE_0,setE_k,Zc,Zd,Zl,Zm,Zi,Zw,Zu,Zj,Z1,Zx,Zy,ZJ,ZI,ZH,ZD,ZE,splice,fillI,Nat.reduceLeDiff,strA,ZK,ZA,Ze,bq_ft,bq_tf,ZG,ZF,ZQ,Zv,Zz,isNilA,nilPtr,nilSl,nilIf,nilFn,nilMap,nilCheckA,if_true,if_false,lt_lit,le_lit,lt_lit2,le_lit2,le_sub1,le_sub2]; rfl
  case hd => rfl
  case hr => simp only [I12,resI,resLI,attrOf,wNs,Zs,Zr,Zp,Za,Zb,evI,opsI,stepI,wantI,opI,AAct.evI,look,AAct.put,mkVal,mkVM,intOpA,intA,shiftA,unA,ZP,ZO,Zh,Zt,reduceIte,Nat.reduceEqDiff,Nat.reduceLT,Zo,Zq,true_and,and_true,and_self,ZB,cellsAt,Zg,ZC,Zf,Zk,ZL,ZM,Nat.reduceAdd,Nat.reduceMul,ZN,AV.cells,AV.one,known,Zn,getE_0,getE_k,setE_0,setE_k,Zc,Zd,Zl,Zm,Zi,Zw,Zu,Zj,Z1,Zx,Zy,ZJ,ZI,ZH,ZD,ZE,splice,fillI,Nat.reduceLeDiff,strA,ZK,ZA,Ze,bq_ft,bq_tf,ZG,ZF,ZQ,Zv,Zz,isNilA,nilPtr,nilSl,nilIf,nilFn,nilMap,nilCheckA,if_true,if_false,lt_lit,le_lit,lt_lit2,le_lit2,le_sub1,le_sub2]
  case hz => simp only [finish,finish,cfg,keep,Ze,if_false,frz,frzL,eC_low,kC_low,atsC_low,low,lowL,ZP,Zh,roundEnd,AAct.keepT,Zv,Zz,look,reduceIte,Nat.reduceEqDiff,lowT,Zx,Zy,low,lowL,lowD,mayCut,Zg,Zf,Zk,ZL,Nat.reduceAdd,takeS,takeE_0,takeE_k,Zi,Zw,eqM_app,eqM_refl,Bool.true_or,ZJ,ZI,ZH,ZP,Nat.lt_succ_self,Nat.lt_add_right_iff_pos,Nat.add_lt_add_iff_left,Nat.reduceLT,if_true,lt_k,Zn,Zp,Zr]
theorem kid_eq (P : Program) (N n : Nat) (hN : 9223372036854775808 ≤ N) (nm : List UInt8) (e : El) (he : Fits e) (H : Mem) :
    evFI P cfg T N (n + 2) 15 [.agg (eC e), .str nm] H = some (.ret (.agg (eC (kidOf e nm))), H) := by
  have hg := fun H => find_eq P N n hN wNs nm e he.len H
  simp only [wNs] at hg
  refine evF_ret (m := 14) (v := .agg (eC (kidOf e nm))) (a := ?a) (H1 := ?H1) rfl t15 rfl ?hb ?hd ?hr ?hz
  case hb => simp only [Zf,Zk,idx,I15,hg,eC_len,eC_take,eC_one,eC_0,eC_1,eC_2,eC_3,eC_4,eCr,eCr_0,eCr_1,eCr_2,eCr_3,eCr_4,List.length_drop,Nat.reduceSub,ZR,atr,Zs,Zr,Zp,Za,Zb,evI,opsI,stepI,wantI,opI,AAct.evI,look,AAct.put,mkVal,mkVM,intOpA,intA,shiftA,unA,ZP,ZO,Zh,Zt,reduceIte,Nat.reduceEqDiff,Nat.reduceLT,Zo,Zq,true_and,and_true,and_self,ZB,cellsAt,Zg,ZC,Zf,Zk,ZL,ZM,Nat.reduceAdd,Nat.reduceMul,ZN,AV.cells,AV.one,known,Zn,getE_0,getE_k,setE_0,setE_k,Zc,Zd,Zl,Zm,Zi,Zw,Zu,Zj,Z1,Zx,Zy,ZJ,ZI,ZH,ZD,ZE,splice,fillI,Nat.reduceLeDiff,strA,ZK,ZA,Ze,bq_ft,bq_tf,ZG,ZF,ZQ,Zv,Zz,isNilA,nilPtr,nilSl,nilIf,nilFn,nilMap,nilCheckA,if_true,if_false,lt_lit,le_lit,lt_lit2,le_lit2,le_sub1,le_sub2]; rfl
  case hd => rfl
  case hr => simp only [I15,resI,resLI,kidOf,wNs,eC_len,eC_take,eC_one,eC_0,eC_1,eC_2,eC_3,eC_4,eCr,eCr_0,eCr_1,eCr_2,eCr_3,eCr_4,List.length_drop,Nat.reduceSub,ZR,atr,Zs,Zr,Zp,Za,Zb,evI,opsI,stepI,wantI,opI,AAct.evI,look,AAct.put,mkVal,mkVM,intOpA,intA,shiftA,unA,ZP,ZO,Zh,Zt,reduceIte,Nat.reduceEqDiff,Nat.reduceLT,Zo,Zq,true_and,and_true,and_self,ZB,cellsAt,Zg,ZC,Zf,Zk,ZL,ZM,Nat.reduceAdd,Nat.reduceMul,ZN,AV.cells,AV.one,known,Zn,getE_0,getE_k,setE_0,setE_k,Zc,Zd,Zl,Zm,Zi,Zw,Zu,Zj,Z1,Zx,Zy,ZJ,ZI,ZH,ZD,ZE,splice,fillI,Nat.reduceLeDiff,strA,ZK,ZA,Ze,bq_ft,bq_tf,ZG,ZF,ZQ,Zv,Zz,isNilA,nilPtr,nilSl,nilIf,nilFn,nilMap,nilCheckA,if_true,if_false,lt_lit,le_lit,lt_lit2,le_lit2,le_sub1,le_sub2]
  case hz => simp only [finish,eC_eq,finish,cfg,keep,Ze,if_false,frz,frzL,eC_low,kC_low,atsC_low,low,lowL,ZP,Zh,roundEnd,AAct.keepT,Zv,Zz,look,reduceIte,Nat.reduceEqDiff,lowT,Zx,Zy,low,lowL,lowD,mayCut,Zg,Zf,Zk,ZL,Nat.reduceAdd,takeS,takeE_0,takeE_k,Zi,Zw,eqM_app,eqM_refl,Bool.true_or,ZJ,ZI,ZH,ZP,Nat.lt_succ_self,Nat.lt_add_right_iff_pos,Nat.add_lt_add_iff_left,Nat.reduceLT,if_true,lt_k,Zn,Zp,Zr]
theorem val_eq (P : Program) (N n : Nat) (hN : 9223372036854775808 ≤ N) (nm : List UInt8) (e : El) (he : Fits e) (H : Mem) :
    evFI P cfg T N (n + 3) 13 [.agg (eC e), .str nm] H = some (.ret (.str (valOf e nm)), H) := by
  have hk := fun H => kid_eq P N n hN nm e he H
  have ha := fun H => attr_eq P N n hN valS (kidOf e nm) (he.found _ _) H
  simp only [valS] at ha
  refine evF_ret (m := 9) (v := .str (valOf e nm)) (a := ?a) (H1 := ?H1) rfl t13 rfl ?hb ?hd ?hr ?hz
  case hb => simp only [Zf,Zk,idx,I13,hk,ha,eC_len,eC_take,eC_one,eC_0,eC_1,eC_2,eC_3,eC_4,eCr,eCr_0,eCr_1,eCr_2,eCr_3,eCr_4,List.length_drop,Nat.reduceSub,ZR,atr,Zs,Zr,Zp,Za,Zb,evI,opsI,stepI,wantI,opI,AAct.evI,look,AAct.put,mkVal,mkVM,intOpA,intA,shiftA,unA,ZP,ZO,Zh,Zt,reduceIte,Nat.reduceEqDiff,Nat.reduceLT,Zo,Zq,true_and,and_true,and_self,ZB,cellsAt,Zg,ZC,Zf,Zk,ZL,ZM,Nat.reduceAdd,Nat.reduceMul,ZN,AV.cells,AV.one,known,Zn,getE_0,getE_k,setE_0,setE_k,Zc,Zd,Zl,Zm,Zi,Zw,Zu,Zj,Z1,Zx,Zy,ZJ,ZI,ZH,ZD,ZE,splice,fillI,Nat.reduceLeDiff,strA,ZK,ZA,Ze,bq_ft,bq_tf,ZG,ZF,ZQ,Zv,Zz,isNilA,nilPtr,nilSl,nilIf,nilFn,nilMap,nilCheckA,if_true,if_false,lt_lit,le_lit,lt_lit2,le_lit2,le_sub1,le_sub2]; rfl
  case hd => rfl
  case hr => simp only [I13,resI,resLI,valOf,valS,Zs,Zr,Zp,Za,Zb,evI,opsI,stepI,wantI,opI,AAct.evI,look,AAct.put,mkVal,mkVM,intOpA,intA,shiftA,unA,ZP,ZO,Zh,Zt,reduceIte,Nat.reduceEqDiff,Nat.reduceLT,Zo,Zq,true_and,and_true,and_self,ZB,cellsAt,Zg,ZC,Zf,Zk,ZL,ZM,Nat.reduceAdd,Nat.reduceMul,ZN,AV.cells,AV.one,known,Zn,getE_0,getE_k,setE_0,setE_k,Zc,Zd,Zl,Zm,Zi,Zw,Zu,Zj,Z1,Zx,Zy,ZJ,ZI,ZH,ZD,ZE,splice,fillI,Nat.reduceLeDiff,strA,ZK,ZA,Ze,bq_ft,bq_tf,ZG,ZF,ZQ,Zv,Zz,isNilA,nilPtr,nilSl,nilIf,nilFn,nilMap,nilCheckA,if_true,if_false,lt_lit,le_lit,lt_lit2,le_lit2,le_sub1,le_sub2]
  case hz => simp only [finish,finish,cfg,keep,Ze,if_false,frz,frzL,eC_low,kC_low,atsC_low,low,lowL,ZP,Zh,roundEnd,AAct.keepT,Zv,Zz,look,reduceIte,Nat.reduceEqDiff,lowT,Zx,Zy,low,lowL,lowD,mayCut,Zg,Zf,Zk,ZL,Nat.reduceAdd,takeS,takeE_0,takeE_k,Zi,Zw,eqM_app,eqM_refl,Bool.true_or,ZJ,ZI,ZH,ZP,Nat.lt_succ_self,Nat.lt_add_right_iff_pos,Nat.add_lt_add_iff_left,Nat.reduceLT,if_true,lt_k,Zn,Zp,Zr]
noncomputable def loopRGet : IC := (I18.c.loops).getD 0 .bad
theorem rget_loop (P : Program) (F : FSem) (N : Nat) (s n : List UInt8) (e : El) (hall : e.ats.length ≤ 9223372036854775807) (H : Mem) : ∀ (fuel k : Nat), k ≤ e.ats.length → e.ats.length - k < fuel →
    ∃ t M, loopA (fun a H => evI P cfg F N loopRGet a H) (some [1, 2, 3, 8]) fuel ⟨40, [(1, .str s), (2, .str n), (3, .ptr H.length 0 0), (8, .int .i64 k)], []⟩ (H ++ [.row (eC e) 0 (25 + 1)]) =
      (match getIn s n (e.ats.drop k) with
      | some x => some (.ret, ⟨40, (7, .bool true) :: (6, .str x) :: t, []⟩, H ++ M)
      | none => some (.exit 0, ⟨40, t, []⟩, H ++ M))
  | 0, k, _, h => by omega
  | fuel + 1, k, hk, hf => by
    rcases Nat.lt_or_ge k e.ats.length with hlt | hge
    · obtain ⟨x, hx⟩ := all_drop hlt
      have hget : (e.ats.flatMap atC).drop (k * 3) = atC x ++ (e.ats.drop (k + 1)).flatMap atC := by rw [atsC_drop, hx]; rfl
      have hlen : k * 3 + 3 ≤ (e.ats.flatMap atC).length := by rw [atsC_len]; omega
      have hi : (k : Int) < (e.ats.length : Int) := by omega
      have hw := wrap_next hlt hall
      have hn := natOf_nat k .i64
      obtain ⟨t, M, ht⟩ := rget_loop P F N s n e hall H fuel (k + 1) (by omega) (by omega)
      rw [hx]
      cases h1 : (x.1 == s) <;> cases h2 : (x.2.1 == n)
      · refine ⟨t, M, ?_⟩
        simp only [getIn,h1,h2,ZJ,Ze,if_false]
        refine loopA_go (by simp only [loopRGet,I18,IC.loops,hi,hlt,hlen,hget,hn,hw,h1,h2,eC_len,eC_take,eC_one,eC_0,eC_1,eC_2,eC_3,eC_4,eCr,eCr_0,eCr_1,eCr_2,eCr_3,eCr_4,List.length_drop,Nat.reduceSub,ZR,atr,Zs,Zr,Zp,Za,Zb,evI,opsI,stepI,wantI,opI,AAct.evI,look,AAct.put,mkVal,mkVM,intOpA,intA,shiftA,unA,ZP,ZO,Zh,Zt,reduceIte,Nat.reduceEqDiff,Nat.reduceLT,Zo,Zq,true_and,and_true,and_self,ZB,cellsAt,Zg,ZC,Zf,Zk,ZL,ZM,Nat.reduceAdd,Nat.reduceMul,ZN,AV.cells,AV.one,known,Zn,getE_0,getE_k,setE_0,setE_k,Zc,Zd,Zl,Zm,Zi,Zw,Zu,Zj,Z1,Zx,Zy,ZJ,ZI,ZH,ZD,ZE,splice,fillI,Nat.reduceLeDiff,strA,ZK,ZA,Ze,bq_ft,bq_tf,ZG,ZF,ZQ,Zv,Zz,isNilA,nilPtr,nilSl,nilIf,nilFn,nilMap,nilCheckA,if_true,if_false,lt_lit,le_lit,lt_lit2,le_lit2,le_sub1,le_sub2]; rfl) ?_
        simp only [eC_low,roundEnd,AAct.keepT,Zv,Zz,look,reduceIte,Nat.reduceEqDiff,lowT,Zx,Zy,low,lowL,lowD,mayCut,Zg,Zf,Zk,ZL,Nat.reduceAdd,takeS,takeE_0,takeE_k,Zi,Zw,eqM_app,eqM_refl,Bool.true_or,ZJ,ZI,ZH,ZP,Nat.lt_succ_self,Nat.lt_add_right_iff_pos,Nat.add_lt_add_iff_left,Nat.reduceLT,if_true,lt_k,Zn,Zp,Zr]
        exact ht
      · refine ⟨t, M, ?_⟩
        simp only [getIn,h1,h2,ZI,Ze,if_false]
        refine loopA_go (by simp only [loopRGet,I18,IC.loops,hi,hlt,hlen,hget,hn,hw,h1,h2,eC_len,eC_take,eC_one,eC_0,eC_1,eC_2,eC_3,eC_4,eCr,eCr_0,eCr_1,eCr_2,eCr_3,eCr_4,List.length_drop,Nat.reduceSub,ZR,atr,Zs,Zr,Zp,Za,Zb,evI,opsI,stepI,wantI,opI,AAct.evI,look,AAct.put,mkVal,mkVM,intOpA,intA,shiftA,unA,ZP,ZO,Zh,Zt,reduceIte,Nat.reduceEqDiff,Nat.reduceLT,Zo,Zq,true_and,and_true,and_self,ZB,cellsAt,Zg,ZC,Zf,Zk,ZL,ZM,Nat.reduceAdd,Nat.reduceMul,ZN,AV.cells,AV.one,known,Zn,getE_0,getE_k,setE_0,setE_k,Zc,Zd,Zl,Zm,Zi,Zw,Zu,Zj,Z1,Zx,Zy,ZJ,ZI,ZH,ZD,ZE,splice,fillI,Nat.reduceLeDiff,strA,ZK,ZA,Ze,bq_ft,bq_tf,ZG,ZF,ZQ,Zv,Zz,isNilA,nilPtr,nilSl,nilIf,nilFn,nilMap,nilCheckA,if_true,if_false,lt_lit,le_lit,lt_lit2,le_lit2,le_sub1,le_sub2]; rfl) ?_
        simp only [eC_low,roundEnd,AAct.keepT,Zv,Zz,look,reduceIte,Nat.reduceEqDiff,lowT,Zx,Zy,low,lowL,lowD,mayCut,Zg,Zf,Zk,ZL,Nat.reduceAdd,takeS,takeE_0,takeE_k,Zi,Zw,eqM_app,eqM_refl,Bool.true_or,ZJ,ZI,ZH,ZP,Nat.lt_succ_self,Nat.lt_add_right_iff_pos,Nat.add_lt_add_iff_left,Nat.reduceLT,if_true,lt_k,Zn,Zp,Zr]
        exact ht
      · refine ⟨t, M, ?_⟩
        simp only [getIn,h1,h2,ZD,Ze,if_false]
        refine loopA_go (by simp only [loopRGet,I18,IC.loops,hi,hlt,hlen,hget,hn,hw,h1,h2,eC_len,eC_take,eC_one,eC_0,eC_1,eC_2,eC_3,eC_4,eCr,eCr_0,eCr_1,eCr_2,eCr_3,eCr_4,List.length_drop,Nat.reduceSub,ZR,atr,Zs,Zr,Zp,Za,Zb,evI,opsI,stepI,wantI,opI,AAct.evI,look,AAct.put,mkVal,mkVM,intOpA,intA,shiftA,unA,ZP,ZO,Zh,Zt,reduceIte,Nat.reduceEqDiff,Nat.reduceLT,Zo,Zq,true_and,and_true,and_self,ZB,cellsAt,Zg,ZC,Zf,Zk,ZL,ZM,Nat.reduceAdd,Nat.reduceMul,ZN,AV.cells,AV.one,known,Zn,getE_0,getE_k,setE_0,setE_k,Zc,Zd,Zl,Zm,Zi,Zw,Zu,Zj,Z1,Zx,Zy,ZJ,ZI,ZH,ZD,ZE,splice,fillI,Nat.reduceLeDiff,strA,ZK,ZA,Ze,bq_ft,bq_tf,ZG,ZF,ZQ,Zv,Zz,isNilA,nilPtr,nilSl,nilIf,nilFn,nilMap,nilCheckA,if_true,if_false,lt_lit,le_lit,lt_lit2,le_lit2,le_sub1,le_sub2]; rfl) ?_
        simp only [eC_low,roundEnd,AAct.keepT,Zv,Zz,look,reduceIte,Nat.reduceEqDiff,lowT,Zx,Zy,low,lowL,lowD,mayCut,Zg,Zf,Zk,ZL,Nat.reduceAdd,takeS,takeE_0,takeE_k,Zi,Zw,eqM_app,eqM_refl,Bool.true_or,ZJ,ZI,ZH,ZP,Nat.lt_succ_self,Nat.lt_add_right_iff_pos,Nat.add_lt_add_iff_left,Nat.reduceLT,if_true,lt_k,Zn,Zp,Zr]
        exact ht
      · simp only [getIn,h1,h2,ZJ,if_true]
        refine ⟨_, _, loopA_ret (by simp only [loopRGet,I18,IC.loops,hi,hlt,hlen,hget,hn,hw,h1,h2,eC_len,eC_take,eC_one,eC_0,eC_1,eC_2,eC_3,eC_4,eCr,eCr_0,eCr_1,eCr_2,eCr_3,eCr_4,List.length_drop,Nat.reduceSub,ZR,atr,Zs,Zr,Zp,Za,Zb,evI,opsI,stepI,wantI,opI,AAct.evI,look,AAct.put,mkVal,mkVM,intOpA,intA,shiftA,unA,ZP,ZO,Zh,Zt,reduceIte,Nat.reduceEqDiff,Nat.reduceLT,Zo,Zq,true_and,and_true,and_self,ZB,cellsAt,Zg,ZC,Zf,Zk,ZL,ZM,Nat.reduceAdd,Nat.reduceMul,ZN,AV.cells,AV.one,known,Zn,getE_0,getE_k,setE_0,setE_k,Zc,Zd,Zl,Zm,Zi,Zw,Zu,Zj,Z1,Zx,Zy,ZJ,ZI,ZH,ZD,ZE,splice,fillI,Nat.reduceLeDiff,strA,ZK,ZA,Ze,bq_ft,bq_tf,ZG,ZF,ZQ,Zv,Zz,isNilA,nilPtr,nilSl,nilIf,nilFn,nilMap,nilCheckA,if_true,if_false,lt_lit,le_lit,lt_lit2,le_lit2,le_sub1,le_sub2]; rfl)⟩
    · have hk' : k = e.ats.length := by omega
      subst hk'
      simp only [List.drop_length,getIn]
      exact ⟨_, _, loopA_exit (by simp only [loopRGet,I18,IC.loops,Int.lt_irrefl,eC_len,eC_take,eC_one,eC_0,eC_1,eC_2,eC_3,eC_4,eCr,eCr_0,eCr_1,eCr_2,eCr_3,eCr_4,List.length_drop,Nat.reduceSub,ZR,atr,Zs,Zr,Zp,Za,Zb,evI,opsI,stepI,wantI,opI,AAct.evI,look,AAct.put,mkVal,mkVM,intOpA,intA,shiftA,unA,ZP,ZO,Zh,Zt,reduceIte,Nat.reduceEqDiff,Nat.reduceLT,Zo,Zq,true_and,and_true,and_self,ZB,cellsAt,Zg,ZC,Zf,Zk,ZL,ZM,Nat.reduceAdd,Nat.reduceMul,ZN,AV.cells,AV.one,known,Zn,getE_0,getE_k,setE_0,setE_k,Zc,Zd,Zl,Zm,Zi,Zw,Zu,Zj,Z1,Zx,Zy,ZJ,ZI,ZH,ZD,ZE,splice,fillI,Nat.reduceLeDiff,strA,ZK,ZA,Ze,bq_ft,bq_tf,ZG,ZF,ZQ,Zv,Zz,isNilA,nilPtr,nilSl,nilIf,nilFn,nilMap,nilCheckA,if_true,if_false,lt_lit,le_lit,lt_lit2,le_lit2,le_sub1,le_sub2]; rfl)⟩
theorem rget_eq (P : Program) (N n : Nat) (hN : 9223372036854775808 ≤ N) (s nm : List UInt8) (e : El) (he : e.ats.length ≤ 9223372036854775807) (H : Mem) :
    evFI P cfg T N (n + 1) 18 [.agg (eC e), .str s, .str nm] H = some (.ret (.tup [.str ((getIn s nm e.ats).getD []), .bool (getIn s nm e.ats).isSome]), H) := by
  obtain ⟨t, M, ht⟩ := rget_loop P (evFI P cfg T N n) N s nm e he H N 0 (Nat.zero_le _) (by omega)
  rw [List.drop_zero] at ht
  cases hf : getIn s nm e.ats with
  | some x =>
    rw [hf] at ht
    simp only [Option.getD_some,Option.isSome_some]
    refine evF_ret (m := 40) (v := .tup [.str x, .bool true]) (a := ?a) (H1 := ?H1) rfl t18 rfl ?hb ?hd ?hr ?hz
    case hb =>
      apply evI_seq
      · simp only [Zf,Zk,idx,I18,eC_len,eC_take,eC_one,eC_0,eC_1,eC_2,eC_3,eC_4,eCr,eCr_0,eCr_1,eCr_2,eCr_3,eCr_4,List.length_drop,Nat.reduceSub,ZR,atr,Zs,Zr,Zp,Za,Zb,evI,opsI,stepI,wantI,opI,AAct.evI,look,AAct.put,mkVal,mkVM,intOpA,intA,shiftA,unA,ZP,ZO,Zh,Zt,reduceIte,Nat.reduceEqDiff,Nat.reduceLT,Zo,Zq,true_and,and_true,and_self,ZB,cellsAt,Zg,ZC,Zf,Zk,ZL,ZM,Nat.reduceAdd,Nat.reduceMul,ZN,AV.cells,AV.one,known,Zn,getE_0,getE_k,setE_0,setE_k,Zc,Zd,Zl,Zm,Zi,Zw,Zu,Zj,Z1,Zx,Zy,ZJ,ZI,ZH,ZD,ZE,splice,fillI,Nat.reduceLeDiff,strA,ZK,ZA,Ze,bq_ft,bq_tf,ZG,ZF,ZQ,Zv,Zz,isNilA,nilPtr,nilSl,nilIf,nilFn,nilMap,nilCheckA,if_true,if_false,lt_lit,le_lit,lt_lit2,le_lit2,le_sub1,le_sub2]; rfl
      apply evI_seq_ret
      apply evI_seq
      · simp only [eC_len,eC_take,eC_one,eC_0,eC_1,eC_2,eC_3,eC_4,eCr,eCr_0,eCr_1,eCr_2,eCr_3,eCr_4,List.length_drop,Nat.reduceSub,ZR,atr,Zs,Zr,Zp,Za,Zb,evI,opsI,stepI,wantI,opI,AAct.evI,look,AAct.put,mkVal,mkVM,intOpA,intA,shiftA,unA,ZP,ZO,Zh,Zt,reduceIte,Nat.reduceEqDiff,Nat.reduceLT,Zo,Zq,true_and,and_true,and_self,ZB,cellsAt,Zg,ZC,Zf,Zk,ZL,ZM,Nat.reduceAdd,Nat.reduceMul,ZN,AV.cells,AV.one,known,Zn,getE_0,getE_k,setE_0,setE_k,Zc,Zd,Zl,Zm,Zi,Zw,Zu,Zj,Z1,Zx,Zy,ZJ,ZI,ZH,ZD,ZE,splice,fillI,Nat.reduceLeDiff,strA,ZK,ZA,Ze,bq_ft,bq_tf,ZG,ZF,ZQ,Zv,Zz,isNilA,nilPtr,nilSl,nilIf,nilFn,nilMap,nilCheckA,if_true,if_false,lt_lit,le_lit,lt_lit2,le_lit2,le_sub1,le_sub2]; rfl
      apply evI_block_ret
      apply evI_loop
      exact ht
    case hd => rfl
    case hr => simp only [I18,resI,resLI,Zs,Zr,Zp,Za,Zb,evI,opsI,stepI,wantI,opI,AAct.evI,look,AAct.put,mkVal,mkVM,intOpA,intA,shiftA,unA,ZP,ZO,Zh,Zt,reduceIte,Nat.reduceEqDiff,Nat.reduceLT,Zo,Zq,true_and,and_true,and_self,ZB,cellsAt,Zg,ZC,Zf,Zk,ZL,ZM,Nat.reduceAdd,Nat.reduceMul,ZN,AV.cells,AV.one,known,Zn,getE_0,getE_k,setE_0,setE_k,Zc,Zd,Zl,Zm,Zi,Zw,Zu,Zj,Z1,Zx,Zy,ZJ,ZI,ZH,ZD,ZE,splice,fillI,Nat.reduceLeDiff,strA,ZK,ZA,Ze,bq_ft,bq_tf,ZG,ZF,ZQ,Zv,Zz,isNilA,nilPtr,nilSl,nilIf,nilFn,nilMap,nilCheckA,if_true,if_false,lt_lit,le_lit,lt_lit2,le_lit2,le_sub1,le_sub2]
    case hz => simp only [finish,finish,cfg,keep,Ze,if_false,frz,frzL,eC_low,kC_low,atsC_low,low,lowL,ZP,Zh,roundEnd,AAct.keepT,Zv,Zz,look,reduceIte,Nat.reduceEqDiff,lowT,Zx,Zy,low,lowL,lowD,mayCut,Zg,Zf,Zk,ZL,Nat.reduceAdd,takeS,takeE_0,takeE_k,Zi,Zw,eqM_app,eqM_refl,Bool.true_or,ZJ,ZI,ZH,ZP,Nat.lt_succ_self,Nat.lt_add_right_iff_pos,Nat.add_lt_add_iff_left,Nat.reduceLT,if_true,lt_k,Zn,Zp,Zr]
  | none =>
    rw [hf] at ht
    simp only [Option.getD_none,Option.isSome_none]
    refine evF_ret (m := 40) (v := .tup [.str [], .bool false]) (a := ?a2) (H1 := ?H2) rfl t18 rfl ?hb ?hd ?hr ?hz
    case hb =>
      apply evI_seq
      · simp only [Zf,Zk,idx,I18,eC_len,eC_take,eC_one,eC_0,eC_1,eC_2,eC_3,eC_4,eCr,eCr_0,eCr_1,eCr_2,eCr_3,eCr_4,List.length_drop,Nat.reduceSub,ZR,atr,Zs,Zr,Zp,Za,Zb,evI,opsI,stepI,wantI,opI,AAct.evI,look,AAct.put,mkVal,mkVM,intOpA,intA,shiftA,unA,ZP,ZO,Zh,Zt,reduceIte,Nat.reduceEqDiff,Nat.reduceLT,Zo,Zq,true_and,and_true,and_self,ZB,cellsAt,Zg,ZC,Zf,Zk,ZL,ZM,Nat.reduceAdd,Nat.reduceMul,ZN,AV.cells,AV.one,known,Zn,getE_0,getE_k,setE_0,setE_k,Zc,Zd,Zl,Zm,Zi,Zw,Zu,Zj,Z1,Zx,Zy,ZJ,ZI,ZH,ZD,ZE,splice,fillI,Nat.reduceLeDiff,strA,ZK,ZA,Ze,bq_ft,bq_tf,ZG,ZF,ZQ,Zv,Zz,isNilA,nilPtr,nilSl,nilIf,nilFn,nilMap,nilCheckA,if_true,if_false,lt_lit,le_lit,lt_lit2,le_lit2,le_sub1,le_sub2]; rfl
      apply evI_seq
      · apply evI_seq
        · simp only [eC_len,eC_take,eC_one,eC_0,eC_1,eC_2,eC_3,eC_4,eCr,eCr_0,eCr_1,eCr_2,eCr_3,eCr_4,List.length_drop,Nat.reduceSub,ZR,atr,Zs,Zr,Zp,Za,Zb,evI,opsI,stepI,wantI,opI,AAct.evI,look,AAct.put,mkVal,mkVM,intOpA,intA,shiftA,unA,ZP,ZO,Zh,Zt,reduceIte,Nat.reduceEqDiff,Nat.reduceLT,Zo,Zq,true_and,and_true,and_self,ZB,cellsAt,Zg,ZC,Zf,Zk,ZL,ZM,Nat.reduceAdd,Nat.reduceMul,ZN,AV.cells,AV.one,known,Zn,getE_0,getE_k,setE_0,setE_k,Zc,Zd,Zl,Zm,Zi,Zw,Zu,Zj,Z1,Zx,Zy,ZJ,ZI,ZH,ZD,ZE,splice,fillI,Nat.reduceLeDiff,strA,ZK,ZA,Ze,bq_ft,bq_tf,ZG,ZF,ZQ,Zv,Zz,isNilA,nilPtr,nilSl,nilIf,nilFn,nilMap,nilCheckA,if_true,if_false,lt_lit,le_lit,lt_lit2,le_lit2,le_sub1,le_sub2]; rfl
        apply evI_block_exit
        apply evI_loop
        exact ht
      apply evI_seq
      · simp only [Zs,Zr,Zp,Za,Zb,evI,opsI,stepI,wantI,opI,AAct.evI,look,AAct.put,mkVal,mkVM,intOpA,intA,shiftA,unA,ZP,ZO,Zh,Zt,reduceIte,Nat.reduceEqDiff,Nat.reduceLT,Zo,Zq,true_and,and_true,and_self,ZB,cellsAt,Zg,ZC,Zf,Zk,ZL,ZM,Nat.reduceAdd,Nat.reduceMul,ZN,AV.cells,AV.one,known,Zn,getE_0,getE_k,setE_0,setE_k,Zc,Zd,Zl,Zm,Zi,Zw,Zu,Zj,Z1,Zx,Zy,ZJ,ZI,ZH,ZD,ZE,splice,fillI,Nat.reduceLeDiff,strA,ZK,ZA,Ze,bq_ft,bq_tf,ZG,ZF,ZQ,Zv,Zz,isNilA,nilPtr,nilSl,nilIf,nilFn,nilMap,nilCheckA,if_true,if_false,lt_lit,le_lit,lt_lit2,le_lit2,le_sub1,le_sub2]; rfl
      rfl
    case hd => rfl
    case hr => simp only [I18,resI,resLI,Zs,Zr,Zp,Za,Zb,evI,opsI,stepI,wantI,opI,AAct.evI,look,AAct.put,mkVal,mkVM,intOpA,intA,shiftA,unA,ZP,ZO,Zh,Zt,reduceIte,Nat.reduceEqDiff,Nat.reduceLT,Zo,Zq,true_and,and_true,and_self,ZB,cellsAt,Zg,ZC,Zf,Zk,ZL,ZM,Nat.reduceAdd,Nat.reduceMul,ZN,AV.cells,AV.one,known,Zn,getE_0,getE_k,setE_0,setE_k,Zc,Zd,Zl,Zm,Zi,Zw,Zu,Zj,Z1,Zx,Zy,ZJ,ZI,ZH,ZD,ZE,splice,fillI,Nat.reduceLeDiff,strA,ZK,ZA,Ze,bq_ft,bq_tf,ZG,ZF,ZQ,Zv,Zz,isNilA,nilPtr,nilSl,nilIf,nilFn,nilMap,nilCheckA,if_true,if_false,lt_lit,le_lit,lt_lit2,le_lit2,le_sub1,le_sub2]
    case hz => simp only [finish,finish,cfg,keep,Ze,if_false,frz,frzL,eC_low,kC_low,atsC_low,low,lowL,ZP,Zh,roundEnd,AAct.keepT,Zv,Zz,look,reduceIte,Nat.reduceEqDiff,lowT,Zx,Zy,low,lowL,lowD,mayCut,Zg,Zf,Zk,ZL,Nat.reduceAdd,takeS,takeE_0,takeE_k,Zi,Zw,eqM_app,eqM_refl,Bool.true_or,ZJ,ZI,ZH,ZP,Nat.lt_succ_self,Nat.lt_add_right_iff_pos,Nat.add_lt_add_iff_left,Nat.reduceLT,if_true,lt_k,Zn,Zp,Zr]
noncomputable def loopRFind : IC := (I36.c.loops).getD 0 .bad
theorem rfind_loop (P : Program) (F : FSem) (N : Nat) (s n : List UInt8) (e : El) (hall : e.kids.length ≤ 9223372036854775807) (H : Mem) : ∀ (fuel k : Nat), k ≤ e.kids.length → e.kids.length - k < fuel →
    ∃ t, loopA (fun a H => evI P cfg F N loopRFind a H) (some [1, 2, 3, 6, 8]) fuel ⟨40, [(1, .str s), (2, .str n), (3, .ptr H.length 0 0), (6, .ptr (H.length + 1) 0 0), (8, .int .i64 k)], []⟩ (H ++ [.row (eC e) 0 (25 + 1), .row [.str [], .str [], .str [], .nilS, .nilS] 0 (25 + 1)]) =
      (match findIn s n (e.kids.drop k) with
      | some x => some (.ret, ⟨40, (7, .bool true) :: t, []⟩, H ++ [.row (eC e) 0 (25 + 1), .row (eC x) 0 (25 + 1)])
      | none => some (.exit 0, ⟨40, t, []⟩, H ++ [.row (eC e) 0 (25 + 1), .row [.str [], .str [], .str [], .nilS, .nilS] 0 (25 + 1)])) ∧ look t 6 = .ptr (H.length + 1) 0 0
  | 0, k, _, h => by omega
  | fuel + 1, k, hk, hf => by
    rcases Nat.lt_or_ge k e.kids.length with hlt | hge
    · obtain ⟨x, hx⟩ := all_drop hlt
      have hget : (kC e.kids).drop (k * 5) = eC x ++ kC (e.kids.drop (k + 1)) := by rw [kC_drop, hx]; rfl
      have hlen : k * 5 + 5 ≤ (kC e.kids).length := by rw [kC_len]; omega
      have hi : (k : Int) < (e.kids.length : Int) := by omega
      have hw := wrap_next hlt hall
      have hn := natOf_nat k .i64
      obtain ⟨t, ht, hl⟩ := rfind_loop P F N s n e hall H fuel (k + 1) (by omega) (by omega)
      rw [hx]
      cases h1 : (x.sp == s) <;> cases h2 : (x.nm == n)
      · refine ⟨t, ?_, hl⟩
        simp only [findIn,h1,h2,ZJ,Ze,if_false]
        refine loopA_go (by simp only [loopRFind,I36,IC.loops,hi,hlt,hlen,hget,hn,hw,h1,h2,eC_len,eC_take,eC_one,eC_0,eC_1,eC_2,eC_3,eC_4,eCr,eCr_0,eCr_1,eCr_2,eCr_3,eCr_4,List.length_drop,Nat.reduceSub,ZR,atr,Zs,Zr,Zp,Za,Zb,evI,opsI,stepI,wantI,opI,AAct.evI,look,AAct.put,mkVal,mkVM,intOpA,intA,shiftA,unA,ZP,ZO,Zh,Zt,reduceIte,Nat.reduceEqDiff,Nat.reduceLT,Zo,Zq,true_and,and_true,and_self,ZB,cellsAt,Zg,ZC,Zf,Zk,ZL,ZM,Nat.reduceAdd,Nat.reduceMul,ZN,AV.cells,AV.one,known,Zn,getE_0,getE_k,setE_0,setE_k,Zc,Zd,Zl,Zm,Zi,Zw,Zu,Zj,Z1,Zx,Zy,ZJ,ZI,ZH,ZD,ZE,splice,fillI,Nat.reduceLeDiff,strA,ZK,ZA,Ze,bq_ft,bq_tf,ZG,ZF,ZQ,Zv,Zz,isNilA,nilPtr,nilSl,nilIf,nilFn,nilMap,nilCheckA,if_true,if_false,lt_lit,le_lit,lt_lit2,le_lit2,le_sub1,le_sub2]; rfl) ?_
        simp only [eC_low,roundEnd,AAct.keepT,Zv,Zz,look,reduceIte,Nat.reduceEqDiff,lowT,Zx,Zy,low,lowL,lowD,mayCut,Zg,Zf,Zk,ZL,Nat.reduceAdd,takeS,takeE_0,takeE_k,Zi,Zw,eqM_app,eqM_refl,Bool.true_or,ZJ,ZI,ZH,ZP,Nat.lt_succ_self,Nat.lt_add_right_iff_pos,Nat.add_lt_add_iff_left,Nat.reduceLT,if_true,lt_k,Zn,Zp,Zr]
        exact ht
      · refine ⟨t, ?_, hl⟩
        simp only [findIn,h1,h2,ZI,Ze,if_false]
        refine loopA_go (by simp only [loopRFind,I36,IC.loops,hi,hlt,hlen,hget,hn,hw,h1,h2,eC_len,eC_take,eC_one,eC_0,eC_1,eC_2,eC_3,eC_4,eCr,eCr_0,eCr_1,eCr_2,eCr_3,eCr_4,List.length_drop,Nat.reduceSub,ZR,atr,Zs,Zr,Zp,Za,Zb,evI,opsI,stepI,wantI,opI,AAct.evI,look,AAct.put,mkVal,mkVM,intOpA,intA,shiftA,unA,ZP,ZO,Zh,Zt,reduceIte,Nat.reduceEqDiff,Nat.reduceLT,Zo,Zq,true_and,and_true,and_self,ZB,cellsAt,Zg,ZC,Zf,Zk,ZL,ZM,Nat.reduceAdd,Nat.reduceMul,ZN,AV.cells,AV.one,known,Zn,getE_0,getE_k,setE_0,setE_k,Zc,Zd,Zl,Zm,Zi,Zw,Zu,Zj,Z1,Zx,Zy,ZJ,ZI,ZH,ZD,ZE,splice,fillI,Nat.reduceLeDiff,strA,ZK,ZA,Ze,bq_ft,bq_tf,ZG,ZF,ZQ,Zv,Zz,isNilA,nilPtr,nilSl,nilIf,nilFn,nilMap,nilCheckA,if_true,if_false,lt_lit,le_lit,lt_lit2,le_lit2,le_sub1,le_sub2]; rfl) ?_
        simp only [eC_low,roundEnd,AAct.keepT,Zv,Zz,look,reduceIte,Nat.reduceEqDiff,lowT,Zx,Zy,low,lowL,lowD,mayCut,Zg,Zf,Zk,ZL,Nat.reduceAdd,takeS,takeE_0,takeE_k,Zi,Zw,eqM_app,eqM_refl,Bool.true_or,ZJ,ZI,ZH,ZP,Nat.lt_succ_self,Nat.lt_add_right_iff_pos,Nat.add_lt_add_iff_left,Nat.reduceLT,if_true,lt_k,Zn,Zp,Zr]
        exact ht
      · refine ⟨t, ?_, hl⟩
        simp only [findIn,h1,h2,ZD,Ze,if_false]
        refine loopA_go (by simp only [loopRFind,I36,IC.loops,hi,hlt,hlen,hget,hn,hw,h1,h2,eC_len,eC_take,eC_one,eC_0,eC_1,eC_2,eC_3,eC_4,eCr,eCr_0,eCr_1,eCr_2,eCr_3,eCr_4,List.length_drop,Nat.reduceSub,ZR,atr,Zs,Zr,Zp,Za,Zb,evI,opsI,stepI,wantI,opI,AAct.evI,look,AAct.put,mkVal,mkVM,intOpA,intA,shiftA,unA,ZP,ZO,Zh,Zt,reduceIte,Nat.reduceEqDiff,Nat.reduceLT,Zo,Zq,true_and,and_true,and_self,ZB,cellsAt,Zg,ZC,Zf,Zk,ZL,ZM,Nat.reduceAdd,Nat.reduceMul,ZN,AV.cells,AV.one,known,Zn,getE_0,getE_k,setE_0,setE_k,Zc,Zd,Zl,Zm,Zi,Zw,Zu,Zj,Z1,Zx,Zy,ZJ,ZI,ZH,ZD,ZE,splice,fillI,Nat.reduceLeDiff,strA,ZK,ZA,Ze,bq_ft,bq_tf,ZG,ZF,ZQ,Zv,Zz,isNilA,nilPtr,nilSl,nilIf,nilFn,nilMap,nilCheckA,if_true,if_false,lt_lit,le_lit,lt_lit2,le_lit2,le_sub1,le_sub2]; rfl) ?_
        simp only [eC_low,roundEnd,AAct.keepT,Zv,Zz,look,reduceIte,Nat.reduceEqDiff,lowT,Zx,Zy,low,lowL,lowD,mayCut,Zg,Zf,Zk,ZL,Nat.reduceAdd,takeS,takeE_0,takeE_k,Zi,Zw,eqM_app,eqM_refl,Bool.true_or,ZJ,ZI,ZH,ZP,Nat.lt_succ_self,Nat.lt_add_right_iff_pos,Nat.add_lt_add_iff_left,Nat.reduceLT,if_true,lt_k,Zn,Zp,Zr]
        exact ht
      · simp only [findIn,h1,h2,ZJ,if_true]
        refine ⟨_, loopA_ret (by simp only [loopRFind,I36,IC.loops,hi,hlt,hlen,hget,hn,hw,h1,h2,eC_len,eC_take,eC_one,eC_0,eC_1,eC_2,eC_3,eC_4,eCr,eCr_0,eCr_1,eCr_2,eCr_3,eCr_4,List.length_drop,Nat.reduceSub,ZR,atr,Zs,Zr,Zp,Za,Zb,evI,opsI,stepI,wantI,opI,AAct.evI,look,AAct.put,mkVal,mkVM,intOpA,intA,shiftA,unA,ZP,ZO,Zh,Zt,reduceIte,Nat.reduceEqDiff,Nat.reduceLT,Zo,Zq,true_and,and_true,and_self,ZB,cellsAt,Zg,ZC,Zf,Zk,ZL,ZM,Nat.reduceAdd,Nat.reduceMul,ZN,AV.cells,AV.one,known,Zn,getE_0,getE_k,setE_0,setE_k,Zc,Zd,Zl,Zm,Zi,Zw,Zu,Zj,Z1,Zx,Zy,ZJ,ZI,ZH,ZD,ZE,splice,fillI,Nat.reduceLeDiff,strA,ZK,ZA,Ze,bq_ft,bq_tf,ZG,ZF,ZQ,Zv,Zz,isNilA,nilPtr,nilSl,nilIf,nilFn,nilMap,nilCheckA,if_true,if_false,lt_lit,le_lit,lt_lit2,le_lit2,le_sub1,le_sub2]; rfl), ?_⟩
        rfl
    · have hk' : k = e.kids.length := by omega
      subst hk'
      simp only [List.drop_length,findIn]
      exact ⟨_, loopA_exit (by simp only [loopRFind,I36,IC.loops,Int.lt_irrefl,eC_len,eC_take,eC_one,eC_0,eC_1,eC_2,eC_3,eC_4,eCr,eCr_0,eCr_1,eCr_2,eCr_3,eCr_4,List.length_drop,Nat.reduceSub,ZR,atr,Zs,Zr,Zp,Za,Zb,evI,opsI,stepI,wantI,opI,AAct.evI,look,AAct.put,mkVal,mkVM,intOpA,intA,shiftA,unA,ZP,ZO,Zh,Zt,reduceIte,Nat.reduceEqDiff,Nat.reduceLT,Zo,Zq,true_and,and_true,and_self,ZB,cellsAt,Zg,ZC,Zf,Zk,ZL,ZM,Nat.reduceAdd,Nat.reduceMul,ZN,AV.cells,AV.one,known,Zn,getE_0,getE_k,setE_0,setE_k,Zc,Zd,Zl,Zm,Zi,Zw,Zu,Zj,Z1,Zx,Zy,ZJ,ZI,ZH,ZD,ZE,splice,fillI,Nat.reduceLeDiff,strA,ZK,ZA,Ze,bq_ft,bq_tf,ZG,ZF,ZQ,Zv,Zz,isNilA,nilPtr,nilSl,nilIf,nilFn,nilMap,nilCheckA,if_true,if_false,lt_lit,le_lit,lt_lit2,le_lit2,le_sub1,le_sub2]; rfl), rfl⟩
theorem rfind_eq (P : Program) (N n : Nat) (hN : 9223372036854775808 ≤ N) (s nm : List UInt8) (e : El) (he : e.kids.length ≤ 9223372036854775807) (H : Mem) :
    evFI P cfg T N (n + 1) 36 [.agg (eC e), .str s, .str nm] H = some (.ret (.tup [.agg (eC ((findIn s nm e.kids).getD zEl)), .bool (findIn s nm e.kids).isSome]), H) := by
  obtain ⟨t, ht, h6⟩ := rfind_loop P (evFI P cfg T N n) N s nm e he H N 0 (Nat.zero_le _) (by omega)
  rw [List.drop_zero] at ht
  cases hf : findIn s nm e.kids with
  | some x =>
    rw [hf] at ht
    simp only [Option.getD_some,Option.isSome_some]
    refine evF_ret (m := 40) (v := .tup [.agg (eC x), .bool true]) (a := ?a) (H1 := ?H1) rfl t36 rfl ?hb ?hd ?hr ?hz
    case hb =>
      apply evI_seq
      · simp only [Zf,Zk,idx,I36,eC_len,eC_take,eC_one,eC_0,eC_1,eC_2,eC_3,eC_4,eCr,eCr_0,eCr_1,eCr_2,eCr_3,eCr_4,List.length_drop,Nat.reduceSub,ZR,atr,Zs,Zr,Zp,Za,Zb,evI,opsI,stepI,wantI,opI,AAct.evI,look,AAct.put,mkVal,mkVM,intOpA,intA,shiftA,unA,ZP,ZO,Zh,Zt,reduceIte,Nat.reduceEqDiff,Nat.reduceLT,Zo,Zq,true_and,and_true,and_self,ZB,cellsAt,Zg,ZC,Zf,Zk,ZL,ZM,Nat.reduceAdd,Nat.reduceMul,ZN,AV.cells,AV.one,known,Zn,getE_0,getE_k,setE_0,setE_k,Zc,Zd,Zl,Zm,Zi,Zw,Zu,Zj,Z1,Zx,Zy,ZJ,ZI,ZH,ZD,ZE,splice,fillI,Nat.reduceLeDiff,strA,ZK,ZA,Ze,bq_ft,bq_tf,ZG,ZF,ZQ,Zv,Zz,isNilA,nilPtr,nilSl,nilIf,nilFn,nilMap,nilCheckA,if_true,if_false,lt_lit,le_lit,lt_lit2,le_lit2,le_sub1,le_sub2]; rfl
      apply evI_seq_ret
      apply evI_seq
      · simp only [eC_len,eC_take,eC_one,eC_0,eC_1,eC_2,eC_3,eC_4,eCr,eCr_0,eCr_1,eCr_2,eCr_3,eCr_4,List.length_drop,Nat.reduceSub,ZR,atr,Zs,Zr,Zp,Za,Zb,evI,opsI,stepI,wantI,opI,AAct.evI,look,AAct.put,mkVal,mkVM,intOpA,intA,shiftA,unA,ZP,ZO,Zh,Zt,reduceIte,Nat.reduceEqDiff,Nat.reduceLT,Zo,Zq,true_and,and_true,and_self,ZB,cellsAt,Zg,ZC,Zf,Zk,ZL,ZM,Nat.reduceAdd,Nat.reduceMul,ZN,AV.cells,AV.one,known,Zn,getE_0,getE_k,setE_0,setE_k,Zc,Zd,Zl,Zm,Zi,Zw,Zu,Zj,Z1,Zx,Zy,ZJ,ZI,ZH,ZD,ZE,splice,fillI,Nat.reduceLeDiff,strA,ZK,ZA,Ze,bq_ft,bq_tf,ZG,ZF,ZQ,Zv,Zz,isNilA,nilPtr,nilSl,nilIf,nilFn,nilMap,nilCheckA,if_true,if_false,lt_lit,le_lit,lt_lit2,le_lit2,le_sub1,le_sub2]; rfl
      apply evI_block_ret
      apply evI_loop
      exact ht
    case hd => rfl
    case hr => simp only [I36,resI,resLI,h6,eC_len,eC_take,eC_one,eC_0,eC_1,eC_2,eC_3,eC_4,eCr,eCr_0,eCr_1,eCr_2,eCr_3,eCr_4,List.length_drop,Nat.reduceSub,ZR,atr,Zs,Zr,Zp,Za,Zb,evI,opsI,stepI,wantI,opI,AAct.evI,look,AAct.put,mkVal,mkVM,intOpA,intA,shiftA,unA,ZP,ZO,Zh,Zt,reduceIte,Nat.reduceEqDiff,Nat.reduceLT,Zo,Zq,true_and,and_true,and_self,ZB,cellsAt,Zg,ZC,Zf,Zk,ZL,ZM,Nat.reduceAdd,Nat.reduceMul,ZN,AV.cells,AV.one,known,Zn,getE_0,getE_k,setE_0,setE_k,Zc,Zd,Zl,Zm,Zi,Zw,Zu,Zj,Z1,Zx,Zy,ZJ,ZI,ZH,ZD,ZE,splice,fillI,Nat.reduceLeDiff,strA,ZK,ZA,Ze,bq_ft,bq_tf,ZG,ZF,ZQ,Zv,Zz,isNilA,nilPtr,nilSl,nilIf,nilFn,nilMap,nilCheckA,if_true,if_false,lt_lit,le_lit,lt_lit2,le_lit2,le_sub1,le_sub2]
    case hz => simp only [finish,eC_eq,finish,cfg,keep,Ze,if_false,frz,frzL,eC_low,kC_low,atsC_low,low,lowL,ZP,Zh,roundEnd,AAct.keepT,Zv,Zz,look,reduceIte,Nat.reduceEqDiff,lowT,Zx,Zy,low,lowL,lowD,mayCut,Zg,Zf,Zk,ZL,Nat.reduceAdd,takeS,takeE_0,takeE_k,Zi,Zw,eqM_app,eqM_refl,Bool.true_or,ZJ,ZI,ZH,ZP,Nat.lt_succ_self,Nat.lt_add_right_iff_pos,Nat.add_lt_add_iff_left,Nat.reduceLT,if_true,lt_k,Zn,Zp,Zr]
  | none =>
    rw [hf] at ht
    simp only [Option.getD_none,Option.isSome_none]
    refine evF_ret (m := 40) (v := .tup [.agg [.str [], .str [], .str [], .nilS, .nilS], .bool false]) (a := ?a2) (H1 := ?H2) rfl t36 rfl ?hb ?hd ?hr ?hz
    case hb =>
      apply evI_seq
      · simp only [Zf,Zk,idx,I36,eC_len,eC_take,eC_one,eC_0,eC_1,eC_2,eC_3,eC_4,eCr,eCr_0,eCr_1,eCr_2,eCr_3,eCr_4,List.length_drop,Nat.reduceSub,ZR,atr,Zs,Zr,Zp,Za,Zb,evI,opsI,stepI,wantI,opI,AAct.evI,look,AAct.put,mkVal,mkVM,intOpA,intA,shiftA,unA,ZP,ZO,Zh,Zt,reduceIte,Nat.reduceEqDiff,Nat.reduceLT,Zo,Zq,true_and,and_true,and_self,ZB,cellsAt,Zg,ZC,Zf,Zk,ZL,ZM,Nat.reduceAdd,Nat.reduceMul,ZN,AV.cells,AV.one,known,Zn,getE_0,getE_k,setE_0,setE_k,Zc,Zd,Zl,Zm,Zi,Zw,Zu,Zj,Z1,Zx,Zy,ZJ,ZI,ZH,ZD,ZE,splice,fillI,Nat.reduceLeDiff,strA,ZK,ZA,Ze,bq_ft,bq_tf,ZG,ZF,ZQ,Zv,Zz,isNilA,nilPtr,nilSl,nilIf,nilFn,nilMap,nilCheckA,if_true,if_false,lt_lit,le_lit,lt_lit2,le_lit2,le_sub1,le_sub2]; rfl
      apply evI_seq
      · apply evI_seq
        · simp only [eC_len,eC_take,eC_one,eC_0,eC_1,eC_2,eC_3,eC_4,eCr,eCr_0,eCr_1,eCr_2,eCr_3,eCr_4,List.length_drop,Nat.reduceSub,ZR,atr,Zs,Zr,Zp,Za,Zb,evI,opsI,stepI,wantI,opI,AAct.evI,look,AAct.put,mkVal,mkVM,intOpA,intA,shiftA,unA,ZP,ZO,Zh,Zt,reduceIte,Nat.reduceEqDiff,Nat.reduceLT,Zo,Zq,true_and,and_true,and_self,ZB,cellsAt,Zg,ZC,Zf,Zk,ZL,ZM,Nat.reduceAdd,Nat.reduceMul,ZN,AV.cells,AV.one,known,Zn,getE_0,getE_k,setE_0,setE_k,Zc,Zd,Zl,Zm,Zi,Zw,Zu,Zj,Z1,Zx,Zy,ZJ,ZI,ZH,ZD,ZE,splice,fillI,Nat.reduceLeDiff,strA,ZK,ZA,Ze,bq_ft,bq_tf,ZG,ZF,ZQ,Zv,Zz,isNilA,nilPtr,nilSl,nilIf,nilFn,nilMap,nilCheckA,if_true,if_false,lt_lit,le_lit,lt_lit2,le_lit2,le_sub1,le_sub2]; rfl
        apply evI_block_exit
        apply evI_loop
        exact ht
      apply evI_seq
      · simp only [h6,Zs,Zr,Zp,Za,Zb,evI,opsI,stepI,wantI,opI,AAct.evI,look,AAct.put,mkVal,mkVM,intOpA,intA,shiftA,unA,ZP,ZO,Zh,Zt,reduceIte,Nat.reduceEqDiff,Nat.reduceLT,Zo,Zq,true_and,and_true,and_self,ZB,cellsAt,Zg,ZC,Zf,Zk,ZL,ZM,Nat.reduceAdd,Nat.reduceMul,ZN,AV.cells,AV.one,known,Zn,getE_0,getE_k,setE_0,setE_k,Zc,Zd,Zl,Zm,Zi,Zw,Zu,Zj,Z1,Zx,Zy,ZJ,ZI,ZH,ZD,ZE,splice,fillI,Nat.reduceLeDiff,strA,ZK,ZA,Ze,bq_ft,bq_tf,ZG,ZF,ZQ,Zv,Zz,isNilA,nilPtr,nilSl,nilIf,nilFn,nilMap,nilCheckA,if_true,if_false,lt_lit,le_lit,lt_lit2,le_lit2,le_sub1,le_sub2]; rfl
      rfl
    case hd => rfl
    case hr => simp only [I36,resI,resLI,h6,Zs,Zr,Zp,Za,Zb,evI,opsI,stepI,wantI,opI,AAct.evI,look,AAct.put,mkVal,mkVM,intOpA,intA,shiftA,unA,ZP,ZO,Zh,Zt,reduceIte,Nat.reduceEqDiff,Nat.reduceLT,Zo,Zq,true_and,and_true,and_self,ZB,cellsAt,Zg,ZC,Zf,Zk,ZL,ZM,Nat.reduceAdd,Nat.reduceMul,ZN,AV.cells,AV.one,known,Zn,getE_0,getE_k,setE_0,setE_k,Zc,Zd,Zl,Zm,Zi,Zw,Zu,Zj,Z1,Zx,Zy,ZJ,ZI,ZH,ZD,ZE,splice,fillI,Nat.reduceLeDiff,strA,ZK,ZA,Ze,bq_ft,bq_tf,ZG,ZF,ZQ,Zv,Zz,isNilA,nilPtr,nilSl,nilIf,nilFn,nilMap,nilCheckA,if_true,if_false,lt_lit,le_lit,lt_lit2,le_lit2,le_sub1,le_sub2]
    case hz =>
      simp only [finish,finish,cfg,keep,Ze,if_false,frz,frzL,eC_low,kC_low,atsC_low,low,lowL,ZP,Zh,roundEnd,AAct.keepT,Zv,Zz,look,reduceIte,Nat.reduceEqDiff,lowT,Zx,Zy,low,lowL,lowD,mayCut,Zg,Zf,Zk,ZL,Nat.reduceAdd,takeS,takeE_0,takeE_k,Zi,Zw,eqM_app,eqM_refl,Bool.true_or,ZJ,ZI,ZH,ZP,Nat.lt_succ_self,Nat.lt_add_right_iff_pos,Nat.add_lt_add_iff_left,Nat.reduceLT,if_true,lt_k,Zn,Zp,Zr]
      rfl
theorem child_eq (P : Program) (N n : Nat) (hN : 9223372036854775808 ≤ N) (nm : List UInt8) (e : El) (he : Fits e) (H : Mem) :
    evFI P cfg T N (n + 2) 20 [.agg (eC e), .str nm] H = some (.ret (.tup [.agg (eC (kidOf e nm)), .bool (findIn wNs nm e.kids).isSome]), H) := by
  have hg := fun H => rfind_eq P N n hN wNs nm e he.len H
  simp only [wNs] at hg
  refine evF_ret (m := 11) (v := .tup [.agg (eC (kidOf e nm)), .bool (findIn wNs nm e.kids).isSome]) (a := ?a) (H1 := ?H1) rfl t20 rfl ?hb ?hd ?hr ?hz
  case hb => simp only [Zf,Zk,idx,I20,hg,eC_len,eC_take,eC_one,eC_0,eC_1,eC_2,eC_3,eC_4,eCr,eCr_0,eCr_1,eCr_2,eCr_3,eCr_4,List.length_drop,Nat.reduceSub,ZR,atr,Zs,Zr,Zp,Za,Zb,evI,opsI,stepI,wantI,opI,AAct.evI,look,AAct.put,mkVal,mkVM,intOpA,intA,shiftA,unA,ZP,ZO,Zh,Zt,reduceIte,Nat.reduceEqDiff,Nat.reduceLT,Zo,Zq,true_and,and_true,and_self,ZB,cellsAt,Zg,ZC,Zf,Zk,ZL,ZM,Nat.reduceAdd,Nat.reduceMul,ZN,AV.cells,AV.one,known,Zn,getE_0,getE_k,setE_0,setE_k,Zc,Zd,Zl,Zm,Zi,Zw,Zu,Zj,Z1,Zx,Zy,ZJ,ZI,ZH,ZD,ZE,splice,fillI,Nat.reduceLeDiff,strA,ZK,ZA,Ze,bq_ft,bq_tf,ZG,ZF,ZQ,Zv,Zz,isNilA,nilPtr,nilSl,nilIf,nilFn,nilMap,nilCheckA,if_true,if_false,lt_lit,le_lit,lt_lit2,le_lit2,le_sub1,le_sub2]; rfl
  case hd => rfl
  case hr => simp only [I20,resI,resLI,kidOf,wNs,eC_len,eC_take,eC_one,eC_0,eC_1,eC_2,eC_3,eC_4,eCr,eCr_0,eCr_1,eCr_2,eCr_3,eCr_4,List.length_drop,Nat.reduceSub,ZR,atr,Zs,Zr,Zp,Za,Zb,evI,opsI,stepI,wantI,opI,AAct.evI,look,AAct.put,mkVal,mkVM,intOpA,intA,shiftA,unA,ZP,ZO,Zh,Zt,reduceIte,Nat.reduceEqDiff,Nat.reduceLT,Zo,Zq,true_and,and_true,and_self,ZB,cellsAt,Zg,ZC,Zf,Zk,ZL,ZM,Nat.reduceAdd,Nat.reduceMul,ZN,AV.cells,AV.one,known,Zn,getE_0,getE_k,setE_0,setE_k,Zc,Zd,Zl,Zm,Zi,Zw,Zu,Zj,Z1,Zx,Zy,ZJ,ZI,ZH,ZD,ZE,splice,fillI,Nat.reduceLeDiff,strA,ZK,ZA,Ze,bq_ft,bq_tf,ZG,ZF,ZQ,Zv,Zz,isNilA,nilPtr,nilSl,nilIf,nilFn,nilMap,nilCheckA,if_true,if_false,lt_lit,le_lit,lt_lit2,le_lit2,le_sub1,le_sub2]
  case hz => simp only [finish,eC_eq,finish,cfg,keep,Ze,if_false,frz,frzL,eC_low,kC_low,atsC_low,low,lowL,ZP,Zh,roundEnd,AAct.keepT,Zv,Zz,look,reduceIte,Nat.reduceEqDiff,lowT,Zx,Zy,low,lowL,lowD,mayCut,Zg,Zf,Zk,ZL,Nat.reduceAdd,takeS,takeE_0,takeE_k,Zi,Zw,eqM_app,eqM_refl,Bool.true_or,ZJ,ZI,ZH,ZP,Nat.lt_succ_self,Nat.lt_add_right_iff_pos,Nat.add_lt_add_iff_left,Nat.reduceLT,if_true,lt_k,Zn,Zp,Zr]
theorem rval_eq (P : Program) (N n : Nat) (hN : 9223372036854775808 ≤ N) (nm : List UInt8) (e : El) (he : Fits e) (H : Mem) :
    evFI P cfg T N (n + 3) 19 [.agg (eC e), .str nm] H = some (.ret (.str (valOf e nm)), H) := by
  have hk := fun H => child_eq P N n hN nm e he H
  have ha := fun H => rget_eq P N (n + 1) hN wNs valS (kidOf e nm) (he.found _ _).ats H
  simp only [valS,wNs] at ha
  refine evF_ret (m := 21) (v := .str (valOf e nm)) (a := ?a) (H1 := ?H1) rfl t19 rfl ?hb ?hd ?hr ?hz
  case hb => simp only [Zf,Zk,idx,I19,hk,ha,eC_len,eC_take,eC_one,eC_0,eC_1,eC_2,eC_3,eC_4,eCr,eCr_0,eCr_1,eCr_2,eCr_3,eCr_4,List.length_drop,Nat.reduceSub,ZR,atr,Zs,Zr,Zp,Za,Zb,evI,opsI,stepI,wantI,opI,AAct.evI,look,AAct.put,mkVal,mkVM,intOpA,intA,shiftA,unA,ZP,ZO,Zh,Zt,reduceIte,Nat.reduceEqDiff,Nat.reduceLT,Zo,Zq,true_and,and_true,and_self,ZB,cellsAt,Zg,ZC,Zf,Zk,ZL,ZM,Nat.reduceAdd,Nat.reduceMul,ZN,AV.cells,AV.one,known,Zn,getE_0,getE_k,setE_0,setE_k,Zc,Zd,Zl,Zm,Zi,Zw,Zu,Zj,Z1,Zx,Zy,ZJ,ZI,ZH,ZD,ZE,splice,fillI,Nat.reduceLeDiff,strA,ZK,ZA,Ze,bq_ft,bq_tf,ZG,ZF,ZQ,Zv,Zz,isNilA,nilPtr,nilSl,nilIf,nilFn,nilMap,nilCheckA,if_true,if_false,lt_lit,le_lit,lt_lit2,le_lit2,le_sub1,le_sub2]; rfl
  case hd => rfl
  case hr => simp only [I19,resI,resLI,valOf,attrOf,valS,wNs,Zs,Zr,Zp,Za,Zb,evI,opsI,stepI,wantI,opI,AAct.evI,look,AAct.put,mkVal,mkVM,intOpA,intA,shiftA,unA,ZP,ZO,Zh,Zt,reduceIte,Nat.reduceEqDiff,Nat.reduceLT,Zo,Zq,true_and,and_true,and_self,ZB,cellsAt,Zg,ZC,Zf,Zk,ZL,ZM,Nat.reduceAdd,Nat.reduceMul,ZN,AV.cells,AV.one,known,Zn,getE_0,getE_k,setE_0,setE_k,Zc,Zd,Zl,Zm,Zi,Zw,Zu,Zj,Z1,Zx,Zy,ZJ,ZI,ZH,ZD,ZE,splice,fillI,Nat.reduceLeDiff,strA,ZK,ZA,Ze,bq_ft,bq_tf,ZG,ZF,ZQ,Zv,Zz,isNilA,nilPtr,nilSl,nilIf,nilFn,nilMap,nilCheckA,if_true,if_false,lt_lit,le_lit,lt_lit2,le_lit2,le_sub1,le_sub2]
  case hz => simp only [finish,finish,cfg,keep,Ze,if_false,frz,frzL,eC_low,kC_low,atsC_low,low,lowL,ZP,Zh,roundEnd,AAct.keepT,Zv,Zz,look,reduceIte,Nat.reduceEqDiff,lowT,Zx,Zy,low,lowL,lowD,mayCut,Zg,Zf,Zk,ZL,Nat.reduceAdd,takeS,takeE_0,takeE_k,Zi,Zw,eqM_app,eqM_refl,Bool.true_or,ZJ,ZI,ZH,ZP,Nat.lt_succ_self,Nat.lt_add_right_iff_pos,Nat.add_lt_add_iff_left,Nat.reduceLT,if_true,lt_k,Zn,Zp,Zr]
noncomputable def loopRNum : IC := (I21.c.loops).getD 0 .bad
theorem rnum_loop (P : Program) (F : FSem) (N : Nat) (s : List UInt8) (h9 : s.length ≤ 9) (H : Mem) : ∀ (fuel k : Nat), k ≤ s.length → s.length - k < fuel → (s.take k).all digL = true →
    ∃ t, loopA (fun a H => evI P cfg F N loopRNum a H) (some [0, 3, 4]) fuel ⟨38, [(0, .str s), (3, .int .i64 (digs (s.take k))), (4, .int .i64 k)], []⟩ H =
      (if (s.drop k).all digL then some (.exit 0, ⟨38, t, []⟩, H) else some (.ret, ⟨38, (2, .int .i64 (-1)) :: t, []⟩, H)) ∧ ((s.drop k).all digL = true → look t 3 = .int .i64 (digs s))
  | 0, k, _, h, _ => by omega
  | fuel + 1, k, hk, hf, ha => by
    rcases Nat.lt_or_ge k s.length with hlt | hge
    · obtain ⟨c, hx⟩ := all_drop hlt
      have hc : s[k]? = some c := by
        have : (s.drop k)[0]? = some c := by rw [hx]; rfl
        simpa using this
      have hi : (k : Int) < (s.length : Int) := by omega
      have hw := wrap_next hlt (show s.length ≤ 9223372036854775807 by omega)
      have hn := natOf_nat k .i64
      have ht1 : s.take (k + 1) = s.take k ++ [c] := by rw [List.take_add_one, hc]; rfl
      have hr := digs_range k (s.take k) (by simp; omega) ha
      have hp := pow_le8 k (by omega)
      have hcl : c.toNat < 256 := c.toNat_lt
      rw [hx, List.all_cons]
      cases h1 : decide ((c.toNat : Int) < 48)
      · cases h2 : decide ((c.toNat : Int) > 57)
        · have hd : digL c = true := by
            simp only [decide_eq_false_iff_not] at h1 h2
            simp only [digL,Bool.and_eq_true,decide_eq_true_eq]; omega
          obtain ⟨t, ht, hl⟩ := rnum_loop P F N s h9 H fuel (k + 1) (by omega) (by omega) (by rw [ht1, List.all_append, ha]; simp [hd])
          have w1 : IntKind.wrap .i64 (digs (s.take k) * 10) = digs (s.take k) * 10 := by rw [wrap64] <;> omega
          have w2 : IntKind.wrap .i64 (c.toNat : Int) = (c.toNat : Int) := by rw [wrap64] <;> omega
          have w3 : IntKind.wrap .i64 (digs (s.take k) * 10 + (c.toNat : Int)) = digs (s.take k) * 10 + (c.toNat : Int) := by rw [wrap64] <;> omega
          have w4 : IntKind.wrap .i64 (digs (s.take k) * 10 + (c.toNat : Int) - 48) = digs (s.take (k + 1)) := by rw [ht1, digs_snoc, wrap64] <;> omega
          refine ⟨t, ?_, ?_⟩
          · rw [hd, Bool.true_and]
            refine loopA_go (by simp only [loopRNum,I21,IC.loops,hi,hc,hn,hw,h1,h2,w1,w2,w3,w4,Zs,Zr,Zp,Za,Zb,evI,opsI,stepI,wantI,opI,AAct.evI,look,AAct.put,mkVal,mkVM,intOpA,intA,shiftA,unA,ZP,ZO,Zh,Zt,reduceIte,Nat.reduceEqDiff,Nat.reduceLT,Zo,Zq,true_and,and_true,and_self,ZB,cellsAt,Zg,ZC,Zf,Zk,ZL,ZM,Nat.reduceAdd,Nat.reduceMul,ZN,AV.cells,AV.one,known,Zn,getE_0,getE_k,setE_0,setE_k,Zc,Zd,Zl,Zm,Zi,Zw,Zu,Zj,Z1,Zx,Zy,ZJ,ZI,ZH,ZD,ZE,splice,fillI,Nat.reduceLeDiff,strA,ZK,ZA,Ze,bq_ft,bq_tf,ZG,ZF,ZQ,Zv,Zz,isNilA,nilPtr,nilSl,nilIf,nilFn,nilMap,nilCheckA,if_true,if_false,lt_lit,le_lit,lt_lit2,le_lit2,le_sub1,le_sub2]; rfl) ?_
            simp only [roundEnd,AAct.keepT,Zv,Zz,look,reduceIte,Nat.reduceEqDiff,lowT,Zx,Zy,low,lowL,lowD,mayCut,Zg,Zf,Zk,ZL,Nat.reduceAdd,takeS,takeE_0,takeE_k,Zi,Zw,eqM_app,eqM_refl,Bool.true_or,ZJ,ZI,ZH,ZP,Nat.lt_succ_self,Nat.lt_add_right_iff_pos,Nat.add_lt_add_iff_left,Nat.reduceLT,if_true,lt_k,Zn,Zp,Zr]
            exact ht
          · intro h; rw [hd, Bool.true_and] at h; exact hl h
        · have hd : digL c = false := by
            simp only [decide_eq_true_eq] at h2
            simp only [digL,Bool.and_eq_false_iff,decide_eq_false_iff_not]; omega
          simp only [hd,ZE,Ze,if_false]
          exact ⟨_, loopA_ret (by simp only [loopRNum,I21,IC.loops,hi,hc,hn,h1,h2,Zs,Zr,Zp,Za,Zb,evI,opsI,stepI,wantI,opI,AAct.evI,look,AAct.put,mkVal,mkVM,intOpA,intA,shiftA,unA,ZP,ZO,Zh,Zt,reduceIte,Nat.reduceEqDiff,Nat.reduceLT,Zo,Zq,true_and,and_true,and_self,ZB,cellsAt,Zg,ZC,Zf,Zk,ZL,ZM,Nat.reduceAdd,Nat.reduceMul,ZN,AV.cells,AV.one,known,Zn,getE_0,getE_k,setE_0,setE_k,Zc,Zd,Zl,Zm,Zi,Zw,Zu,Zj,Z1,Zx,Zy,ZJ,ZI,ZH,ZD,ZE,splice,fillI,Nat.reduceLeDiff,strA,ZK,ZA,Ze,bq_ft,bq_tf,ZG,ZF,ZQ,Zv,Zz,isNilA,nilPtr,nilSl,nilIf,nilFn,nilMap,nilCheckA,if_true,if_false,lt_lit,le_lit,lt_lit2,le_lit2,le_sub1,le_sub2]; rfl), fun h => absurd h (by simp)⟩
      · have hd : digL c = false := by
          simp only [decide_eq_true_eq] at h1
          simp only [digL,Bool.and_eq_false_iff,decide_eq_false_iff_not]; omega
        simp only [hd,ZE,Ze,if_false]
        exact ⟨_, loopA_ret (by simp only [loopRNum,I21,IC.loops,hi,hc,hn,h1,Zs,Zr,Zp,Za,Zb,evI,opsI,stepI,wantI,opI,AAct.evI,look,AAct.put,mkVal,mkVM,intOpA,intA,shiftA,unA,ZP,ZO,Zh,Zt,reduceIte,Nat.reduceEqDiff,Nat.reduceLT,Zo,Zq,true_and,and_true,and_self,ZB,cellsAt,Zg,ZC,Zf,Zk,ZL,ZM,Nat.reduceAdd,Nat.reduceMul,ZN,AV.cells,AV.one,known,Zn,getE_0,getE_k,setE_0,setE_k,Zc,Zd,Zl,Zm,Zi,Zw,Zu,Zj,Z1,Zx,Zy,ZJ,ZI,ZH,ZD,ZE,splice,fillI,Nat.reduceLeDiff,strA,ZK,ZA,Ze,bq_ft,bq_tf,ZG,ZF,ZQ,Zv,Zz,isNilA,nilPtr,nilSl,nilIf,nilFn,nilMap,nilCheckA,if_true,if_false,lt_lit,le_lit,lt_lit2,le_lit2,le_sub1,le_sub2]; rfl), fun h => absurd h (by simp)⟩
    · have hk' : k = s.length := by omega
      subst hk'
      simp only [List.drop_length,Zy,if_true,List.take_length]
      exact ⟨_, loopA_exit (by simp only [loopRNum,I21,IC.loops,Int.lt_irrefl,Zs,Zr,Zp,Za,Zb,evI,opsI,stepI,wantI,opI,AAct.evI,look,AAct.put,mkVal,mkVM,intOpA,intA,shiftA,unA,ZP,ZO,Zh,Zt,reduceIte,Nat.reduceEqDiff,Nat.reduceLT,Zo,Zq,true_and,and_true,and_self,ZB,cellsAt,Zg,ZC,Zf,Zk,ZL,ZM,Nat.reduceAdd,Nat.reduceMul,ZN,AV.cells,AV.one,known,Zn,getE_0,getE_k,setE_0,setE_k,Zc,Zd,Zl,Zm,Zi,Zw,Zu,Zj,Z1,Zx,Zy,ZJ,ZI,ZH,ZD,ZE,splice,fillI,Nat.reduceLeDiff,strA,ZK,ZA,Ze,bq_ft,bq_tf,ZG,ZF,ZQ,Zv,Zz,isNilA,nilPtr,nilSl,nilIf,nilFn,nilMap,nilCheckA,if_true,if_false,lt_lit,le_lit,lt_lit2,le_lit2,le_sub1,le_sub2]; rfl), fun _ => rfl⟩
theorem rnumber_eq (P : Program) (N n : Nat) (hN : 9223372036854775808 ≤ N) (s : List UInt8) (H : Mem) :
    evFI P cfg T N (n + 1) 21 [.str s] H = some (.ret (.int .i64 (numL s)), H) := by
  cases h1 : decide ((s.length : Int) < 1)
  · cases h2 : decide ((s.length : Int) > 9)
    · have h1' : ¬ (s.length : Int) < 1 := by simpa using h1
      have h2' : ¬ (s.length : Int) > 9 := by simpa using h2
      obtain ⟨t, ht, hl⟩ := rnum_loop P (evFI P cfg T N n) N s (by omega) H N 0 (Nat.zero_le _) (by omega) rfl
      rw [List.drop_zero] at ht hl
      cases ha : s.all digL with
      | true =>
        rw [ha, if_pos rfl] at ht
        have hv : numL s = digs s := by rw [numL, if_pos ⟨by omega, by omega, ha⟩]
        have h3 := hl ha
        refine evF_ret (m := 38) (v := .int .i64 (numL s)) (a := ?a) (H1 := ?H1) rfl t21 rfl ?hb ?hd ?hr ?hz
        case hb =>
          apply evI_seq
          · simp only [Zf,Zk,idx,I21,Zs,Zr,Zp,Za,Zb,evI,opsI,stepI,wantI,opI,AAct.evI,look,AAct.put,mkVal,mkVM,intOpA,intA,shiftA,unA,ZP,ZO,Zh,Zt,reduceIte,Nat.reduceEqDiff,Nat.reduceLT,Zo,Zq,true_and,and_true,and_self,ZB,cellsAt,Zg,ZC,Zf,Zk,ZL,ZM,Nat.reduceAdd,Nat.reduceMul,ZN,AV.cells,AV.one,known,Zn,getE_0,getE_k,setE_0,setE_k,Zc,Zd,Zl,Zm,Zi,Zw,Zu,Zj,Z1,Zx,Zy,ZJ,ZI,ZH,ZD,ZE,splice,fillI,Nat.reduceLeDiff,strA,ZK,ZA,Ze,bq_ft,bq_tf,ZG,ZF,ZQ,Zv,Zz,isNilA,nilPtr,nilSl,nilIf,nilFn,nilMap,nilCheckA,if_true,if_false,lt_lit,le_lit,lt_lit2,le_lit2,le_sub1,le_sub2]; rfl
          apply evI_seq
          · simp only [h1,h2,Zs,Zr,Zp,Za,Zb,evI,opsI,stepI,wantI,opI,AAct.evI,look,AAct.put,mkVal,mkVM,intOpA,intA,shiftA,unA,ZP,ZO,Zh,Zt,reduceIte,Nat.reduceEqDiff,Nat.reduceLT,Zo,Zq,true_and,and_true,and_self,ZB,cellsAt,Zg,ZC,Zf,Zk,ZL,ZM,Nat.reduceAdd,Nat.reduceMul,ZN,AV.cells,AV.one,known,Zn,getE_0,getE_k,setE_0,setE_k,Zc,Zd,Zl,Zm,Zi,Zw,Zu,Zj,Z1,Zx,Zy,ZJ,ZI,ZH,ZD,ZE,splice,fillI,Nat.reduceLeDiff,strA,ZK,ZA,Ze,bq_ft,bq_tf,ZG,ZF,ZQ,Zv,Zz,isNilA,nilPtr,nilSl,nilIf,nilFn,nilMap,nilCheckA,if_true,if_false,lt_lit,le_lit,lt_lit2,le_lit2,le_sub1,le_sub2]; rfl
          apply evI_seq
          · simp only [Zs,Zr,Zp,Za,Zb,evI,opsI,stepI,wantI,opI,AAct.evI,look,AAct.put,mkVal,mkVM,intOpA,intA,shiftA,unA,ZP,ZO,Zh,Zt,reduceIte,Nat.reduceEqDiff,Nat.reduceLT,Zo,Zq,true_and,and_true,and_self,ZB,cellsAt,Zg,ZC,Zf,Zk,ZL,ZM,Nat.reduceAdd,Nat.reduceMul,ZN,AV.cells,AV.one,known,Zn,getE_0,getE_k,setE_0,setE_k,Zc,Zd,Zl,Zm,Zi,Zw,Zu,Zj,Z1,Zx,Zy,ZJ,ZI,ZH,ZD,ZE,splice,fillI,Nat.reduceLeDiff,strA,ZK,ZA,Ze,bq_ft,bq_tf,ZG,ZF,ZQ,Zv,Zz,isNilA,nilPtr,nilSl,nilIf,nilFn,nilMap,nilCheckA,if_true,if_false,lt_lit,le_lit,lt_lit2,le_lit2,le_sub1,le_sub2]; rfl
          apply evI_seq
          · apply evI_seq
            · simp only [Zs,Zr,Zp,Za,Zb,evI,opsI,stepI,wantI,opI,AAct.evI,look,AAct.put,mkVal,mkVM,intOpA,intA,shiftA,unA,ZP,ZO,Zh,Zt,reduceIte,Nat.reduceEqDiff,Nat.reduceLT,Zo,Zq,true_and,and_true,and_self,ZB,cellsAt,Zg,ZC,Zf,Zk,ZL,ZM,Nat.reduceAdd,Nat.reduceMul,ZN,AV.cells,AV.one,known,Zn,getE_0,getE_k,setE_0,setE_k,Zc,Zd,Zl,Zm,Zi,Zw,Zu,Zj,Z1,Zx,Zy,ZJ,ZI,ZH,ZD,ZE,splice,fillI,Nat.reduceLeDiff,strA,ZK,ZA,Ze,bq_ft,bq_tf,ZG,ZF,ZQ,Zv,Zz,isNilA,nilPtr,nilSl,nilIf,nilFn,nilMap,nilCheckA,if_true,if_false,lt_lit,le_lit,lt_lit2,le_lit2,le_sub1,le_sub2]; rfl
            apply evI_block_exit
            apply evI_loop
            exact ht
          apply evI_seq
          · simp only [h3,Zs,Zr,Zp,Za,Zb,evI,opsI,stepI,wantI,opI,AAct.evI,look,AAct.put,mkVal,mkVM,intOpA,intA,shiftA,unA,ZP,ZO,Zh,Zt,reduceIte,Nat.reduceEqDiff,Nat.reduceLT,Zo,Zq,true_and,and_true,and_self,ZB,cellsAt,Zg,ZC,Zf,Zk,ZL,ZM,Nat.reduceAdd,Nat.reduceMul,ZN,AV.cells,AV.one,known,Zn,getE_0,getE_k,setE_0,setE_k,Zc,Zd,Zl,Zm,Zi,Zw,Zu,Zj,Z1,Zx,Zy,ZJ,ZI,ZH,ZD,ZE,splice,fillI,Nat.reduceLeDiff,strA,ZK,ZA,Ze,bq_ft,bq_tf,ZG,ZF,ZQ,Zv,Zz,isNilA,nilPtr,nilSl,nilIf,nilFn,nilMap,nilCheckA,if_true,if_false,lt_lit,le_lit,lt_lit2,le_lit2,le_sub1,le_sub2]; rfl
          rfl
        case hd => rfl
        case hr => simp only [I21,resI,resLI,hv,Zs,Zr,Zp,Za,Zb,evI,opsI,stepI,wantI,opI,AAct.evI,look,AAct.put,mkVal,mkVM,intOpA,intA,shiftA,unA,ZP,ZO,Zh,Zt,reduceIte,Nat.reduceEqDiff,Nat.reduceLT,Zo,Zq,true_and,and_true,and_self,ZB,cellsAt,Zg,ZC,Zf,Zk,ZL,ZM,Nat.reduceAdd,Nat.reduceMul,ZN,AV.cells,AV.one,known,Zn,getE_0,getE_k,setE_0,setE_k,Zc,Zd,Zl,Zm,Zi,Zw,Zu,Zj,Z1,Zx,Zy,ZJ,ZI,ZH,ZD,ZE,splice,fillI,Nat.reduceLeDiff,strA,ZK,ZA,Ze,bq_ft,bq_tf,ZG,ZF,ZQ,Zv,Zz,isNilA,nilPtr,nilSl,nilIf,nilFn,nilMap,nilCheckA,if_true,if_false,lt_lit,le_lit,lt_lit2,le_lit2,le_sub1,le_sub2]
        case hz => simp only [finish,finish,cfg,keep,Ze,if_false,frz,frzL,eC_low,kC_low,atsC_low,low,lowL,ZP,Zh,roundEnd,AAct.keepT,Zv,Zz,look,reduceIte,Nat.reduceEqDiff,lowT,Zx,Zy,low,lowL,lowD,mayCut,Zg,Zf,Zk,ZL,Nat.reduceAdd,takeS,takeE_0,takeE_k,Zi,Zw,eqM_app,eqM_refl,Bool.true_or,ZJ,ZI,ZH,ZP,Nat.lt_succ_self,Nat.lt_add_right_iff_pos,Nat.add_lt_add_iff_left,Nat.reduceLT,if_true,lt_k,Zn,Zp,Zr]
      | false =>
        rw [ha, if_neg (by simp)] at ht
        have hv : numL s = -1 := by rw [numL, if_neg (by simp [ha])]
        refine evF_ret (m := 38) (v := .int .i64 (numL s)) (a := ?a2) (H1 := ?H2) rfl t21 rfl ?hb ?hd ?hr ?hz
        case hb =>
          apply evI_seq
          · simp only [Zf,Zk,idx,I21,Zs,Zr,Zp,Za,Zb,evI,opsI,stepI,wantI,opI,AAct.evI,look,AAct.put,mkVal,mkVM,intOpA,intA,shiftA,unA,ZP,ZO,Zh,Zt,reduceIte,Nat.reduceEqDiff,Nat.reduceLT,Zo,Zq,true_and,and_true,and_self,ZB,cellsAt,Zg,ZC,Zf,Zk,ZL,ZM,Nat.reduceAdd,Nat.reduceMul,ZN,AV.cells,AV.one,known,Zn,getE_0,getE_k,setE_0,setE_k,Zc,Zd,Zl,Zm,Zi,Zw,Zu,Zj,Z1,Zx,Zy,ZJ,ZI,ZH,ZD,ZE,splice,fillI,Nat.reduceLeDiff,strA,ZK,ZA,Ze,bq_ft,bq_tf,ZG,ZF,ZQ,Zv,Zz,isNilA,nilPtr,nilSl,nilIf,nilFn,nilMap,nilCheckA,if_true,if_false,lt_lit,le_lit,lt_lit2,le_lit2,le_sub1,le_sub2]; rfl
          apply evI_seq
          · simp only [h1,h2,Zs,Zr,Zp,Za,Zb,evI,opsI,stepI,wantI,opI,AAct.evI,look,AAct.put,mkVal,mkVM,intOpA,intA,shiftA,unA,ZP,ZO,Zh,Zt,reduceIte,Nat.reduceEqDiff,Nat.reduceLT,Zo,Zq,true_and,and_true,and_self,ZB,cellsAt,Zg,ZC,Zf,Zk,ZL,ZM,Nat.reduceAdd,Nat.reduceMul,ZN,AV.cells,AV.one,known,Zn,getE_0,getE_k,setE_0,setE_k,Zc,Zd,Zl,Zm,Zi,Zw,Zu,Zj,Z1,Zx,Zy,ZJ,ZI,ZH,ZD,ZE,splice,fillI,Nat.reduceLeDiff,strA,ZK,ZA,Ze,bq_ft,bq_tf,ZG,ZF,ZQ,Zv,Zz,isNilA,nilPtr,nilSl,nilIf,nilFn,nilMap,nilCheckA,if_true,if_false,lt_lit,le_lit,lt_lit2,le_lit2,le_sub1,le_sub2]; rfl
          apply evI_seq
          · simp only [Zs,Zr,Zp,Za,Zb,evI,opsI,stepI,wantI,opI,AAct.evI,look,AAct.put,mkVal,mkVM,intOpA,intA,shiftA,unA,ZP,ZO,Zh,Zt,reduceIte,Nat.reduceEqDiff,Nat.reduceLT,Zo,Zq,true_and,and_true,and_self,ZB,cellsAt,Zg,ZC,Zf,Zk,ZL,ZM,Nat.reduceAdd,Nat.reduceMul,ZN,AV.cells,AV.one,known,Zn,getE_0,getE_k,setE_0,setE_k,Zc,Zd,Zl,Zm,Zi,Zw,Zu,Zj,Z1,Zx,Zy,ZJ,ZI,ZH,ZD,ZE,splice,fillI,Nat.reduceLeDiff,strA,ZK,ZA,Ze,bq_ft,bq_tf,ZG,ZF,ZQ,Zv,Zz,isNilA,nilPtr,nilSl,nilIf,nilFn,nilMap,nilCheckA,if_true,if_false,lt_lit,le_lit,lt_lit2,le_lit2,le_sub1,le_sub2]; rfl
          apply evI_seq_ret
          apply evI_seq
          · simp only [Zs,Zr,Zp,Za,Zb,evI,opsI,stepI,wantI,opI,AAct.evI,look,AAct.put,mkVal,mkVM,intOpA,intA,shiftA,unA,ZP,ZO,Zh,Zt,reduceIte,Nat.reduceEqDiff,Nat.reduceLT,Zo,Zq,true_and,and_true,and_self,ZB,cellsAt,Zg,ZC,Zf,Zk,ZL,ZM,Nat.reduceAdd,Nat.reduceMul,ZN,AV.cells,AV.one,known,Zn,getE_0,getE_k,setE_0,setE_k,Zc,Zd,Zl,Zm,Zi,Zw,Zu,Zj,Z1,Zx,Zy,ZJ,ZI,ZH,ZD,ZE,splice,fillI,Nat.reduceLeDiff,strA,ZK,ZA,Ze,bq_ft,bq_tf,ZG,ZF,ZQ,Zv,Zz,isNilA,nilPtr,nilSl,nilIf,nilFn,nilMap,nilCheckA,if_true,if_false,lt_lit,le_lit,lt_lit2,le_lit2,le_sub1,le_sub2]; rfl
          apply evI_block_ret
          apply evI_loop
          exact ht
        case hd => rfl
        case hr => simp only [I21,resI,resLI,hv,Zs,Zr,Zp,Za,Zb,evI,opsI,stepI,wantI,opI,AAct.evI,look,AAct.put,mkVal,mkVM,intOpA,intA,shiftA,unA,ZP,ZO,Zh,Zt,reduceIte,Nat.reduceEqDiff,Nat.reduceLT,Zo,Zq,true_and,and_true,and_self,ZB,cellsAt,Zg,ZC,Zf,Zk,ZL,ZM,Nat.reduceAdd,Nat.reduceMul,ZN,AV.cells,AV.one,known,Zn,getE_0,getE_k,setE_0,setE_k,Zc,Zd,Zl,Zm,Zi,Zw,Zu,Zj,Z1,Zx,Zy,ZJ,ZI,ZH,ZD,ZE,splice,fillI,Nat.reduceLeDiff,strA,ZK,ZA,Ze,bq_ft,bq_tf,ZG,ZF,ZQ,Zv,Zz,isNilA,nilPtr,nilSl,nilIf,nilFn,nilMap,nilCheckA,if_true,if_false,lt_lit,le_lit,lt_lit2,le_lit2,le_sub1,le_sub2]
        case hz => simp only [finish,finish,cfg,keep,Ze,if_false,frz,frzL,eC_low,kC_low,atsC_low,low,lowL,ZP,Zh,roundEnd,AAct.keepT,Zv,Zz,look,reduceIte,Nat.reduceEqDiff,lowT,Zx,Zy,low,lowL,lowD,mayCut,Zg,Zf,Zk,ZL,Nat.reduceAdd,takeS,takeE_0,takeE_k,Zi,Zw,eqM_app,eqM_refl,Bool.true_or,ZJ,ZI,ZH,ZP,Nat.lt_succ_self,Nat.lt_add_right_iff_pos,Nat.add_lt_add_iff_left,Nat.reduceLT,if_true,lt_k,Zn,Zp,Zr]
    · have h2' : (s.length : Int) > 9 := by simpa using h2
      have hv : numL s = -1 := by rw [numL, if_neg (by omega)]
      refine evF_ret (m := 38) (v := .int .i64 (numL s)) (a := ?a3) (H1 := ?H3) rfl t21 rfl ?hb ?hd ?hr ?hz
      case hb => simp only [Zf,Zk,idx,I21,h1,h2,Zs,Zr,Zp,Za,Zb,evI,opsI,stepI,wantI,opI,AAct.evI,look,AAct.put,mkVal,mkVM,intOpA,intA,shiftA,unA,ZP,ZO,Zh,Zt,reduceIte,Nat.reduceEqDiff,Nat.reduceLT,Zo,Zq,true_and,and_true,and_self,ZB,cellsAt,Zg,ZC,Zf,Zk,ZL,ZM,Nat.reduceAdd,Nat.reduceMul,ZN,AV.cells,AV.one,known,Zn,getE_0,getE_k,setE_0,setE_k,Zc,Zd,Zl,Zm,Zi,Zw,Zu,Zj,Z1,Zx,Zy,ZJ,ZI,ZH,ZD,ZE,splice,fillI,Nat.reduceLeDiff,strA,ZK,ZA,Ze,bq_ft,bq_tf,ZG,ZF,ZQ,Zv,Zz,isNilA,nilPtr,nilSl,nilIf,nilFn,nilMap,nilCheckA,if_true,if_false,lt_lit,le_lit,lt_lit2,le_lit2,le_sub1,le_sub2]; rfl
      case hd => rfl
      case hr => simp only [I21,resI,resLI,hv,Zs,Zr,Zp,Za,Zb,evI,opsI,stepI,wantI,opI,AAct.evI,look,AAct.put,mkVal,mkVM,intOpA,intA,shiftA,unA,ZP,ZO,Zh,Zt,reduceIte,Nat.reduceEqDiff,Nat.reduceLT,Zo,Zq,true_and,and_true,and_self,ZB,cellsAt,Zg,ZC,Zf,Zk,ZL,ZM,Nat.reduceAdd,Nat.reduceMul,ZN,AV.cells,AV.one,known,Zn,getE_0,getE_k,setE_0,setE_k,Zc,Zd,Zl,Zm,Zi,Zw,Zu,Zj,Z1,Zx,Zy,ZJ,ZI,ZH,ZD,ZE,splice,fillI,Nat.reduceLeDiff,strA,ZK,ZA,Ze,bq_ft,bq_tf,ZG,ZF,ZQ,Zv,Zz,isNilA,nilPtr,nilSl,nilIf,nilFn,nilMap,nilCheckA,if_true,if_false,lt_lit,le_lit,lt_lit2,le_lit2,le_sub1,le_sub2]
      case hz => simp only [finish,finish,cfg,keep,Ze,if_false,frz,frzL,eC_low,kC_low,atsC_low,low,lowL,ZP,Zh,roundEnd,AAct.keepT,Zv,Zz,look,reduceIte,Nat.reduceEqDiff,lowT,Zx,Zy,low,lowL,lowD,mayCut,Zg,Zf,Zk,ZL,Nat.reduceAdd,takeS,takeE_0,takeE_k,Zi,Zw,eqM_app,eqM_refl,Bool.true_or,ZJ,ZI,ZH,ZP,Nat.lt_succ_self,Nat.lt_add_right_iff_pos,Nat.add_lt_add_iff_left,Nat.reduceLT,if_true,lt_k,Zn,Zp,Zr]
  · have h1' : (s.length : Int) < 1 := by simpa using h1
    have hv : numL s = -1 := by rw [numL, if_neg (by omega)]
    refine evF_ret (m := 38) (v := .int .i64 (numL s)) (a := ?a4) (H1 := ?H4) rfl t21 rfl ?hb ?hd ?hr ?hz
    case hb => simp only [Zf,Zk,idx,I21,h1,Zs,Zr,Zp,Za,Zb,evI,opsI,stepI,wantI,opI,AAct.evI,look,AAct.put,mkVal,mkVM,intOpA,intA,shiftA,unA,ZP,ZO,Zh,Zt,reduceIte,Nat.reduceEqDiff,Nat.reduceLT,Zo,Zq,true_and,and_true,and_self,ZB,cellsAt,Zg,ZC,Zf,Zk,ZL,ZM,Nat.reduceAdd,Nat.reduceMul,ZN,AV.cells,AV.one,known,Zn,getE_0,getE_k,setE_0,setE_k,Zc,Zd,Zl,Zm,Zi,Zw,Zu,Zj,Z1,Zx,Zy,ZJ,ZI,ZH,ZD,ZE,splice,fillI,Nat.reduceLeDiff,strA,ZK,ZA,Ze,bq_ft,bq_tf,ZG,ZF,ZQ,Zv,Zz,isNilA,nilPtr,nilSl,nilIf,nilFn,nilMap,nilCheckA,if_true,if_false,lt_lit,le_lit,lt_lit2,le_lit2,le_sub1,le_sub2]; rfl
    case hd => rfl
    case hr => simp only [I21,resI,resLI,hv,Zs,Zr,Zp,Za,Zb,evI,opsI,stepI,wantI,opI,AAct.evI,look,AAct.put,mkVal,mkVM,intOpA,intA,shiftA,unA,ZP,ZO,Zh,Zt,reduceIte,Nat.reduceEqDiff,Nat.reduceLT,Zo,Zq,true_and,and_true,and_self,ZB,cellsAt,Zg,ZC,Zf,Zk,ZL,ZM,Nat.reduceAdd,Nat.reduceMul,ZN,AV.cells,AV.one,known,Zn,getE_0,getE_k,setE_0,setE_k,Zc,Zd,Zl,Zm,Zi,Zw,Zu,Zj,Z1,Zx,Zy,ZJ,ZI,ZH,ZD,ZE,splice,fillI,Nat.reduceLeDiff,strA,ZK,ZA,Ze,bq_ft,bq_tf,ZG,ZF,ZQ,Zv,Zz,isNilA,nilPtr,nilSl,nilIf,nilFn,nilMap,nilCheckA,if_true,if_false,lt_lit,le_lit,lt_lit2,le_lit2,le_sub1,le_sub2]
    case hz => simp only [finish,finish,cfg,keep,Ze,if_false,frz,frzL,eC_low,kC_low,atsC_low,low,lowL,ZP,Zh,roundEnd,AAct.keepT,Zv,Zz,look,reduceIte,Nat.reduceEqDiff,lowT,Zx,Zy,low,lowL,lowD,mayCut,Zg,Zf,Zk,ZL,Nat.reduceAdd,takeS,takeE_0,takeE_k,Zi,Zw,eqM_app,eqM_refl,Bool.true_or,ZJ,ZI,ZH,ZP,Nat.lt_succ_self,Nat.lt_add_right_iff_pos,Nat.add_lt_add_iff_left,Nat.reduceLT,if_true,lt_k,Zn,Zp,Zr]
theorem number_eq (P : Program) (N n : Nat) (s : List UInt8) (hs : s.length ≤ 9223372036854775807) (H : Mem) :
    evFI P cfg T N (n + 1) 14 [.str s] H = some (.ret (.tup [.int .i64 (numZ s), .bool (isNum s)]), H) := by
  have hl : cfg.lib 14 = some numLib := rfl
  simp only [evFI,hl,numLib,if_pos hs,Zh]
theorem known_eq (P : Program) (N n : Nat) (H : Mem) : evFI P cfg T N (n + 1) 9 [] H = some (.ret (.bool true), H) := by
  have hl : cfg.lib 9 = some trueLib := rfl
  simp only [evFI,hl,trueLib,Zh]
set_option maxHeartbeats 2000000
theorem numL_cases (s : List UInt8) : (isNum s = false ∧ numL s = -1) ∨ (isNum s = true ∧ 0 ≤ numL s ∧ numZ s = numL s) := by
  have h := numL_range s
  by_cases h1 : numL s = -1
  · exact .inl ⟨by simp [isNum, h1], h1⟩
  · exact .inr ⟨by simp [isNum, h1], by omega, by simp [numZ, h1]⟩
theorem loopA_going {body : AAct → Mem → Option (Out × AAct × Mem)} {lv : List Tmp} {n : Nat} {a a' : AAct} {H H' : Mem} {Q : Out × AAct × Mem → Prop} (h : body a H = some (.normal, a', H'))
    (h2 : ∀ M', (M' = H' ∨ (M' = H'.take H.length ∧ lowT H.length (a'.keepT lv).t = true)) → ∃ r, loopA body (some lv) n (a'.keepT lv) M' = some r ∧ Q r) : ∃ r, loopA body (some lv) (n + 1) a H = some r ∧ Q r := by
  rw [loopA_succ, h]
  simp only [roundEnd]
  split
  · rename_i hc
    simp only [Bool.and_eq_true] at hc
    exact h2 _ (.inr ⟨rfl, hc.1.1⟩)
  · exact h2 _ (.inl rfl)
def Grows (n0 sz ty : Nat) (n : Nat) (cs : List AV) (v : AV) (M : Mem) : Prop :=
  (n = 0 ∧ cs = [] ∧ v = .nilS) ∨ ∃ q st, v = .slc q 0 n sz st ∧ n0 ≤ q ∧ M[q]? = some (.row cs st ty)
theorem Grows.app {n0 sz ty n : Nat} {cs : List AV} {v : AV} {M : Mem} (h : Grows n0 sz ty n cs v M) (L : Mem) : Grows n0 sz ty n cs v (M ++ L) := by
  rcases h with h | ⟨q, st, h1, h2, h3⟩
  · exact .inl h
  · exact .inr ⟨q, st, h1, h2, by rw [List.getElem?_append_left (List.getElem?_eq_some_iff.1 h3).1]; exact h3⟩
def Starts (H M : Mem) : Prop := M.take H.length = H
theorem Starts.len {H M : Mem} (h : Starts H M) : H.length ≤ M.length := by
  have := congrArg List.length h
  rw [List.length_take] at this
  omega
theorem Starts.app {H M : Mem} (h : Starts H M) (L : Mem) : Starts H (M ++ L) := by
  unfold Starts
  rw [List.take_append_of_le_length h.len]; exact h
theorem Starts.set {H M : Mem} (h : Starts H M) {q : Nat} (hq : H.length ≤ q) (b : Blk) : Starts H (M.set q b) := by
  unfold Starts
  rw [List.take_set_of_le hq]; exact h
theorem Starts.get {H M : Mem} (h : Starts H M) {p : Nat} (hp : p < H.length) : M[p]? = H[p]? := by
  have : (M.take H.length)[p]? = M[p]? := List.getElem?_take_of_lt hp
  rw [← this, h]
theorem Starts.take {H M : Mem} (h : Starts H M) {n : Nat} (hn : H.length ≤ n) : Starts H (M.take n) := by
  unfold Starts
  rw [List.take_take, Nat.min_eq_left hn]; exact h
theorem frzL_app (f : AV → Option AV) : ∀ (a b a' b' : List AV), frzL f a = some a' → frzL f b = some b' → frzL f (a ++ b) = some (a' ++ b')
  | [], b, a', b', h1, h2 => by
    simp only [frzL,Option.some.injEq] at h1
    subst h1; exact h2
  | x :: a, b, a', b', h1, h2 => by
    simp only [frzL] at h1
    split at h1
    · rename_i y ys hy hys
      injection h1 with h1; subst h1
      have := frzL_app f a b ys b' hys h2
      simp only [Zp,frzL,hy,this]
    · cases h1
theorem eqM_starts {H M : Mem} (h : Starts H M) : eqM (M.take H.length) H = true := by rw [h]; exact eqM_refl _
theorem frz_slc {n0 k q off len sz st ty : Nat} {H : Mem} {cs cs' : List AV} (h : ¬ q < n0) (hq : H[q]? = some (.row cs st ty)) (hl : off + len * sz ≤ cs.length) (hf : frzL (frz n0 H k) ((cs.drop off).take (len * sz)) = some cs') : frz n0 H (k + 1) (.slc q off len sz st) = some (.lst len cs') := by
  show (if q < n0 then _ else _) = _
  rw [if_neg h, hq]
  show (if st = st ∧ _ then _ else _) = _
  rw [if_pos ⟨rfl, hl⟩, hf]; rfl
theorem frz_tup {n0 k : Nat} {H : Mem} {cs cs' : List AV} (h : frzL (frz n0 H k) cs = some cs') : frz n0 H (k + 1) (.tup cs) = some (.tup cs') := by
  show (frzL (frz n0 H k) cs).map AV.tup = _
  rw [h]; rfl
theorem frzL_cons {f : AV → Option AV} {c c' : AV} {cs cs' : List AV} (h : f c = some c') (h2 : frzL f cs = some cs') : frzL f (c :: cs) = some (c' :: cs') := by
  simp only [frzL,h,h2]
theorem fin_ok {H M : Mem} (h : Starts H M) {v v' : AV} (hf : frz H.length M 12 v = some v') (hl : low H.length v' = true) : finish false H v M = (v', H) := by
  simp only [finish,Ze,if_false,hf,hl,mayCut,eqM_starts h,Bool.true_or,ZJ,if_true]
  exact congrArg (Prod.mk _) h
end Go.Proofs.YtlimneghgioeaaaGreatDoor.Ev
