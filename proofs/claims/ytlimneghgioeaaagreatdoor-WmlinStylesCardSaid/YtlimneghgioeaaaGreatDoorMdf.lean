/- Parts of one proof. -/
import Derived.Test.YtlimneghgioeaaaGreatDoorMdb
set_option linter.all false
namespace Go.Proofs.YtlimneghgioeaaaGreatDoor.Ev
open Go.Proofs.YtlimneghgioeaaaGreatDoor.Ic
set_option maxRecDepth 100000
set_option maxHeartbeats 2000000
mutual
def dEl : El → Nat
  | .mk _ _ _ _ ks => dEls ks + 1
def dEls : List El → Nat
  | [] => 0
  | k :: ks => max (dEl k) (dEls ks)
end
theorem dEl_mem {x : El} : ∀ {l : List El}, x ∈ l → dEl x ≤ dEls l
  | k :: ks, h => by
    simp only [dEls]
    rcases List.mem_cons.1 h with rfl | h
    · omega
    · have := dEl_mem h; omega
theorem dEl_kid {e x : El} (h : x ∈ e.kids) : dEl x + 1 ≤ dEl e := by
  have := dEl_mem h
  cases e
  simp only [dEl,El.kids] at *
  omega
inductive Small (B : Nat) : El → Prop
  | mk (sp nm tx : List UInt8) (ats : List (List UInt8 × List UInt8 × List UInt8)) (kids : List El) (h1 : sp.length ≤ B) (h2 : nm.length ≤ B) (h3 : tx.length ≤ B) (ha : ats.length ≤ B) (hk : kids.length ≤ B) (h : ∀ k ∈ kids, Small B k) (hv : ∀ a ∈ ats, a.1.length ≤ B ∧ a.2.1.length ≤ B ∧ a.2.2.length ≤ B) : Small B (.mk sp nm tx ats kids)
theorem Small.kid {B : Nat} {e k : El} (h : Small B e) (hk : k ∈ e.kids) : Small B k := by cases h with | mk _ _ _ _ _ _ _ _ _ _ h _ => exact h k hk
theorem Small.fits {B : Nat} (hB : B ≤ 9223372036854775807) : ∀ (n : Nat) (e : El), dEl e ≤ n → Small B e → Fits e
  | 0, e, h, _ => by cases e; simp [dEl] at h
  | n + 1, e, h, hs => by
    cases hs with
    | mk sp nm tx ats kids h1 h2 h3 ha hk h4 hv =>
      exact .mk _ _ _ _ _ (by omega) (by omega) (fun k hk => Small.fits hB n k (by have := dEl_kid (e := .mk sp nm tx ats kids) hk; omega) (h4 k hk)) (fun a ha => by have := hv a ha; omega)
theorem Small.nm {B : Nat} {e : El} (h : Small B e) : e.nm.length ≤ B := by cases h; assumption
theorem Small.tx {B : Nat} {e : El} (h : Small B e) : e.tx.length ≤ B := by cases h; assumption
theorem Small.at {B : Nat} {e : El} (h : Small B e) : ∀ a ∈ e.ats, a.2.1.length ≤ B ∧ a.2.2.length ≤ B := by
  cases h with | mk _ _ _ _ _ _ _ _ _ _ _ hv => exact fun a ha => (hv a ha).2
noncomputable def loopHv1 : IC := (I5.c.loops).getD 0 .bad
noncomputable def loopHv2 : IC := (I5.c.loops).getD 1 .bad
def HvEnd (R : Int → Prop) (id : Nat) (p : Nat) (M : Mem) : Out × AAct × Mem → Prop
  | (o, a, M') => M' = M ∧ a.n = 77 ∧ a.d = [] ∧ ((o = .exit id ∧ (∃ z, look a.t 1 = .int .i64 z ∧ R z) ∧ look a.t 2 = .ptr p 0 0) ∨ (o = .ret ∧ look a.t 4 = .int .i64 (-1)))
theorem HvEnd.mono {R R' : Int → Prop} {id p : Nat} {M : Mem} {r : Out × AAct × Mem} (h : HvEnd R id p M r) (hR : ∀ z, R z → R' z) : HvEnd R' id p M r := by
  obtain ⟨o, a, M'⟩ := r
  obtain ⟨h1, h2, h3, h4⟩ := h
  refine ⟨h1, h2, h3, ?_⟩
  rcases h4 with ⟨h5, ⟨z, h6, h7⟩, h8⟩ | h4
  · exact .inl ⟨h5, ⟨z, h6, hR z h7⟩, h8⟩
  · exact .inr h4
theorem hv1_loop (P : Program) (N : Nat) (F : FSem) (e : El) (he : e.ats.length ≤ 9223372036854775807) (hB : ∀ a ∈ e.ats, a.2.1.length ≤ 1125899906842624 ∧ a.2.2.length ≤ 1125899906842624) (H : Mem) : ∀ (fuel k : Nat) (z : Int), k ≤ e.ats.length → e.ats.length - k < fuel → z ≤ 1099511627776 →
    ∃ r, loopA (fun a H => evI P cfg F N loopHv1 a H) (some [1, 2, 5]) fuel ⟨77, [(1, .int .i64 z), (2, .ptr H.length 0 0), (5, .int .i64 k)], []⟩ (H ++ [.row (eC e) 0 (25 + 1)]) = some r ∧ HvEnd (· ≤ z) 0 H.length (H ++ [.row (eC e) 0 (25 + 1)]) r
  | 0, k, _, _, h, _ => by omega
  | fuel + 1, k, z, hk, hf, hzu => by
    rcases Nat.lt_or_ge k e.ats.length with hlt | hge
    · obtain ⟨x, hx⟩ := all_drop hlt
      have hget : (e.ats.flatMap atC).drop (k * 3) = atC x ++ (e.ats.drop (k + 1)).flatMap atC := by rw [atsC_drop, hx]; rfl
      have hlen : k * 3 + 3 ≤ (e.ats.flatMap atC).length := by rw [atsC_len]; omega
      have hi : (k : Int) < (e.ats.length : Int) := by omega
      have hw := wrap_next hlt he
      have hn := natOf_nat k .i64
      cases hz : decide (z ≥ 0)
      · refine ⟨_, loopA_exit (by simp only [loopHv1,I5,IC.loops,hi,hlt,hlen,hget,hn,hw,hz,eC_len,eC_take,eC_one,eC_0,eC_1,eC_2,eC_3,eC_4,eCr,eCr_0,eCr_1,eCr_2,eCr_3,eCr_4,List.length_drop,Nat.reduceSub,ZR,atr,Zs,Zr,Zp,Za,Zb,evI,opsI,stepI,wantI,opI,AAct.evI,look,AAct.put,mkVal,mkVM,intOpA,intA,shiftA,unA,ZP,ZO,Zh,Zt,reduceIte,Nat.reduceEqDiff,Nat.reduceLT,Zo,Zq,true_and,and_true,and_self,ZB,cellsAt,Zg,ZC,Zf,Zk,ZL,ZM,Nat.reduceAdd,Nat.reduceMul,ZN,AV.cells,AV.one,known,Zn,getE_0,getE_k,setE_0,setE_k,Zc,Zd,Zl,Zm,Zi,Zw,Zu,Zj,Z1,Zx,Zy,ZJ,ZI,ZH,ZD,ZE,splice,fillI,Nat.reduceLeDiff,strA,ZK,ZA,Ze,bq_ft,bq_tf,ZG,ZF,ZQ,Zv,Zz,isNilA,nilPtr,nilSl,nilIf,nilFn,nilMap,nilCheckA,if_true,if_false,lt_lit,le_lit,lt_lit2,le_lit2,le_sub1,le_sub2]; rfl), ?_⟩
        exact ⟨rfl, rfl, rfl, .inl ⟨rfl, ⟨z, rfl, Int.le_refl z⟩, rfl⟩⟩
      cases hs : decide ((x.1.length : Int) > 200)
      rotate_left
      · refine ⟨_, loopA_ret (by simp only [loopHv1,I5,IC.loops,hi,hlt,hlen,hget,hn,hw,hz,hs,eC_len,eC_take,eC_one,eC_0,eC_1,eC_2,eC_3,eC_4,eCr,eCr_0,eCr_1,eCr_2,eCr_3,eCr_4,List.length_drop,Nat.reduceSub,ZR,atr,Zs,Zr,Zp,Za,Zb,evI,opsI,stepI,wantI,opI,AAct.evI,look,AAct.put,mkVal,mkVM,intOpA,intA,shiftA,unA,ZP,ZO,Zh,Zt,reduceIte,Nat.reduceEqDiff,Nat.reduceLT,Zo,Zq,true_and,and_true,and_self,ZB,cellsAt,Zg,ZC,Zf,Zk,ZL,ZM,Nat.reduceAdd,Nat.reduceMul,ZN,AV.cells,AV.one,known,Zn,getE_0,getE_k,setE_0,setE_k,Zc,Zd,Zl,Zm,Zi,Zw,Zu,Zj,Z1,Zx,Zy,ZJ,ZI,ZH,ZD,ZE,splice,fillI,Nat.reduceLeDiff,strA,ZK,ZA,Ze,bq_ft,bq_tf,ZG,ZF,ZQ,Zv,Zz,isNilA,nilPtr,nilSl,nilIf,nilFn,nilMap,nilCheckA,if_true,if_false,lt_lit,le_lit,lt_lit2,le_lit2,le_sub1,le_sub2]; rfl), ?_⟩
        exact ⟨rfl, rfl, rfl, .inr ⟨rfl, rfl⟩⟩
      · have hxb := hB x (List.mem_of_mem_drop (i := k) (by rw [hx]; exact List.mem_cons_self))
        have hz0 : z ≥ 0 := of_decide_eq_true hz
        have w1 : IntKind.wrap .i64 (z - 4) = z - 4 := wrap64 (by omega) (by omega)
        have w2 : IntKind.wrap .i64 (z - 4 - (x.2.1.length : Int)) = z - 4 - (x.2.1.length : Int) := wrap64 (by omega) (by omega)
        have w3 : IntKind.wrap .i64 (z - 4 - (x.2.1.length : Int) - (x.2.2.length : Int)) = z - 4 - (x.2.1.length : Int) - (x.2.2.length : Int) := wrap64 (by omega) (by omega)
        obtain ⟨r, hr, hQ⟩ := hv1_loop P N F e he hB H fuel (k + 1) (z - 4 - (x.2.1.length : Int) - (x.2.2.length : Int)) (by omega) (by omega) (by omega)
        refine ⟨r, ?_, hQ.mono fun y hy => by omega⟩
        refine loopA_go (by simp only [loopHv1,I5,IC.loops,hi,hlt,hlen,hget,hn,hw,hz,hs,w1,w2,w3,eC_len,eC_take,eC_one,eC_0,eC_1,eC_2,eC_3,eC_4,eCr,eCr_0,eCr_1,eCr_2,eCr_3,eCr_4,List.length_drop,Nat.reduceSub,ZR,atr,Zs,Zr,Zp,Za,Zb,evI,opsI,stepI,wantI,opI,AAct.evI,look,AAct.put,mkVal,mkVM,intOpA,intA,shiftA,unA,ZP,ZO,Zh,Zt,reduceIte,Nat.reduceEqDiff,Nat.reduceLT,Zo,Zq,true_and,and_true,and_self,ZB,cellsAt,Zg,ZC,Zf,Zk,ZL,ZM,Nat.reduceAdd,Nat.reduceMul,ZN,AV.cells,AV.one,known,Zn,getE_0,getE_k,setE_0,setE_k,Zc,Zd,Zl,Zm,Zi,Zw,Zu,Zj,Z1,Zx,Zy,ZJ,ZI,ZH,ZD,ZE,splice,fillI,Nat.reduceLeDiff,strA,ZK,ZA,Ze,bq_ft,bq_tf,ZG,ZF,ZQ,Zv,Zz,isNilA,nilPtr,nilSl,nilIf,nilFn,nilMap,nilCheckA,if_true,if_false,lt_lit,le_lit,lt_lit2,le_lit2,le_sub1,le_sub2,drawI,drawI2,drawI0,drawI20,lexD,valD,valI,putD,okD,roD,memAt,lastM,wantI,eqv_refl,eqM_refl,eqM_app,eqB,eqvL,eqv,List.getLast?_cons_cons,List.getLast?_singleton,Option.getD_some,Bool.or_true,Bool.true_or,ZA,resvV]; rfl) ?_
        simp only [eC_low,kC_low,roundEnd,AAct.keepT,Zv,Zz,look,reduceIte,Nat.reduceEqDiff,lowT,Zx,Zy,low,lowL,lowD,mayCut,Zg,Zf,Zk,ZL,Nat.reduceAdd,takeS,takeE_0,takeE_k,Zi,Zw,eqM_app,eqM_refl,Bool.true_or,ZJ,ZI,ZH,ZP,Nat.lt_succ_self,Nat.lt_add_right_iff_pos,Nat.add_lt_add_iff_left,Nat.reduceLT,if_true,lt_k,Zn,Zp,Zr]
        exact hr
    · have hk' : k = e.ats.length := by omega
      subst hk'
      refine ⟨_, loopA_exit (by simp only [loopHv1,I5,IC.loops,Int.lt_irrefl,eC_len,eC_take,eC_one,eC_0,eC_1,eC_2,eC_3,eC_4,eCr,eCr_0,eCr_1,eCr_2,eCr_3,eCr_4,List.length_drop,Nat.reduceSub,ZR,atr,Zs,Zr,Zp,Za,Zb,evI,opsI,stepI,wantI,opI,AAct.evI,look,AAct.put,mkVal,mkVM,intOpA,intA,shiftA,unA,ZP,ZO,Zh,Zt,reduceIte,Nat.reduceEqDiff,Nat.reduceLT,Zo,Zq,true_and,and_true,and_self,ZB,cellsAt,Zg,ZC,Zf,Zk,ZL,ZM,Nat.reduceAdd,Nat.reduceMul,ZN,AV.cells,AV.one,known,Zn,getE_0,getE_k,setE_0,setE_k,Zc,Zd,Zl,Zm,Zi,Zw,Zu,Zj,Z1,Zx,Zy,ZJ,ZI,ZH,ZD,ZE,splice,fillI,Nat.reduceLeDiff,strA,ZK,ZA,Ze,bq_ft,bq_tf,ZG,ZF,ZQ,Zv,Zz,isNilA,nilPtr,nilSl,nilIf,nilFn,nilMap,nilCheckA,if_true,if_false,lt_lit,le_lit,lt_lit2,le_lit2,le_sub1,le_sub2]; rfl), ?_⟩
      exact ⟨rfl, rfl, rfl, .inl ⟨rfl, ⟨z, rfl, Int.le_refl z⟩, rfl⟩⟩
theorem hv2_loop (P : Program) (N : Nat) (F : FSem) (e : El) (he : e.kids.length ≤ 9223372036854775807) (hF : ∀ x ∈ e.kids, ∀ z, 0 ≤ z → z ≤ 1099511627776 → ∀ H, ∃ z', F 5 [.agg (eC x), .int .i64 z] H = some (.ret (.int .i64 z'), H) ∧ (0 ≤ z' → z' + 8 ≤ z)) (H : Mem) : ∀ (fuel k : Nat) (z : Int), k ≤ e.kids.length → e.kids.length - k < fuel → z ≤ 1099511627776 →
    ∃ r, loopA (fun a H => evI P cfg F N loopHv2 a H) (some [1, 2, 6]) fuel ⟨77, [(1, .int .i64 z), (2, .ptr H.length 0 0), (6, .int .i64 k)], []⟩ (H ++ [.row (eC e) 0 (25 + 1)]) = some r ∧ HvEnd (fun z' => 0 ≤ z' → z' + 8 * ((e.kids.length : Int) - k) ≤ z) 2 H.length (H ++ [.row (eC e) 0 (25 + 1)]) r
  | 0, k, _, _, h, _ => by omega
  | fuel + 1, k, z, hk, hf, hzu => by
    rcases Nat.lt_or_ge k e.kids.length with hlt | hge
    · obtain ⟨x, hx⟩ := all_drop hlt
      have hxm : x ∈ e.kids := List.mem_of_mem_drop (i := k) (by rw [hx]; exact List.mem_cons_self)
      have hget : (kC e.kids).drop (k * 5) = eC x ++ kC (e.kids.drop (k + 1)) := by rw [kC_drop, hx]; rfl
      have hlen : k * 5 + 5 ≤ (kC e.kids).length := by rw [kC_len]; omega
      have hi : (k : Int) < (e.kids.length : Int) := by omega
      have hw := wrap_next hlt he
      have hn := natOf_nat k .i64
      cases hz : decide (z ≥ 0)
      · refine ⟨_, loopA_exit (by simp only [loopHv2,I5,IC.loops,hi,hlt,hlen,hget,hn,hw,hz,eC_len,eC_take,eC_one,eC_0,eC_1,eC_2,eC_3,eC_4,eCr,eCr_0,eCr_1,eCr_2,eCr_3,eCr_4,List.length_drop,Nat.reduceSub,ZR,atr,Zs,Zr,Zp,Za,Zb,evI,opsI,stepI,wantI,opI,AAct.evI,look,AAct.put,mkVal,mkVM,intOpA,intA,shiftA,unA,ZP,ZO,Zh,Zt,reduceIte,Nat.reduceEqDiff,Nat.reduceLT,Zo,Zq,true_and,and_true,and_self,ZB,cellsAt,Zg,ZC,Zf,Zk,ZL,ZM,Nat.reduceAdd,Nat.reduceMul,ZN,AV.cells,AV.one,known,Zn,getE_0,getE_k,setE_0,setE_k,Zc,Zd,Zl,Zm,Zi,Zw,Zu,Zj,Z1,Zx,Zy,ZJ,ZI,ZH,ZD,ZE,splice,fillI,Nat.reduceLeDiff,strA,ZK,ZA,Ze,bq_ft,bq_tf,ZG,ZF,ZQ,Zv,Zz,isNilA,nilPtr,nilSl,nilIf,nilFn,nilMap,nilCheckA,if_true,if_false,lt_lit,le_lit,lt_lit2,le_lit2,le_sub1,le_sub2]; rfl), ?_⟩
        have hz0 : ¬ z ≥ 0 := of_decide_eq_false hz
        exact ⟨rfl, rfl, rfl, .inl ⟨rfl, ⟨z, rfl, fun h => by omega⟩, rfl⟩⟩
      · have hz0 : z ≥ 0 := of_decide_eq_true hz
        obtain ⟨z', hc, hz'⟩ := hF x hxm z hz0 hzu (H ++ [.row (eC e) 0 (25 + 1)])
        obtain ⟨r, hr, hQ⟩ := hv2_loop P N F e he hF H fuel (k + 1) z' (by omega) (by omega) (by omega)
        refine ⟨r, ?_, hQ.mono fun y hy h => by have := hy h; omega⟩
        refine loopA_go (by simp only [loopHv2,I5,IC.loops,hi,hlt,hlen,hget,hn,hw,hz,hc,eC_len,eC_take,eC_one,eC_0,eC_1,eC_2,eC_3,eC_4,eCr,eCr_0,eCr_1,eCr_2,eCr_3,eCr_4,List.length_drop,Nat.reduceSub,ZR,atr,Zs,Zr,Zp,Za,Zb,evI,opsI,stepI,wantI,opI,AAct.evI,look,AAct.put,mkVal,mkVM,intOpA,intA,shiftA,unA,ZP,ZO,Zh,Zt,reduceIte,Nat.reduceEqDiff,Nat.reduceLT,Zo,Zq,true_and,and_true,and_self,ZB,cellsAt,Zg,ZC,Zf,Zk,ZL,ZM,Nat.reduceAdd,Nat.reduceMul,ZN,AV.cells,AV.one,known,Zn,getE_0,getE_k,setE_0,setE_k,Zc,Zd,Zl,Zm,Zi,Zw,Zu,Zj,Z1,Zx,Zy,ZJ,ZI,ZH,ZD,ZE,splice,fillI,Nat.reduceLeDiff,strA,ZK,ZA,Ze,bq_ft,bq_tf,ZG,ZF,ZQ,Zv,Zz,isNilA,nilPtr,nilSl,nilIf,nilFn,nilMap,nilCheckA,if_true,if_false,lt_lit,le_lit,lt_lit2,le_lit2,le_sub1,le_sub2,drawI,drawI2,drawI0,drawI20,lexD,valD,valI,putD,okD,roD,memAt,lastM,wantI,eqv_refl,eqM_refl,eqM_app,eqB,eqvL,eqv,List.getLast?_cons_cons,List.getLast?_singleton,Option.getD_some,Bool.or_true,Bool.true_or,ZA,resvV]; rfl) ?_
        simp only [eC_low,kC_low,roundEnd,AAct.keepT,Zv,Zz,look,reduceIte,Nat.reduceEqDiff,lowT,Zx,Zy,low,lowL,lowD,mayCut,Zg,Zf,Zk,ZL,Nat.reduceAdd,takeS,takeE_0,takeE_k,Zi,Zw,eqM_app,eqM_refl,Bool.true_or,ZJ,ZI,ZH,ZP,Nat.lt_succ_self,Nat.lt_add_right_iff_pos,Nat.add_lt_add_iff_left,Nat.reduceLT,if_true,lt_k,Zn,Zp,Zr]
        exact hr
    · have hk' : k = e.kids.length := by omega
      subst hk'
      refine ⟨_, loopA_exit (by simp only [loopHv2,I5,IC.loops,Int.lt_irrefl,eC_len,eC_take,eC_one,eC_0,eC_1,eC_2,eC_3,eC_4,eCr,eCr_0,eCr_1,eCr_2,eCr_3,eCr_4,List.length_drop,Nat.reduceSub,ZR,atr,Zs,Zr,Zp,Za,Zb,evI,opsI,stepI,wantI,opI,AAct.evI,look,AAct.put,mkVal,mkVM,intOpA,intA,shiftA,unA,ZP,ZO,Zh,Zt,reduceIte,Nat.reduceEqDiff,Nat.reduceLT,Zo,Zq,true_and,and_true,and_self,ZB,cellsAt,Zg,ZC,Zf,Zk,ZL,ZM,Nat.reduceAdd,Nat.reduceMul,ZN,AV.cells,AV.one,known,Zn,getE_0,getE_k,setE_0,setE_k,Zc,Zd,Zl,Zm,Zi,Zw,Zu,Zj,Z1,Zx,Zy,ZJ,ZI,ZH,ZD,ZE,splice,fillI,Nat.reduceLeDiff,strA,ZK,ZA,Ze,bq_ft,bq_tf,ZG,ZF,ZQ,Zv,Zz,isNilA,nilPtr,nilSl,nilIf,nilFn,nilMap,nilCheckA,if_true,if_false,lt_lit,le_lit,lt_lit2,le_lit2,le_sub1,le_sub2]; rfl), ?_⟩
      exact ⟨rfl, rfl, rfl, .inl ⟨rfl, ⟨z, rfl, fun _ => by omega⟩, rfl⟩⟩
theorem heavy_eq (P : Program) (N : Nat) (hN : 9223372036854775808 ≤ N) : ∀ (m : Nat) (e : El), dEl e ≤ m → Small 1125899906842624 e → ∀ (n : Nat) (left : Int), 0 ≤ left → left ≤ 1099511627776 → ∀ (H : Mem),
    ∃ z, evFI P cfg T N (n + m) 5 [.agg (eC e), .int .i64 left] H = some (.ret (.int .i64 z), H) ∧ (0 ≤ z → z + 8 * ((e.kids.length : Int) + 1) ≤ left)
  | 0, e, h, _, _, _, _, _, _ => by cases e; simp [dEl] at h
  | m + 1, e, h, hsm, n, left, hl0, hl1, H => by
    have he : Fits e := Small.fits (by omega) _ e h hsm
    have hF : ∀ x ∈ e.kids, ∀ z, 0 ≤ z → z ≤ 1099511627776 → ∀ H, ∃ z', evFI P cfg T N (n + m) 5 [.agg (eC x), .int .i64 z] H = some (.ret (.int .i64 z'), H) ∧ (0 ≤ z' → z' + 8 ≤ z) := fun x hx z h0 h1 H => by
      obtain ⟨z', h2, h3⟩ := heavy_eq P N hN m x (by have := dEl_kid hx; omega) (hsm.kid hx) n z h0 h1 H
      exact ⟨z', h2, fun h => by have := h3 h; omega⟩
    have hnm := hsm.nm
    have htx := hsm.tx
    have w1 : IntKind.wrap .i64 (left - 8) = left - 8 := wrap64 (by omega) (by omega)
    have w2 : IntKind.wrap .i64 (left - 8 - (e.nm.length : Int)) = left - 8 - (e.nm.length : Int) := wrap64 (by omega) (by omega)
    have w3 : IntKind.wrap .i64 (left - 8 - (e.nm.length : Int) - (e.tx.length : Int)) = left - 8 - (e.nm.length : Int) - (e.tx.length : Int) := wrap64 (by omega) (by omega)
    cases hs : decide ((e.sp.length : Int) > 200)
    rotate_left
    · refine ⟨-1, ?_, fun h => absurd h (by decide)⟩
      refine (evF_ret (m := 77) (v := .int .i64 (-1)) (a := ?a) (H1 := ?H1) rfl t5 rfl ?hb ?hd ?hr ?hz)
      case hb => simp only [Zf,Zk,idx,I5,hs,eC_len,eC_take,eC_one,eC_0,eC_1,eC_2,eC_3,eC_4,eCr,eCr_0,eCr_1,eCr_2,eCr_3,eCr_4,List.length_drop,Nat.reduceSub,ZR,atr,Zs,Zr,Zp,Za,Zb,evI,opsI,stepI,wantI,opI,AAct.evI,look,AAct.put,mkVal,mkVM,intOpA,intA,shiftA,unA,ZP,ZO,Zh,Zt,reduceIte,Nat.reduceEqDiff,Nat.reduceLT,Zo,Zq,true_and,and_true,and_self,ZB,cellsAt,Zg,ZC,Zf,Zk,ZL,ZM,Nat.reduceAdd,Nat.reduceMul,ZN,AV.cells,AV.one,known,Zn,getE_0,getE_k,setE_0,setE_k,Zc,Zd,Zl,Zm,Zi,Zw,Zu,Zj,Z1,Zx,Zy,ZJ,ZI,ZH,ZD,ZE,splice,fillI,Nat.reduceLeDiff,strA,ZK,ZA,Ze,bq_ft,bq_tf,ZG,ZF,ZQ,Zv,Zz,isNilA,nilPtr,nilSl,nilIf,nilFn,nilMap,nilCheckA,if_true,if_false,lt_lit,le_lit,lt_lit2,le_lit2,le_sub1,le_sub2]; rfl
      case hd => rfl
      case hr => simp only [I5,resI,resLI,Zs,Zr,Zp,Za,Zb,evI,opsI,stepI,wantI,opI,AAct.evI,look,AAct.put,mkVal,mkVM,intOpA,intA,shiftA,unA,ZP,ZO,Zh,Zt,reduceIte,Nat.reduceEqDiff,Nat.reduceLT,Zo,Zq,true_and,and_true,and_self,ZB,cellsAt,Zg,ZC,Zf,Zk,ZL,ZM,Nat.reduceAdd,Nat.reduceMul,ZN,AV.cells,AV.one,known,Zn,getE_0,getE_k,setE_0,setE_k,Zc,Zd,Zl,Zm,Zi,Zw,Zu,Zj,Z1,Zx,Zy,ZJ,ZI,ZH,ZD,ZE,splice,fillI,Nat.reduceLeDiff,strA,ZK,ZA,Ze,bq_ft,bq_tf,ZG,ZF,ZQ,Zv,Zz,isNilA,nilPtr,nilSl,nilIf,nilFn,nilMap,nilCheckA,if_true,if_false,lt_lit,le_lit,lt_lit2,le_lit2,le_sub1,le_sub2]
      case hz => simp only [finish,finish,cfg,keep,Ze,if_false,frz,frzL,eC_low,kC_low,atsC_low,low,lowL,ZP,Zh,roundEnd,AAct.keepT,Zv,Zz,look,reduceIte,Nat.reduceEqDiff,lowT,Zx,Zy,low,lowL,lowD,mayCut,Zg,Zf,Zk,ZL,Nat.reduceAdd,takeS,takeE_0,takeE_k,Zi,Zw,eqM_app,eqM_refl,Bool.true_or,ZJ,ZI,ZH,ZP,Nat.lt_succ_self,Nat.lt_add_right_iff_pos,Nat.add_lt_add_iff_left,Nat.reduceLT,if_true,lt_k,Zn,Zp,Zr]
    obtain ⟨⟨o, ⟨an, t, ad⟩, M'⟩, hr, rfl, rfl, rfl, hQ⟩ := hv1_loop P N (evFI P cfg T N (n + m)) e he.ats hsm.at H N 0 (left - 8 - (e.nm.length : Int) - (e.tx.length : Int)) (Nat.zero_le _) (by have := he.ats; omega) (by omega)
    rcases hQ with ⟨rfl, ⟨z, e1, hz⟩, e2⟩ | ⟨rfl, e4⟩
    rotate_left
    · refine ⟨-1, ?_, fun h => absurd h (by decide)⟩
      refine (evF_ret (m := 77) (v := .int .i64 (-1)) (a := ?a3) (H1 := ?H3) rfl t5 rfl ?hb ?hd ?hr ?hz)
      case hb =>
        apply evI_seq
        · simp only [Zf,Zk,idx,I5,eC_len,eC_take,eC_one,eC_0,eC_1,eC_2,eC_3,eC_4,eCr,eCr_0,eCr_1,eCr_2,eCr_3,eCr_4,List.length_drop,Nat.reduceSub,ZR,atr,Zs,Zr,Zp,Za,Zb,evI,opsI,stepI,wantI,opI,AAct.evI,look,AAct.put,mkVal,mkVM,intOpA,intA,shiftA,unA,ZP,ZO,Zh,Zt,reduceIte,Nat.reduceEqDiff,Nat.reduceLT,Zo,Zq,true_and,and_true,and_self,ZB,cellsAt,Zg,ZC,Zf,Zk,ZL,ZM,Nat.reduceAdd,Nat.reduceMul,ZN,AV.cells,AV.one,known,Zn,getE_0,getE_k,setE_0,setE_k,Zc,Zd,Zl,Zm,Zi,Zw,Zu,Zj,Z1,Zx,Zy,ZJ,ZI,ZH,ZD,ZE,splice,fillI,Nat.reduceLeDiff,strA,ZK,ZA,Ze,bq_ft,bq_tf,ZG,ZF,ZQ,Zv,Zz,isNilA,nilPtr,nilSl,nilIf,nilFn,nilMap,nilCheckA,if_true,if_false,lt_lit,le_lit,lt_lit2,le_lit2,le_sub1,le_sub2]; rfl
        apply evI_seq
        · simp only [hs,eC_len,eC_take,eC_one,eC_0,eC_1,eC_2,eC_3,eC_4,eCr,eCr_0,eCr_1,eCr_2,eCr_3,eCr_4,List.length_drop,Nat.reduceSub,ZR,atr,Zs,Zr,Zp,Za,Zb,evI,opsI,stepI,wantI,opI,AAct.evI,look,AAct.put,mkVal,mkVM,intOpA,intA,shiftA,unA,ZP,ZO,Zh,Zt,reduceIte,Nat.reduceEqDiff,Nat.reduceLT,Zo,Zq,true_and,and_true,and_self,ZB,cellsAt,Zg,ZC,Zf,Zk,ZL,ZM,Nat.reduceAdd,Nat.reduceMul,ZN,AV.cells,AV.one,known,Zn,getE_0,getE_k,setE_0,setE_k,Zc,Zd,Zl,Zm,Zi,Zw,Zu,Zj,Z1,Zx,Zy,ZJ,ZI,ZH,ZD,ZE,splice,fillI,Nat.reduceLeDiff,strA,ZK,ZA,Ze,bq_ft,bq_tf,ZG,ZF,ZQ,Zv,Zz,isNilA,nilPtr,nilSl,nilIf,nilFn,nilMap,nilCheckA,if_true,if_false,lt_lit,le_lit,lt_lit2,le_lit2,le_sub1,le_sub2]; rfl
        apply evI_seq
        · simp only [w1,w2,w3,eC_len,eC_take,eC_one,eC_0,eC_1,eC_2,eC_3,eC_4,eCr,eCr_0,eCr_1,eCr_2,eCr_3,eCr_4,List.length_drop,Nat.reduceSub,ZR,atr,Zs,Zr,Zp,Za,Zb,evI,opsI,stepI,wantI,opI,AAct.evI,look,AAct.put,mkVal,mkVM,intOpA,intA,shiftA,unA,ZP,ZO,Zh,Zt,reduceIte,Nat.reduceEqDiff,Nat.reduceLT,Zo,Zq,true_and,and_true,and_self,ZB,cellsAt,Zg,ZC,Zf,Zk,ZL,ZM,Nat.reduceAdd,Nat.reduceMul,ZN,AV.cells,AV.one,known,Zn,getE_0,getE_k,setE_0,setE_k,Zc,Zd,Zl,Zm,Zi,Zw,Zu,Zj,Z1,Zx,Zy,ZJ,ZI,ZH,ZD,ZE,splice,fillI,Nat.reduceLeDiff,strA,ZK,ZA,Ze,bq_ft,bq_tf,ZG,ZF,ZQ,Zv,Zz,isNilA,nilPtr,nilSl,nilIf,nilFn,nilMap,nilCheckA,if_true,if_false,lt_lit,le_lit,lt_lit2,le_lit2,le_sub1,le_sub2]; rfl
        apply evI_seq_ret
        apply evI_seq
        · simp only [eC_len,eC_take,eC_one,eC_0,eC_1,eC_2,eC_3,eC_4,eCr,eCr_0,eCr_1,eCr_2,eCr_3,eCr_4,List.length_drop,Nat.reduceSub,ZR,atr,Zs,Zr,Zp,Za,Zb,evI,opsI,stepI,wantI,opI,AAct.evI,look,AAct.put,mkVal,mkVM,intOpA,intA,shiftA,unA,ZP,ZO,Zh,Zt,reduceIte,Nat.reduceEqDiff,Nat.reduceLT,Zo,Zq,true_and,and_true,and_self,ZB,cellsAt,Zg,ZC,Zf,Zk,ZL,ZM,Nat.reduceAdd,Nat.reduceMul,ZN,AV.cells,AV.one,known,Zn,getE_0,getE_k,setE_0,setE_k,Zc,Zd,Zl,Zm,Zi,Zw,Zu,Zj,Z1,Zx,Zy,ZJ,ZI,ZH,ZD,ZE,splice,fillI,Nat.reduceLeDiff,strA,ZK,ZA,Ze,bq_ft,bq_tf,ZG,ZF,ZQ,Zv,Zz,isNilA,nilPtr,nilSl,nilIf,nilFn,nilMap,nilCheckA,if_true,if_false,lt_lit,le_lit,lt_lit2,le_lit2,le_sub1,le_sub2]; rfl
        apply evI_block_ret
        apply evI_loop
        exact hr
      case hd => rfl
      case hr => simp only [I5,resI,resLI,e4,Zs,Zr,Zp,Za,Zb,evI,opsI,stepI,wantI,opI,AAct.evI,look,AAct.put,mkVal,mkVM,intOpA,intA,shiftA,unA,ZP,ZO,Zh,Zt,reduceIte,Nat.reduceEqDiff,Nat.reduceLT,Zo,Zq,true_and,and_true,and_self,ZB,cellsAt,Zg,ZC,Zf,Zk,ZL,ZM,Nat.reduceAdd,Nat.reduceMul,ZN,AV.cells,AV.one,known,Zn,getE_0,getE_k,setE_0,setE_k,Zc,Zd,Zl,Zm,Zi,Zw,Zu,Zj,Z1,Zx,Zy,ZJ,ZI,ZH,ZD,ZE,splice,fillI,Nat.reduceLeDiff,strA,ZK,ZA,Ze,bq_ft,bq_tf,ZG,ZF,ZQ,Zv,Zz,isNilA,nilPtr,nilSl,nilIf,nilFn,nilMap,nilCheckA,if_true,if_false,lt_lit,le_lit,lt_lit2,le_lit2,le_sub1,le_sub2]
      case hz => simp only [finish,finish,cfg,keep,Ze,if_false,frz,frzL,eC_low,kC_low,atsC_low,low,lowL,ZP,Zh,roundEnd,AAct.keepT,Zv,Zz,look,reduceIte,Nat.reduceEqDiff,lowT,Zx,Zy,low,lowL,lowD,mayCut,Zg,Zf,Zk,ZL,Nat.reduceAdd,takeS,takeE_0,takeE_k,Zi,Zw,eqM_app,eqM_refl,Bool.true_or,ZJ,ZI,ZH,ZP,Nat.lt_succ_self,Nat.lt_add_right_iff_pos,Nat.add_lt_add_iff_left,Nat.reduceLT,if_true,lt_k,Zn,Zp,Zr]
    simp only at e1 e2
    obtain ⟨⟨o, ⟨an, t2, ad⟩, M'⟩, hr2, rfl, rfl, rfl, hQ⟩ := hv2_loop P N (evFI P cfg T N (n + m)) e he.len hF H N 0 z (Nat.zero_le _) (by have := he.len; omega) (by omega)
    rcases hQ with ⟨rfl, ⟨z2, e3, hz2⟩, e4⟩ | ⟨rfl, e4⟩
    · refine ⟨z2, ?_, fun h => by have := hz2 h; omega⟩
      refine (evF_ret (m := 77) (v := .int .i64 z2) (a := ?a4) (H1 := ?H4) rfl t5 rfl ?hb ?hd ?hr ?hz)
      case hb =>
        apply evI_seq
        · simp only [Zf,Zk,idx,I5,eC_len,eC_take,eC_one,eC_0,eC_1,eC_2,eC_3,eC_4,eCr,eCr_0,eCr_1,eCr_2,eCr_3,eCr_4,List.length_drop,Nat.reduceSub,ZR,atr,Zs,Zr,Zp,Za,Zb,evI,opsI,stepI,wantI,opI,AAct.evI,look,AAct.put,mkVal,mkVM,intOpA,intA,shiftA,unA,ZP,ZO,Zh,Zt,reduceIte,Nat.reduceEqDiff,Nat.reduceLT,Zo,Zq,true_and,and_true,and_self,ZB,cellsAt,Zg,ZC,Zf,Zk,ZL,ZM,Nat.reduceAdd,Nat.reduceMul,ZN,AV.cells,AV.one,known,Zn,getE_0,getE_k,setE_0,setE_k,Zc,Zd,Zl,Zm,Zi,Zw,Zu,Zj,Z1,Zx,Zy,ZJ,ZI,ZH,ZD,ZE,splice,fillI,Nat.reduceLeDiff,strA,ZK,ZA,Ze,bq_ft,bq_tf,ZG,ZF,ZQ,Zv,Zz,isNilA,nilPtr,nilSl,nilIf,nilFn,nilMap,nilCheckA,if_true,if_false,lt_lit,le_lit,lt_lit2,le_lit2,le_sub1,le_sub2]; rfl
        apply evI_seq
        · simp only [hs,eC_len,eC_take,eC_one,eC_0,eC_1,eC_2,eC_3,eC_4,eCr,eCr_0,eCr_1,eCr_2,eCr_3,eCr_4,List.length_drop,Nat.reduceSub,ZR,atr,Zs,Zr,Zp,Za,Zb,evI,opsI,stepI,wantI,opI,AAct.evI,look,AAct.put,mkVal,mkVM,intOpA,intA,shiftA,unA,ZP,ZO,Zh,Zt,reduceIte,Nat.reduceEqDiff,Nat.reduceLT,Zo,Zq,true_and,and_true,and_self,ZB,cellsAt,Zg,ZC,Zf,Zk,ZL,ZM,Nat.reduceAdd,Nat.reduceMul,ZN,AV.cells,AV.one,known,Zn,getE_0,getE_k,setE_0,setE_k,Zc,Zd,Zl,Zm,Zi,Zw,Zu,Zj,Z1,Zx,Zy,ZJ,ZI,ZH,ZD,ZE,splice,fillI,Nat.reduceLeDiff,strA,ZK,ZA,Ze,bq_ft,bq_tf,ZG,ZF,ZQ,Zv,Zz,isNilA,nilPtr,nilSl,nilIf,nilFn,nilMap,nilCheckA,if_true,if_false,lt_lit,le_lit,lt_lit2,le_lit2,le_sub1,le_sub2]; rfl
        apply evI_seq
        · simp only [w1,w2,w3,eC_len,eC_take,eC_one,eC_0,eC_1,eC_2,eC_3,eC_4,eCr,eCr_0,eCr_1,eCr_2,eCr_3,eCr_4,List.length_drop,Nat.reduceSub,ZR,atr,Zs,Zr,Zp,Za,Zb,evI,opsI,stepI,wantI,opI,AAct.evI,look,AAct.put,mkVal,mkVM,intOpA,intA,shiftA,unA,ZP,ZO,Zh,Zt,reduceIte,Nat.reduceEqDiff,Nat.reduceLT,Zo,Zq,true_and,and_true,and_self,ZB,cellsAt,Zg,ZC,Zf,Zk,ZL,ZM,Nat.reduceAdd,Nat.reduceMul,ZN,AV.cells,AV.one,known,Zn,getE_0,getE_k,setE_0,setE_k,Zc,Zd,Zl,Zm,Zi,Zw,Zu,Zj,Z1,Zx,Zy,ZJ,ZI,ZH,ZD,ZE,splice,fillI,Nat.reduceLeDiff,strA,ZK,ZA,Ze,bq_ft,bq_tf,ZG,ZF,ZQ,Zv,Zz,isNilA,nilPtr,nilSl,nilIf,nilFn,nilMap,nilCheckA,if_true,if_false,lt_lit,le_lit,lt_lit2,le_lit2,le_sub1,le_sub2]; rfl
        apply evI_seq
        · apply evI_seq
          · simp only [eC_len,eC_take,eC_one,eC_0,eC_1,eC_2,eC_3,eC_4,eCr,eCr_0,eCr_1,eCr_2,eCr_3,eCr_4,List.length_drop,Nat.reduceSub,ZR,atr,Zs,Zr,Zp,Za,Zb,evI,opsI,stepI,wantI,opI,AAct.evI,look,AAct.put,mkVal,mkVM,intOpA,intA,shiftA,unA,ZP,ZO,Zh,Zt,reduceIte,Nat.reduceEqDiff,Nat.reduceLT,Zo,Zq,true_and,and_true,and_self,ZB,cellsAt,Zg,ZC,Zf,Zk,ZL,ZM,Nat.reduceAdd,Nat.reduceMul,ZN,AV.cells,AV.one,known,Zn,getE_0,getE_k,setE_0,setE_k,Zc,Zd,Zl,Zm,Zi,Zw,Zu,Zj,Z1,Zx,Zy,ZJ,ZI,ZH,ZD,ZE,splice,fillI,Nat.reduceLeDiff,strA,ZK,ZA,Ze,bq_ft,bq_tf,ZG,ZF,ZQ,Zv,Zz,isNilA,nilPtr,nilSl,nilIf,nilFn,nilMap,nilCheckA,if_true,if_false,lt_lit,le_lit,lt_lit2,le_lit2,le_sub1,le_sub2]; rfl
          apply evI_block_exit
          apply evI_loop
          exact hr
        apply evI_seq
        · apply evI_seq
          · simp only [eC_len,eC_take,eC_one,eC_0,eC_1,eC_2,eC_3,eC_4,eCr,eCr_0,eCr_1,eCr_2,eCr_3,eCr_4,List.length_drop,Nat.reduceSub,ZR,atr,Zs,Zr,Zp,Za,Zb,evI,opsI,stepI,wantI,opI,AAct.evI,look,AAct.put,mkVal,mkVM,intOpA,intA,shiftA,unA,ZP,ZO,Zh,Zt,reduceIte,Nat.reduceEqDiff,Nat.reduceLT,Zo,Zq,true_and,and_true,and_self,ZB,cellsAt,Zg,ZC,Zf,Zk,ZL,ZM,Nat.reduceAdd,Nat.reduceMul,ZN,AV.cells,AV.one,known,Zn,getE_0,getE_k,setE_0,setE_k,Zc,Zd,Zl,Zm,Zi,Zw,Zu,Zj,Z1,Zx,Zy,ZJ,ZI,ZH,ZD,ZE,splice,fillI,Nat.reduceLeDiff,strA,ZK,ZA,Ze,bq_ft,bq_tf,ZG,ZF,ZQ,Zv,Zz,isNilA,nilPtr,nilSl,nilIf,nilFn,nilMap,nilCheckA,if_true,if_false,lt_lit,le_lit,lt_lit2,le_lit2,le_sub1,le_sub2]; rfl
          apply evI_block_exit
          apply evI_loop
          simp only [AAct.keepT,Zv,Zz,look,reduceIte,Nat.reduceEqDiff,e1,e2]
          exact hr2
        apply evI_seq
        · simp only [e3,eC_len,eC_take,eC_one,eC_0,eC_1,eC_2,eC_3,eC_4,eCr,eCr_0,eCr_1,eCr_2,eCr_3,eCr_4,List.length_drop,Nat.reduceSub,ZR,atr,Zs,Zr,Zp,Za,Zb,evI,opsI,stepI,wantI,opI,AAct.evI,look,AAct.put,mkVal,mkVM,intOpA,intA,shiftA,unA,ZP,ZO,Zh,Zt,reduceIte,Nat.reduceEqDiff,Nat.reduceLT,Zo,Zq,true_and,and_true,and_self,ZB,cellsAt,Zg,ZC,Zf,Zk,ZL,ZM,Nat.reduceAdd,Nat.reduceMul,ZN,AV.cells,AV.one,known,Zn,getE_0,getE_k,setE_0,setE_k,Zc,Zd,Zl,Zm,Zi,Zw,Zu,Zj,Z1,Zx,Zy,ZJ,ZI,ZH,ZD,ZE,splice,fillI,Nat.reduceLeDiff,strA,ZK,ZA,Ze,bq_ft,bq_tf,ZG,ZF,ZQ,Zv,Zz,isNilA,nilPtr,nilSl,nilIf,nilFn,nilMap,nilCheckA,if_true,if_false,lt_lit,le_lit,lt_lit2,le_lit2,le_sub1,le_sub2]; rfl
        rfl
      case hd => rfl
      case hr => simp only [I5,resI,resLI,Zs,Zr,Zp,Za,Zb,evI,opsI,stepI,wantI,opI,AAct.evI,look,AAct.put,mkVal,mkVM,intOpA,intA,shiftA,unA,ZP,ZO,Zh,Zt,reduceIte,Nat.reduceEqDiff,Nat.reduceLT,Zo,Zq,true_and,and_true,and_self,ZB,cellsAt,Zg,ZC,Zf,Zk,ZL,ZM,Nat.reduceAdd,Nat.reduceMul,ZN,AV.cells,AV.one,known,Zn,getE_0,getE_k,setE_0,setE_k,Zc,Zd,Zl,Zm,Zi,Zw,Zu,Zj,Z1,Zx,Zy,ZJ,ZI,ZH,ZD,ZE,splice,fillI,Nat.reduceLeDiff,strA,ZK,ZA,Ze,bq_ft,bq_tf,ZG,ZF,ZQ,Zv,Zz,isNilA,nilPtr,nilSl,nilIf,nilFn,nilMap,nilCheckA,if_true,if_false,lt_lit,le_lit,lt_lit2,le_lit2,le_sub1,le_sub2]
      case hz => simp only [finish,finish,cfg,keep,Ze,if_false,frz,frzL,eC_low,kC_low,atsC_low,low,lowL,ZP,Zh,roundEnd,AAct.keepT,Zv,Zz,look,reduceIte,Nat.reduceEqDiff,lowT,Zx,Zy,low,lowL,lowD,mayCut,Zg,Zf,Zk,ZL,Nat.reduceAdd,takeS,takeE_0,takeE_k,Zi,Zw,eqM_app,eqM_refl,Bool.true_or,ZJ,ZI,ZH,ZP,Nat.lt_succ_self,Nat.lt_add_right_iff_pos,Nat.add_lt_add_iff_left,Nat.reduceLT,if_true,lt_k,Zn,Zp,Zr]
    · refine ⟨-1, ?_, fun h => absurd h (by decide)⟩
      refine (evF_ret (m := 77) (v := .int .i64 (-1)) (a := ?a5) (H1 := ?H5) rfl t5 rfl ?hb ?hd ?hr ?hz)
      case hb =>
        apply evI_seq
        · simp only [Zf,Zk,idx,I5,eC_len,eC_take,eC_one,eC_0,eC_1,eC_2,eC_3,eC_4,eCr,eCr_0,eCr_1,eCr_2,eCr_3,eCr_4,List.length_drop,Nat.reduceSub,ZR,atr,Zs,Zr,Zp,Za,Zb,evI,opsI,stepI,wantI,opI,AAct.evI,look,AAct.put,mkVal,mkVM,intOpA,intA,shiftA,unA,ZP,ZO,Zh,Zt,reduceIte,Nat.reduceEqDiff,Nat.reduceLT,Zo,Zq,true_and,and_true,and_self,ZB,cellsAt,Zg,ZC,Zf,Zk,ZL,ZM,Nat.reduceAdd,Nat.reduceMul,ZN,AV.cells,AV.one,known,Zn,getE_0,getE_k,setE_0,setE_k,Zc,Zd,Zl,Zm,Zi,Zw,Zu,Zj,Z1,Zx,Zy,ZJ,ZI,ZH,ZD,ZE,splice,fillI,Nat.reduceLeDiff,strA,ZK,ZA,Ze,bq_ft,bq_tf,ZG,ZF,ZQ,Zv,Zz,isNilA,nilPtr,nilSl,nilIf,nilFn,nilMap,nilCheckA,if_true,if_false,lt_lit,le_lit,lt_lit2,le_lit2,le_sub1,le_sub2]; rfl
        apply evI_seq
        · simp only [hs,eC_len,eC_take,eC_one,eC_0,eC_1,eC_2,eC_3,eC_4,eCr,eCr_0,eCr_1,eCr_2,eCr_3,eCr_4,List.length_drop,Nat.reduceSub,ZR,atr,Zs,Zr,Zp,Za,Zb,evI,opsI,stepI,wantI,opI,AAct.evI,look,AAct.put,mkVal,mkVM,intOpA,intA,shiftA,unA,ZP,ZO,Zh,Zt,reduceIte,Nat.reduceEqDiff,Nat.reduceLT,Zo,Zq,true_and,and_true,and_self,ZB,cellsAt,Zg,ZC,Zf,Zk,ZL,ZM,Nat.reduceAdd,Nat.reduceMul,ZN,AV.cells,AV.one,known,Zn,getE_0,getE_k,setE_0,setE_k,Zc,Zd,Zl,Zm,Zi,Zw,Zu,Zj,Z1,Zx,Zy,ZJ,ZI,ZH,ZD,ZE,splice,fillI,Nat.reduceLeDiff,strA,ZK,ZA,Ze,bq_ft,bq_tf,ZG,ZF,ZQ,Zv,Zz,isNilA,nilPtr,nilSl,nilIf,nilFn,nilMap,nilCheckA,if_true,if_false,lt_lit,le_lit,lt_lit2,le_lit2,le_sub1,le_sub2]; rfl
        apply evI_seq
        · simp only [w1,w2,w3,eC_len,eC_take,eC_one,eC_0,eC_1,eC_2,eC_3,eC_4,eCr,eCr_0,eCr_1,eCr_2,eCr_3,eCr_4,List.length_drop,Nat.reduceSub,ZR,atr,Zs,Zr,Zp,Za,Zb,evI,opsI,stepI,wantI,opI,AAct.evI,look,AAct.put,mkVal,mkVM,intOpA,intA,shiftA,unA,ZP,ZO,Zh,Zt,reduceIte,Nat.reduceEqDiff,Nat.reduceLT,Zo,Zq,true_and,and_true,and_self,ZB,cellsAt,Zg,ZC,Zf,Zk,ZL,ZM,Nat.reduceAdd,Nat.reduceMul,ZN,AV.cells,AV.one,known,Zn,getE_0,getE_k,setE_0,setE_k,Zc,Zd,Zl,Zm,Zi,Zw,Zu,Zj,Z1,Zx,Zy,ZJ,ZI,ZH,ZD,ZE,splice,fillI,Nat.reduceLeDiff,strA,ZK,ZA,Ze,bq_ft,bq_tf,ZG,ZF,ZQ,Zv,Zz,isNilA,nilPtr,nilSl,nilIf,nilFn,nilMap,nilCheckA,if_true,if_false,lt_lit,le_lit,lt_lit2,le_lit2,le_sub1,le_sub2]; rfl
        apply evI_seq
        · apply evI_seq
          · simp only [eC_len,eC_take,eC_one,eC_0,eC_1,eC_2,eC_3,eC_4,eCr,eCr_0,eCr_1,eCr_2,eCr_3,eCr_4,List.length_drop,Nat.reduceSub,ZR,atr,Zs,Zr,Zp,Za,Zb,evI,opsI,stepI,wantI,opI,AAct.evI,look,AAct.put,mkVal,mkVM,intOpA,intA,shiftA,unA,ZP,ZO,Zh,Zt,reduceIte,Nat.reduceEqDiff,Nat.reduceLT,Zo,Zq,true_and,and_true,and_self,ZB,cellsAt,Zg,ZC,Zf,Zk,ZL,ZM,Nat.reduceAdd,Nat.reduceMul,ZN,AV.cells,AV.one,known,Zn,getE_0,getE_k,setE_0,setE_k,Zc,Zd,Zl,Zm,Zi,Zw,Zu,Zj,Z1,Zx,Zy,ZJ,ZI,ZH,ZD,ZE,splice,fillI,Nat.reduceLeDiff,strA,ZK,ZA,Ze,bq_ft,bq_tf,ZG,ZF,ZQ,Zv,Zz,isNilA,nilPtr,nilSl,nilIf,nilFn,nilMap,nilCheckA,if_true,if_false,lt_lit,le_lit,lt_lit2,le_lit2,le_sub1,le_sub2]; rfl
          apply evI_block_exit
          apply evI_loop
          exact hr
        apply evI_seq_ret
        apply evI_seq
        · simp only [eC_len,eC_take,eC_one,eC_0,eC_1,eC_2,eC_3,eC_4,eCr,eCr_0,eCr_1,eCr_2,eCr_3,eCr_4,List.length_drop,Nat.reduceSub,ZR,atr,Zs,Zr,Zp,Za,Zb,evI,opsI,stepI,wantI,opI,AAct.evI,look,AAct.put,mkVal,mkVM,intOpA,intA,shiftA,unA,ZP,ZO,Zh,Zt,reduceIte,Nat.reduceEqDiff,Nat.reduceLT,Zo,Zq,true_and,and_true,and_self,ZB,cellsAt,Zg,ZC,Zf,Zk,ZL,ZM,Nat.reduceAdd,Nat.reduceMul,ZN,AV.cells,AV.one,known,Zn,getE_0,getE_k,setE_0,setE_k,Zc,Zd,Zl,Zm,Zi,Zw,Zu,Zj,Z1,Zx,Zy,ZJ,ZI,ZH,ZD,ZE,splice,fillI,Nat.reduceLeDiff,strA,ZK,ZA,Ze,bq_ft,bq_tf,ZG,ZF,ZQ,Zv,Zz,isNilA,nilPtr,nilSl,nilIf,nilFn,nilMap,nilCheckA,if_true,if_false,lt_lit,le_lit,lt_lit2,le_lit2,le_sub1,le_sub2]; rfl
        apply evI_block_ret
        apply evI_loop
        simp only [AAct.keepT,Zv,Zz,look,reduceIte,Nat.reduceEqDiff,e1,e2]
        exact hr2
      case hd => rfl
      case hr => simp only [I5,resI,resLI,e4,Zs,Zr,Zp,Za,Zb,evI,opsI,stepI,wantI,opI,AAct.evI,look,AAct.put,mkVal,mkVM,intOpA,intA,shiftA,unA,ZP,ZO,Zh,Zt,reduceIte,Nat.reduceEqDiff,Nat.reduceLT,Zo,Zq,true_and,and_true,and_self,ZB,cellsAt,Zg,ZC,Zf,Zk,ZL,ZM,Nat.reduceAdd,Nat.reduceMul,ZN,AV.cells,AV.one,known,Zn,getE_0,getE_k,setE_0,setE_k,Zc,Zd,Zl,Zm,Zi,Zw,Zu,Zj,Z1,Zx,Zy,ZJ,ZI,ZH,ZD,ZE,splice,fillI,Nat.reduceLeDiff,strA,ZK,ZA,Ze,bq_ft,bq_tf,ZG,ZF,ZQ,Zv,Zz,isNilA,nilPtr,nilSl,nilIf,nilFn,nilMap,nilCheckA,if_true,if_false,lt_lit,le_lit,lt_lit2,le_lit2,le_sub1,le_sub2]
      case hz => simp only [finish,finish,cfg,keep,Ze,if_false,frz,frzL,eC_low,kC_low,atsC_low,low,lowL,ZP,Zh,roundEnd,AAct.keepT,Zv,Zz,look,reduceIte,Nat.reduceEqDiff,lowT,Zx,Zy,low,lowL,lowD,mayCut,Zg,Zf,Zk,ZL,Nat.reduceAdd,takeS,takeE_0,takeE_k,Zi,Zw,eqM_app,eqM_refl,Bool.true_or,ZJ,ZI,ZH,ZP,Nat.lt_succ_self,Nat.lt_add_right_iff_pos,Nat.add_lt_add_iff_left,Nat.reduceLT,if_true,lt_k,Zn,Zp,Zr]
end Go.Proofs.YtlimneghgioeaaaGreatDoor.Ev
