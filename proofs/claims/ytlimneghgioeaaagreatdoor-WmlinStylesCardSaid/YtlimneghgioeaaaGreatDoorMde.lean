/- Parts of one proof. -/
import Derived.Test.YtlimneghgioeaaaGreatDoorMdd
set_option linter.all false
namespace Go.Proofs.YtlimneghgioeaaaGreatDoor.Ev
open Go.Proofs.YtlimneghgioeaaaGreatDoor.Ic
set_option maxRecDepth 100000
set_option maxHeartbeats 8000000
def styleS : List UInt8 := [115, 116, 121, 108, 101]
def typeS : List UInt8 := [116, 121, 112, 101]
def paraS : List UInt8 := [112, 97, 114, 97, 103, 114, 97, 112, 104]
def charS : List UInt8 := [99, 104, 97, 114, 97, 99, 116, 101, 114]
def styleIdS : List UInt8 := [115, 116, 121, 108, 101, 73, 100]
def basedOnS : List UInt8 := [98, 97, 115, 101, 100, 79, 110]
def pPrS : List UInt8 := [112, 80, 114]
def rPrS : List UInt8 := [114, 80, 114]
def outS : List UInt8 := [111, 117, 116, 108, 105, 110, 101, 76, 118, 108]
def isSty (x : El) : Bool := x.sp == wNs && (x.nm == styleS && (attrOf x typeS == paraS || attrOf x typeS == charS))
def headOf (z : List UInt8) : Int := if (isNum z && decide (numZ z < 6)) = true then numZ z + 1 else 0
def styU (x : El) : St := ⟨attrOf x styleIdS, valOf x basedOnS, attrOf x typeS == charS, togOf (kidOf x rPrS) [105], togOf (kidOf x rPrS) [98], headOf (valOf (kidOf x pPrS) outS)⟩
theorem styU_rng (x : El) : Rng (styU x) := by
  have h1 := tog_rng (kidOf x rPrS) [105]
  have h2 := tog_rng (kidOf x rPrS) [98]
  refine ⟨h1.1, h1.2, h2.1, h2.2, ?_⟩
  show 0 ≤ headOf _ ∧ headOf _ ≤ 6
  unfold headOf
  rcases numL_cases (valOf (kidOf x pPrS) outS) with ⟨h3, _⟩ | ⟨_, h3, h4⟩
  · rw [h3, Bool.false_and, if_neg (by simp)]; decide
  · split
    · rename_i h
      simp only [Bool.and_eq_true,decide_eq_true_eq] at h
      rw [h4] at h ⊢
      omega
    · decide
def stysIn (xs : List El) (l : List St) : List St := l ++ (xs.filter isSty).map styU
theorem stysIn_no (x : El) (xs : List El) (l : List St) (h : isSty x = false) : stysIn (x :: xs) l = stysIn xs l := by
  unfold stysIn
  rw [List.filter_cons, h]
  simp
theorem stysIn_yes (x : El) (xs : List El) (l : List St) (h : isSty x = true) : stysIn (x :: xs) l = stysIn xs (l ++ [styU x]) := by
  unfold stysIn
  rw [List.filter_cons, h]
  simp
theorem stsC_snoc (l : List St) (x : St) : stsC (l ++ [x]) = stsC l ++ stC x := by simp [stsC]
noncomputable def loopStys : IC := (I6.c.loops).getD 0 .bad
def StysEnd (H : Mem) (n : Nat) (l : List St) : Out × AAct × Mem → Prop
  | (o, a, M) => Starts H M ∧ o = .exit 0 ∧ a.n = n ∧ a.d = [] ∧ Grows H.length 6 (48 + 1) l.length (stsC l) (look a.t 4) M
theorem stys_loop (P : Program) (N n : Nat) (hN : 9223372036854775808 ≤ N) (kids : List El) (hfit : ∀ x ∈ kids, Fits x) (hek : kids.length ≤ 1073741824) (H : Mem) : ∀ (fuel k : Nat) (l : List St) (v : AV) (M : Mem), k ≤ kids.length → kids.length - k < fuel → l.length ≤ k → Starts H M → Grows H.length 6 (48 + 1) l.length (stsC l) v M →
    ∃ r, loopA (fun a H => evI P cfg (evFI P cfg T N (n + 3)) N loopStys a H) (some [4, 22, 23, 24]) fuel ⟨89, [(4, v), (22, .lst kids.length (kC kids)), (23, .int .i64 kids.length), (24, .int .i64 k)], []⟩ M = some r ∧ StysEnd H 89 (stysIn (kids.drop k) l) r
  | 0, k, _, _, _, _, h, _, _, _ => by omega
  | fuel + 1, k, l, v, M, hk, hf, hlk, hst, hg => by
    rcases Nat.lt_or_ge k kids.length with hlt | hge
    · obtain ⟨x, hx⟩ := all_drop hlt
      have hxm : x ∈ kids := List.mem_of_mem_drop (i := k) (by rw [hx]; exact List.mem_cons_self)
      have hfx := hfit x hxm
      have hget : (kC kids).drop (k * 5) = eC x ++ kC (kids.drop (k + 1)) := by rw [kC_drop, hx]; rfl
      have hlen : k * 5 + 5 ≤ (kC kids).length := by rw [kC_len]; omega
      have hi : (k : Int) < (kids.length : Int) := by omega
      have hw := wrap_next hlt (by omega)
      have hn := natOf_nat k .i64
      have ih := stys_loop P N n hN kids hfit hek H fuel (k + 1)
      have hTy := fun H => attr_eq P N (n + 1) hN typeS x hfx H
      rw [hx]
      have hst' : isSty x = (x.sp == wNs && (x.nm == styleS && (attrOf x typeS == paraS || attrOf x typeS == charS))) := rfl
      have hsty : styU x = ⟨attrOf x styleIdS, valOf x basedOnS, attrOf x typeS == charS, togOf (kidOf x rPrS) [105], togOf (kidOf x rPrS) [98], headOf (valOf (kidOf x pPrS) outS)⟩ := rfl
      have hgo : isSty x = false → ∀ X : Mem, ∀ M', (M' = M ++ X ∨ (M' = (M ++ X).take M.length ∧ lowT M.length [(4, v), (22, .lst kids.length (kC kids)), (23, .int .i64 kids.length), (24, .int .i64 (k + 1 : Nat))] = true)) → ∃ r, loopA (fun a H => evI P cfg (evFI P cfg T N (n + 3)) N loopStys a H) (some [4, 22, 23, 24]) fuel ⟨89, [(4, v), (22, .lst kids.length (kC kids)), (23, .int .i64 kids.length), (24, .int .i64 (k + 1 : Nat))], []⟩ M' = some r ∧ StysEnd H 89 (stysIn (x :: kids.drop (k + 1)) l) r := by
        intro h X
        rw [stysIn_no x _ l h]
        rintro M' (rfl | ⟨rfl, _⟩)
        · exact ih l v _ (by omega) (by omega) (by omega) (hst.app X) (hg.app X)
        · rw [List.take_left]
          exact ih l v M (by omega) (by omega) (by omega) hst hg
      have hAI := fun H => attr_eq P N (n + 1) hN styleIdS x hfx H
      have hBa := fun H => val_eq P N n hN basedOnS x hfx H
      have hKp := fun H => kid_eq P N (n + 1) hN pPrS x hfx H
      have hKr := fun H => kid_eq P N (n + 1) hN rPrS x hfx H
      have hOu := fun H => val_eq P N n hN outS (kidOf x pPrS) (hfx.kidOf _) H
      have hNu := fun H => number_eq P N (n + 2) (valOf (kidOf x pPrS) outS) ((hfx.kidOf pPrS).val _) H
      have hTb := fun H => toggle_eq P N n hN [98] (kidOf x rPrS) (hfx.kidOf _) H
      have hTi := fun H => toggle_eq P N n hN [105] (kidOf x rPrS) (hfx.kidOf _) H
      have hzc := numL_cases (valOf (kidOf x pPrS) outS)
      generalize attrOf x typeS = ki at hTy hst' hsty
      generalize attrOf x styleIdS = ida at hAI hsty
      generalize valOf x basedOnS = ba at hBa hsty
      generalize togOf (kidOf x rPrS) [105] = ti at hTi hsty
      generalize togOf (kidOf x rPrS) [98] = tb at hTb hsty
      generalize kidOf x pPrS = kp at hKp hOu hNu hsty hzc
      generalize kidOf x rPrS = kr at hKr hTb hTi
      unfold headOf at hsty
      generalize valOf kp outS = zt at hOu hNu hsty hzc
      simp only [typeS] at hTy
      simp only [styleIdS] at hAI
      simp only [basedOnS] at hBa
      simp only [pPrS] at hKp
      simp only [rPrS] at hKr
      simp only [outS] at hOu
      unfold wNs styleS paraS charS at hst'
      unfold charS at hsty
      cases h1 : (x.sp == [104, 116, 116, 112, 58, 47, 47, 115, 99, 104, 101, 109, 97, 115, 46, 111, 112, 101, 110, 120, 109, 108, 102, 111, 114, 109, 97, 116, 115, 46, 111, 114, 103, 47, 119, 111, 114, 100, 112, 114, 111, 99, 101, 115, 115, 105, 110, 103, 109, 108, 47, 50, 48, 48, 54, 47, 109, 97, 105, 110])
      · rw [h1] at hst'
        refine loopA_going (by simp only [loopStys,I6,IC.loops,Za,hi,hlt,hlen,hget,hn,hw,hTy,h1,eC_len,eC_take,eC_one,eC_0,eC_1,eC_2,eC_3,eC_4,eCr,eCr_0,eCr_1,eCr_2,eCr_3,eCr_4,List.length_drop,Nat.reduceSub,ZR,atr,Zs,Zr,Zp,Za,Zb,evI,opsI,stepI,wantI,opI,AAct.evI,look,AAct.put,mkVal,mkVM,intOpA,intA,shiftA,unA,ZP,ZO,Zh,Zt,reduceIte,Nat.reduceEqDiff,Nat.reduceLT,Zo,Zq,true_and,and_true,and_self,ZB,cellsAt,Zg,ZC,Zf,Zk,ZL,ZM,Nat.reduceAdd,Nat.reduceMul,ZN,AV.cells,AV.one,known,Zn,getE_0,getE_k,setE_0,setE_k,Zc,Zd,Zl,Zm,Zi,Zw,Zu,Zj,Z1,Zx,Zy,ZJ,ZI,ZH,ZD,ZE,splice,fillI,Nat.reduceLeDiff,strA,ZK,ZA,Ze,bq_ft,bq_tf,ZG,ZF,ZQ,Zv,Zz,isNilA,nilPtr,nilSl,nilIf,nilFn,nilMap,nilCheckA,if_true,if_false,lt_lit,le_lit,lt_lit2,le_lit2,le_sub1,le_sub2]; rfl) (hgo hst' _)
      cases h2 : (x.nm == [115, 116, 121, 108, 101])
      · rw [h1, h2] at hst'
        refine loopA_going (by simp only [loopStys,I6,IC.loops,Za,hi,hlt,hlen,hget,hn,hw,hTy,h1,h2,eC_len,eC_take,eC_one,eC_0,eC_1,eC_2,eC_3,eC_4,eCr,eCr_0,eCr_1,eCr_2,eCr_3,eCr_4,List.length_drop,Nat.reduceSub,ZR,atr,Zs,Zr,Zp,Za,Zb,evI,opsI,stepI,wantI,opI,AAct.evI,look,AAct.put,mkVal,mkVM,intOpA,intA,shiftA,unA,ZP,ZO,Zh,Zt,reduceIte,Nat.reduceEqDiff,Nat.reduceLT,Zo,Zq,true_and,and_true,and_self,ZB,cellsAt,Zg,ZC,Zf,Zk,ZL,ZM,Nat.reduceAdd,Nat.reduceMul,ZN,AV.cells,AV.one,known,Zn,getE_0,getE_k,setE_0,setE_k,Zc,Zd,Zl,Zm,Zi,Zw,Zu,Zj,Z1,Zx,Zy,ZJ,ZI,ZH,ZD,ZE,splice,fillI,Nat.reduceLeDiff,strA,ZK,ZA,Ze,bq_ft,bq_tf,ZG,ZF,ZQ,Zv,Zz,isNilA,nilPtr,nilSl,nilIf,nilFn,nilMap,nilCheckA,if_true,if_false,lt_lit,le_lit,lt_lit2,le_lit2,le_sub1,le_sub2]; rfl) (hgo hst' _)
      cases h3 : (ki == [112, 97, 114, 97, 103, 114, 97, 112, 104] || ki == [99, 104, 97, 114, 97, 99, 116, 101, 114])
      · rw [h1, h2, h3] at hst'
        simp only [Bool.or_eq_false_iff] at h3
        obtain ⟨h3, h4⟩ := h3
        refine loopA_going (by simp only [loopStys,I6,IC.loops,Za,hi,hlt,hlen,hget,hn,hw,hTy,h1,h2,h3,h4,eC_len,eC_take,eC_one,eC_0,eC_1,eC_2,eC_3,eC_4,eCr,eCr_0,eCr_1,eCr_2,eCr_3,eCr_4,List.length_drop,Nat.reduceSub,ZR,atr,Zs,Zr,Zp,Za,Zb,evI,opsI,stepI,wantI,opI,AAct.evI,look,AAct.put,mkVal,mkVM,intOpA,intA,shiftA,unA,ZP,ZO,Zh,Zt,reduceIte,Nat.reduceEqDiff,Nat.reduceLT,Zo,Zq,true_and,and_true,and_self,ZB,cellsAt,Zg,ZC,Zf,Zk,ZL,ZM,Nat.reduceAdd,Nat.reduceMul,ZN,AV.cells,AV.one,known,Zn,getE_0,getE_k,setE_0,setE_k,Zc,Zd,Zl,Zm,Zi,Zw,Zu,Zj,Z1,Zx,Zy,ZJ,ZI,ZH,ZD,ZE,splice,fillI,Nat.reduceLeDiff,strA,ZK,ZA,Ze,bq_ft,bq_tf,ZG,ZF,ZQ,Zv,Zz,isNilA,nilPtr,nilSl,nilIf,nilFn,nilMap,nilCheckA,if_true,if_false,lt_lit,le_lit,lt_lit2,le_lit2,le_sub1,le_sub2]; rfl) (hgo hst' _)
      rw [h1, h2, h3] at hst'
      rw [stysIn_yes x _ l hst']
      have hll : l.length + 1 ≤ 2 ^ 34 := by omega
      have h134 : (1 : Nat) ≤ 2 ^ 34 := by omega
      have h100 : ((1 : Nat) = 0) = False := by simp
      have hl6 := stsC_len l
      have hnext : ∀ y : St, y = styU x → ∀ v' M', Starts H M' → Grows H.length 6 (48 + 1) (l.length + 1) (stsC l ++ stC y) v' M' → ∃ r, loopA (fun a H => evI P cfg (evFI P cfg T N (n + 3)) N loopStys a H) (some [4, 22, 23, 24]) fuel ⟨89, [(4, v'), (22, .lst kids.length (kC kids)), (23, .int .i64 kids.length), (24, .int .i64 (k + 1 : Nat))], []⟩ M' = some r ∧ StysEnd H 89 (stysIn (kids.drop (k + 1)) (l ++ [styU x])) r := by
        intro y hy v' M' h5 h6
        rw [← hy]
        refine ih (l ++ [y]) v' M' (by omega) (by omega) (by simp; omega) h5 ?_
        rw [stsC_snoc, List.length_append]; exact h6
      clear ih hgo
      have hQ : l = [] ∧ v = .nilS ∨ ∃ q st, v = .slc q 0 l.length 6 st ∧ H.length ≤ q ∧ M[q]? = some (.row (stsC l) st (48 + 1)) := by
        rcases hg with ⟨h, _, h'⟩ | h
        · exact .inl ⟨List.eq_nil_of_length_eq_zero h, h'⟩
        · exact .inr h
      generalize hz : numZ zt = z at *
      generalize his : isNum zt = is1 at *
      have hwz : is1 = true → z < 6 → IntKind.wrap .i64 (z + 1) = z + 1 := fun h1 h2 => by
        rcases hzc with ⟨h3, _⟩ | ⟨_, h3, h4⟩
        · rw [h3] at h1; cases h1
        · rw [wrap64] <;> omega
      clear hzc
      have hkk : (ki == [112, 97, 114, 97, 103, 114, 97, 112, 104]) = true ∧ (ki == [99, 104, 97, 114, 97, 99, 116, 101, 114]) = false ∨ (ki == [112, 97, 114, 97, 103, 114, 97, 112, 104]) = false ∧ (ki == [99, 104, 97, 114, 97, 99, 116, 101, 114]) = true := by
        cases h4 : (ki == [112, 97, 114, 97, 103, 114, 97, 112, 104])
        · rw [h4, Bool.false_or] at h3
          exact .inr ⟨rfl, h3⟩
        · rw [eq_of_beq h4]; exact .inl ⟨rfl, rfl⟩
      have hhd : (is1 = false ∧ True) ∨ (is1 = true ∧ decide (z < 6) = false) ∨ (is1 = true ∧ decide (z < 6) = true) := by
        cases is1
        · exact .inl ⟨rfl, trivial⟩
        · cases decide (z < 6)
          · exact .inr (.inl ⟨rfl, rfl⟩)
          · exact .inr (.inr ⟨rfl, rfl⟩)
      rcases hQ with ⟨rfl, rfl⟩ | ⟨q, st, rfl, hHq, hq⟩
      · have hfin : ∀ y : St, y = styU x → ∀ a b c M', (M' = M ++ [a, b, c, .row (stC y) 0 (48 + 1)] ∨ (M' = (M ++ [a, b, c, .row (stC y) 0 (48 + 1)]).take M.length ∧ lowT M.length [(4, .slc (M.length + 3) 0 1 6 0), (22, .lst kids.length (kC kids)), (23, .int .i64 kids.length), (24, .int .i64 (k + 1 : Nat))] = true)) → ∃ r, loopA (fun a H => evI P cfg (evFI P cfg T N (n + 3)) N loopStys a H) (some [4, 22, 23, 24]) fuel ⟨89, [(4, .slc (M.length + 3) 0 1 6 0), (22, .lst kids.length (kC kids)), (23, .int .i64 kids.length), (24, .int .i64 (k + 1 : Nat))], []⟩ M' = some r ∧ StysEnd H 89 (stysIn (kids.drop (k + 1)) ([] ++ [styU x])) r := by
          intro y hy a b c
          rintro M' (rfl | ⟨rfl, hlow⟩)
          · refine hnext y hy _ _ (hst.app _) (.inr ⟨M.length + 3, 0, rfl, by have := hst.len; omega, ?_⟩)
            rw [getE_k]; rfl
          · exfalso
            simp [lowT, low] at hlow
            omega
        rcases hhd with ⟨rfl, _⟩ | ⟨rfl, h6⟩ | ⟨rfl, h6⟩
        · rcases hkk with ⟨h4, h5⟩ | ⟨h4, h5⟩
          all_goals exact loopA_going (by simp only [loopStys,I6,IC.loops,Za,hi,hlt,hlen,hget,hn,hw,hTy,hAI,hBa,hKp,hKr,hOu,hNu,hTb,hTi,h1,h2,h4,h5,h100,srcA,held,app2,h134,eC_len,eC_take,eC_one,eC_0,eC_1,eC_2,eC_3,eC_4,eCr,eCr_0,eCr_1,eCr_2,eCr_3,eCr_4,List.length_drop,Nat.reduceSub,ZR,atr,Zs,Zr,Zp,Za,Zb,evI,opsI,stepI,wantI,opI,AAct.evI,look,AAct.put,mkVal,mkVM,intOpA,intA,shiftA,unA,ZP,ZO,Zh,Zt,reduceIte,Nat.reduceEqDiff,Nat.reduceLT,Zo,Zq,true_and,and_true,and_self,ZB,cellsAt,Zg,ZC,Zf,Zk,ZL,ZM,Nat.reduceAdd,Nat.reduceMul,ZN,AV.cells,AV.one,known,Zn,getE_0,getE_k,setE_0,setE_k,Zc,Zd,Zl,Zm,Zi,Zw,Zu,Zj,Z1,Zx,Zy,ZJ,ZI,ZH,ZD,ZE,splice,fillI,Nat.reduceLeDiff,strA,ZK,ZA,Ze,bq_ft,bq_tf,ZG,ZF,ZQ,Zv,Zz,isNilA,nilPtr,nilSl,nilIf,nilFn,nilMap,nilCheckA,if_true,if_false,lt_lit,le_lit,lt_lit2,le_lit2,le_sub1,le_sub2,drawI,drawI2,drawI0,drawI20,lexD,valD,valI,putD,okD,roD,memAt,lastM,wantI,eqv_refl,eqM_refl,eqM_app,eqB,eqvL,eqv,List.getLast?_cons_cons,List.getLast?_singleton,Option.getD_some,Bool.or_true,Bool.true_or,ZA,resvV]; rfl) (hfin ⟨ida, ba, _, ti, tb, 0⟩ (by rw [hsty, h5]; rfl) _ _ _)
        · rcases hkk with ⟨h4, h5⟩ | ⟨h4, h5⟩
          all_goals exact loopA_going (by simp only [loopStys,I6,IC.loops,Za,hi,hlt,hlen,hget,hn,hw,hTy,hAI,hBa,hKp,hKr,hOu,hNu,hTb,hTi,h1,h2,h4,h5,h6,h100,srcA,held,app2,h134,eC_len,eC_take,eC_one,eC_0,eC_1,eC_2,eC_3,eC_4,eCr,eCr_0,eCr_1,eCr_2,eCr_3,eCr_4,List.length_drop,Nat.reduceSub,ZR,atr,Zs,Zr,Zp,Za,Zb,evI,opsI,stepI,wantI,opI,AAct.evI,look,AAct.put,mkVal,mkVM,intOpA,intA,shiftA,unA,ZP,ZO,Zh,Zt,reduceIte,Nat.reduceEqDiff,Nat.reduceLT,Zo,Zq,true_and,and_true,and_self,ZB,cellsAt,Zg,ZC,Zf,Zk,ZL,ZM,Nat.reduceAdd,Nat.reduceMul,ZN,AV.cells,AV.one,known,Zn,getE_0,getE_k,setE_0,setE_k,Zc,Zd,Zl,Zm,Zi,Zw,Zu,Zj,Z1,Zx,Zy,ZJ,ZI,ZH,ZD,ZE,splice,fillI,Nat.reduceLeDiff,strA,ZK,ZA,Ze,bq_ft,bq_tf,ZG,ZF,ZQ,Zv,Zz,isNilA,nilPtr,nilSl,nilIf,nilFn,nilMap,nilCheckA,if_true,if_false,lt_lit,le_lit,lt_lit2,le_lit2,le_sub1,le_sub2,drawI,drawI2,drawI0,drawI20,lexD,valD,valI,putD,okD,roD,memAt,lastM,wantI,eqv_refl,eqM_refl,eqM_app,eqB,eqvL,eqv,List.getLast?_cons_cons,List.getLast?_singleton,Option.getD_some,Bool.or_true,Bool.true_or,ZA,resvV]; rfl) (hfin ⟨ida, ba, _, ti, tb, 0⟩ (by rw [hsty, h5, h6]; rfl) _ _ _)
        · have hwz := hwz rfl (of_decide_eq_true h6)
          rcases hkk with ⟨h4, h5⟩ | ⟨h4, h5⟩
          all_goals exact loopA_going (by simp only [loopStys,I6,IC.loops,Za,hi,hlt,hlen,hget,hn,hw,hTy,hAI,hBa,hKp,hKr,hOu,hNu,hTb,hTi,h1,h2,h4,h5,h6,hwz,h100,srcA,held,app2,h134,eC_len,eC_take,eC_one,eC_0,eC_1,eC_2,eC_3,eC_4,eCr,eCr_0,eCr_1,eCr_2,eCr_3,eCr_4,List.length_drop,Nat.reduceSub,ZR,atr,Zs,Zr,Zp,Za,Zb,evI,opsI,stepI,wantI,opI,AAct.evI,look,AAct.put,mkVal,mkVM,intOpA,intA,shiftA,unA,ZP,ZO,Zh,Zt,reduceIte,Nat.reduceEqDiff,Nat.reduceLT,Zo,Zq,true_and,and_true,and_self,ZB,cellsAt,Zg,ZC,Zf,Zk,ZL,ZM,Nat.reduceAdd,Nat.reduceMul,ZN,AV.cells,AV.one,known,Zn,getE_0,getE_k,setE_0,setE_k,Zc,Zd,Zl,Zm,Zi,Zw,Zu,Zj,Z1,Zx,Zy,ZJ,ZI,ZH,ZD,ZE,splice,fillI,Nat.reduceLeDiff,strA,ZK,ZA,Ze,bq_ft,bq_tf,ZG,ZF,ZQ,Zv,Zz,isNilA,nilPtr,nilSl,nilIf,nilFn,nilMap,nilCheckA,if_true,if_false,lt_lit,le_lit,lt_lit2,le_lit2,le_sub1,le_sub2,drawI,drawI2,drawI0,drawI20,lexD,valD,valI,putD,okD,roD,memAt,lastM,wantI,eqv_refl,eqM_refl,eqM_app,eqB,eqvL,eqv,List.getLast?_cons_cons,List.getLast?_singleton,Option.getD_some,Bool.or_true,Bool.true_or,ZA,resvV]; rfl) (hfin ⟨ida, ba, _, ti, tb, z + 1⟩ (by rw [hsty, h5, h6]; rfl) _ _ _)
      · have hql := (List.getElem?_eq_some_iff.1 hq).1
        have hqL : ∀ L, (M ++ L)[q]? = some (.row (stsC l) st (48 + 1)) := fun L => by rw [List.getElem?_append_left hql]; exact hq
        have hsL : ∀ L b, (M ++ L).set q b = M.set q b ++ L := fun L b => List.set_append_left _ _ hql
        have hfin : ∀ y : St, y = styU x → ∀ a b c M', (M' = M.set q (.row (stsC l ++ stC y) (st + 1) (48 + 1)) ++ [a, b, c] ∨ (M' = (M.set q (.row (stsC l ++ stC y) (st + 1) (48 + 1)) ++ [a, b, c]).take M.length ∧ lowT M.length [(4, .slc q 0 (l.length + 1) 6 (st + 1)), (22, .lst kids.length (kC kids)), (23, .int .i64 kids.length), (24, .int .i64 (k + 1 : Nat))] = true)) → ∃ r, loopA (fun a H => evI P cfg (evFI P cfg T N (n + 3)) N loopStys a H) (some [4, 22, 23, 24]) fuel ⟨89, [(4, .slc q 0 (l.length + 1) 6 (st + 1)), (22, .lst kids.length (kC kids)), (23, .int .i64 kids.length), (24, .int .i64 (k + 1 : Nat))], []⟩ M' = some r ∧ StysEnd H 89 (stysIn (kids.drop (k + 1)) (l ++ [styU x])) r := by
          intro y hy a b c
          have hend : Grows H.length 6 (48 + 1) (l.length + 1) (stsC l ++ stC y) (.slc q 0 (l.length + 1) 6 (st + 1)) (M.set q (.row (stsC l ++ stC y) (st + 1) (48 + 1))) :=
            .inr ⟨q, st + 1, rfl, hHq, by rw [List.getElem?_set_self hql]⟩
          rintro M' (rfl | ⟨rfl, hlow⟩)
          · exact hnext y hy _ _ ((hst.set hHq _).app _) (hend.app _)
          · rw [List.take_left' (by simp)]
            exact hnext y hy _ _ (hst.set hHq _) hend
        rcases hhd with ⟨rfl, _⟩ | ⟨rfl, h6⟩ | ⟨rfl, h6⟩
        · rcases hkk with ⟨h4, h5⟩ | ⟨h4, h5⟩
          all_goals exact loopA_going (by simp only [loopStys,I6,IC.loops,Za,hi,hlt,hlen,hget,hn,hw,hTy,hAI,hBa,hKp,hKr,hOu,hNu,hTb,hTi,h1,h2,h4,h5,h100,srcA,held,app2,hqL,hsL,hll,hl6,eC_len,eC_take,eC_one,eC_0,eC_1,eC_2,eC_3,eC_4,eCr,eCr_0,eCr_1,eCr_2,eCr_3,eCr_4,List.length_drop,Nat.reduceSub,ZR,atr,Zs,Zr,Zp,Za,Zb,evI,opsI,stepI,wantI,opI,AAct.evI,look,AAct.put,mkVal,mkVM,intOpA,intA,shiftA,unA,ZP,ZO,Zh,Zt,reduceIte,Nat.reduceEqDiff,Nat.reduceLT,Zo,Zq,true_and,and_true,and_self,ZB,cellsAt,Zg,ZC,Zf,Zk,ZL,ZM,Nat.reduceAdd,Nat.reduceMul,ZN,AV.cells,AV.one,known,Zn,getE_0,getE_k,setE_0,setE_k,Zc,Zd,Zl,Zm,Zi,Zw,Zu,Zj,Z1,Zx,Zy,ZJ,ZI,ZH,ZD,ZE,splice,fillI,Nat.reduceLeDiff,strA,ZK,ZA,Ze,bq_ft,bq_tf,ZG,ZF,ZQ,Zv,Zz,isNilA,nilPtr,nilSl,nilIf,nilFn,nilMap,nilCheckA,if_true,if_false,lt_lit,le_lit,lt_lit2,le_lit2,le_sub1,le_sub2,drawI,drawI2,drawI0,drawI20,lexD,valD,valI,putD,okD,roD,memAt,lastM,wantI,eqv_refl,eqM_refl,eqM_app,eqB,eqvL,eqv,List.getLast?_cons_cons,List.getLast?_singleton,Option.getD_some,Bool.or_true,Bool.true_or,ZA,resvV]; rfl) (hfin ⟨ida, ba, _, ti, tb, 0⟩ (by rw [hsty, h5]; rfl) _ _ _)
        · rcases hkk with ⟨h4, h5⟩ | ⟨h4, h5⟩
          all_goals exact loopA_going (by simp only [loopStys,I6,IC.loops,Za,hi,hlt,hlen,hget,hn,hw,hTy,hAI,hBa,hKp,hKr,hOu,hNu,hTb,hTi,h1,h2,h4,h5,h6,h100,srcA,held,app2,hqL,hsL,hll,hl6,eC_len,eC_take,eC_one,eC_0,eC_1,eC_2,eC_3,eC_4,eCr,eCr_0,eCr_1,eCr_2,eCr_3,eCr_4,List.length_drop,Nat.reduceSub,ZR,atr,Zs,Zr,Zp,Za,Zb,evI,opsI,stepI,wantI,opI,AAct.evI,look,AAct.put,mkVal,mkVM,intOpA,intA,shiftA,unA,ZP,ZO,Zh,Zt,reduceIte,Nat.reduceEqDiff,Nat.reduceLT,Zo,Zq,true_and,and_true,and_self,ZB,cellsAt,Zg,ZC,Zf,Zk,ZL,ZM,Nat.reduceAdd,Nat.reduceMul,ZN,AV.cells,AV.one,known,Zn,getE_0,getE_k,setE_0,setE_k,Zc,Zd,Zl,Zm,Zi,Zw,Zu,Zj,Z1,Zx,Zy,ZJ,ZI,ZH,ZD,ZE,splice,fillI,Nat.reduceLeDiff,strA,ZK,ZA,Ze,bq_ft,bq_tf,ZG,ZF,ZQ,Zv,Zz,isNilA,nilPtr,nilSl,nilIf,nilFn,nilMap,nilCheckA,if_true,if_false,lt_lit,le_lit,lt_lit2,le_lit2,le_sub1,le_sub2,drawI,drawI2,drawI0,drawI20,lexD,valD,valI,putD,okD,roD,memAt,lastM,wantI,eqv_refl,eqM_refl,eqM_app,eqB,eqvL,eqv,List.getLast?_cons_cons,List.getLast?_singleton,Option.getD_some,Bool.or_true,Bool.true_or,ZA,resvV]; rfl) (hfin ⟨ida, ba, _, ti, tb, 0⟩ (by rw [hsty, h5, h6]; rfl) _ _ _)
        · have hwz := hwz rfl (of_decide_eq_true h6)
          rcases hkk with ⟨h4, h5⟩ | ⟨h4, h5⟩
          all_goals exact loopA_going (by simp only [loopStys,I6,IC.loops,Za,hi,hlt,hlen,hget,hn,hw,hTy,hAI,hBa,hKp,hKr,hOu,hNu,hTb,hTi,h1,h2,h4,h5,h6,hwz,h100,srcA,held,app2,hqL,hsL,hll,hl6,eC_len,eC_take,eC_one,eC_0,eC_1,eC_2,eC_3,eC_4,eCr,eCr_0,eCr_1,eCr_2,eCr_3,eCr_4,List.length_drop,Nat.reduceSub,ZR,atr,Zs,Zr,Zp,Za,Zb,evI,opsI,stepI,wantI,opI,AAct.evI,look,AAct.put,mkVal,mkVM,intOpA,intA,shiftA,unA,ZP,ZO,Zh,Zt,reduceIte,Nat.reduceEqDiff,Nat.reduceLT,Zo,Zq,true_and,and_true,and_self,ZB,cellsAt,Zg,ZC,Zf,Zk,ZL,ZM,Nat.reduceAdd,Nat.reduceMul,ZN,AV.cells,AV.one,known,Zn,getE_0,getE_k,setE_0,setE_k,Zc,Zd,Zl,Zm,Zi,Zw,Zu,Zj,Z1,Zx,Zy,ZJ,ZI,ZH,ZD,ZE,splice,fillI,Nat.reduceLeDiff,strA,ZK,ZA,Ze,bq_ft,bq_tf,ZG,ZF,ZQ,Zv,Zz,isNilA,nilPtr,nilSl,nilIf,nilFn,nilMap,nilCheckA,if_true,if_false,lt_lit,le_lit,lt_lit2,le_lit2,le_sub1,le_sub2,drawI,drawI2,drawI0,drawI20,lexD,valD,valI,putD,okD,roD,memAt,lastM,wantI,eqv_refl,eqM_refl,eqM_app,eqB,eqvL,eqv,List.getLast?_cons_cons,List.getLast?_singleton,Option.getD_some,Bool.or_true,Bool.true_or,ZA,resvV]; rfl) (hfin ⟨ida, ba, _, ti, tb, z + 1⟩ (by rw [hsty, h5, h6]; rfl) _ _ _)
    · have hk' : k = kids.length := by omega
      subst hk'
      simp only [List.drop_length]
      refine ⟨_, loopA_exit (by simp only [loopStys,I6,IC.loops,Za,Int.lt_irrefl,Zs,Zr,Zp,Za,Zb,evI,opsI,stepI,wantI,opI,AAct.evI,look,AAct.put,mkVal,mkVM,intOpA,intA,shiftA,unA,ZP,ZO,Zh,Zt,reduceIte,Nat.reduceEqDiff,Nat.reduceLT,Zo,Zq,true_and,and_true,and_self,ZB,cellsAt,Zg,ZC,Zf,Zk,ZL,ZM,Nat.reduceAdd,Nat.reduceMul,ZN,AV.cells,AV.one,known,Zn,getE_0,getE_k,setE_0,setE_k,Zc,Zd,Zl,Zm,Zi,Zw,Zu,Zj,Z1,Zx,Zy,ZJ,ZI,ZH,ZD,ZE,splice,fillI,Nat.reduceLeDiff,strA,ZK,ZA,Ze,bq_ft,bq_tf,ZG,ZF,ZQ,Zv,Zz,isNilA,nilPtr,nilSl,nilIf,nilFn,nilMap,nilCheckA,if_true,if_false,lt_lit,le_lit,lt_lit2,le_lit2,le_sub1,le_sub2]; rfl), ?_⟩
      refine ⟨hst, rfl, rfl, rfl, ?_⟩
      unfold stysIn
      rw [List.filter_nil, List.map_nil, List.append_nil]
      exact hg
set_option maxHeartbeats 4000000
def IC.nb : Nat → IC → IC
  | 0, c => c
  | k + 1, .seq _ c => IC.nb k c
  | _ + 1, c => c
def IC.hd : IC → IC
  | .seq x _ => x
  | c => c
def IC.inn : IC → IC
  | .block _ c => c
  | c => c
noncomputable def loopRStys : IC := (I7.c.loops).getD 0 .bad
noncomputable def bodyRS : IC := IC.inn ((loopRStys.nb 1).hd)
theorem headOf_r (z : List UInt8) : headOf z = if (decide (numL z ≥ 0) && decide (numL z ≤ 5)) = true then numL z + 1 else 0 := by
  unfold headOf
  rcases numL_cases z with ⟨h1, h2⟩ | ⟨h1, h2, h3⟩
  · rw [h1, h2]; rfl
  · rw [h1, h3, decide_eq_true h2]
    have : decide (numL z < 6) = decide (numL z ≤ 5) := by congr 1; exact propext ⟨fun h => by omega, fun h => by omega⟩
    rw [this]
section
variable (P : Program) (N n : Nat) (hN : 9223372036854775808 ≤ N) (x : El) (hfx : Fits x) (H M : Mem)
include hN hfx
theorem rsty_pre (kids : List El) (k pe : Nat) (v : AV) (e : El) (hek : e.kids = kids) (hlt : k < kids.length) (hget : (kC kids).drop (k * 5) = eC x ++ kC (kids.drop (k + 1))) (hE : ∀ L, (M ++ L)[pe]? = some (.row (eC e) 0 (25 + 1))) (hs : isSty x = true) (t0 : List (Nat × AV)) (l1 : look t0 1 = .ptr pe 0 0) (l4 : look t0 4 = v) (l5 : look t0 5 = .int .i64 k) :
    ∃ t, look t 1 = .ptr pe 0 0 ∧ look t 4 = v ∧ look t 5 = .int .i64 k ∧ look t 6 = .ptr M.length 0 0 ∧ look t 11 = .ptr (M.length + 1) 0 0 ∧ look t 14 = .int .i64 (numL (valOf (kidOf x pPrS) outS)) ∧
      evI P cfg (evFI P cfg T N (n + 3)) N bodyRS ⟨111, t0, []⟩ M = evI P cfg (evFI P cfg T N (n + 3)) N (bodyRS.nb 7) ⟨111, t, []⟩ (M ++ [.row (eC x) 0 (25 + 1), .row [.str (styU x).id, .str (styU x).based, .bool (styU x).run, .int .i64 0, .int .i64 0, .int .i64 0] 0 (48 + 1), .row (eC (kidOf x pPrS)) 0 (25 + 1)]) := by
  subst hek
  have hlen : k * 5 + 5 ≤ (kC e.kids).length := by rw [kC_len]; omega
  have hn := natOf_nat k .i64
  have hE0 := hE []
  rw [List.append_nil] at hE0
  have hTy := fun H => rget_eq P N (n + 2) hN wNs typeS x hfx.ats H
  have hAI := fun H => rget_eq P N (n + 2) hN wNs styleIdS x hfx.ats H
  have ha1 : (getIn wNs typeS x.ats).getD [] = attrOf x typeS := rfl
  have ha2 : (getIn wNs styleIdS x.ats).getD [] = attrOf x styleIdS := rfl
  rw [ha1] at hTy
  rw [ha2] at hAI
  have hBa := fun H => rval_eq P N n hN basedOnS x hfx H
  have hKp := fun H => child_eq P N (n + 1) hN pPrS x hfx H
  have hOu := fun H => rval_eq P N n hN outS (kidOf x pPrS) (hfx.kidOf _) H
  have hNu := fun H => rnumber_eq P N (n + 2) hN (valOf (kidOf x pPrS) outS) H
  have hst' : isSty x = (x.sp == wNs && (x.nm == styleS && (attrOf x typeS == paraS || attrOf x typeS == charS))) := rfl
  rw [hs] at hst'
  have s1 : (styU x).id = attrOf x styleIdS := rfl
  have s2 : (styU x).based = valOf x basedOnS := rfl
  have s3 : (styU x).run = (attrOf x typeS == charS) := rfl
  rw [s1, s2, s3]
  generalize (getIn wNs typeS x.ats).isSome = gs1 at *
  generalize (getIn wNs styleIdS x.ats).isSome = gs2 at *
  generalize (findIn wNs pPrS x.kids).isSome = gs3 at *
  generalize attrOf x typeS = ki at *
  generalize attrOf x styleIdS = ida at *
  generalize valOf x basedOnS = ba at *
  generalize kidOf x pPrS = kp at *
  generalize valOf kp outS = zt at *
  generalize numL zt = z at *
  simp only [typeS,wNs] at hTy
  simp only [styleIdS,wNs] at hAI
  simp only [basedOnS] at hBa
  simp only [pPrS] at hKp
  simp only [outS] at hOu
  unfold wNs styleS paraS charS at hst'
  unfold charS
  have hst2 := hst'.symm
  simp only [Bool.and_eq_true] at hst2
  obtain ⟨h1, h2, h3⟩ := hst2
  cases h4 : (ki == [112, 97, 114, 97, 103, 114, 97, 112, 104])
  · rw [h4, Bool.false_or] at h3
    refine ⟨?ta, ?a1, ?a4, ?a5, ?a6, ?a11, ?a14, ?amain⟩
    case amain =>
      apply evI_seq
      · simp only [l1,l4,l5,hlt,hlen,hget,hn,hE,hE0,eC_len,eC_take,eC_one,eC_0,eC_1,eC_2,eC_3,eC_4,eCr,eCr_0,eCr_1,eCr_2,eCr_3,eCr_4,List.length_drop,Nat.reduceSub,ZR,atr,Zs,Zr,Zp,Za,Zb,evI,opsI,stepI,wantI,opI,AAct.evI,look,AAct.put,mkVal,mkVM,intOpA,intA,shiftA,unA,ZP,ZO,Zh,Zt,reduceIte,Nat.reduceEqDiff,Nat.reduceLT,Zo,Zq,true_and,and_true,and_self,ZB,cellsAt,Zg,ZC,Zf,Zk,ZL,ZM,Nat.reduceAdd,Nat.reduceMul,ZN,AV.cells,AV.one,known,Zn,getE_0,getE_k,setE_0,setE_k,Zc,Zd,Zl,Zm,Zi,Zw,Zu,Zj,Z1,Zx,Zy,ZJ,ZI,ZH,ZD,ZE,splice,fillI,Nat.reduceLeDiff,strA,ZK,ZA,Ze,bq_ft,bq_tf,ZG,ZF,ZQ,Zv,Zz,isNilA,nilPtr,nilSl,nilIf,nilFn,nilMap,nilCheckA,if_true,if_false,lt_lit,le_lit,lt_lit2,le_lit2,le_sub1,le_sub2]; rfl
      apply evI_seq
      · simp only [hTy,hE,eC_len,eC_take,eC_one,eC_0,eC_1,eC_2,eC_3,eC_4,eCr,eCr_0,eCr_1,eCr_2,eCr_3,eCr_4,List.length_drop,Nat.reduceSub,ZR,atr,Zs,Zr,Zp,Za,Zb,evI,opsI,stepI,wantI,opI,AAct.evI,look,AAct.put,mkVal,mkVM,intOpA,intA,shiftA,unA,ZP,ZO,Zh,Zt,reduceIte,Nat.reduceEqDiff,Nat.reduceLT,Zo,Zq,true_and,and_true,and_self,ZB,cellsAt,Zg,ZC,Zf,Zk,ZL,ZM,Nat.reduceAdd,Nat.reduceMul,ZN,AV.cells,AV.one,known,Zn,getE_0,getE_k,setE_0,setE_k,Zc,Zd,Zl,Zm,Zi,Zw,Zu,Zj,Z1,Zx,Zy,ZJ,ZI,ZH,ZD,ZE,splice,fillI,Nat.reduceLeDiff,strA,ZK,ZA,Ze,bq_ft,bq_tf,ZG,ZF,ZQ,Zv,Zz,isNilA,nilPtr,nilSl,nilIf,nilFn,nilMap,nilCheckA,if_true,if_false,lt_lit,le_lit,lt_lit2,le_lit2,le_sub1,le_sub2]; rfl
      apply evI_seq
      · simp only [h1,h2,h3,h4,hE,eC_len,eC_take,eC_one,eC_0,eC_1,eC_2,eC_3,eC_4,eCr,eCr_0,eCr_1,eCr_2,eCr_3,eCr_4,List.length_drop,Nat.reduceSub,ZR,atr,Zs,Zr,Zp,Za,Zb,evI,opsI,stepI,wantI,opI,AAct.evI,look,AAct.put,mkVal,mkVM,intOpA,intA,shiftA,unA,ZP,ZO,Zh,Zt,reduceIte,Nat.reduceEqDiff,Nat.reduceLT,Zo,Zq,true_and,and_true,and_self,ZB,cellsAt,Zg,ZC,Zf,Zk,ZL,ZM,Nat.reduceAdd,Nat.reduceMul,ZN,AV.cells,AV.one,known,Zn,getE_0,getE_k,setE_0,setE_k,Zc,Zd,Zl,Zm,Zi,Zw,Zu,Zj,Z1,Zx,Zy,ZJ,ZI,ZH,ZD,ZE,splice,fillI,Nat.reduceLeDiff,strA,ZK,ZA,Ze,bq_ft,bq_tf,ZG,ZF,ZQ,Zv,Zz,isNilA,nilPtr,nilSl,nilIf,nilFn,nilMap,nilCheckA,if_true,if_false,lt_lit,le_lit,lt_lit2,le_lit2,le_sub1,le_sub2]; rfl
      apply evI_seq
      · simp only [hAI,hE,eC_len,eC_take,eC_one,eC_0,eC_1,eC_2,eC_3,eC_4,eCr,eCr_0,eCr_1,eCr_2,eCr_3,eCr_4,List.length_drop,Nat.reduceSub,ZR,atr,Zs,Zr,Zp,Za,Zb,evI,opsI,stepI,wantI,opI,AAct.evI,look,AAct.put,mkVal,mkVM,intOpA,intA,shiftA,unA,ZP,ZO,Zh,Zt,reduceIte,Nat.reduceEqDiff,Nat.reduceLT,Zo,Zq,true_and,and_true,and_self,ZB,cellsAt,Zg,ZC,Zf,Zk,ZL,ZM,Nat.reduceAdd,Nat.reduceMul,ZN,AV.cells,AV.one,known,Zn,getE_0,getE_k,setE_0,setE_k,Zc,Zd,Zl,Zm,Zi,Zw,Zu,Zj,Z1,Zx,Zy,ZJ,ZI,ZH,ZD,ZE,splice,fillI,Nat.reduceLeDiff,strA,ZK,ZA,Ze,bq_ft,bq_tf,ZG,ZF,ZQ,Zv,Zz,isNilA,nilPtr,nilSl,nilIf,nilFn,nilMap,nilCheckA,if_true,if_false,lt_lit,le_lit,lt_lit2,le_lit2,le_sub1,le_sub2]; rfl
      apply evI_seq
      · simp only [hBa,h3,hE,eC_len,eC_take,eC_one,eC_0,eC_1,eC_2,eC_3,eC_4,eCr,eCr_0,eCr_1,eCr_2,eCr_3,eCr_4,List.length_drop,Nat.reduceSub,ZR,atr,Zs,Zr,Zp,Za,Zb,evI,opsI,stepI,wantI,opI,AAct.evI,look,AAct.put,mkVal,mkVM,intOpA,intA,shiftA,unA,ZP,ZO,Zh,Zt,reduceIte,Nat.reduceEqDiff,Nat.reduceLT,Zo,Zq,true_and,and_true,and_self,ZB,cellsAt,Zg,ZC,Zf,Zk,ZL,ZM,Nat.reduceAdd,Nat.reduceMul,ZN,AV.cells,AV.one,known,Zn,getE_0,getE_k,setE_0,setE_k,Zc,Zd,Zl,Zm,Zi,Zw,Zu,Zj,Z1,Zx,Zy,ZJ,ZI,ZH,ZD,ZE,splice,fillI,Nat.reduceLeDiff,strA,ZK,ZA,Ze,bq_ft,bq_tf,ZG,ZF,ZQ,Zv,Zz,isNilA,nilPtr,nilSl,nilIf,nilFn,nilMap,nilCheckA,if_true,if_false,lt_lit,le_lit,lt_lit2,le_lit2,le_sub1,le_sub2]; rfl
      apply evI_seq
      · simp only [hKp,hE,eC_len,eC_take,eC_one,eC_0,eC_1,eC_2,eC_3,eC_4,eCr,eCr_0,eCr_1,eCr_2,eCr_3,eCr_4,List.length_drop,Nat.reduceSub,ZR,atr,Zs,Zr,Zp,Za,Zb,evI,opsI,stepI,wantI,opI,AAct.evI,look,AAct.put,mkVal,mkVM,intOpA,intA,shiftA,unA,ZP,ZO,Zh,Zt,reduceIte,Nat.reduceEqDiff,Nat.reduceLT,Zo,Zq,true_and,and_true,and_self,ZB,cellsAt,Zg,ZC,Zf,Zk,ZL,ZM,Nat.reduceAdd,Nat.reduceMul,ZN,AV.cells,AV.one,known,Zn,getE_0,getE_k,setE_0,setE_k,Zc,Zd,Zl,Zm,Zi,Zw,Zu,Zj,Z1,Zx,Zy,ZJ,ZI,ZH,ZD,ZE,splice,fillI,Nat.reduceLeDiff,strA,ZK,ZA,Ze,bq_ft,bq_tf,ZG,ZF,ZQ,Zv,Zz,isNilA,nilPtr,nilSl,nilIf,nilFn,nilMap,nilCheckA,if_true,if_false,lt_lit,le_lit,lt_lit2,le_lit2,le_sub1,le_sub2]; rfl
      apply evI_seq
      · simp only [hOu,hNu,hE,eC_len,eC_take,eC_one,eC_0,eC_1,eC_2,eC_3,eC_4,eCr,eCr_0,eCr_1,eCr_2,eCr_3,eCr_4,List.length_drop,Nat.reduceSub,ZR,atr,Zs,Zr,Zp,Za,Zb,evI,opsI,stepI,wantI,opI,AAct.evI,look,AAct.put,mkVal,mkVM,intOpA,intA,shiftA,unA,ZP,ZO,Zh,Zt,reduceIte,Nat.reduceEqDiff,Nat.reduceLT,Zo,Zq,true_and,and_true,and_self,ZB,cellsAt,Zg,ZC,Zf,Zk,ZL,ZM,Nat.reduceAdd,Nat.reduceMul,ZN,AV.cells,AV.one,known,Zn,getE_0,getE_k,setE_0,setE_k,Zc,Zd,Zl,Zm,Zi,Zw,Zu,Zj,Z1,Zx,Zy,ZJ,ZI,ZH,ZD,ZE,splice,fillI,Nat.reduceLeDiff,strA,ZK,ZA,Ze,bq_ft,bq_tf,ZG,ZF,ZQ,Zv,Zz,isNilA,nilPtr,nilSl,nilIf,nilFn,nilMap,nilCheckA,if_true,if_false,lt_lit,le_lit,lt_lit2,le_lit2,le_sub1,le_sub2]; rfl
      rw [h3]; rfl
    case a1 => exact l1
    case a4 => exact l4
    case a5 => exact l5
    all_goals rfl
  · have h5 : (ki == [99, 104, 97, 114, 97, 99, 116, 101, 114]) = false := by rw [eq_of_beq h4]; rfl
    refine ⟨?tb, ?b1, ?b4, ?b5, ?b6, ?b11, ?b14, ?bmain⟩
    case bmain =>
      apply evI_seq
      · simp only [l1,l4,l5,hlt,hlen,hget,hn,hE,hE0,eC_len,eC_take,eC_one,eC_0,eC_1,eC_2,eC_3,eC_4,eCr,eCr_0,eCr_1,eCr_2,eCr_3,eCr_4,List.length_drop,Nat.reduceSub,ZR,atr,Zs,Zr,Zp,Za,Zb,evI,opsI,stepI,wantI,opI,AAct.evI,look,AAct.put,mkVal,mkVM,intOpA,intA,shiftA,unA,ZP,ZO,Zh,Zt,reduceIte,Nat.reduceEqDiff,Nat.reduceLT,Zo,Zq,true_and,and_true,and_self,ZB,cellsAt,Zg,ZC,Zf,Zk,ZL,ZM,Nat.reduceAdd,Nat.reduceMul,ZN,AV.cells,AV.one,known,Zn,getE_0,getE_k,setE_0,setE_k,Zc,Zd,Zl,Zm,Zi,Zw,Zu,Zj,Z1,Zx,Zy,ZJ,ZI,ZH,ZD,ZE,splice,fillI,Nat.reduceLeDiff,strA,ZK,ZA,Ze,bq_ft,bq_tf,ZG,ZF,ZQ,Zv,Zz,isNilA,nilPtr,nilSl,nilIf,nilFn,nilMap,nilCheckA,if_true,if_false,lt_lit,le_lit,lt_lit2,le_lit2,le_sub1,le_sub2]; rfl
      apply evI_seq
      · simp only [hTy,hE,eC_len,eC_take,eC_one,eC_0,eC_1,eC_2,eC_3,eC_4,eCr,eCr_0,eCr_1,eCr_2,eCr_3,eCr_4,List.length_drop,Nat.reduceSub,ZR,atr,Zs,Zr,Zp,Za,Zb,evI,opsI,stepI,wantI,opI,AAct.evI,look,AAct.put,mkVal,mkVM,intOpA,intA,shiftA,unA,ZP,ZO,Zh,Zt,reduceIte,Nat.reduceEqDiff,Nat.reduceLT,Zo,Zq,true_and,and_true,and_self,ZB,cellsAt,Zg,ZC,Zf,Zk,ZL,ZM,Nat.reduceAdd,Nat.reduceMul,ZN,AV.cells,AV.one,known,Zn,getE_0,getE_k,setE_0,setE_k,Zc,Zd,Zl,Zm,Zi,Zw,Zu,Zj,Z1,Zx,Zy,ZJ,ZI,ZH,ZD,ZE,splice,fillI,Nat.reduceLeDiff,strA,ZK,ZA,Ze,bq_ft,bq_tf,ZG,ZF,ZQ,Zv,Zz,isNilA,nilPtr,nilSl,nilIf,nilFn,nilMap,nilCheckA,if_true,if_false,lt_lit,le_lit,lt_lit2,le_lit2,le_sub1,le_sub2]; rfl
      apply evI_seq
      · simp only [h1,h2,h4,hE,eC_len,eC_take,eC_one,eC_0,eC_1,eC_2,eC_3,eC_4,eCr,eCr_0,eCr_1,eCr_2,eCr_3,eCr_4,List.length_drop,Nat.reduceSub,ZR,atr,Zs,Zr,Zp,Za,Zb,evI,opsI,stepI,wantI,opI,AAct.evI,look,AAct.put,mkVal,mkVM,intOpA,intA,shiftA,unA,ZP,ZO,Zh,Zt,reduceIte,Nat.reduceEqDiff,Nat.reduceLT,Zo,Zq,true_and,and_true,and_self,ZB,cellsAt,Zg,ZC,Zf,Zk,ZL,ZM,Nat.reduceAdd,Nat.reduceMul,ZN,AV.cells,AV.one,known,Zn,getE_0,getE_k,setE_0,setE_k,Zc,Zd,Zl,Zm,Zi,Zw,Zu,Zj,Z1,Zx,Zy,ZJ,ZI,ZH,ZD,ZE,splice,fillI,Nat.reduceLeDiff,strA,ZK,ZA,Ze,bq_ft,bq_tf,ZG,ZF,ZQ,Zv,Zz,isNilA,nilPtr,nilSl,nilIf,nilFn,nilMap,nilCheckA,if_true,if_false,lt_lit,le_lit,lt_lit2,le_lit2,le_sub1,le_sub2]; rfl
      apply evI_seq
      · simp only [hAI,hE,eC_len,eC_take,eC_one,eC_0,eC_1,eC_2,eC_3,eC_4,eCr,eCr_0,eCr_1,eCr_2,eCr_3,eCr_4,List.length_drop,Nat.reduceSub,ZR,atr,Zs,Zr,Zp,Za,Zb,evI,opsI,stepI,wantI,opI,AAct.evI,look,AAct.put,mkVal,mkVM,intOpA,intA,shiftA,unA,ZP,ZO,Zh,Zt,reduceIte,Nat.reduceEqDiff,Nat.reduceLT,Zo,Zq,true_and,and_true,and_self,ZB,cellsAt,Zg,ZC,Zf,Zk,ZL,ZM,Nat.reduceAdd,Nat.reduceMul,ZN,AV.cells,AV.one,known,Zn,getE_0,getE_k,setE_0,setE_k,Zc,Zd,Zl,Zm,Zi,Zw,Zu,Zj,Z1,Zx,Zy,ZJ,ZI,ZH,ZD,ZE,splice,fillI,Nat.reduceLeDiff,strA,ZK,ZA,Ze,bq_ft,bq_tf,ZG,ZF,ZQ,Zv,Zz,isNilA,nilPtr,nilSl,nilIf,nilFn,nilMap,nilCheckA,if_true,if_false,lt_lit,le_lit,lt_lit2,le_lit2,le_sub1,le_sub2]; rfl
      apply evI_seq
      · simp only [hBa,h5,hE,eC_len,eC_take,eC_one,eC_0,eC_1,eC_2,eC_3,eC_4,eCr,eCr_0,eCr_1,eCr_2,eCr_3,eCr_4,List.length_drop,Nat.reduceSub,ZR,atr,Zs,Zr,Zp,Za,Zb,evI,opsI,stepI,wantI,opI,AAct.evI,look,AAct.put,mkVal,mkVM,intOpA,intA,shiftA,unA,ZP,ZO,Zh,Zt,reduceIte,Nat.reduceEqDiff,Nat.reduceLT,Zo,Zq,true_and,and_true,and_self,ZB,cellsAt,Zg,ZC,Zf,Zk,ZL,ZM,Nat.reduceAdd,Nat.reduceMul,ZN,AV.cells,AV.one,known,Zn,getE_0,getE_k,setE_0,setE_k,Zc,Zd,Zl,Zm,Zi,Zw,Zu,Zj,Z1,Zx,Zy,ZJ,ZI,ZH,ZD,ZE,splice,fillI,Nat.reduceLeDiff,strA,ZK,ZA,Ze,bq_ft,bq_tf,ZG,ZF,ZQ,Zv,Zz,isNilA,nilPtr,nilSl,nilIf,nilFn,nilMap,nilCheckA,if_true,if_false,lt_lit,le_lit,lt_lit2,le_lit2,le_sub1,le_sub2]; rfl
      apply evI_seq
      · simp only [hKp,hE,eC_len,eC_take,eC_one,eC_0,eC_1,eC_2,eC_3,eC_4,eCr,eCr_0,eCr_1,eCr_2,eCr_3,eCr_4,List.length_drop,Nat.reduceSub,ZR,atr,Zs,Zr,Zp,Za,Zb,evI,opsI,stepI,wantI,opI,AAct.evI,look,AAct.put,mkVal,mkVM,intOpA,intA,shiftA,unA,ZP,ZO,Zh,Zt,reduceIte,Nat.reduceEqDiff,Nat.reduceLT,Zo,Zq,true_and,and_true,and_self,ZB,cellsAt,Zg,ZC,Zf,Zk,ZL,ZM,Nat.reduceAdd,Nat.reduceMul,ZN,AV.cells,AV.one,known,Zn,getE_0,getE_k,setE_0,setE_k,Zc,Zd,Zl,Zm,Zi,Zw,Zu,Zj,Z1,Zx,Zy,ZJ,ZI,ZH,ZD,ZE,splice,fillI,Nat.reduceLeDiff,strA,ZK,ZA,Ze,bq_ft,bq_tf,ZG,ZF,ZQ,Zv,Zz,isNilA,nilPtr,nilSl,nilIf,nilFn,nilMap,nilCheckA,if_true,if_false,lt_lit,le_lit,lt_lit2,le_lit2,le_sub1,le_sub2]; rfl
      apply evI_seq
      · simp only [hOu,hNu,hE,eC_len,eC_take,eC_one,eC_0,eC_1,eC_2,eC_3,eC_4,eCr,eCr_0,eCr_1,eCr_2,eCr_3,eCr_4,List.length_drop,Nat.reduceSub,ZR,atr,Zs,Zr,Zp,Za,Zb,evI,opsI,stepI,wantI,opI,AAct.evI,look,AAct.put,mkVal,mkVM,intOpA,intA,shiftA,unA,ZP,ZO,Zh,Zt,reduceIte,Nat.reduceEqDiff,Nat.reduceLT,Zo,Zq,true_and,and_true,and_self,ZB,cellsAt,Zg,ZC,Zf,Zk,ZL,ZM,Nat.reduceAdd,Nat.reduceMul,ZN,AV.cells,AV.one,known,Zn,getE_0,getE_k,setE_0,setE_k,Zc,Zd,Zl,Zm,Zi,Zw,Zu,Zj,Z1,Zx,Zy,ZJ,ZI,ZH,ZD,ZE,splice,fillI,Nat.reduceLeDiff,strA,ZK,ZA,Ze,bq_ft,bq_tf,ZG,ZF,ZQ,Zv,Zz,isNilA,nilPtr,nilSl,nilIf,nilFn,nilMap,nilCheckA,if_true,if_false,lt_lit,le_lit,lt_lit2,le_lit2,le_sub1,le_sub2]; rfl
      rw [h5]; rfl
    case b1 => exact l1
    case b4 => exact l4
    case b5 => exact l5
    all_goals rfl
theorem rsty_post (k pe : Nat) (v : AV) (s0 : St) (a c : Blk) (l : List St) (hll : l.length ≤ 1073741824) (hv : l = [] ∧ v = .nilS ∨ ∃ q st, v = .slc q 0 l.length 6 st ∧ M[q]? = some (.row (stsC l) st (48 + 1))) (ha : a = .row (eC x) 0 (25 + 1)) (hs : s0 = styU x) (t : List (Nat × AV)) (l1 : look t 1 = .ptr pe 0 0) (l4 : look t 4 = v) (l5 : look t 5 = .int .i64 k) (l6 : look t 6 = .ptr M.length 0 0) (l11 : look t 11 = .ptr (M.length + 1) 0 0) (l14 : look t 14 = .int .i64 (numL (valOf (kidOf x pPrS) outS))) :
    ∃ t' v', look t' 1 = .ptr pe 0 0 ∧ look t' 4 = v' ∧ look t' 5 = .int .i64 k ∧
      ((l = [] ∧ v = .nilS ∧ v' = .slc (M.length + 5) 0 1 6 0 ∧ ∃ x1 x2 x3 x4 x5, evI P cfg (evFI P cfg T N (n + 3)) N (bodyRS.nb 7) ⟨111, t, []⟩ (M ++ [a, .row [.str s0.id, .str s0.based, .bool s0.run, .int .i64 0, .int .i64 0, .int .i64 0] 0 (48 + 1), c]) = some (.normal, ⟨111, t', []⟩, M ++ [x1, x2, x3, x4, x5, .row (stC s0) 0 (48 + 1)])) ∨
       ∃ q st L, v = .slc q 0 l.length 6 st ∧ M[q]? = some (.row (stsC l) st (48 + 1)) ∧ v' = .slc q 0 (l.length + 1) 6 (st + 1) ∧ evI P cfg (evFI P cfg T N (n + 3)) N (bodyRS.nb 7) ⟨111, t, []⟩ (M ++ [a, .row [.str s0.id, .str s0.based, .bool s0.run, .int .i64 0, .int .i64 0, .int .i64 0] 0 (48 + 1), c]) = some (.normal, ⟨111, t', []⟩, M.set q (.row (stsC l ++ stC s0) (st + 1) (48 + 1)) ++ L)) := by
  subst ha
  have hKr := fun H => child_eq P N (n + 1) hN rPrS x hfx H
  have hTb := fun H => rtoggle_eq P N n hN [98] (kidOf x rPrS) (hfx.kidOf _) H
  have hTi := fun H => rtoggle_eq P N n hN [105] (kidOf x rPrS) (hfx.kidOf _) H
  have s4 : s0.emph = togOf (kidOf x rPrS) [105] := by rw [hs]; rfl
  have s5 : s0.bold = togOf (kidOf x rPrS) [98] := by rw [hs]; rfl
  have s6 : s0.head = if (decide (numL (valOf (kidOf x pPrS) outS) ≥ 0) && decide (numL (valOf (kidOf x pPrS) outS) ≤ 5)) = true then numL (valOf (kidOf x pPrS) outS) + 1 else 0 := by
    rw [hs, ← headOf_r]; rfl
  clear hs
  have hl6 := stsC_len l
  have hl1 : l.length + 1 ≤ 2 ^ 34 := by omega
  have h134 : (1 : Nat) ≤ 2 ^ 34 := by omega
  have h100 : ((1 : Nat) = 0) = False := by simp
  generalize numL (valOf (kidOf x pPrS) outS) = z at *
  generalize togOf (kidOf x rPrS) [105] = ti at *
  generalize togOf (kidOf x rPrS) [98] = tb at *
  generalize (findIn wNs rPrS x.kids).isSome = gs at *
  generalize kidOf x rPrS = kr at *
  simp only [rPrS] at hKr
  obtain ⟨i0, b0, u0, m0, o0, d0⟩ := s0
  simp only at s4 s5 s6
  subst s4 s5
  have hhd : (decide (z ≥ 0) = false ∧ d0 = 0) ∨ (decide (z ≥ 0) = true ∧ decide (z ≤ 5) = false ∧ d0 = 0) ∨ (decide (z ≥ 0) = true ∧ decide (z ≤ 5) = true ∧ d0 = z + 1) := by
    cases h1 : decide (z ≥ 0)
    · rw [h1] at s6; exact .inl ⟨rfl, s6⟩
    · cases h2 : decide (z ≤ 5)
      · rw [h1, h2] at s6; exact .inr (.inl ⟨rfl, rfl, s6⟩)
      · rw [h1, h2] at s6; exact .inr (.inr ⟨rfl, rfl, s6⟩)
  clear s6
  rcases hv with ⟨rfl, rfl⟩ | ⟨q, st, rfl, hq⟩
  · rcases hhd with ⟨h1, rfl⟩ | ⟨h1, h2, rfl⟩ | ⟨h1, h2, rfl⟩
    · refine ⟨?nat, _, ?na1, ?na4, ?na5, .inl ⟨rfl, rfl, rfl, ?nax1, ?nax2, ?nax3, ?nax4, ?nax5, ?nam⟩⟩
      case nam =>
        apply evI_seq
        · simp only [l14,l11,h1,eC_len,eC_take,eC_one,eC_0,eC_1,eC_2,eC_3,eC_4,eCr,eCr_0,eCr_1,eCr_2,eCr_3,eCr_4,List.length_drop,Nat.reduceSub,ZR,atr,Zs,Zr,Zp,Za,Zb,evI,opsI,stepI,wantI,opI,AAct.evI,look,AAct.put,mkVal,mkVM,intOpA,intA,shiftA,unA,ZP,ZO,Zh,Zt,reduceIte,Nat.reduceEqDiff,Nat.reduceLT,Zo,Zq,true_and,and_true,and_self,ZB,cellsAt,Zg,ZC,Zf,Zk,ZL,ZM,Nat.reduceAdd,Nat.reduceMul,ZN,AV.cells,AV.one,known,Zn,getE_0,getE_k,setE_0,setE_k,Zc,Zd,Zl,Zm,Zi,Zw,Zu,Zj,Z1,Zx,Zy,ZJ,ZI,ZH,ZD,ZE,splice,fillI,Nat.reduceLeDiff,strA,ZK,ZA,Ze,bq_ft,bq_tf,ZG,ZF,ZQ,Zv,Zz,isNilA,nilPtr,nilSl,nilIf,nilFn,nilMap,nilCheckA,if_true,if_false,lt_lit,le_lit,lt_lit2,le_lit2,le_sub1,le_sub2]; rfl
        apply evI_seq
        · simp only [l6,hKr,eC_len,eC_take,eC_one,eC_0,eC_1,eC_2,eC_3,eC_4,eCr,eCr_0,eCr_1,eCr_2,eCr_3,eCr_4,List.length_drop,Nat.reduceSub,ZR,atr,Zs,Zr,Zp,Za,Zb,evI,opsI,stepI,wantI,opI,AAct.evI,look,AAct.put,mkVal,mkVM,intOpA,intA,shiftA,unA,ZP,ZO,Zh,Zt,reduceIte,Nat.reduceEqDiff,Nat.reduceLT,Zo,Zq,true_and,and_true,and_self,ZB,cellsAt,Zg,ZC,Zf,Zk,ZL,ZM,Nat.reduceAdd,Nat.reduceMul,ZN,AV.cells,AV.one,known,Zn,getE_0,getE_k,setE_0,setE_k,Zc,Zd,Zl,Zm,Zi,Zw,Zu,Zj,Z1,Zx,Zy,ZJ,ZI,ZH,ZD,ZE,splice,fillI,Nat.reduceLeDiff,strA,ZK,ZA,Ze,bq_ft,bq_tf,ZG,ZF,ZQ,Zv,Zz,isNilA,nilPtr,nilSl,nilIf,nilFn,nilMap,nilCheckA,if_true,if_false,lt_lit,le_lit,lt_lit2,le_lit2,le_sub1,le_sub2]; rfl
        apply evI_seq
        · simp only [l11,hTb,hTi,eC_len,eC_take,eC_one,eC_0,eC_1,eC_2,eC_3,eC_4,eCr,eCr_0,eCr_1,eCr_2,eCr_3,eCr_4,List.length_drop,Nat.reduceSub,ZR,atr,Zs,Zr,Zp,Za,Zb,evI,opsI,stepI,wantI,opI,AAct.evI,look,AAct.put,mkVal,mkVM,intOpA,intA,shiftA,unA,ZP,ZO,Zh,Zt,reduceIte,Nat.reduceEqDiff,Nat.reduceLT,Zo,Zq,true_and,and_true,and_self,ZB,cellsAt,Zg,ZC,Zf,Zk,ZL,ZM,Nat.reduceAdd,Nat.reduceMul,ZN,AV.cells,AV.one,known,Zn,getE_0,getE_k,setE_0,setE_k,Zc,Zd,Zl,Zm,Zi,Zw,Zu,Zj,Z1,Zx,Zy,ZJ,ZI,ZH,ZD,ZE,splice,fillI,Nat.reduceLeDiff,strA,ZK,ZA,Ze,bq_ft,bq_tf,ZG,ZF,ZQ,Zv,Zz,isNilA,nilPtr,nilSl,nilIf,nilFn,nilMap,nilCheckA,if_true,if_false,lt_lit,le_lit,lt_lit2,le_lit2,le_sub1,le_sub2,drawI,drawI2,drawI0,drawI20,lexD,valD,valI,putD,okD,roD,memAt,lastM,wantI,eqv_refl,eqM_refl,eqM_app,eqB,eqvL,eqv,List.getLast?_cons_cons,List.getLast?_singleton,Option.getD_some,Bool.or_true,Bool.true_or,ZA,resvV]; rfl
        simp only [l4,l11,h134,h100,srcA,held,app2,eC_len,eC_take,eC_one,eC_0,eC_1,eC_2,eC_3,eC_4,eCr,eCr_0,eCr_1,eCr_2,eCr_3,eCr_4,List.length_drop,Nat.reduceSub,ZR,atr,Zs,Zr,Zp,Za,Zb,evI,opsI,stepI,wantI,opI,AAct.evI,look,AAct.put,mkVal,mkVM,intOpA,intA,shiftA,unA,ZP,ZO,Zh,Zt,reduceIte,Nat.reduceEqDiff,Nat.reduceLT,Zo,Zq,true_and,and_true,and_self,ZB,cellsAt,Zg,ZC,Zf,Zk,ZL,ZM,Nat.reduceAdd,Nat.reduceMul,ZN,AV.cells,AV.one,known,Zn,getE_0,getE_k,setE_0,setE_k,Zc,Zd,Zl,Zm,Zi,Zw,Zu,Zj,Z1,Zx,Zy,ZJ,ZI,ZH,ZD,ZE,splice,fillI,Nat.reduceLeDiff,strA,ZK,ZA,Ze,bq_ft,bq_tf,ZG,ZF,ZQ,Zv,Zz,isNilA,nilPtr,nilSl,nilIf,nilFn,nilMap,nilCheckA,if_true,if_false,lt_lit,le_lit,lt_lit2,le_lit2,le_sub1,le_sub2]; rfl
      case na1 => exact l1
      case na4 => rfl
      case na5 => exact l5
    · refine ⟨?nbt, _, ?nb1, ?nb4, ?nb5, .inl ⟨rfl, rfl, rfl, ?nbx1, ?nbx2, ?nbx3, ?nbx4, ?nbx5, ?nbm⟩⟩
      case nbm =>
        apply evI_seq
        · simp only [l14,l11,h1,h2,eC_len,eC_take,eC_one,eC_0,eC_1,eC_2,eC_3,eC_4,eCr,eCr_0,eCr_1,eCr_2,eCr_3,eCr_4,List.length_drop,Nat.reduceSub,ZR,atr,Zs,Zr,Zp,Za,Zb,evI,opsI,stepI,wantI,opI,AAct.evI,look,AAct.put,mkVal,mkVM,intOpA,intA,shiftA,unA,ZP,ZO,Zh,Zt,reduceIte,Nat.reduceEqDiff,Nat.reduceLT,Zo,Zq,true_and,and_true,and_self,ZB,cellsAt,Zg,ZC,Zf,Zk,ZL,ZM,Nat.reduceAdd,Nat.reduceMul,ZN,AV.cells,AV.one,known,Zn,getE_0,getE_k,setE_0,setE_k,Zc,Zd,Zl,Zm,Zi,Zw,Zu,Zj,Z1,Zx,Zy,ZJ,ZI,ZH,ZD,ZE,splice,fillI,Nat.reduceLeDiff,strA,ZK,ZA,Ze,bq_ft,bq_tf,ZG,ZF,ZQ,Zv,Zz,isNilA,nilPtr,nilSl,nilIf,nilFn,nilMap,nilCheckA,if_true,if_false,lt_lit,le_lit,lt_lit2,le_lit2,le_sub1,le_sub2]; rfl
        apply evI_seq
        · simp only [l6,hKr,eC_len,eC_take,eC_one,eC_0,eC_1,eC_2,eC_3,eC_4,eCr,eCr_0,eCr_1,eCr_2,eCr_3,eCr_4,List.length_drop,Nat.reduceSub,ZR,atr,Zs,Zr,Zp,Za,Zb,evI,opsI,stepI,wantI,opI,AAct.evI,look,AAct.put,mkVal,mkVM,intOpA,intA,shiftA,unA,ZP,ZO,Zh,Zt,reduceIte,Nat.reduceEqDiff,Nat.reduceLT,Zo,Zq,true_and,and_true,and_self,ZB,cellsAt,Zg,ZC,Zf,Zk,ZL,ZM,Nat.reduceAdd,Nat.reduceMul,ZN,AV.cells,AV.one,known,Zn,getE_0,getE_k,setE_0,setE_k,Zc,Zd,Zl,Zm,Zi,Zw,Zu,Zj,Z1,Zx,Zy,ZJ,ZI,ZH,ZD,ZE,splice,fillI,Nat.reduceLeDiff,strA,ZK,ZA,Ze,bq_ft,bq_tf,ZG,ZF,ZQ,Zv,Zz,isNilA,nilPtr,nilSl,nilIf,nilFn,nilMap,nilCheckA,if_true,if_false,lt_lit,le_lit,lt_lit2,le_lit2,le_sub1,le_sub2]; rfl
        apply evI_seq
        · simp only [l11,hTb,hTi,eC_len,eC_take,eC_one,eC_0,eC_1,eC_2,eC_3,eC_4,eCr,eCr_0,eCr_1,eCr_2,eCr_3,eCr_4,List.length_drop,Nat.reduceSub,ZR,atr,Zs,Zr,Zp,Za,Zb,evI,opsI,stepI,wantI,opI,AAct.evI,look,AAct.put,mkVal,mkVM,intOpA,intA,shiftA,unA,ZP,ZO,Zh,Zt,reduceIte,Nat.reduceEqDiff,Nat.reduceLT,Zo,Zq,true_and,and_true,and_self,ZB,cellsAt,Zg,ZC,Zf,Zk,ZL,ZM,Nat.reduceAdd,Nat.reduceMul,ZN,AV.cells,AV.one,known,Zn,getE_0,getE_k,setE_0,setE_k,Zc,Zd,Zl,Zm,Zi,Zw,Zu,Zj,Z1,Zx,Zy,ZJ,ZI,ZH,ZD,ZE,splice,fillI,Nat.reduceLeDiff,strA,ZK,ZA,Ze,bq_ft,bq_tf,ZG,ZF,ZQ,Zv,Zz,isNilA,nilPtr,nilSl,nilIf,nilFn,nilMap,nilCheckA,if_true,if_false,lt_lit,le_lit,lt_lit2,le_lit2,le_sub1,le_sub2,drawI,drawI2,drawI0,drawI20,lexD,valD,valI,putD,okD,roD,memAt,lastM,wantI,eqv_refl,eqM_refl,eqM_app,eqB,eqvL,eqv,List.getLast?_cons_cons,List.getLast?_singleton,Option.getD_some,Bool.or_true,Bool.true_or,ZA,resvV]; rfl
        simp only [l4,l11,h134,h100,srcA,held,app2,eC_len,eC_take,eC_one,eC_0,eC_1,eC_2,eC_3,eC_4,eCr,eCr_0,eCr_1,eCr_2,eCr_3,eCr_4,List.length_drop,Nat.reduceSub,ZR,atr,Zs,Zr,Zp,Za,Zb,evI,opsI,stepI,wantI,opI,AAct.evI,look,AAct.put,mkVal,mkVM,intOpA,intA,shiftA,unA,ZP,ZO,Zh,Zt,reduceIte,Nat.reduceEqDiff,Nat.reduceLT,Zo,Zq,true_and,and_true,and_self,ZB,cellsAt,Zg,ZC,Zf,Zk,ZL,ZM,Nat.reduceAdd,Nat.reduceMul,ZN,AV.cells,AV.one,known,Zn,getE_0,getE_k,setE_0,setE_k,Zc,Zd,Zl,Zm,Zi,Zw,Zu,Zj,Z1,Zx,Zy,ZJ,ZI,ZH,ZD,ZE,splice,fillI,Nat.reduceLeDiff,strA,ZK,ZA,Ze,bq_ft,bq_tf,ZG,ZF,ZQ,Zv,Zz,isNilA,nilPtr,nilSl,nilIf,nilFn,nilMap,nilCheckA,if_true,if_false,lt_lit,le_lit,lt_lit2,le_lit2,le_sub1,le_sub2]; rfl
      case nb1 => exact l1
      case nb4 => rfl
      case nb5 => exact l5
    · have hwz : IntKind.wrap .i64 (z + 1) = z + 1 := by
        have h3 := of_decide_eq_true h1
        have h4 := of_decide_eq_true h2
        rw [wrap64] <;> omega
      refine ⟨?nct, _, ?nc1, ?nc4, ?nc5, .inl ⟨rfl, rfl, rfl, ?ncx1, ?ncx2, ?ncx3, ?ncx4, ?ncx5, ?ncm⟩⟩
      case ncm =>
        apply evI_seq
        · simp only [l14,l11,h1,h2,hwz,eC_len,eC_take,eC_one,eC_0,eC_1,eC_2,eC_3,eC_4,eCr,eCr_0,eCr_1,eCr_2,eCr_3,eCr_4,List.length_drop,Nat.reduceSub,ZR,atr,Zs,Zr,Zp,Za,Zb,evI,opsI,stepI,wantI,opI,AAct.evI,look,AAct.put,mkVal,mkVM,intOpA,intA,shiftA,unA,ZP,ZO,Zh,Zt,reduceIte,Nat.reduceEqDiff,Nat.reduceLT,Zo,Zq,true_and,and_true,and_self,ZB,cellsAt,Zg,ZC,Zf,Zk,ZL,ZM,Nat.reduceAdd,Nat.reduceMul,ZN,AV.cells,AV.one,known,Zn,getE_0,getE_k,setE_0,setE_k,Zc,Zd,Zl,Zm,Zi,Zw,Zu,Zj,Z1,Zx,Zy,ZJ,ZI,ZH,ZD,ZE,splice,fillI,Nat.reduceLeDiff,strA,ZK,ZA,Ze,bq_ft,bq_tf,ZG,ZF,ZQ,Zv,Zz,isNilA,nilPtr,nilSl,nilIf,nilFn,nilMap,nilCheckA,if_true,if_false,lt_lit,le_lit,lt_lit2,le_lit2,le_sub1,le_sub2]; rfl
        apply evI_seq
        · simp only [l6,hKr,eC_len,eC_take,eC_one,eC_0,eC_1,eC_2,eC_3,eC_4,eCr,eCr_0,eCr_1,eCr_2,eCr_3,eCr_4,List.length_drop,Nat.reduceSub,ZR,atr,Zs,Zr,Zp,Za,Zb,evI,opsI,stepI,wantI,opI,AAct.evI,look,AAct.put,mkVal,mkVM,intOpA,intA,shiftA,unA,ZP,ZO,Zh,Zt,reduceIte,Nat.reduceEqDiff,Nat.reduceLT,Zo,Zq,true_and,and_true,and_self,ZB,cellsAt,Zg,ZC,Zf,Zk,ZL,ZM,Nat.reduceAdd,Nat.reduceMul,ZN,AV.cells,AV.one,known,Zn,getE_0,getE_k,setE_0,setE_k,Zc,Zd,Zl,Zm,Zi,Zw,Zu,Zj,Z1,Zx,Zy,ZJ,ZI,ZH,ZD,ZE,splice,fillI,Nat.reduceLeDiff,strA,ZK,ZA,Ze,bq_ft,bq_tf,ZG,ZF,ZQ,Zv,Zz,isNilA,nilPtr,nilSl,nilIf,nilFn,nilMap,nilCheckA,if_true,if_false,lt_lit,le_lit,lt_lit2,le_lit2,le_sub1,le_sub2]; rfl
        apply evI_seq
        · simp only [l11,hTb,hTi,eC_len,eC_take,eC_one,eC_0,eC_1,eC_2,eC_3,eC_4,eCr,eCr_0,eCr_1,eCr_2,eCr_3,eCr_4,List.length_drop,Nat.reduceSub,ZR,atr,Zs,Zr,Zp,Za,Zb,evI,opsI,stepI,wantI,opI,AAct.evI,look,AAct.put,mkVal,mkVM,intOpA,intA,shiftA,unA,ZP,ZO,Zh,Zt,reduceIte,Nat.reduceEqDiff,Nat.reduceLT,Zo,Zq,true_and,and_true,and_self,ZB,cellsAt,Zg,ZC,Zf,Zk,ZL,ZM,Nat.reduceAdd,Nat.reduceMul,ZN,AV.cells,AV.one,known,Zn,getE_0,getE_k,setE_0,setE_k,Zc,Zd,Zl,Zm,Zi,Zw,Zu,Zj,Z1,Zx,Zy,ZJ,ZI,ZH,ZD,ZE,splice,fillI,Nat.reduceLeDiff,strA,ZK,ZA,Ze,bq_ft,bq_tf,ZG,ZF,ZQ,Zv,Zz,isNilA,nilPtr,nilSl,nilIf,nilFn,nilMap,nilCheckA,if_true,if_false,lt_lit,le_lit,lt_lit2,le_lit2,le_sub1,le_sub2,drawI,drawI2,drawI0,drawI20,lexD,valD,valI,putD,okD,roD,memAt,lastM,wantI,eqv_refl,eqM_refl,eqM_app,eqB,eqvL,eqv,List.getLast?_cons_cons,List.getLast?_singleton,Option.getD_some,Bool.or_true,Bool.true_or,ZA,resvV]; rfl
        simp only [l4,l11,h134,h100,srcA,held,app2,eC_len,eC_take,eC_one,eC_0,eC_1,eC_2,eC_3,eC_4,eCr,eCr_0,eCr_1,eCr_2,eCr_3,eCr_4,List.length_drop,Nat.reduceSub,ZR,atr,Zs,Zr,Zp,Za,Zb,evI,opsI,stepI,wantI,opI,AAct.evI,look,AAct.put,mkVal,mkVM,intOpA,intA,shiftA,unA,ZP,ZO,Zh,Zt,reduceIte,Nat.reduceEqDiff,Nat.reduceLT,Zo,Zq,true_and,and_true,and_self,ZB,cellsAt,Zg,ZC,Zf,Zk,ZL,ZM,Nat.reduceAdd,Nat.reduceMul,ZN,AV.cells,AV.one,known,Zn,getE_0,getE_k,setE_0,setE_k,Zc,Zd,Zl,Zm,Zi,Zw,Zu,Zj,Z1,Zx,Zy,ZJ,ZI,ZH,ZD,ZE,splice,fillI,Nat.reduceLeDiff,strA,ZK,ZA,Ze,bq_ft,bq_tf,ZG,ZF,ZQ,Zv,Zz,isNilA,nilPtr,nilSl,nilIf,nilFn,nilMap,nilCheckA,if_true,if_false,lt_lit,le_lit,lt_lit2,le_lit2,le_sub1,le_sub2]; rfl
      case nc1 => exact l1
      case nc4 => rfl
      case nc5 => exact l5
  · have hql := (List.getElem?_eq_some_iff.1 hq).1
    have hqL : ∀ L, (M ++ L)[q]? = some (.row (stsC l) st (48 + 1)) := fun L => by rw [List.getElem?_append_left hql]; exact hq
    have hsL : ∀ L b, (M ++ L).set q b = M.set q b ++ L := fun L b => List.set_append_left _ _ hql
    rcases hhd with ⟨h1, rfl⟩ | ⟨h1, h2, rfl⟩ | ⟨h1, h2, rfl⟩
    · refine ⟨?sat, _, ?sa1, ?sa4, ?sa5, .inr ⟨q, st, ?saL, rfl, hq, rfl, ?sam⟩⟩
      case sam =>
        apply evI_seq
        · simp only [l14,l11,h1,eC_len,eC_take,eC_one,eC_0,eC_1,eC_2,eC_3,eC_4,eCr,eCr_0,eCr_1,eCr_2,eCr_3,eCr_4,List.length_drop,Nat.reduceSub,ZR,atr,Zs,Zr,Zp,Za,Zb,evI,opsI,stepI,wantI,opI,AAct.evI,look,AAct.put,mkVal,mkVM,intOpA,intA,shiftA,unA,ZP,ZO,Zh,Zt,reduceIte,Nat.reduceEqDiff,Nat.reduceLT,Zo,Zq,true_and,and_true,and_self,ZB,cellsAt,Zg,ZC,Zf,Zk,ZL,ZM,Nat.reduceAdd,Nat.reduceMul,ZN,AV.cells,AV.one,known,Zn,getE_0,getE_k,setE_0,setE_k,Zc,Zd,Zl,Zm,Zi,Zw,Zu,Zj,Z1,Zx,Zy,ZJ,ZI,ZH,ZD,ZE,splice,fillI,Nat.reduceLeDiff,strA,ZK,ZA,Ze,bq_ft,bq_tf,ZG,ZF,ZQ,Zv,Zz,isNilA,nilPtr,nilSl,nilIf,nilFn,nilMap,nilCheckA,if_true,if_false,lt_lit,le_lit,lt_lit2,le_lit2,le_sub1,le_sub2]; rfl
        apply evI_seq
        · simp only [l6,hKr,eC_len,eC_take,eC_one,eC_0,eC_1,eC_2,eC_3,eC_4,eCr,eCr_0,eCr_1,eCr_2,eCr_3,eCr_4,List.length_drop,Nat.reduceSub,ZR,atr,Zs,Zr,Zp,Za,Zb,evI,opsI,stepI,wantI,opI,AAct.evI,look,AAct.put,mkVal,mkVM,intOpA,intA,shiftA,unA,ZP,ZO,Zh,Zt,reduceIte,Nat.reduceEqDiff,Nat.reduceLT,Zo,Zq,true_and,and_true,and_self,ZB,cellsAt,Zg,ZC,Zf,Zk,ZL,ZM,Nat.reduceAdd,Nat.reduceMul,ZN,AV.cells,AV.one,known,Zn,getE_0,getE_k,setE_0,setE_k,Zc,Zd,Zl,Zm,Zi,Zw,Zu,Zj,Z1,Zx,Zy,ZJ,ZI,ZH,ZD,ZE,splice,fillI,Nat.reduceLeDiff,strA,ZK,ZA,Ze,bq_ft,bq_tf,ZG,ZF,ZQ,Zv,Zz,isNilA,nilPtr,nilSl,nilIf,nilFn,nilMap,nilCheckA,if_true,if_false,lt_lit,le_lit,lt_lit2,le_lit2,le_sub1,le_sub2]; rfl
        apply evI_seq
        · simp only [l11,hTb,hTi,eC_len,eC_take,eC_one,eC_0,eC_1,eC_2,eC_3,eC_4,eCr,eCr_0,eCr_1,eCr_2,eCr_3,eCr_4,List.length_drop,Nat.reduceSub,ZR,atr,Zs,Zr,Zp,Za,Zb,evI,opsI,stepI,wantI,opI,AAct.evI,look,AAct.put,mkVal,mkVM,intOpA,intA,shiftA,unA,ZP,ZO,Zh,Zt,reduceIte,Nat.reduceEqDiff,Nat.reduceLT,Zo,Zq,true_and,and_true,and_self,ZB,cellsAt,Zg,ZC,Zf,Zk,ZL,ZM,Nat.reduceAdd,Nat.reduceMul,ZN,AV.cells,AV.one,known,Zn,getE_0,getE_k,setE_0,setE_k,Zc,Zd,Zl,Zm,Zi,Zw,Zu,Zj,Z1,Zx,Zy,ZJ,ZI,ZH,ZD,ZE,splice,fillI,Nat.reduceLeDiff,strA,ZK,ZA,Ze,bq_ft,bq_tf,ZG,ZF,ZQ,Zv,Zz,isNilA,nilPtr,nilSl,nilIf,nilFn,nilMap,nilCheckA,if_true,if_false,lt_lit,le_lit,lt_lit2,le_lit2,le_sub1,le_sub2,drawI,drawI2,drawI0,drawI20,lexD,valD,valI,putD,okD,roD,memAt,lastM,wantI,eqv_refl,eqM_refl,eqM_app,eqB,eqvL,eqv,List.getLast?_cons_cons,List.getLast?_singleton,Option.getD_some,Bool.or_true,Bool.true_or,ZA,resvV]; rfl
        simp only [l4,l11,hqL,hsL,hl1,hl6,h100,srcA,held,app2,eC_len,eC_take,eC_one,eC_0,eC_1,eC_2,eC_3,eC_4,eCr,eCr_0,eCr_1,eCr_2,eCr_3,eCr_4,List.length_drop,Nat.reduceSub,ZR,atr,Zs,Zr,Zp,Za,Zb,evI,opsI,stepI,wantI,opI,AAct.evI,look,AAct.put,mkVal,mkVM,intOpA,intA,shiftA,unA,ZP,ZO,Zh,Zt,reduceIte,Nat.reduceEqDiff,Nat.reduceLT,Zo,Zq,true_and,and_true,and_self,ZB,cellsAt,Zg,ZC,Zf,Zk,ZL,ZM,Nat.reduceAdd,Nat.reduceMul,ZN,AV.cells,AV.one,known,Zn,getE_0,getE_k,setE_0,setE_k,Zc,Zd,Zl,Zm,Zi,Zw,Zu,Zj,Z1,Zx,Zy,ZJ,ZI,ZH,ZD,ZE,splice,fillI,Nat.reduceLeDiff,strA,ZK,ZA,Ze,bq_ft,bq_tf,ZG,ZF,ZQ,Zv,Zz,isNilA,nilPtr,nilSl,nilIf,nilFn,nilMap,nilCheckA,if_true,if_false,lt_lit,le_lit,lt_lit2,le_lit2,le_sub1,le_sub2]; rfl
      case sa1 => exact l1
      case sa4 => rfl
      case sa5 => exact l5
    · refine ⟨?sbt, _, ?sb1, ?sb4, ?sb5, .inr ⟨q, st, ?sbL, rfl, hq, rfl, ?sbm⟩⟩
      case sbm =>
        apply evI_seq
        · simp only [l14,l11,h1,h2,eC_len,eC_take,eC_one,eC_0,eC_1,eC_2,eC_3,eC_4,eCr,eCr_0,eCr_1,eCr_2,eCr_3,eCr_4,List.length_drop,Nat.reduceSub,ZR,atr,Zs,Zr,Zp,Za,Zb,evI,opsI,stepI,wantI,opI,AAct.evI,look,AAct.put,mkVal,mkVM,intOpA,intA,shiftA,unA,ZP,ZO,Zh,Zt,reduceIte,Nat.reduceEqDiff,Nat.reduceLT,Zo,Zq,true_and,and_true,and_self,ZB,cellsAt,Zg,ZC,Zf,Zk,ZL,ZM,Nat.reduceAdd,Nat.reduceMul,ZN,AV.cells,AV.one,known,Zn,getE_0,getE_k,setE_0,setE_k,Zc,Zd,Zl,Zm,Zi,Zw,Zu,Zj,Z1,Zx,Zy,ZJ,ZI,ZH,ZD,ZE,splice,fillI,Nat.reduceLeDiff,strA,ZK,ZA,Ze,bq_ft,bq_tf,ZG,ZF,ZQ,Zv,Zz,isNilA,nilPtr,nilSl,nilIf,nilFn,nilMap,nilCheckA,if_true,if_false,lt_lit,le_lit,lt_lit2,le_lit2,le_sub1,le_sub2]; rfl
        apply evI_seq
        · simp only [l6,hKr,eC_len,eC_take,eC_one,eC_0,eC_1,eC_2,eC_3,eC_4,eCr,eCr_0,eCr_1,eCr_2,eCr_3,eCr_4,List.length_drop,Nat.reduceSub,ZR,atr,Zs,Zr,Zp,Za,Zb,evI,opsI,stepI,wantI,opI,AAct.evI,look,AAct.put,mkVal,mkVM,intOpA,intA,shiftA,unA,ZP,ZO,Zh,Zt,reduceIte,Nat.reduceEqDiff,Nat.reduceLT,Zo,Zq,true_and,and_true,and_self,ZB,cellsAt,Zg,ZC,Zf,Zk,ZL,ZM,Nat.reduceAdd,Nat.reduceMul,ZN,AV.cells,AV.one,known,Zn,getE_0,getE_k,setE_0,setE_k,Zc,Zd,Zl,Zm,Zi,Zw,Zu,Zj,Z1,Zx,Zy,ZJ,ZI,ZH,ZD,ZE,splice,fillI,Nat.reduceLeDiff,strA,ZK,ZA,Ze,bq_ft,bq_tf,ZG,ZF,ZQ,Zv,Zz,isNilA,nilPtr,nilSl,nilIf,nilFn,nilMap,nilCheckA,if_true,if_false,lt_lit,le_lit,lt_lit2,le_lit2,le_sub1,le_sub2]; rfl
        apply evI_seq
        · simp only [l11,hTb,hTi,eC_len,eC_take,eC_one,eC_0,eC_1,eC_2,eC_3,eC_4,eCr,eCr_0,eCr_1,eCr_2,eCr_3,eCr_4,List.length_drop,Nat.reduceSub,ZR,atr,Zs,Zr,Zp,Za,Zb,evI,opsI,stepI,wantI,opI,AAct.evI,look,AAct.put,mkVal,mkVM,intOpA,intA,shiftA,unA,ZP,ZO,Zh,Zt,reduceIte,Nat.reduceEqDiff,Nat.reduceLT,Zo,Zq,true_and,and_true,and_self,ZB,cellsAt,Zg,ZC,Zf,Zk,ZL,ZM,Nat.reduceAdd,Nat.reduceMul,ZN,AV.cells,AV.one,known,Zn,getE_0,getE_k,setE_0,setE_k,Zc,Zd,Zl,Zm,Zi,Zw,Zu,Zj,Z1,Zx,Zy,ZJ,ZI,ZH,ZD,ZE,splice,fillI,Nat.reduceLeDiff,strA,ZK,ZA,Ze,bq_ft,bq_tf,ZG,ZF,ZQ,Zv,Zz,isNilA,nilPtr,nilSl,nilIf,nilFn,nilMap,nilCheckA,if_true,if_false,lt_lit,le_lit,lt_lit2,le_lit2,le_sub1,le_sub2,drawI,drawI2,drawI0,drawI20,lexD,valD,valI,putD,okD,roD,memAt,lastM,wantI,eqv_refl,eqM_refl,eqM_app,eqB,eqvL,eqv,List.getLast?_cons_cons,List.getLast?_singleton,Option.getD_some,Bool.or_true,Bool.true_or,ZA,resvV]; rfl
        simp only [l4,l11,hqL,hsL,hl1,hl6,h100,srcA,held,app2,eC_len,eC_take,eC_one,eC_0,eC_1,eC_2,eC_3,eC_4,eCr,eCr_0,eCr_1,eCr_2,eCr_3,eCr_4,List.length_drop,Nat.reduceSub,ZR,atr,Zs,Zr,Zp,Za,Zb,evI,opsI,stepI,wantI,opI,AAct.evI,look,AAct.put,mkVal,mkVM,intOpA,intA,shiftA,unA,ZP,ZO,Zh,Zt,reduceIte,Nat.reduceEqDiff,Nat.reduceLT,Zo,Zq,true_and,and_true,and_self,ZB,cellsAt,Zg,ZC,Zf,Zk,ZL,ZM,Nat.reduceAdd,Nat.reduceMul,ZN,AV.cells,AV.one,known,Zn,getE_0,getE_k,setE_0,setE_k,Zc,Zd,Zl,Zm,Zi,Zw,Zu,Zj,Z1,Zx,Zy,ZJ,ZI,ZH,ZD,ZE,splice,fillI,Nat.reduceLeDiff,strA,ZK,ZA,Ze,bq_ft,bq_tf,ZG,ZF,ZQ,Zv,Zz,isNilA,nilPtr,nilSl,nilIf,nilFn,nilMap,nilCheckA,if_true,if_false,lt_lit,le_lit,lt_lit2,le_lit2,le_sub1,le_sub2]; rfl
      case sb1 => exact l1
      case sb4 => rfl
      case sb5 => exact l5
    · have hwz : IntKind.wrap .i64 (z + 1) = z + 1 := by
        have h3 := of_decide_eq_true h1
        have h4 := of_decide_eq_true h2
        rw [wrap64] <;> omega
      refine ⟨?sct, _, ?sc1, ?sc4, ?sc5, .inr ⟨q, st, ?scL, rfl, hq, rfl, ?scm⟩⟩
      case scm =>
        apply evI_seq
        · simp only [l14,l11,h1,h2,hwz,eC_len,eC_take,eC_one,eC_0,eC_1,eC_2,eC_3,eC_4,eCr,eCr_0,eCr_1,eCr_2,eCr_3,eCr_4,List.length_drop,Nat.reduceSub,ZR,atr,Zs,Zr,Zp,Za,Zb,evI,opsI,stepI,wantI,opI,AAct.evI,look,AAct.put,mkVal,mkVM,intOpA,intA,shiftA,unA,ZP,ZO,Zh,Zt,reduceIte,Nat.reduceEqDiff,Nat.reduceLT,Zo,Zq,true_and,and_true,and_self,ZB,cellsAt,Zg,ZC,Zf,Zk,ZL,ZM,Nat.reduceAdd,Nat.reduceMul,ZN,AV.cells,AV.one,known,Zn,getE_0,getE_k,setE_0,setE_k,Zc,Zd,Zl,Zm,Zi,Zw,Zu,Zj,Z1,Zx,Zy,ZJ,ZI,ZH,ZD,ZE,splice,fillI,Nat.reduceLeDiff,strA,ZK,ZA,Ze,bq_ft,bq_tf,ZG,ZF,ZQ,Zv,Zz,isNilA,nilPtr,nilSl,nilIf,nilFn,nilMap,nilCheckA,if_true,if_false,lt_lit,le_lit,lt_lit2,le_lit2,le_sub1,le_sub2]; rfl
        apply evI_seq
        · simp only [l6,hKr,eC_len,eC_take,eC_one,eC_0,eC_1,eC_2,eC_3,eC_4,eCr,eCr_0,eCr_1,eCr_2,eCr_3,eCr_4,List.length_drop,Nat.reduceSub,ZR,atr,Zs,Zr,Zp,Za,Zb,evI,opsI,stepI,wantI,opI,AAct.evI,look,AAct.put,mkVal,mkVM,intOpA,intA,shiftA,unA,ZP,ZO,Zh,Zt,reduceIte,Nat.reduceEqDiff,Nat.reduceLT,Zo,Zq,true_and,and_true,and_self,ZB,cellsAt,Zg,ZC,Zf,Zk,ZL,ZM,Nat.reduceAdd,Nat.reduceMul,ZN,AV.cells,AV.one,known,Zn,getE_0,getE_k,setE_0,setE_k,Zc,Zd,Zl,Zm,Zi,Zw,Zu,Zj,Z1,Zx,Zy,ZJ,ZI,ZH,ZD,ZE,splice,fillI,Nat.reduceLeDiff,strA,ZK,ZA,Ze,bq_ft,bq_tf,ZG,ZF,ZQ,Zv,Zz,isNilA,nilPtr,nilSl,nilIf,nilFn,nilMap,nilCheckA,if_true,if_false,lt_lit,le_lit,lt_lit2,le_lit2,le_sub1,le_sub2]; rfl
        apply evI_seq
        · simp only [l11,hTb,hTi,eC_len,eC_take,eC_one,eC_0,eC_1,eC_2,eC_3,eC_4,eCr,eCr_0,eCr_1,eCr_2,eCr_3,eCr_4,List.length_drop,Nat.reduceSub,ZR,atr,Zs,Zr,Zp,Za,Zb,evI,opsI,stepI,wantI,opI,AAct.evI,look,AAct.put,mkVal,mkVM,intOpA,intA,shiftA,unA,ZP,ZO,Zh,Zt,reduceIte,Nat.reduceEqDiff,Nat.reduceLT,Zo,Zq,true_and,and_true,and_self,ZB,cellsAt,Zg,ZC,Zf,Zk,ZL,ZM,Nat.reduceAdd,Nat.reduceMul,ZN,AV.cells,AV.one,known,Zn,getE_0,getE_k,setE_0,setE_k,Zc,Zd,Zl,Zm,Zi,Zw,Zu,Zj,Z1,Zx,Zy,ZJ,ZI,ZH,ZD,ZE,splice,fillI,Nat.reduceLeDiff,strA,ZK,ZA,Ze,bq_ft,bq_tf,ZG,ZF,ZQ,Zv,Zz,isNilA,nilPtr,nilSl,nilIf,nilFn,nilMap,nilCheckA,if_true,if_false,lt_lit,le_lit,lt_lit2,le_lit2,le_sub1,le_sub2,drawI,drawI2,drawI0,drawI20,lexD,valD,valI,putD,okD,roD,memAt,lastM,wantI,eqv_refl,eqM_refl,eqM_app,eqB,eqvL,eqv,List.getLast?_cons_cons,List.getLast?_singleton,Option.getD_some,Bool.or_true,Bool.true_or,ZA,resvV]; rfl
        simp only [l4,l11,hqL,hsL,hl1,hl6,h100,srcA,held,app2,eC_len,eC_take,eC_one,eC_0,eC_1,eC_2,eC_3,eC_4,eCr,eCr_0,eCr_1,eCr_2,eCr_3,eCr_4,List.length_drop,Nat.reduceSub,ZR,atr,Zs,Zr,Zp,Za,Zb,evI,opsI,stepI,wantI,opI,AAct.evI,look,AAct.put,mkVal,mkVM,intOpA,intA,shiftA,unA,ZP,ZO,Zh,Zt,reduceIte,Nat.reduceEqDiff,Nat.reduceLT,Zo,Zq,true_and,and_true,and_self,ZB,cellsAt,Zg,ZC,Zf,Zk,ZL,ZM,Nat.reduceAdd,Nat.reduceMul,ZN,AV.cells,AV.one,known,Zn,getE_0,getE_k,setE_0,setE_k,Zc,Zd,Zl,Zm,Zi,Zw,Zu,Zj,Z1,Zx,Zy,ZJ,ZI,ZH,ZD,ZE,splice,fillI,Nat.reduceLeDiff,strA,ZK,ZA,Ze,bq_ft,bq_tf,ZG,ZF,ZQ,Zv,Zz,isNilA,nilPtr,nilSl,nilIf,nilFn,nilMap,nilCheckA,if_true,if_false,lt_lit,le_lit,lt_lit2,le_lit2,le_sub1,le_sub2]; rfl
      case sc1 => exact l1
      case sc4 => rfl
      case sc5 => exact l5
end
theorem rstys_loop (P : Program) (N n : Nat) (hN : 9223372036854775808 ≤ N) (e : El) (hfit : ∀ x ∈ e.kids, Fits x) (hek : e.kids.length ≤ 1073741824) (H : Mem) (pe : Nat) (hpe : H[pe]? = some (.row (eC e) 0 (25 + 1))) : ∀ (fuel k : Nat) (l : List St) (v : AV) (M : Mem), k ≤ e.kids.length → e.kids.length - k < fuel → l.length ≤ k → Starts H M → Grows H.length 6 (48 + 1) l.length (stsC l) v M →
    ∃ r, loopA (fun a H => evI P cfg (evFI P cfg T N (n + 3)) N loopRStys a H) (some [1, 4, 5]) fuel ⟨111, [(1, .ptr pe 0 0), (4, v), (5, .int .i64 k)], []⟩ M = some r ∧ StysEnd H 111 (stysIn (e.kids.drop k) l) r
  | 0, k, _, _, _, _, h, _, _, _ => by omega
  | fuel + 1, k, l, v, M, hk, hf, hlk, hst, hg => by
    have hpl : pe < H.length := (List.getElem?_eq_some_iff.1 hpe).1
    have hE : ∀ L, (M ++ L)[pe]? = some (.row (eC e) 0 (25 + 1)) := fun L => by rw [(hst.app L).get hpl]; exact hpe
    have hE0 : M[pe]? = some (.row (eC e) 0 (25 + 1)) := by rw [hst.get hpl]; exact hpe
    rcases Nat.lt_or_ge k e.kids.length with hlt | hge
    · obtain ⟨x, hx⟩ := all_drop hlt
      have hxm : x ∈ e.kids := List.mem_of_mem_drop (i := k) (by rw [hx]; exact List.mem_cons_self)
      have hfx := hfit x hxm
      have hget : (kC e.kids).drop (k * 5) = eC x ++ kC (e.kids.drop (k + 1)) := by rw [kC_drop, hx]; rfl
      have hlen : k * 5 + 5 ≤ (kC e.kids).length := by rw [kC_len]; omega
      have hi : (k : Int) < (e.kids.length : Int) := by omega
      have hw := wrap_next hlt (by omega)
      have hn := natOf_nat k .i64
      have ih := rstys_loop P N n hN e hfit hek H pe hpe fuel (k + 1)
      rw [hx]
      cases hs : isSty x
      · have hgo : ∀ X : Mem, ∀ M', (M' = M ++ X ∨ (M' = (M ++ X).take M.length ∧ lowT M.length [(1, .ptr pe 0 0), (4, v), (5, .int .i64 (k + 1 : Nat))] = true)) → ∃ r, loopA (fun a H => evI P cfg (evFI P cfg T N (n + 3)) N loopRStys a H) (some [1, 4, 5]) fuel ⟨111, [(1, .ptr pe 0 0), (4, v), (5, .int .i64 (k + 1 : Nat))], []⟩ M' = some r ∧ StysEnd H 111 (stysIn (x :: e.kids.drop (k + 1)) l) r := by
          intro X
          rw [stysIn_no x _ l hs]
          rintro M' (rfl | ⟨rfl, _⟩)
          · exact ih l v _ (by omega) (by omega) (by omega) (hst.app X) (hg.app X)
          · rw [List.take_left]
            exact ih l v M (by omega) (by omega) (by omega) hst hg
        have hTy := fun H => rget_eq P N (n + 2) hN wNs typeS x hfx.ats H
        have ha1 : (getIn wNs typeS x.ats).getD [] = attrOf x typeS := rfl
        rw [ha1] at hTy
        have hst' : isSty x = (x.sp == wNs && (x.nm == styleS && (attrOf x typeS == paraS || attrOf x typeS == charS))) := rfl
        rw [hs] at hst'
        generalize (getIn wNs typeS x.ats).isSome = gs1 at *
        generalize attrOf x typeS = ki at *
        simp only [typeS,wNs] at hTy
        unfold wNs styleS paraS charS at hst'
        cases h1 : (x.sp == [104, 116, 116, 112, 58, 47, 47, 115, 99, 104, 101, 109, 97, 115, 46, 111, 112, 101, 110, 120, 109, 108, 102, 111, 114, 109, 97, 116, 115, 46, 111, 114, 103, 47, 119, 111, 114, 100, 112, 114, 111, 99, 101, 115, 115, 105, 110, 103, 109, 108, 47, 50, 48, 48, 54, 47, 109, 97, 105, 110])
        · exact loopA_going (by simp only [loopRStys,I7,IC.loops,Za,hi,hlt,hlen,hget,hn,hw,hTy,h1,hE,hE0,eC_len,eC_take,eC_one,eC_0,eC_1,eC_2,eC_3,eC_4,eCr,eCr_0,eCr_1,eCr_2,eCr_3,eCr_4,List.length_drop,Nat.reduceSub,ZR,atr,Zs,Zr,Zp,Za,Zb,evI,opsI,stepI,wantI,opI,AAct.evI,look,AAct.put,mkVal,mkVM,intOpA,intA,shiftA,unA,ZP,ZO,Zh,Zt,reduceIte,Nat.reduceEqDiff,Nat.reduceLT,Zo,Zq,true_and,and_true,and_self,ZB,cellsAt,Zg,ZC,Zf,Zk,ZL,ZM,Nat.reduceAdd,Nat.reduceMul,ZN,AV.cells,AV.one,known,Zn,getE_0,getE_k,setE_0,setE_k,Zc,Zd,Zl,Zm,Zi,Zw,Zu,Zj,Z1,Zx,Zy,ZJ,ZI,ZH,ZD,ZE,splice,fillI,Nat.reduceLeDiff,strA,ZK,ZA,Ze,bq_ft,bq_tf,ZG,ZF,ZQ,Zv,Zz,isNilA,nilPtr,nilSl,nilIf,nilFn,nilMap,nilCheckA,if_true,if_false,lt_lit,le_lit,lt_lit2,le_lit2,le_sub1,le_sub2]; rfl) (hgo _)
        cases h2 : (x.nm == [115, 116, 121, 108, 101])
        · exact loopA_going (by simp only [loopRStys,I7,IC.loops,Za,hi,hlt,hlen,hget,hn,hw,hTy,h1,h2,hE,hE0,eC_len,eC_take,eC_one,eC_0,eC_1,eC_2,eC_3,eC_4,eCr,eCr_0,eCr_1,eCr_2,eCr_3,eCr_4,List.length_drop,Nat.reduceSub,ZR,atr,Zs,Zr,Zp,Za,Zb,evI,opsI,stepI,wantI,opI,AAct.evI,look,AAct.put,mkVal,mkVM,intOpA,intA,shiftA,unA,ZP,ZO,Zh,Zt,reduceIte,Nat.reduceEqDiff,Nat.reduceLT,Zo,Zq,true_and,and_true,and_self,ZB,cellsAt,Zg,ZC,Zf,Zk,ZL,ZM,Nat.reduceAdd,Nat.reduceMul,ZN,AV.cells,AV.one,known,Zn,getE_0,getE_k,setE_0,setE_k,Zc,Zd,Zl,Zm,Zi,Zw,Zu,Zj,Z1,Zx,Zy,ZJ,ZI,ZH,ZD,ZE,splice,fillI,Nat.reduceLeDiff,strA,ZK,ZA,Ze,bq_ft,bq_tf,ZG,ZF,ZQ,Zv,Zz,isNilA,nilPtr,nilSl,nilIf,nilFn,nilMap,nilCheckA,if_true,if_false,lt_lit,le_lit,lt_lit2,le_lit2,le_sub1,le_sub2]; rfl) (hgo _)
        rw [h1, h2, Bool.true_and, Bool.true_and] at hst'
        have h34 := hst'.symm
        simp only [Bool.or_eq_false_iff] at h34
        obtain ⟨h3, h4⟩ := h34
        exact loopA_going (by simp only [loopRStys,I7,IC.loops,Za,hi,hlt,hlen,hget,hn,hw,hTy,h1,h2,h3,h4,hE,hE0,eC_len,eC_take,eC_one,eC_0,eC_1,eC_2,eC_3,eC_4,eCr,eCr_0,eCr_1,eCr_2,eCr_3,eCr_4,List.length_drop,Nat.reduceSub,ZR,atr,Zs,Zr,Zp,Za,Zb,evI,opsI,stepI,wantI,opI,AAct.evI,look,AAct.put,mkVal,mkVM,intOpA,intA,shiftA,unA,ZP,ZO,Zh,Zt,reduceIte,Nat.reduceEqDiff,Nat.reduceLT,Zo,Zq,true_and,and_true,and_self,ZB,cellsAt,Zg,ZC,Zf,Zk,ZL,ZM,Nat.reduceAdd,Nat.reduceMul,ZN,AV.cells,AV.one,known,Zn,getE_0,getE_k,setE_0,setE_k,Zc,Zd,Zl,Zm,Zi,Zw,Zu,Zj,Z1,Zx,Zy,ZJ,ZI,ZH,ZD,ZE,splice,fillI,Nat.reduceLeDiff,strA,ZK,ZA,Ze,bq_ft,bq_tf,ZG,ZF,ZQ,Zv,Zz,isNilA,nilPtr,nilSl,nilIf,nilFn,nilMap,nilCheckA,if_true,if_false,lt_lit,le_lit,lt_lit2,le_lit2,le_sub1,le_sub2]; rfl) (hgo _)
      · rw [stysIn_yes x _ l hs]
        have hnext : ∀ v' M', Starts H M' → Grows H.length 6 (48 + 1) (l.length + 1) (stsC l ++ stC (styU x)) v' M' → ∃ r, loopA (fun a H => evI P cfg (evFI P cfg T N (n + 3)) N loopRStys a H) (some [1, 4, 5]) fuel ⟨111, [(1, .ptr pe 0 0), (4, v'), (5, .int .i64 (k + 1 : Nat))], []⟩ M' = some r ∧ StysEnd H 111 (stysIn (e.kids.drop (k + 1)) (l ++ [styU x])) r := by
          intro v' M' h5 h6
          refine ih (l ++ [styU x]) v' M' (by omega) (by omega) (by simp; omega) h5 ?_
          rw [stsC_snoc, List.length_append]; exact h6
        clear ih
        have hQ : l = [] ∧ v = .nilS ∨ ∃ q st, v = .slc q 0 l.length 6 st ∧ M[q]? = some (.row (stsC l) st (48 + 1)) := by
          rcases hg with ⟨h, _, h'⟩ | ⟨q, st, h1, h2, h3⟩
          · exact .inl ⟨List.eq_nil_of_length_eq_zero h, h'⟩
          · exact .inr ⟨q, st, h1, h3⟩
        obtain ⟨t, l1, l4, l5, l6, l11, l14, hpre⟩ := rsty_pre P N n hN x hfx M e.kids k pe v e rfl hlt hget hE hs [(31, .bool true), (30, .int .i64 e.kids.length), (29, .lst e.kids.length (kC e.kids)), (28, .ptr pe 4 0), (27, .int .i64 k), (1, .ptr pe 0 0), (4, v), (5, .int .i64 k)] rfl rfl rfl
        obtain ⟨t', v', m1, m4, m5, hpost⟩ := rsty_post P N n hN x hfx M k pe v (styU x) _ (.row (eC (kidOf x pPrS)) 0 (25 + 1)) l (by omega) hQ rfl rfl t l1 l4 l5 l6 l11 l14
        rcases hpost with ⟨rfl, rfl, rfl, x1, x2, x3, x4, x5, hpost⟩ | ⟨q, st, L, rfl, hq, rfl, hpost⟩
        · refine loopA_going (a' := ?aa) (H' := ?Ha) ?hb ?hn
          case hb =>
            apply evI_seq
            · simp only [hi,hE0,eC_len,eC_take,eC_one,eC_0,eC_1,eC_2,eC_3,eC_4,eCr,eCr_0,eCr_1,eCr_2,eCr_3,eCr_4,List.length_drop,Nat.reduceSub,ZR,atr,Zs,Zr,Zp,Za,Zb,evI,opsI,stepI,wantI,opI,AAct.evI,look,AAct.put,mkVal,mkVM,intOpA,intA,shiftA,unA,ZP,ZO,Zh,Zt,reduceIte,Nat.reduceEqDiff,Nat.reduceLT,Zo,Zq,true_and,and_true,and_self,ZB,cellsAt,Zg,ZC,Zf,Zk,ZL,ZM,Nat.reduceAdd,Nat.reduceMul,ZN,AV.cells,AV.one,known,Zn,getE_0,getE_k,setE_0,setE_k,Zc,Zd,Zl,Zm,Zi,Zw,Zu,Zj,Z1,Zx,Zy,ZJ,ZI,ZH,ZD,ZE,splice,fillI,Nat.reduceLeDiff,strA,ZK,ZA,Ze,bq_ft,bq_tf,ZG,ZF,ZQ,Zv,Zz,isNilA,nilPtr,nilSl,nilIf,nilFn,nilMap,nilCheckA,if_true,if_false,lt_lit,le_lit,lt_lit2,le_lit2,le_sub1,le_sub2]; rfl
            apply evI_seq
            · apply evI_block
              exact hpre.trans hpost
            simp only [m5,hw,Zs,Zr,Zp,Za,Zb,evI,opsI,stepI,wantI,opI,AAct.evI,look,AAct.put,mkVal,mkVM,intOpA,intA,shiftA,unA,ZP,ZO,Zh,Zt,reduceIte,Nat.reduceEqDiff,Nat.reduceLT,Zo,Zq,true_and,and_true,and_self,ZB,cellsAt,Zg,ZC,Zf,Zk,ZL,ZM,Nat.reduceAdd,Nat.reduceMul,ZN,AV.cells,AV.one,known,Zn,getE_0,getE_k,setE_0,setE_k,Zc,Zd,Zl,Zm,Zi,Zw,Zu,Zj,Z1,Zx,Zy,ZJ,ZI,ZH,ZD,ZE,splice,fillI,Nat.reduceLeDiff,strA,ZK,ZA,Ze,bq_ft,bq_tf,ZG,ZF,ZQ,Zv,Zz,isNilA,nilPtr,nilSl,nilIf,nilFn,nilMap,nilCheckA,if_true,if_false,lt_lit,le_lit,lt_lit2,le_lit2,le_sub1,le_sub2]; rfl
          case hn =>
            simp only [AAct.keepT,Zv,Zz,look,reduceIte,Nat.reduceEqDiff,m1,m4]
            rintro M' (rfl | ⟨rfl, hlow⟩)
            · refine hnext _ _ (hst.app _) (.inr ⟨M.length + 5, 0, rfl, by have := hst.len; omega, ?_⟩)
              rw [getE_k]; rfl
            · exfalso
              simp [lowT, low] at hlow
              omega
        · have hHq : H.length ≤ q := by
            rcases hg with ⟨_, _, h⟩ | ⟨q', st', h1, h2, _⟩
            · cases h
            · injection h1 with h1; omega
          have hql := (List.getElem?_eq_some_iff.1 hq).1
          have hend : Grows H.length 6 (48 + 1) (l.length + 1) (stsC l ++ stC (styU x)) (.slc q 0 (l.length + 1) 6 (st + 1)) (M.set q (.row (stsC l ++ stC (styU x)) (st + 1) (48 + 1))) :=
            .inr ⟨q, st + 1, rfl, hHq, by rw [List.getElem?_set_self hql]⟩
          refine loopA_going (a' := ?ab) (H' := ?Hb) ?hb ?hn
          case hb =>
            apply evI_seq
            · simp only [hi,hE0,eC_len,eC_take,eC_one,eC_0,eC_1,eC_2,eC_3,eC_4,eCr,eCr_0,eCr_1,eCr_2,eCr_3,eCr_4,List.length_drop,Nat.reduceSub,ZR,atr,Zs,Zr,Zp,Za,Zb,evI,opsI,stepI,wantI,opI,AAct.evI,look,AAct.put,mkVal,mkVM,intOpA,intA,shiftA,unA,ZP,ZO,Zh,Zt,reduceIte,Nat.reduceEqDiff,Nat.reduceLT,Zo,Zq,true_and,and_true,and_self,ZB,cellsAt,Zg,ZC,Zf,Zk,ZL,ZM,Nat.reduceAdd,Nat.reduceMul,ZN,AV.cells,AV.one,known,Zn,getE_0,getE_k,setE_0,setE_k,Zc,Zd,Zl,Zm,Zi,Zw,Zu,Zj,Z1,Zx,Zy,ZJ,ZI,ZH,ZD,ZE,splice,fillI,Nat.reduceLeDiff,strA,ZK,ZA,Ze,bq_ft,bq_tf,ZG,ZF,ZQ,Zv,Zz,isNilA,nilPtr,nilSl,nilIf,nilFn,nilMap,nilCheckA,if_true,if_false,lt_lit,le_lit,lt_lit2,le_lit2,le_sub1,le_sub2]; rfl
            apply evI_seq
            · apply evI_block
              exact hpre.trans hpost
            simp only [m5,hw,Zs,Zr,Zp,Za,Zb,evI,opsI,stepI,wantI,opI,AAct.evI,look,AAct.put,mkVal,mkVM,intOpA,intA,shiftA,unA,ZP,ZO,Zh,Zt,reduceIte,Nat.reduceEqDiff,Nat.reduceLT,Zo,Zq,true_and,and_true,and_self,ZB,cellsAt,Zg,ZC,Zf,Zk,ZL,ZM,Nat.reduceAdd,Nat.reduceMul,ZN,AV.cells,AV.one,known,Zn,getE_0,getE_k,setE_0,setE_k,Zc,Zd,Zl,Zm,Zi,Zw,Zu,Zj,Z1,Zx,Zy,ZJ,ZI,ZH,ZD,ZE,splice,fillI,Nat.reduceLeDiff,strA,ZK,ZA,Ze,bq_ft,bq_tf,ZG,ZF,ZQ,Zv,Zz,isNilA,nilPtr,nilSl,nilIf,nilFn,nilMap,nilCheckA,if_true,if_false,lt_lit,le_lit,lt_lit2,le_lit2,le_sub1,le_sub2]; rfl
          case hn =>
            simp only [AAct.keepT,Zv,Zz,look,reduceIte,Nat.reduceEqDiff,m1,m4]
            rintro M' (rfl | ⟨rfl, hlow⟩)
            · exact hnext _ _ ((hst.set hHq _).app _) (hend.app _)
            · rw [List.take_left' (by simp)]
              exact hnext _ _ (hst.set hHq _) hend
    · have hk' : k = e.kids.length := by omega
      subst hk'
      simp only [List.drop_length]
      refine ⟨_, loopA_exit (by simp only [loopRStys,I7,IC.loops,Za,Int.lt_irrefl,hE0,eC_len,eC_take,eC_one,eC_0,eC_1,eC_2,eC_3,eC_4,eCr,eCr_0,eCr_1,eCr_2,eCr_3,eCr_4,List.length_drop,Nat.reduceSub,ZR,atr,Zs,Zr,Zp,Za,Zb,evI,opsI,stepI,wantI,opI,AAct.evI,look,AAct.put,mkVal,mkVM,intOpA,intA,shiftA,unA,ZP,ZO,Zh,Zt,reduceIte,Nat.reduceEqDiff,Nat.reduceLT,Zo,Zq,true_and,and_true,and_self,ZB,cellsAt,Zg,ZC,Zf,Zk,ZL,ZM,Nat.reduceAdd,Nat.reduceMul,ZN,AV.cells,AV.one,known,Zn,getE_0,getE_k,setE_0,setE_k,Zc,Zd,Zl,Zm,Zi,Zw,Zu,Zj,Z1,Zx,Zy,ZJ,ZI,ZH,ZD,ZE,splice,fillI,Nat.reduceLeDiff,strA,ZK,ZA,Ze,bq_ft,bq_tf,ZG,ZF,ZQ,Zv,Zz,isNilA,nilPtr,nilSl,nilIf,nilFn,nilMap,nilCheckA,if_true,if_false,lt_lit,le_lit,lt_lit2,le_lit2,le_sub1,le_sub2]; rfl), ?_⟩
      refine ⟨hst, rfl, rfl, rfl, ?_⟩
      unfold stysIn
      rw [List.filter_nil, List.map_nil, List.append_nil]
      exact hg
theorem stsC_low (n : Nat) : ∀ l : List St, lowL n (stsC l) = true
  | [] => rfl
  | x :: l => by
    have := stsC_low n l
    simp only [stsC,List.flatMap_cons] at *
    rw [lowL_app, this]; rfl
theorem stsC_frz (n0 : Nat) (H : Mem) (k : Nat) : ∀ l : List St, frzL (frz n0 H (k + 1)) (stsC l) = some (stsC l)
  | [] => rfl
  | x :: l => by
    have := stsC_frz n0 H k l
    simp only [stsC,List.flatMap_cons] at *
    exact frzL_app _ _ _ _ _ rfl this
theorem fin_stys {H M : Mem} (h : Starts H M) {n0 ty : Nat} (h0 : H.length ≤ n0) {l : List St} {v : AV} (hg : Grows n0 6 ty l.length (stsC l) v M) (k : IntKind) (z : Int) :
    finish false H (.tup [v, .int k z]) M = (.tup [.lst l.length (stsC l), .int k z], H) := by
  have hl : low H.length (.tup [.lst l.length (stsC l), .int k z]) = true := by simp [low, lowL, stsC_low]
  rcases hg with ⟨h1, h2, rfl⟩ | ⟨q, st, rfl, h1, h2⟩
  · rw [h2, h1] at hl ⊢
    exact fin_ok h rfl hl
  · refine fin_ok h (frz_tup ?_) hl
    rw [frzL_cons (frz_slc (by omega) h2 (by rw [stsC_len]; omega) (cs' := stsC l) ?_) (frzL_cons rfl rfl)]
    rw [List.drop_zero, List.take_of_length_le (by rw [stsC_len]; omega)]
    exact stsC_frz _ _ _ _
def stylesS : List UInt8 := [115, 116, 121, 108, 101, 115]
def isStys (e : El) : Bool := e.sp == wNs && e.nm == stylesS
def stysR (e : El) : AV := if isStys e = true then (if okP (stysIn e.kids []) = true then .tup [.lst (stysIn e.kids []).length (stsC (stysIn e.kids [])), .int .i64 0] else .tup [.lst 0 [], .int .i64 17]) else .tup [.lst 0 [], .int .i64 3]
theorem stysIn_rng (xs : List El) : ∀ s ∈ stysIn xs [], Rng s := by
  intro s hs
  unfold stysIn at hs
  rw [List.nil_append] at hs
  obtain ⟨x, _, rfl⟩ := List.mem_map.1 hs
  exact styU_rng x
theorem stysIn_len (xs : List El) : (stysIn xs []).length ≤ xs.length := by
  unfold stysIn
  rw [List.nil_append, List.length_map]
  exact List.length_filter_le _ _
theorem Grows.slc {M : Mem} {n0 ty : Nat} {l : List St} {v : AV} (h : Grows n0 6 ty l.length (stsC l) v M) : SlC M v l := by
  rcases h with ⟨h1, _, h2⟩ | ⟨q, st, h1, _, h2⟩
  · exact .inl ⟨List.eq_nil_of_length_eq_zero h1, h2⟩
  · exact .inr ⟨q, st, ty, h1, h2⟩
end Go.Proofs.YtlimneghgioeaaaGreatDoor.Ev
