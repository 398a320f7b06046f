/- Parts of one proof. -/
import Derived.Test.YtmhhddhbdbcmbaaGreatDoorMdi
import Derived.Test.YtmhhddhbdbcmbaaGreatDoorMdj
set_option linter.all false
namespace Go.Proofs.YtmhhddhbdbcmbaaGreatDoor.Ev
open Nat (reduceEqDiff reduceLT reduceAdd reduceMul reduceLeDiff reduceSub)
open Go.Proofs.YtmhhddhbdbcmbaaGreatDoor.Ic
set_option maxRecDepth 100000
set_option maxHeartbeats 4000000
theorem rpc_pre (F:Xc5) (N:Nat) (x ee:El) (k:Nat) (hlt:k<ee.kids.length) (hget:(kC ee.kids).drop (k*5)=eC x++kC (ee.kids.drop (k+1))) (hsp:(x.sp == wNs)=true) (M:Mem) (p4:Nat) (t0' t10 t11 v:AV) (hp4:M[p4]? = some (.row (eC ee) 0 (25+1))) (t0:List (Nat × AV)) (l0:Xad t0 0=t0') (l4:Xad t0 4=.ptr p4 0 0) (l10:Xad t0 10=t10) (l11:Xad t0 11=t11) (l12:Xad t0 12=v) (l13:Xad t0 13=.int .i64 k) :
  ∃ t,Xad t 0=t0'∧Xad t 4=.ptr p4 0 0∧Xad t 10=t10∧Xad t 11=t11∧Xad t 12=v∧Xad t 13=.int .i64 k∧Xad t 14=.ptr M.length 0 0 ∧
   evI Tryz.prog cfg F N Xfs ⟨121,t0,[]⟩ M=evI Tryz.prog cfg F N Xid ⟨121,t,[]⟩ (M++[.row (eC x) 0 (25+1)]):=by
 have hlen:k*5+5≤(kC ee.kids).length:=by rw [Xen]; omega
 have hn:=Xan k .i64
 have hp42:∀ L:Mem,(M++L)[p4]? = some (.row (eC ee) 0 (25+1)):=fun L=>Xax hp4 L
 simp only [wNs] at hsp
 refine ⟨?ta,?a0,?a4,?a10,?a11,?a12,?a13,?a14,?am⟩
 case am =>
  apply Xaa
  ·simp only [l4,l13,hp4,hp42,hlt,hlen,hget,hn,reduceSub,reduceIte,reduceEqDiff,reduceLT,reduceAdd,reduceMul,reduceLeDiff,ZS,ZT]; rfl
  apply Xaa
  ·simp only [hsp,reduceSub,reduceIte,reduceEqDiff,reduceLT,reduceAdd,reduceMul,reduceLeDiff,ZS,ZT]; rfl
  rfl
 case a0=>exact l0
 case a4=>exact l4
 case a10=>exact l10
 case a11=>exact l11
 case a12=>exact l12
 case a13=>exact l13
 all_goals rfl
theorem rpc_out (F:Xc5) (N:Nat) (x ee:El) (k:Nat) (hlt:k<ee.kids.length) (hget:(kC ee.kids).drop (k*5)=eC x++kC (ee.kids.drop (k+1))) (hsp:(x.sp == wNs)=false) (M:Mem) (p4:Nat) (t0' t10 t11 v:AV) (hp4:M[p4]? = some (.row (eC ee) 0 (25+1))) (t0:List (Nat × AV)) (l0:Xad t0 0=t0') (l4:Xad t0 4=.ptr p4 0 0) (l10:Xad t0 10=t10) (l11:Xad t0 11=t11) (l12:Xad t0 12=v) (l13:Xad t0 13=.int .i64 k) :
  ∃ t,Xad t 0=t0'∧Xad t 4=.ptr p4 0 0∧Xad t 10=t10∧Xad t 11=t11∧Xad t 12=v∧Xad t 13=.int .i64 k ∧
   evI Tryz.prog cfg F N Xfs ⟨121,t0,[]⟩ M=some (.exit 1,⟨121,t,[]⟩,M++[.row (eC x) 0 (25+1)]):=by
 have hlen:k*5+5≤(kC ee.kids).length:=by rw [Xen]; omega
 have hn:=Xan k .i64
 have hp42:∀ L:Mem,(M++L)[p4]? = some (.row (eC ee) 0 (25+1)):=fun L=>Xax hp4 L
 simp only [wNs] at hsp
 refine ⟨?ta,?a0,?a4,?a10,?a11,?a12,?a13,?am⟩
 case am =>
  apply Xaa
  ·simp only [l4,l13,hp4,hp42,hlt,hlen,hget,hn,reduceSub,reduceIte,reduceEqDiff,reduceLT,reduceAdd,reduceMul,reduceLeDiff,ZS,ZT]; rfl
  apply Xbd
  simp only [hsp,reduceSub,reduceIte,reduceEqDiff,reduceLT,reduceAdd,reduceMul,reduceLeDiff,ZS,ZT]; rfl
 case a0=>exact l0
 case a4=>exact l4
 case a10=>exact l10
 case a11=>exact l11
 case a12=>exact l12
 case a13=>exact l13
def RPcsEnd (lb:Nat) (H:Mem) (px g e:Nat) (vr vs:AV) (L:Mem) (l:List Rn):Out × AAct × Mem→Prop
 | (o,a,M')=>o=.exit 0∧a.n=121∧a.d=[]∧Xak (H.set px (Xa0 vr vs g e)++L) M'∧Xb6 lb M'=true∧Xbr (H.length+L.length) 9 (43+1) l.length (Xat l) (Xad a.t 12) M'
section
variable {N:Nat} (hN:9223372036854775808≤N)
include hN
theorem Xti (lb m:Nat) (ee:El) (hx:∀ x ∈ ee.kids,Lim x) (hm:∀ x ∈ ee.kids,dEl x+8≤m) (hkl:ee.kids.length<1073741824) (rels:List Rl) (hl:rels.length≤4611686018427387904) (kind style:Int) (H L:Mem) (hlb:lb≤H.length) (px g g0 e0:Nat) (vr vs:AV) (hpx:H[px]? = some (Xa0 vr vs g0 e0)) (hv:RlV H vr rels) (hvl:∀ e,Xcn lb (Xa0 vr vs g e)=true) (hL:L[0]? = some (.row (eC ee) 0 (25+1))):∀ (fuel k e:Nat) (acc:List Rn) (v:AV) (M:Mem),k≤ee.kids.length→ee.kids.length-k<fuel→acc.length≤k→Xak (H.set px (Xa0 vr vs g e)++L) M→Xb6 lb M=true→Xbr (H.length+L.length) 9 (43+1) acc.length (Xat acc) v M →
  ∃ r,Xa6 (fun a H=>evI Tryz.prog cfg (Xaw Tryz.prog cfg T N m) N Xfv a H) (some [0,4,10,11,12,13]) fuel ⟨121,[(0,.ptr px 0 0),(4,.ptr H.length 0 0),(10,.int .i64 style),(11,.int .i64 kind),(12,v),(13,.int .i64 k)],[]⟩ M=some r∧RPcsEnd lb H px g (erN e (Xg0 rels kind style (ee.kids.drop k)).2) vr vs L (acc++(Xg0 rels kind style (ee.kids.drop k)).1) r
 | 0,k,_,_,_,_,_,h,_,_,_,_=>by omega
 | fuel+1,k,e,acc,v,M,hk,hf,ha,hst,hlo,hg=>by
  have hp4:M[H.length]? = some (.row (eC ee) 0 (25+1)):=hst.get0 (by rw [Xgx]; exact hL)
  rcases Nat.lt_or_ge k ee.kids.length with hlt | hge
  ·obtain ⟨x,hxx⟩:=Xbb hlt
   have hxm:x ∈ ee.kids:=List.mem_of_mem_drop (i:=k) (by rw [hxx]; exact List.mem_cons_self)
   have hget:(kC ee.kids).drop (k*5)=eC x++kC (ee.kids.drop (k+1)):=by rw [Xd1,hxx]; rfl
   have hi:(k:Int)<(ee.kids.length:Int):=by omega
   have hw:=Xav hlt (by omega)
   have hHL:H.length+L.length≤M.length:=Xfe hst
   have hpl:px<H.length:=(List.getElem?_eq_some_iff.1 hpx).1
   have ih:=Xti lb m ee hx hm hkl rels hl kind style H L hlb px g g0 e0 vr vs hpx hv hvl hL fuel (k+1)
   rw [hxx]
   have e1:(Xg0 rels kind style (x::ee.kids.drop (k+1))).1=(pcD rels kind style x).1.toList++(Xg0 rels kind style (ee.kids.drop (k+1))).1:=rfl
   have e2:(Xg0 rels kind style (x::ee.kids.drop (k+1))).2=((pcD rels kind style x).2 || (Xg0 rels kind style (ee.kids.drop (k+1))).2):=rfl
   rw [e1,e2,← erN_or,← List.append_assoc]
   have hbase:∀ b:Blk,(H.set px b++L).length=H.length+L.length:=fun b=>by rw [List.length_append,List.length_set]
   -- a round's end
   have next:∀ (a':AAct) (W:Mem) (e':Nat) (acc':List Rn),evI Tryz.prog cfg (Xaw Tryz.prog cfg T N m) N (IC.block 1 Xfs) ⟨121,[(43,.bool true),(42,.int .i64 ee.kids.length),(41,.lst ee.kids.length (kC ee.kids)),(40,.ptr H.length 4 0),(39,.int .i64 k),(0,.ptr px 0 0),(4,.ptr H.length 0 0),(10,.int .i64 style),(11,.int .i64 kind),(12,v),(13,.int .i64 k)],[]⟩ M=some (.normal,a',W)→a'.n=121→a'.d=[]→Xad a'.t 0=.ptr px 0 0→Xad a'.t 4=.ptr H.length 0 0→Xad a'.t 10=.int .i64 style→Xad a'.t 11=.int .i64 kind→Xad a'.t 13=.int .i64 k→Xak (H.set px (Xa0 vr vs g e')++L) W→Xb6 lb W=true→Xbr (H.length+L.length) 9 (43+1) acc'.length (Xat acc') (Xad a'.t 12) W→acc'.length≤k+1 →
     ∃ r,Xa6 (fun a H=>evI Tryz.prog cfg (Xaw Tryz.prog cfg T N m) N Xfv a H) (some [0,4,10,11,12,13]) (fuel+1) ⟨121,[(0,.ptr px 0 0),(4,.ptr H.length 0 0),(10,.int .i64 style),(11,.int .i64 kind),(12,v),(13,.int .i64 k)],[]⟩ M=some r∧RPcsEnd lb H px g (erN e' (Xg0 rels kind style (ee.kids.drop (k+1))).2) vr vs L (acc'++(Xg0 rels kind style (ee.kids.drop (k+1))).1) r:=by
    rintro ⟨an,t,ad⟩ W e' acc' hr rfl rfl m0 m4 m10 m11 m13 hW hlW hgW hal
    simp only at hgW
    generalize hv':Xad t 12=v' at *
    refine Xbv (a':=?aa) (H':=W) ?hb ?hn
    case hb =>
     apply Xaa
     ·simp only [hi,hp4,reduceSub,reduceIte,reduceEqDiff,reduceLT,reduceAdd,reduceMul,reduceLeDiff,ZS,ZT]; rfl
     apply Xaa
     ·exact hr
     simp only [m13,hw,reduceIte,reduceEqDiff,reduceLT,reduceAdd,reduceMul,reduceLeDiff,ZS]; rfl
    case hn =>
     simp only [AAct.keepT,Zv,Zz,Xad,reduceIte,reduceEqDiff,m0,m4,m10,m11,hv']
     intro M' hM'
     have hM2:M'=W∨(M'=W.take M.length∧low M.length v'=true):=by
      rcases hM' with h | ⟨h,h2⟩
      ·exact .inl h
      ·refine .inr ⟨h,?_⟩
       unfold Xto at h2
       exact List.all_eq_true.1 h2 (12,v') (by simp)
     obtain ⟨k1,k2⟩:=Xdl hW hgW (by rw [hbase]; exact hHL) hM2
     have k3:Xb6 lb M'=true:=by
      rcases hM2 with h | ⟨h,_⟩
      ·rw [h]; exact hlW
      ·rw [h]; exact Xhi hlW
     exact ih e' acc' v' M' (by omega) (by omega) hal k1 k3 k2
   cases hsp:(x.sp == wNs)
   ·have e3:pcD rels kind style x=(none,false):=by unfold pcD; rw [hsp]; rfl
    rw [e3]
    obtain ⟨t,m0,m4,m10,m11,m12,m13,hr⟩:=rpc_out (Xaw Tryz.prog cfg T N m) N x ee k hlt hget hsp M H.length (.ptr px 0 0) (.int .i64 style) (.int .i64 kind) v hp4 [(43,.bool true),(42,.int .i64 ee.kids.length),(41,.lst ee.kids.length (kC ee.kids)),(40,.ptr H.length 4 0),(39,.int .i64 k),(0,.ptr px 0 0),(4,.ptr H.length 0 0),(10,.int .i64 style),(11,.int .i64 kind),(12,v),(13,.int .i64 k)] rfl rfl rfl rfl rfl rfl
    rw [Xgi]
    simp only [Option.toList,Zs]
    exact next _ _ e acc (Xab hr) rfl rfl m0 m4 m10 m11 m13 (hst.app _) (by rw [Xcp,hlo]; simp [Xb6,Xcn,Xay]) (by simp only [m12]; exact hg.app _) (by omega)
   obtain ⟨t,m0,m4,m10,m11,m12,m13,m14,hpre⟩:=rpc_pre (Xaw Tryz.prog cfg T N m) N x ee k hlt hget hsp M H.length (.ptr px 0 0) (.int .i64 style) (.int .i64 kind) v hp4 [(43,.bool true),(42,.int .i64 ee.kids.length),(41,.lst ee.kids.length (kC ee.kids)),(40,.ptr H.length 4 0),(39,.int .i64 k),(0,.ptr px 0 0),(4,.ptr H.length 0 0),(10,.int .i64 style),(11,.int .i64 kind),(12,v),(13,.int .i64 k)] rfl rfl rfl rfl rfl rfl
   obtain ⟨⟨o,a,W⟩,hmid,rfl,n1,n2,n3,n4,n5,n6,n7,hW,hlW,_,hgW⟩:=rpc_mid (N:=N) hN lb m x (hx x hxm) (hm x hxm) hsp rels hl kind style H hlb L M px H.length g e g0 e0 vr vs hpx hv (hvl e) hst hlo acc (by omega) v hg (.int .i64 k) t m0 m4 m10 m11 m12 m13 m14
   have hol:(pcD rels kind style x).1.toList.length≤1:=by cases (pcD rels kind style x).1 <;> simp
   exact next a W _ _ (Xbh (hpre.trans hmid)) n1 n2 n3 n4 n5 n6 n7 hW hlW hgW (by rw [List.length_append]; omega)
  ·have hk':k=ee.kids.length:=by omega
   subst hk'
   simp only [List.drop_length,Xg0,Zs,Xgi]
   refine ⟨_,Xae (by simp only [Xfv,Xq5,IC.loops,Int.lt_irrefl,hp4,reduceSub,reduceIte,reduceEqDiff,reduceLT,reduceAdd,reduceMul,reduceLeDiff,ZS,ZT]; rfl),rfl,rfl,rfl,hst,hlo,?_⟩
   exact hg
theorem fin_keepR {H0 H M:Mem} (h:Xak H M) (hle:H0.length=H.length) {n0 sz ty n:Nat} {cs:List AV} {v:AV} (hn:H.length≤n0) (hg:Xbr n0 sz ty n cs v M) {m:Nat} (hl:Xb6 m M=true) :
  ∃ M',Xao true H0 v M=(v,M')∧Xak H M'∧Xbr n0 sz ty n cs v M'∧Xb6 m M'=true:=by
 unfold Xao
 simp only [if_true]
 split
 ·rename_i hc
  rw [Bool.and_eq_true] at hc
  refine ⟨_,rfl,h.take (by omega),?_,Xhi hl⟩
  rcases hg with hg | ⟨q,st,rfl,b2,b3⟩
  ·exact .inl hg
  ·have:=of_decide_eq_true hc.1
   omega
 ·exact ⟨_,rfl,h,hg,hl⟩
theorem Xx1 (lb d:Nat) (e:El) (he:Lim e) (hd:dEl e+8≤d) (para:List UInt8) (H:Mem) (hlb:lb≤H.length) (hH:Xb6 lb H=true) (px g er:Nat) (vr vs:AV) (rels:List Rl) (sts:List St) (hl:rels.length≤4611686018427387904) (hs:sts.length≤4611686018427387904) (hx:H[px]? = some (Xa0 vr vs g er)) (hv:RlV H vr rels) (hvs:∀ L,RvN (H++L) vs sts) (hvl:∀ g e,Xcn lb (Xa0 vr vs g e)=true) :
  ∃ v M,Xaw Tryz.prog cfg T N d 108 [.ptr px 0 0,.agg (eC e),.str para] H=some (.ret v,M)∧Xak (H.set px (Xa0 vr vs g (erN er (Xcm rels sts para e).2))) M∧Xb6 lb M=true∧Xbr H.length 9 (43+1) (Xcm rels sts para e).1.length (Xat (Xcm rels sts para e).1) v M:=by
 have h1:=dEl_1 e
 obtain ⟨n,rfl⟩ : ∃ n,d=n+9:=⟨d-9,by omega⟩
 have hx2:∀ L:Mem,(H++L)[px]? = some (Xa0 vr vs g er):=fun L=>Xax hx L
 have hK:=fun H=>Xfl Tryz.prog N (n+6) hN Xg4 e he.1 H
 have hV:=fun H=>Xmy Tryz.prog N (n+5) hN Xdy (kidOf e Xg4) (he.kidOf _).1 H
 have hTi:=fun H=>Xnz Tryz.prog N (n+5) hN iS (kidOf e Xg4) (he.kidOf _).1 H
 have hTb:=fun H=>Xnz Tryz.prog N (n+5) hN bS (kidOf e Xg4) (he.kidOf _).1 H
 have hR:=fun L=>rrun_eq Tryz.prog N (n+8) (by omega) sts (by omega) hs para (Xbf (kidOf e Xg4) Xdy) (Xg2 (kidOf e Xg4) iS) (Xg2 (kidOf e Xg4) bS) vs (H++L) (hvs L)
 have hkind:Xjb e=if (Xbf (kidOf e Xg4) Xdy == Xhf)=true then 2 else 1:=rfl
 have hstyle:Xix sts para e=Xt8 sts para (Xbf (kidOf e Xg4) Xdy) (Xg2 (kidOf e Xg4) iS) (Xg2 (kidOf e Xg4) bS):=rfl
 have hpcs:Xcm rels sts para e=Xg0 rels (Xjb e) (Xix sts para e) e.kids:=rfl
 rw [hpcs]
 rw [← hstyle] at hR
 generalize Xix sts para e=style at *
 generalize Xg2 (kidOf e Xg4) iS=ti at *
 generalize Xg2 (kidOf e Xg4) bS=tb at *
 generalize Xbf (kidOf e Xg4) Xdy=own at *
 generalize Xjb e=kind at *
 generalize (Xbg wNs Xg4 e.kids).isSome=fs at *
 obtain ⟨kp,hkp⟩ : ∃ kp,kp=kidOf e Xg4:=⟨_,rfl⟩
 rw [← hkp] at hK hV hTi hTb
 have hB:Xak (H.set px (Xa0 vr vs g er)++[.row (eC e) 0 (25+1),.row (eC kp) 0 (25+1)]) (H++[.row (eC e) 0 (25+1),.row (eC kp) 0 (25+1)]):=by
  rw [Xec hx]; exact Xak.refl _
 obtain ⟨⟨o,⟨an,at',ad⟩,M'⟩,hr,rfl,hn,hd0,hst,hlo,hg⟩:=Xti (N:=N) hN lb (n+8) e (fun x hx=>he.kid hx) (fun x hx=>by have:=Xik hx; omega) (by have:=he.kids; omega) rels hl kind style H [.row (eC e) 0 (25+1),.row (eC kp) 0 (25+1)] hlb px g g er vr vs hx hv (hvl g) rfl N 0 er [] .nilS _ (Nat.zero_le _) (by have:=he.kids; omega) (Nat.zero_le _) hB (by rw [Xcp,hH]; simp [Xb6,Xcn,Xay]) (.inl ⟨rfl,rfl,rfl⟩)
 simp only at hd0 hn
 subst hd0 hn
 rw [List.drop_zero,List.nil_append] at hg
 rw [List.drop_zero] at hst
 generalize Xg0 rels kind style e.kids=res at *
 simp only [Xg4] at hK
 simp only [Xdy] at hV
 simp only [iS] at hTi
 simp only [bS] at hTb
 have hstH:=hst.pre
 have hcode:(own == Xhf)=(own == [67,111,100,101,84,101,120,116]):=rfl
 rw [hcode] at hkind
 have pre:∃ a,evI Tryz.prog cfg (Xaw Tryz.prog cfg T N (n+8)) N Xq5.c ⟨121,idx 0 [.ptr px 0 0,.agg (eC e),.str para],[]⟩ H=evI Tryz.prog cfg (Xaw Tryz.prog cfg T N (n+8)) N (Xq5.c.nb 7) a (H++[.row (eC e) 0 (25+1),.row (eC kp) 0 (25+1)])∧a.n=121∧a.d=[]∧Xad a.t 0=.ptr px 0 0∧Xad a.t 4=.ptr H.length 0 0∧Xad a.t 10=.int .i64 style∧Xad a.t 11=.int .i64 kind∧Xad a.t 12=.nilS:=by
  cases h1:(own == [67,111,100,101,84,101,120,116])
  ·rw [h1] at hkind
   have hkind:kind=1:=hkind
   subst hkind
   refine ⟨?pa,?pm,?p1,?p2,?p3,?p4,?p5,?p6,?p7⟩
   case pm =>
    apply Xaa
    ·simp only [idx,reduceIte,reduceEqDiff,reduceLT,reduceAdd,reduceMul,reduceLeDiff,ZS]; rfl
    apply Xaa
    ·simp only [hK,reduceSub,reduceIte,reduceEqDiff,reduceLT,reduceAdd,reduceMul,reduceLeDiff,ZS,ZT]; rfl
    apply Xaa
    ·simp only [hV,reduceSub,reduceIte,reduceEqDiff,reduceLT,reduceAdd,reduceMul,reduceLeDiff,ZS,ZT]; rfl
    apply Xaa
    ·simp only [hTi,hTb,hR,hx2,reduceSub,reduceIte,reduceEqDiff,reduceLT,reduceAdd,reduceMul,reduceLeDiff,ZU,ZS,ZT]; rfl
    apply Xaa
    ·simp only [reduceIte,reduceEqDiff,reduceLT,reduceAdd,reduceMul,reduceLeDiff,ZS]; rfl
    apply Xaa
    ·simp only [h1,reduceIte,reduceEqDiff,reduceLT,reduceAdd,reduceMul,reduceLeDiff,ZS]; rfl
    apply Xaa
    ·simp only [reduceIte,reduceEqDiff,reduceLT,reduceAdd,reduceMul,reduceLeDiff,ZS]; rfl
    rfl
   all_goals rfl
  ·rw [h1] at hkind
   have hkind:kind=2:=hkind
   subst hkind
   refine ⟨?qa,?qm,?q1,?q2,?q3,?q4,?q5,?q6,?q7⟩
   case qm =>
    apply Xaa
    ·simp only [idx,reduceIte,reduceEqDiff,reduceLT,reduceAdd,reduceMul,reduceLeDiff,ZS]; rfl
    apply Xaa
    ·simp only [hK,reduceSub,reduceIte,reduceEqDiff,reduceLT,reduceAdd,reduceMul,reduceLeDiff,ZS,ZT]; rfl
    apply Xaa
    ·simp only [hV,reduceSub,reduceIte,reduceEqDiff,reduceLT,reduceAdd,reduceMul,reduceLeDiff,ZS,ZT]; rfl
    apply Xaa
    ·simp only [hTi,hTb,hR,hx2,reduceSub,reduceIte,reduceEqDiff,reduceLT,reduceAdd,reduceMul,reduceLeDiff,ZU,ZS,ZT]; rfl
    apply Xaa
    ·simp only [reduceIte,reduceEqDiff,reduceLT,reduceAdd,reduceMul,reduceLeDiff,ZS]; rfl
    apply Xaa
    ·simp only [h1,reduceIte,reduceEqDiff,reduceLT,reduceAdd,reduceMul,reduceLeDiff,ZS]; rfl
    apply Xaa
    ·simp only [reduceIte,reduceEqDiff,reduceLT,reduceAdd,reduceMul,reduceLeDiff,ZS]; rfl
    rfl
   all_goals rfl
 obtain ⟨⟨pn,pt,pd⟩,hpre,e1,e2,l0,l4,l10,l11,l12⟩:=pre
 simp only at e1 e2 l0 l4 l10 l11 l12
 subst e1 e2
 obtain ⟨Mf,hf,k1,k2,k3⟩:=fin_keepR (H0:=H) hN hstH (by rw [List.length_set]) (n0:=H.length) (by rw [List.length_set]; exact Nat.le_refl _) (by
  rcases hg with hg | ⟨q,st,b1,b2,b3⟩
  ·exact .inl hg
  ·exact .inr ⟨q,st,b1,by omega,b3⟩ : Xbr H.length 9 (43+1) res.1.length (Xat res.1) (Xad at' 12) M') hlo
 refine ⟨Xad at' 12,Mf,?_,k1,k3,k2⟩
 refine Xac (m:=121) (v:=Xad at' 12) (a:=?ra) (H1:=M') rfl t108 rfl ?hb2 ?hd2 ?hr2 ?hz2
 case hb2 =>
  refine hpre.trans ?_
  apply Xaa
  ·apply Xaa
   ·simp only [reduceIte,reduceEqDiff,reduceLT,reduceAdd,reduceMul,reduceLeDiff,ZS]; rfl
   apply Xab
   apply Xaf
   simp only [AAct.keepT,Zv,Zz,Xad,reduceIte,reduceEqDiff,l0,l4,l10,l11,l12]
   exact hr
  apply Xaa
  ·simp only [reduceIte,reduceEqDiff,reduceLT,reduceAdd,reduceMul,reduceLeDiff,ZS]; rfl
  rfl
 case hd2=>rfl
 case hr2=>simp only [Xq5,Xc6,Xbc,Xad,reduceIte,reduceEqDiff,Zh]
 case hz2=>exact hf
end
theorem Xek {H L M:Mem} {p:Nat} {b b':Blk} (hpl:p<H.length) (h:Xak (H.set p b++L) M):Xak (H.set p b'++L) (M.set p b'):=by
 have h8:(H.set p b++L).set p b'=H.set p b'++L:=by
  rw [List.set_append_left _ _ (by rw [List.length_set]; exact hpl),List.set_set]
 unfold Xak at h ⊢
 rw [← h8,List.length_set,List.take_set,h]
theorem Xqm {n0 sz ty n:Nat} {cs:List AV} {v:AV} {M:Mem} (h:Xbr n0 sz ty n cs v M) {p:Nat} (hp:p<n0) (b:Blk):Xbr n0 sz ty n cs v (M.set p b):=by
 rcases h with h | ⟨q,st,b1,b2,b3⟩
 ·exact .inl h
 ·exact .inr ⟨q,st,b1,b2,by rw [List.getElem?_set_ne (by omega)]; exact b3⟩
theorem Xbr.mono {n0 n1 sz ty n:Nat} {cs:List AV} {v:AV} {M:Mem} (h:Xbr n0 sz ty n cs v M) (hle:n1≤n0):Xbr n1 sz ty n cs v M:=by
 rcases h with h | ⟨q,st,b1,b2,b3⟩
 ·exact .inl h
 ·exact .inr ⟨q,st,b1,by omega,b3⟩
def lkC (h:Lk) (g:Nat):List AV:=[.int .i64 0,.int .i64 0,.str [],.str [],.str [],.bool h.is,.str h.to,.str h.about,.int .i64 (if h.is=true then (g:Int)+1 else 0)]
theorem lkC_same {h:Lk} {g g':Nat} (hg:h.is=true→g=g'):lkC h g=lkC h g':=by
 unfold lkC
 cases hh:h.is
 ·rfl
 ·rw [hg hh]
theorem lkC_no (g:Nat):lkC Xg7 g=[.int .i64 0,.int .i64 0,.str [],.str [],.str [],.bool false,.str [],.str [],.int .i64 0]:=rfl
def Xpw (rels:List Rl) (sts:List St) (para:List UInt8) (m:Nat) (g:Nat) (k:El):List Rn × Nat × Bool:=match Xba nsR idS k.ats with
 | none=>Xbm rels sts para m Xg7 g k.kids
 | some id =>
  let l:=Xbm rels sts para m ⟨true,(Xdp rels id Xdd).getD [],Xc4 (Xc2 k Xcj)⟩ g k.kids
  (l.1,if l.1.length=0 then l.2.1 else l.2.1+1,(Xdp rels id Xdd).isNone || l.2.2)
def Xh9 (rels:List Rl) (sts:List St) (para:List UInt8) (m:Nat) (h:Lk) (g:Nat) (k:El):List Rn × Nat × Bool:=if (k.sp == wNs)=true then (
   if (k.nm == rS)=true then ((Xcm rels sts para k).1.map (Xia h g),g,(Xcm rels sts para k).2)
   else if (k.nm == Xhd || k.nm == insS)=true then Xbm rels sts para m h g k.kids
   else if (k.nm == Xg1 && !h.is)=true then Xpw rels sts para m g k
   else ([],g,false))
   else ([],g,false)
theorem Xf6 (rels:List Rl) (sts:List St) (para:List UInt8) (m:Nat) (h:Lk) (g:Nat) (k:El) (ks:List El):Xbm rels sts para (m+1) h g (k::ks)=((Xh9 rels sts para m h g k).1++(Xbm rels sts para (m+1) h (Xh9 rels sts para m h g k).2.1 ks).1,(Xbm rels sts para (m+1) h (Xh9 rels sts para m h g k).2.1 ks).2.1,(Xh9 rels sts para m h g k).2.2 || (Xbm rels sts para (m+1) h (Xh9 rels sts para m h g k).2.1 ks).2.2):=by
 rw [Xbm]
 rfl
theorem Xwe (rels:List Rl) (kind style:Int):∀ l:List El,(Xg0 rels kind style l).1.length≤wEls l
 | []=>Nat.zero_le _
 | k::ks=>by
  have h1:=Xwe rels kind style ks
  have h2:=Xyd k
  simp only [Xg0,wEls,Zg]
  have h3:(pcD rels kind style k).1.toList.length≤1:=by cases (pcD rels kind style k).1 <;> simp
  omega
theorem Xin (rels:List Rl) (sts:List St) (para:List UInt8) (e:El):(Xcm rels sts para e).1.length≤wEls e.kids:=Xwe _ _ _ _
mutual
theorem Xcx (rels:List Rl) (sts:List St) (para:List UInt8):∀ (m:Nat) (h:Lk) (g:Nat) (l:List El),(Xbm rels sts para m h g l).1.length≤wEls l∧(Xbm rels sts para m h g l).2.1≤g+wEls l
 | 0,_,_,_=>by simp [Xbm]
 | _+1,_,_,[]=>by simp [Xbm]
 | m+1,h,g,k::ks=>by
  have h1:=oneD_len rels sts para m h g k
  have h2:=Xcx rels sts para (m+1) h (Xh9 rels sts para m h g k).2.1 ks
  rw [Xf6]
  simp only [wEls,Zg]
  omega
termination_by m _ _ l=>(m,l.length,0)
theorem oneD_len (rels:List Rl) (sts:List St) (para:List UInt8) (m:Nat) (h:Lk) (g:Nat) (k:El):(Xh9 rels sts para m h g k).1.length≤wEl k∧(Xh9 rels sts para m h g k).2.1≤g+wEl k:=by
 have hw:=Xb2 k
 have hp:=Xin rels sts para k
 have h1:=Xcx rels sts para m h g k.kids
 have h2:=Xcx rels sts para m Xg7 g k.kids
 unfold Xh9
 split
 ·split
  ·simp only [List.length_map]; omega
  ·split
   ·omega
   ·split
    ·unfold Xpw
     split
     ·omega
     ·rename_i id _
      have h3:=Xcx rels sts para m ⟨true,(Xdp rels id Xdd).getD [],Xc4 (Xc2 k Xcj)⟩ g k.kids
      dsimp only
      split <;> omega
    ·simp
 ·simp
termination_by (m+1,0,1)
end
theorem oneD_is (rels:List Rl) (sts:List St) (para:List UInt8) (m:Nat) (h:Lk) (g:Nat) (k:El) (hh:h.is=true):(Xh9 rels sts para m h g k).2.1=g:=by
 unfold Xh9
 split
 ·split
  ·rfl
  ·split
   ·exact Xpq rels sts para m h g k.kids hh
   ·rw [hh,Bool.not_true,Bool.and_false]; rfl
 ·rfl
def RunRes (px:Nat) (vr vs:AV) (R:List Rn × Nat × Bool) (H:Mem):End × Mem→Prop
 | (e,H')=>(R.2.2=true∧e=.pan (Xbw 15)∧∃ g',H'=H.set px (Xcu vr vs g'))∨(R.2.2=false∧e=.ret (.lst R.1.length (Xat R.1))∧H'=H.set px (Xcu vr vs R.2.1))
def Xol (rels:List Rl) (sts:List St) (para:List UInt8) (N d m px:Nat) (vr vs:AV):Prop:=∀ (kids:List El),(∀ x ∈ kids,Lim x)→dEls kids<m→wEls kids≤1048576→∀ (h:Lk) (g:Nat),g+wEls kids≤1099511627776→∀ (H:Mem),LoH H→H[px]? = some (Xcu vr vs g)→RlV H vr rels→SlC H vs sts →
 ∃ r,Xaw Tryz.prog cfg T N d 72 [.ptr px 0 0,.lst kids.length (kC kids),.str para,.agg (lkC h g)] H=some r∧RunRes px vr vs (Xbm rels sts para m h g kids) H r
theorem Xmf (l:List El):l.length≤wEls l:=by
 induction l with
 | nil=>exact Nat.zero_le _
 | cons k ks ih=>have:=Xyd k; simp only [wEls,Zf]; omega
theorem Xhu (n0:Nat) (M:Mem) (l:List Rn):frz n0 M 12 (.lst l.length (Xat l))=some (.lst l.length (Xat l)):=by
 have hl:low n0 (.lst l.length (Xat l))=true:=by simp [low,Xci]
 show (if low n0 (.lst l.length (Xat l))=true then _ else _)=_
 rw [if_pos hl]
section
variable {N:Nat} (hN:9223372036854775808≤N)
include hN
theorem hyp_eq (rels:List Rl) (sts:List St) (para:List UInt8) (d m px:Nat) (vr vs:AV) (hl:rels.length≤4611686018427387904) (hR:Xol rels sts para N d m px vr vs) (hd:9≤d) (k:El) (hk:Lim k) (hm:dEls k.kids<m) (g:Nat) (hg:g+wEl k≤1099511627776) (H:Mem) (hH:LoH H) (hx:H[px]? = some (Xcu vr vs g)) (hv:RlV H vr rels) (hvs:SlC H vs sts) :
  ∃ r,Xaw Tryz.prog cfg T N (d+1) 104 [.ptr px 0 0,.agg (eC k),.str para] H=some r∧RunRes px vr vs (Xpw rels sts para m g k) H r:=by
 obtain ⟨n,rfl⟩ : ∃ n,d=n+9:=⟨d-9,by omega⟩
 have hpl:px<H.length:=(List.getElem?_eq_some_iff.1 hx).1
 have hx2:∀ L:Mem,(H++L)[px]? = some (Xcu vr vs g):=fun L=>Xax hx L
 have hset:∀ (L:Mem) (b:Blk),(H++L).set px b=H.set px b++L:=fun L b=>Xd9 hx L b
 have hw:wEls k.kids+8≤wEl k:=by rw [Xb2]; omega
 have hw2:=hk.2
 have hG:=fun H=>Xnx Tryz.prog N (n+8) hN nsR idS k hk.1.ats H
 have hA:=fun H=>Xuv Tryz.prog N (n+7) hN Xcj k hk.1 H
 have u1:=fun H=>Xgk (N:=N) (n+3) (Xc2 k Xcj) (hk.attr _) (by omega) H
 unfold Xpw
 cases hf:Xba nsR idS k.ats with
 | none =>
  rw [hf] at hG
  simp only [Option.getD_none,Option.isSome_none,nsR,idS] at hG
  have hlo:LoH (H++[Blk.row (eC k) 0 (25+1)]):=hH.app (by simp [Xb6,Xcn,Xay])
  obtain ⟨⟨e,H'⟩,hr,hQ⟩:=hR k.kids (fun x hx=>hk.kid hx) hm (by omega) Xg7 g (by omega) (H++[.row (eC k) 0 (25+1)]) hlo (hx2 _) (hv.app _) (hvs.app _)
  rw [lkC_no] at hr
  dsimp only
  generalize Xbm rels sts para m Xg7 g k.kids=R at *
  rcases hQ with ⟨hb,rfl,g',rfl⟩ | ⟨hb,rfl,rfl⟩
  ·simp only [hset] at hr
   refine ⟨_,Xdu (m:=53) (v:=Xbw 15) (a:=?aa) (H1:=?Ha) rfl t104 rfl ?hb ?hd ?hz,.inl ⟨hb,rfl,g',rfl⟩⟩
   case hb=>simp only [idx,I104,hG,hr,reduceSub,reduceIte,reduceEqDiff,reduceLT,reduceAdd,reduceMul,reduceLeDiff,ZS,ZT]; rfl
   case hd=>rfl
   case hz=>exact Xeb hH (Xes hH hx _) rfl rfl
  ·simp only [hset] at hr
   refine ⟨_,Xac (m:=53) (v:=.lst R.1.length (Xat R.1)) (a:=?ab) (H1:=?Hb) rfl t104 rfl ?hb2 ?hd2 ?hr2 ?hz2,.inr ⟨hb,rfl,rfl⟩⟩
   case hb2=>simp only [idx,I104,hG,hr,reduceSub,reduceIte,reduceEqDiff,reduceLT,reduceAdd,reduceMul,reduceLeDiff,ZS,ZT]; rfl
   case hd2=>rfl
   case hr2=>rfl
   case hz2=>exact Xeb hH (Xes hH hx _) (Xhu _ _ _) (by simp [low,Xci])
 | some id =>
  rw [hf] at hG
  simp only [Option.getD_some,Option.isSome_some,nsR,idS] at hG
  have ht:=fun L=>tgt_eq Tryz.prog clo_t N (n+9) (by omega) id Xdd (H++L) px g vr vs rels (by omega) hl (hx2 L) (hv.app L)
  dsimp only
  cases ho:Xdp rels id Xdd with
  | none =>
   rw [ho] at ht
   simp only [Xdd] at ht
   refine ⟨(.pan (Xbw 15),H),?_,.inl ⟨rfl,rfl,g,(Xec hx).symm⟩⟩
   refine Xdu (m:=53) (v:=Xbw 15) (a:=?ac) (H1:=?Hc) rfl t104 rfl ?hb3 ?hd3 ?hz3
   case hb3=>simp only [idx,I104,hG,ht,hx2,panI,panD,seqD,badD,mayPan,Option.isNone_none,Option.isNone_some,List.foldl_cons,List.foldl_nil,reduceSub,reduceIte,reduceEqDiff,reduceLT,reduceAdd,reduceMul,reduceLeDiff,ZU,ZS,ZT]; rfl
   case hd3=>rfl
   case hz3=>exact Xa4 rfl rfl
  | some to =>
   rw [ho] at ht
   simp only [Xdd] at ht
   simp only [Option.getD_some,Option.isNone_some,Bool.false_or]
   generalize hab:Xc4 (Xc2 k Xcj)=ab at *
   generalize Xc2 k Xcj=av at *
   have hlo:LoH (H++[Blk.row (eC k) 0 (25+1),.row (lkC ⟨true,to,ab⟩ g) 0 (43+1)]):=hH.app (by simp [Xb6,Xcn,Xay,lkC,lowL,low])
   obtain ⟨⟨e,H'⟩,hr,hQ⟩:=hR k.kids (fun x hx=>hk.kid hx) hm (by omega) ⟨true,to,ab⟩ g (by omega) (H++[.row (eC k) 0 (25+1),.row (lkC ⟨true,to,ab⟩ g) 0 (43+1)]) hlo (hx2 _) (hv.app _) (hvs.app _)
   have hle:=(Xcx rels sts para m ⟨true,to,ab⟩ g k.kids).2
   have w1:IntKind.wrap .i64 ((g:Int)+1)=(g:Int)+1:=Xbs (by omega) (by omega)
   simp only [Xcj] at hA
   simp only [lkC,if_true] at hr
   generalize Xbm rels sts para m ⟨true,to,ab⟩ g k.kids=R at *
   rcases hQ with ⟨hb,rfl,g',rfl⟩ | ⟨hb,rfl,rfl⟩
   ·simp only [hset] at hr
    refine ⟨_,Xdu (m:=53) (v:=Xbw 15) (a:=?ad) (H1:=?Hd) rfl t104 rfl ?hb4 ?hd4 ?hz4,.inl ⟨hb,rfl,g',rfl⟩⟩
    case hb4=>simp only [idx,I104,hG,ht,hA,u1,hx2,w1,hr,reduceSub,reduceIte,reduceEqDiff,reduceLT,reduceAdd,reduceMul,reduceLeDiff,ZU,ZS,ZT]; rfl
    case hd4=>rfl
    case hz4=>exact Xeb hH (Xes hH hx _) rfl rfl
   ·simp only [hset] at hr
    have hxS:∀ L:Mem,(H.set px (Xcu vr vs R.2.1)++L)[px]? = some (Xcu vr vs R.2.1):=fun L=>Xax (List.getElem?_set_self hpl) L
    have hsS:∀ (L:Mem) (c:Blk),(H.set px (Xcu vr vs R.2.1)++L).set px c=H.set px c++L:=fun L c=>by
     rw [List.set_append_left _ _ (by rw [List.length_set]; exact hpl),List.set_set]
    have w2:IntKind.wrap .i64 ((R.2.1:Int)+1)=((R.2.1+1:Nat):Int):=by rw [Xbs] <;> omega
    cases hz:decide ((R.1.length:Int)>0)
    ·have hz0:R.1.length=0:=by have:=of_decide_eq_false hz; omega
     rw [if_pos hz0]
     refine ⟨_,Xac (m:=53) (v:=.lst R.1.length (Xat R.1)) (a:=?ae) (H1:=?He) rfl t104 rfl ?hb5 ?hd5 ?hr5 ?hz5,.inr ⟨hb,rfl,rfl⟩⟩
     case hb5=>simp only [idx,I104,hG,ht,hA,u1,hx2,w1,hr,hz,reduceSub,reduceIte,reduceEqDiff,reduceLT,reduceAdd,reduceMul,reduceLeDiff,ZU,ZS,ZT]; rfl
     case hd5=>rfl
     case hr5=>rfl
     case hz5=>exact Xeb hH (Xes hH hx _) (Xhu _ _ _) (by simp [low,Xci])
    ·have hz0:R.1.length≠0:=by have:=of_decide_eq_true hz; omega
     rw [if_neg hz0]
     refine ⟨_,Xac (m:=53) (v:=.lst R.1.length (Xat R.1)) (a:=?af) (H1:=?Hf) rfl t104 rfl ?hb6 ?hd6 ?hr6 ?hz6,.inr ⟨hb,rfl,rfl⟩⟩
     case hb6=>simp only [idx,I104,hG,ht,hA,u1,hx2,w1,w2,hr,hz,hxS,hsS,reduceSub,reduceIte,reduceEqDiff,reduceLT,reduceAdd,reduceMul,reduceLeDiff,ZU,ZS,ZT]; rfl
     case hd6=>rfl
     case hr6=>rfl
     case hz6=>exact Xeb hH (Xes hH hx _) (Xhu _ _ _) (by simp [low,Xci])
end
noncomputable def Xob:IC:=(I72.c.loops).getD 0 .bad
noncomputable def Xwl:IC:=(I72.c.loops).getD 1 .bad
noncomputable def Xsd:IC:=IC.inn ((Xob.nb 2).hd)
noncomputable def midRu:IC:=Xsd.nb 2
theorem Xht {l:List Rn} {j:Nat} (h:j<l.length):(Xat l).drop (j*9)=rnC (l.getD j default)++Xat (l.drop (j+1)):=by
 rw [Xs1,List.drop_eq_getElem_cons h,Xgf,List.getD_eq_getElem?_getD,List.getElem?_eq_getElem h]; rfl
theorem app_grow2 {n0 n:Nat} {acc:List Rn} {v:AV} {M:Mem} (h:Xbr n0 9 (43+1) acc.length (Xat acc) v M) (hn:acc.length<1073741824) (hM:n0≤M.length) {m:Nat} (hlo:Xb6 m M=true) (r:Rn) :
  ∃ v' M',Xgu M 43 9 1 (rnC r) v=some (v',M')∧Xbr n0 9 (43+1) (acc++[r]).length (Xat (acc++[r])) v' M'∧M.length≤M'.length∧M'.take n0=M.take n0∧Xb6 m M'=true:=by
 obtain ⟨v',M',ha,h1,h2,h3,h4⟩:=Xfn (sz:=9) (cnt:=1) (e:=43) (new:=rnC r) h (Xa7 acc) (by decide) (by omega) hM
 have h5:=Xm9 h hlo (Xlw _ r) ha (by decide)
 have e6:Xat acc++rnC r=Xat (acc++[r]):=by rw [Xct]; simp [Xat]
 have e7:acc.length+1=(acc++[r]).length:=by simp
 rw [e6,e7] at h1
 exact ⟨v',M',ha,h1,h2,h4,h5⟩
theorem Xtq {n0 n:Nat} {acc l:List Rn} {v:AV} {M:Mem} (h:Xbr n0 9 (43+1) acc.length (Xat acc) v M) (hn:acc.length+l.length≤1073741824) (hM:n0≤M.length) {m:Nat} (hlo:Xb6 m M=true) :
  ∃ v' M',Xgu M 43 9 l.length (Xat l) v=some (v',M')∧Xbr n0 9 (43+1) (acc++l).length (Xat (acc++l)) v' M'∧M.length≤M'.length∧M'.take n0=M.take n0∧Xb6 m M'=true:=by
 cases l with
 | nil =>
  rcases h with ⟨h1,h2,rfl⟩ | ⟨q,st,rfl,h2,h3⟩
  ·refine ⟨.nilS,M,rfl,?_,Nat.le_refl _,rfl,hlo⟩
   rw [List.append_nil]
   exact .inl ⟨h1,h2,rfl⟩
  ·have hq:=(List.getElem?_eq_some_iff.1 h3).1
   have hcs:=Xa7 acc
   refine ⟨.slc q 0 acc.length 9 (st+1),M.set q (.row (Xat acc) (st+1) (43+1)),?_,?_,by simp,List.take_set_of_le (by omega),?_⟩
   ·have h34:acc.length≤2 ^ 34:=by omega
    have e0:Xat []=[]:=rfl
    simp only [Xgu,h3,hcs,h34,true_and,and_self,if_true,Zk,ZM,e0,Zs]
   ·rw [List.append_nil]
    exact .inr ⟨q,st+1,rfl,h2,by rw [List.getElem?_set_self hq]⟩
   ·refine Xb9 hlo ?_ q
    have:=List.all_eq_true.1 hlo _ (List.mem_of_getElem? h3)
    exact this
 | cons r l =>
  obtain ⟨v',M',ha,h1,h2,h3,h4⟩:=Xfn (sz:=9) (cnt:=(r::l).length) (e:=43) (new:=Xat (r::l)) h (Xa7 acc) (by simp) hn hM
  have h5:=Xm9 h hlo (Xci _ _) ha (by simp)
  rw [← Xct,← List.length_append] at h1
  exact ⟨v',M',ha,h1,h2,h4,h5⟩
def Xdm (H:Mem) (px:Nat) (vr vs:AV) (g:Nat) (L:Mem) (acc:List Rn) (v:AV) (M:Mem):Prop:=Xak (H.set px (Xcu vr vs g)++L) M∧Xb6 H.length M=true∧Xbr (H.length+L.length) 9 (43+1) acc.length (Xat acc) v M
theorem Xdm.len {H:Mem} {px g:Nat} {vr vs v:AV} {L M:Mem} {acc:List Rn} (h:Xdm H px vr vs g L acc v M):H.length+L.length≤M.length:=Xfe h.1
theorem Xdm.app {H:Mem} {px g:Nat} {vr vs v:AV} {L M:Mem} {acc:List Rn} (h:Xdm H px vr vs g L acc v M) {R:Mem} (hR:Xb6 H.length R=true):Xdm H px vr vs g L acc v (M++R) :=
 ⟨h.1.app _,by rw [Xcp,h.2.1,hR]; rfl,h.2.2.app _⟩
theorem Xdm.cut {H:Mem} {px g:Nat} {vr vs v:AV} {L M' M'':Mem} {acc:List Rn} {m:Nat} (h:Xdm H px vr vs g L acc v M') (hm:H.length+L.length≤m) (hM:M''=M'∨(M''=M'.take m∧low m v=true)):Xdm H px vr vs g L acc v M'':=by
 obtain ⟨k1,k2⟩:=Xdl h.1 h.2.2 (by rw [List.length_append,List.length_set]; exact hm) hM
 refine ⟨k1,?_,k2⟩
 rcases hM with rfl | ⟨rfl,_⟩
 ·exact h.2.1
 ·exact Xhi h.2.1
theorem Xdm.px {H:Mem} {px g:Nat} {vr vs v:AV} {L M:Mem} {acc:List Rn} (h:Xdm H px vr vs g L acc v M) (hpl:px<H.length) (g':Nat) (hb:Xcn H.length (Xcu vr vs g')=true):Xdm H px vr vs g' L acc v (M.set px (Xcu vr vs g')) :=
 ⟨Xek hpl h.1,Xb9 h.2.1 hb px,Xqm h.2.2 (by omega) _⟩
theorem Xdm.add {H:Mem} {px g:Nat} {vr vs v:AV} {L M:Mem} {acc:List Rn} (h:Xdm H px vr vs g L acc v M) (hn:acc.length<1073741824) (r:Rn):∃ v' M',Xgu M 43 9 1 (rnC r) v=some (v',M')∧Xdm H px vr vs g L (acc++[r]) v' M'∧M.length≤M'.length:=by
 obtain ⟨v',M',ha,h1,h2,h3,h4⟩:=app_grow2 (n:=0) h.2.2 hn h.len h.2.1 r
 exact ⟨v',M',ha,⟨h.1.of_take (by rw [List.length_append,List.length_set]; exact Nat.le_refl _) h3,h4,h1⟩,h2⟩
theorem Xdm.addN {H:Mem} {px g:Nat} {vr vs v:AV} {L M:Mem} {acc l:List Rn} (h:Xdm H px vr vs g L acc v M) (hn:acc.length+l.length≤1073741824):∃ v' M',Xgu M 43 9 l.length (Xat l) v=some (v',M')∧Xdm H px vr vs g L (acc++l) v' M'∧M.length≤M'.length:=by
 obtain ⟨v',M',ha,h1,h2,h3,h4⟩:=Xtq (n:=0) h.2.2 hn h.len h.2.1
 exact ⟨v',M',ha,⟨h.1.of_take (by rw [List.length_append,List.length_set]; exact Nat.le_refl _) h3,h4,h1⟩,h2⟩
theorem ri_loop (F:Xc5) (N:Nat) (ps:List Rn) (hps:ps.length≤1048576) (H L:Mem) (px g g0:Nat) (vr vs:AV) (h:Lk) (hh:h.is=true→g=g0) (hL:L[0]? = some (.row (lkC h g0) 0 (43+1))) (t0 t2 t14 t15 t16:AV):∀ (fuel j:Nat) (acc:List Rn) (v:AV) (M:Mem),j≤ps.length→ps.length-j<fuel→acc.length≤1048576+j→Xdm H px vr vs g L acc v M →
  ∃ t v' M',Xa6 (fun a H=>evI Tryz.prog cfg F N Xwl a H) (some [0,2,7,9,14,15,16,30,31,32]) fuel ⟨77,[(0,t0),(2,t2),(7,.ptr H.length 0 0),(9,v),(14,t14),(15,t15),(16,t16),(30,.lst ps.length (Xat ps)),(31,.int .i64 ps.length),(32,.int .i64 j)],[]⟩ M=some (.exit 3,⟨77,t,[]⟩,M')∧Xad t 0=t0∧Xad t 2=t2∧Xad t 7=.ptr H.length 0 0∧Xad t 9=v'∧Xad t 14=t14∧Xad t 15=t15∧Xad t 16=t16∧Xdm H px vr vs g L (acc++(ps.drop j).map (Xia h g)) v' M'∧M.length≤M'.length
 | 0,j,_,_,_,_,h,_,_=>by omega
 | fuel+1,j,acc,v,M,hj,hf,ha,hS=>by
  rcases Nat.lt_or_ge j ps.length with hlt | hge
  ·have hc:=Xht hlt
   have hlen:j*9+9≤(Xat ps).length:=by rw [Xa7]; omega
   have hl9:9≤(Xat ps).length-j*9:=by omega
   have hl0:0<(Xat ps).length-j*9:=by omega
   have hi:(j:Int)<(ps.length:Int):=by omega
   have hw:=Xav hlt (by omega)
   have hn:=Xan j .i64
   have hdr:ps.drop j=ps.getD j default::ps.drop (j+1):=by
    rw [List.drop_eq_getElem_cons hlt,List.getD_eq_getElem?_getD,List.getElem?_eq_getElem hlt]; rfl
   have h9:((Xat ps).drop (j*9)).take 9=rnC (ps.getD j default):=by rw [hc]; rfl
   rw [hdr,List.map_cons]
   generalize ps.getD j default=r at *
   have hlk:M[H.length]? = some (.row (lkC h g0) 0 (43+1)):=hS.1.get0 (by rw [Xgx]; exact hL)
   have hlk2:∀ R:Mem,(M++R)[H.length]? = some (.row (lkC h g0) 0 (43+1)):=fun R=>Xax hlk R
   have hset:rnC (Xia h g r)=[.int .i64 r.kind,.int .i64 r.style,.str r.text,.str r.url,.str r.title,.bool h.is,.str h.to,.str h.about,.int .i64 (if h.is=true then (g0:Int)+1 else 0)]:=by
    unfold Xia rnC
    cases hi2:h.is
    ·rfl
    ·rw [hh hi2]
   have hS2:Xdm H px vr vs g L acc v (M++([.row (rnC (Xia h g r)) 0 (43+1)]++[.row (rnC (Xia h g r)) 0 (43+1)])):=hS.app (by simp [Xb6,Xcn,Xlw])
   obtain ⟨v',M',hap,hS',hle⟩:=hS2.add (by omega) (Xia h g r)
   rw [List.length_append] at hle
   obtain ⟨x,hx⟩ : ∃ x,x=Xia h g r:=⟨_,rfl⟩
   rw [← hx] at hap hS' hset ⊢
   have ih:=ri_loop F N ps hps H L px g g0 vr vs h hh hL t0 t2 t14 t15 t16 fuel (j+1) (acc++[x]) v'
   rw [hset] at hap
   simp only [Zp,Zr] at hap
   simp only [rnC] at h9
   simp only [lkC] at hlk2
   have key:∃ r,Xa6 (fun a H=>evI Tryz.prog cfg F N Xwl a H) (some [0,2,7,9,14,15,16,30,31,32]) (fuel+1) ⟨77,[(0,t0),(2,t2),(7,.ptr H.length 0 0),(9,v),(14,t14),(15,t15),(16,t16),(30,.lst ps.length (Xat ps)),(31,.int .i64 ps.length),(32,.int .i64 j)],[]⟩ M=some r∧(fun r=>∃ t v' M',r=(.exit 3,⟨77,t,[]⟩,M')∧Xad t 0=t0∧Xad t 2=t2∧Xad t 7=.ptr H.length 0 0∧Xad t 9=v'∧Xad t 14=t14∧Xad t 15=t15∧Xad t 16=t16∧Xdm H px vr vs g L ((acc++[x])++(ps.drop (j+1)).map (Xia h g)) v' M'∧M.length≤M'.length) r:=by
    refine Xbv (H':=M') (by simp only [Xwl,I72,IC.loops,hi,hlt,hlen,hl9,hl0,h9,hn,hw,hlk2,Xfu,Xcd,hap,reduceSub,reduceIte,reduceEqDiff,reduceLT,reduceAdd,reduceMul,reduceLeDiff,ZU,ZS,ZT]; rfl) ?_
    simp only [AAct.keepT,Zv,Zz,Xad,reduceIte,reduceEqDiff]
    intro M'' hM''
    have hM2:M''=M'∨(M''=M'.take M.length∧low M.length v'=true):=by
     rcases hM'' with h | ⟨h,h2⟩
     ·exact .inl h
     ·refine .inr ⟨h,?_⟩
      unfold Xto at h2
      exact List.all_eq_true.1 h2 (9,v') (by simp)
    have hS'':=hS'.cut hS.len hM2
    have hle2:M.length≤M''.length:=by
     rcases hM2 with h | ⟨h,_⟩
     ·rw [h]; omega
     ·rw [h,List.length_take]; omega
    obtain ⟨t,v2,M2,e1,e2⟩:=ih M'' (by omega) (by omega) (by simp; omega) hS''
    obtain ⟨f0,f2,f7,f9,f14,f15,f16,fS,fl⟩:=e2
    exact ⟨_,e1,t,v2,M2,rfl,f0,f2,f7,f9,f14,f15,f16,fS,by omega⟩
   obtain ⟨_,hr,t,v2,M2,rfl,hQ⟩:=key
   refine ⟨t,v2,M2,hr,?_⟩
   rw [show acc++x::(ps.drop (j+1)).map (Xia h g)=(acc++[x])++(ps.drop (j+1)).map (Xia h g) by simp]
   exact hQ
  ·have hk':j=ps.length:=by omega
   subst hk'
   simp only [List.drop_length,Zz,Zs]
   exact ⟨_,v,M,Xae (by simp only [Xwl,I72,IC.loops,Int.lt_irrefl,reduceIte,reduceEqDiff,reduceLT,reduceAdd,reduceMul,reduceLeDiff,ZS]; rfl),rfl,rfl,rfl,rfl,rfl,rfl,rfl,hS,Nat.le_refl _⟩
theorem rlv_px {H:Mem} {px g:Nat} {vr vs:AV} {rels:List Rl} (hx:H[px]? = some (Xcu vr vs g)) (hv:RlV H vr rels) (b:Blk):RlV (H.set px b) vr rels:=by
 rcases hv with ⟨q,st,ty,h1,h2⟩ | h
 ·refine .inl ⟨q,st,ty,h1,?_⟩
  rw [List.getElem?_set_ne,h2]
  rintro rfl
  rw [hx] at h2
  injection h2 with h2
  injection h2 with h2
  have:=congrArg List.length h2
  rw [Xpl] at this
  simp at this
  omega
 ·exact .inr h
theorem slc_px {H:Mem} {px g:Nat} {vr vs:AV} {sts:List St} (hx:H[px]? = some (Xcu vr vs g)) (hv:SlC H vs sts) (b:Blk):SlC (H.set px b) vs sts:=by
 rcases hv with h | ⟨q,st,ty,h1,h2⟩
 ·exact .inl h
 ·refine .inr ⟨q,st,ty,h1,?_⟩
  rw [List.getElem?_set_ne,h2]
  rintro rfl
  rw [hx] at h2
  injection h2 with h2
  injection h2 with h2
  have:=congrArg List.length h2
  rw [Xqn] at this
  simp at this
  omega
theorem Xb8 {P:Program} {g:Cfg} {F:Xc5} {N:Nat} {x y:IC} {a a':AAct} {H H':Mem} {id:Nat} {r:Option (Out × AAct × Mem)} (h:evI P g F N x a H=some (.normal,a',H')) (h2:evI P g F N (.block id y) a' H'=r):evI P g F N (.block id (.seq x y)) a H=r:=by
 rw [← h2]; simp only [evI,h]
theorem Xdw {P:Program} {g:Cfg} {F:Xc5} {N:Nat} {v:IArg} {x y:IC} {a:AAct} {H:Mem} {id:Nat} {r:Option (Out × AAct × Mem)} (hv:a.evI g v=.bool false) (h2:evI P g F N (.block id y) a H=r):evI P g F N (.block id (.cond v x y)) a H=r:=by
 rw [← h2]; simp only [evI,hv]
def IC.els:IC→IC
 | .cond _ _ y=>y
 | c=>c
noncomputable def restRu:IC:=(IC.els ((IC.inn (midRu.nb 1)).nb 1)).nb 1
theorem ru_name (F:Xc5) (N:Nat) (x:El) (M:Mem) (v t0' t2 t7 t14 t15 t16:AV) (h1:(x.nm == rS)=false) (t:List (Nat × AV)) (l0:Xad t 0=t0') (l2:Xad t 2=t2) (l7:Xad t 7=t7) (l9:Xad t 9=v) (l11:Xad t 11=.ptr M.length 0 0) (l14:Xad t 14=t14) (l15:Xad t 15=t15) (l16:Xad t 16=t16) :
  ∃ t',Xad t' 0=t0'∧Xad t' 2=t2∧Xad t' 7=t7∧Xad t' 9=v∧Xad t' 11=.ptr M.length 0 0∧Xad t' 14=t14∧Xad t' 15=t15∧Xad t' 16=t16∧Xad t' 24=.str x.nm∧Xad t' 53=.bool (x.nm == Xhd || x.nm == insS)∧evI Tryz.prog cfg F N midRu ⟨77,t,[]⟩ (M++[.row (eC x) 0 (25+1)])=evI Tryz.prog cfg F N (.block 2 restRu) ⟨77,t',[]⟩ (M++[.row (eC x) 0 (25+1)]):=by
 simp only [rS] at h1
 unfold Xhd insS
 cases h2:(x.nm == [115,109,97,114,116,84,97,103])
 ·rw [Bool.false_or]
  refine ⟨?ta,?a0,?a2,?a7,?a9,?a11,?a14,?a15,?a16,?a24,?a53,?am⟩
  case am =>
   apply Xaa
   ·simp only [l11,h1,reduceSub,reduceIte,reduceEqDiff,reduceLT,reduceAdd,reduceMul,reduceLeDiff,ZS,ZT]; rfl
   apply Xb8
   ·simp only [h1,reduceIte,reduceEqDiff,reduceLT,reduceAdd,reduceMul,reduceLeDiff,ZS]; rfl
   apply Xdw (by rfl)
   apply Xb8
   ·simp only [h2,reduceIte,reduceEqDiff,reduceLT,reduceAdd,reduceMul,reduceLeDiff,ZS]; rfl
   rfl
  case a0=>exact l0
  case a2=>exact l2
  case a7=>exact l7
  case a9=>exact l9
  case a11=>exact l11
  case a14=>exact l14
  case a15=>exact l15
  case a16=>exact l16
  all_goals rfl
 ·rw [Bool.true_or]
  refine ⟨?tb,?b0,?b2,?b7,?b9,?b11,?b14,?b15,?b16,?b24,?b53,?bm⟩
  case bm =>
   apply Xaa
   ·simp only [l11,h1,reduceSub,reduceIte,reduceEqDiff,reduceLT,reduceAdd,reduceMul,reduceLeDiff,ZS,ZT]; rfl
   apply Xb8
   ·simp only [h1,reduceIte,reduceEqDiff,reduceLT,reduceAdd,reduceMul,reduceLeDiff,ZS]; rfl
   apply Xdw (by rfl)
   apply Xb8
   ·simp only [h2,reduceIte,reduceEqDiff,reduceLT,reduceAdd,reduceMul,reduceLeDiff,ZS]; rfl
   rfl
  case b0=>exact l0
  case b2=>exact l2
  case b7=>exact l7
  case b9=>exact l9
  case b11=>exact l11
  case b14=>exact l14
  case b15=>exact l15
  case b16=>exact l16
  all_goals rfl
def RuEnd (H L:Mem) (px:Nat) (vr vs:AV) (R:List Rn × Nat × Bool) (acc:List Rn) (t0 t2 t14 t15 t16:AV) (M:Mem):Out × AAct × Mem→Prop
 | (o,a,M')=>a.d=[]∧((R.2.2=true∧o=.pan (Xbw 15)∧∃ g',Xak (H.set px (Xcu vr vs g')++L) M')∨(R.2.2=false∧o=.normal∧a.n=77∧Xad a.t 0=t0∧Xad a.t 2=t2∧Xad a.t 7=.ptr H.length 0 0∧Xad a.t 14=t14∧Xad a.t 15=t15∧Xad a.t 16=t16∧Xdm H px vr vs R.2.1 L (acc++R.1) (Xad a.t 9) M'∧M.length≤M'.length))
section
variable {N:Nat} (hN:9223372036854775808≤N)
include hN
theorem ru_mid (rels:List Rl) (sts:List St) (para:List UInt8) (d m px:Nat) (vr vs:AV) (hl:rels.length≤4611686018427387904) (hs:sts.length≤4611686018427387904) (hR:Xol rels sts para N (d+1) m px vr vs) (hR2:Xol rels sts para N d m px vr vs) (hd:9≤d) (x:El) (hxl:Lim x) (hm:dEls x.kids<m) (hdx:dEl x+8≤d+1) (hsp:(x.sp == wNs)=true) (h:Lk) (g0 g gz:Nat) (hh:h.is=true→g=g0) (hg:g+wEl x≤1099511627776)
  (H L M:Mem) (hpx:H[px]? = some (Xcu vr vs gz)) (hlow:∀ g,Xcn H.length (Xcu vr vs g)=true) (hv:RlV H vr rels) (hvs:SlC H vs sts) (hL:L[0]? = some (.row (lkC h g0) 0 (43+1))) (acc:List Rn) (hac:acc.length≤1048576) (v:AV) (hS:Xdm H px vr vs g L acc v M) (t14 t15 t16:AV)
  (t:List (Nat × AV)) (l0:Xad t 0=.ptr px 0 0) (l2:Xad t 2=.str para) (l7:Xad t 7=.ptr H.length 0 0) (l9:Xad t 9=v) (l11:Xad t 11=.ptr M.length 0 0) (l14:Xad t 14=t14) (l15:Xad t 15=t15) (l16:Xad t 16=t16) :
  ∃ r,evI Tryz.prog cfg (Xaw Tryz.prog cfg T N (d+1)) N midRu ⟨77,t,[]⟩ (M++[.row (eC x) 0 (25+1)])=some r∧RuEnd H L px vr vs (Xh9 rels sts para m h g x) acc (.ptr px 0 0) (.str para) t14 t15 t16 M r:=by
 have hpl:px<H.length:=(List.getElem?_eq_some_iff.1 hpx).1
 have hML:=hS.len
 have hxM:M[px]? = some (Xcu vr vs g):=hS.1.get0 (Xax (List.getElem?_set_self hpl) L)
 have hvM:RlV M vr rels:=((rlv_px hpx hv (Xcu vr vs g)).app L).starts hS.1
 have hvsM:SlC M vs sts:=((slc_px hpx hvs (Xcu vr vs g)).app L).starts hS.1
 have hlk:M[H.length]? = some (.row (lkC h g) 0 (43+1)):=by
  rw [lkC_same hh]
  exact hS.1.get0 (by rw [Xgx]; exact hL)
 have hlk2:∀ R:Mem,(M++R)[H.length]? = some (.row (lkC h g) 0 (43+1)):=fun R=>Xax hlk R
 have hloE:Xb6 H.length [Blk.row (eC x) 0 (25+1)]=true:=by simp [Xb6,Xcn,Xay]
 have hLoM:LoH (M++[Blk.row (eC x) 0 (25+1)]):=LoH.app (Xcl (by omega) hS.2.1) (Xcl (by rw [List.length_append]; omega) hloE)
 have hS1:Xdm H px vr vs g L acc v (M++[.row (eC x) 0 (25+1)]):=hS.app hloE
 have hsetM:∀ (R:Mem) (c:Blk),(M++R).set px c=M.set px c++R:=fun R c=>Xd9 hxM R c
 have hwx:=Xb2 x
 have hw2:=hxl.2
 have hp:Xh9 rels sts para m h g x=(if (x.nm == rS)=true then ((Xcm rels sts para x).1.map (Xia h g),g,(Xcm rels sts para x).2)
   else if (x.nm == Xhd || x.nm == insS)=true then Xbm rels sts para m h g x.kids
   else if (x.nm == Xg1 && !h.is)=true then Xpw rels sts para m g x
   else ([],g,false)):=by unfold Xh9; rw [if_pos hsp]
 rw [hp]
 -- what a callee's list becomes
 have fin:∀ (R:List Rn × Nat × Bool),R.1.length≤1048576→∃ v' M',Xgu (M.set px (Xcu vr vs R.2.1)++[.row (eC x) 0 (25+1)]) 43 9 R.1.length (Xat R.1) v=some (v',M')∧Xdm H px vr vs R.2.1 L (acc++R.1) v' M'∧M.length≤M'.length:=fun R hRl=>by
  have k1:=(hS.px hpl R.2.1 (hlow _)).app hloE
  obtain ⟨v',M',e1,e2,e3⟩:=k1.addN (l:=R.1) (by omega)
  rw [List.length_append,List.length_set] at e3
  exact ⟨v',M',e1,e2,by omega⟩
 cases h1:(x.nm == rS)
 rotate_left
 ·simp only [rS] at h1
  simp only [if_true]
  have hP:=pieces_eq (N:=N) hN (d+1) x hxl hdx para (M++[.row (eC x) 0 (25+1)]) px g vr vs rels sts hl hs (Xax hxM _) (hvM.app _) (hvsM.app _)
  have hpl2:=Xin rels sts para x
  generalize Xcm rels sts para x=ps at *
  obtain ⟨ps,bad⟩:=ps
  cases bad
  ·simp only [Ze,if_false] at hP
   obtain ⟨t',v',M',hr,k0,k2,k7,k9,k14,k15,k16,kS,kl⟩:=ri_loop (Xaw Tryz.prog cfg T N (d+1)) N ps (by simp only at hpl2; omega) H L px g g0 vr vs h hh hL (.ptr px 0 0) (.str para) t14 t15 t16 N 0 acc v (M++[.row (eC x) 0 (25+1)]) (Nat.zero_le _) (by simp only at hpl2; omega) (by omega) hS1
   rw [List.drop_zero] at kS
   rw [List.length_append] at kl
   refine ⟨(.normal,⟨77,t',[]⟩,M'),?ma,rfl,.inr ⟨rfl,rfl,rfl,k0,k2,k7,k14,k15,k16,by rw [k9]; exact kS,by omega⟩⟩
   case ma =>
    apply Xaa
    ·simp only [l11,h1,reduceSub,reduceIte,reduceEqDiff,reduceLT,reduceAdd,reduceMul,reduceLeDiff,ZS,ZT]; rfl
    apply Xbh
    apply Xaa
    ·simp only [h1,reduceIte,reduceEqDiff,reduceLT,reduceAdd,reduceMul,reduceLeDiff,ZS]; rfl
    apply Xde (by rfl)
    apply Xaa
    ·simp only [l0,l2,l11,hP,reduceSub,reduceIte,reduceEqDiff,reduceLT,reduceAdd,reduceMul,reduceLeDiff,ZS,ZT]; rfl
    apply Xab
    apply Xaf
    simp only [AAct.keepT,Zv,Zz,Xad,reduceIte,reduceEqDiff,l0,l2,l7,l9,l14,l15,l16]
    exact hr
  ·simp only [if_true] at hP
   refine ⟨(.pan (Xbw 15),?pa,M++[.row (eC x) 0 (25+1)]),?mp,?p1,.inl ⟨rfl,rfl,g,hS1.1⟩⟩
   case mp=>simp only [midRu,Xsd,Xob,I72,IC.loops,IC.nb,IC.hd,IC.inn,l0,l2,l11,h1,hP,reduceSub,reduceIte,reduceEqDiff,reduceLT,reduceAdd,reduceMul,reduceLeDiff,ZS,ZT]; rfl
   case p1=>rfl
 simp only [rS] at h1
 simp only [Ze,if_false]
 obtain ⟨t',k0,k2,k7,k9,k11,k14,k15,k16,k24,k53,hpre⟩:=ru_name (Xaw Tryz.prog cfg T N (d+1)) N x M v (.ptr px 0 0) (.str para) (.ptr H.length 0 0) t14 t15 t16 (by unfold rS; exact h1) t l0 l2 l7 l9 l11 l14 l15 l16
 have q9:9≤(lkC h g).length:=Nat.le_refl 9
 have q9t:(lkC h g).take 9=lkC h g:=rfl
 have q5:5+1≤(lkC h g).length:=Nat.le_of_ble_eq_true rfl
 have q5t:((lkC h g).drop 5).take 1=[.bool h.is]:=rfl
 cases h2:(x.nm == Xhd || x.nm == insS)
 rotate_left
 ·rw [h2] at k53
  simp only [if_true]
  obtain ⟨⟨e,H'⟩,hr,hQ⟩:=hR x.kids (fun y hy=>hxl.kid hy) hm (by omega) h g (by omega) (M++[.row (eC x) 0 (25+1)]) hLoM (Xax hxM _) (hvM.app _) (hvsM.app _)
  have hRl:=(Xcx rels sts para m h g x.kids).1
  generalize Xbm rels sts para m h g x.kids=R at *
  rcases hQ with ⟨hb,rfl,g',rfl⟩ | ⟨hb,rfl,rfl⟩
  ·simp only [hsetM] at hr
   refine ⟨(.pan (Xbw 15),?qa,M.set px (Xcu vr vs g')++[.row (eC x) 0 (25+1)]),hpre.trans (Xcb (Xde k53 ?mq)),?q1,.inl ⟨hb,rfl,g',(Xek hpl hS.1).app _⟩⟩
   case mq=>simp only [k0,k2,k7,k9,k11,hlk2,q9,q9t,hr,reduceSub,reduceIte,reduceEqDiff,reduceLT,reduceAdd,reduceMul,reduceLeDiff,ZS,ZT]; rfl
   case q1=>rfl
  ·simp only [hsetM] at hr
   obtain ⟨v',M',ha,hS',hle⟩:=fin R (by omega)
   have hrl:=Xa7 R.1
   have hro:=Xh6 R.1
   refine ⟨(.normal,?ra,M'),hpre.trans (Xbh (Xde k53 ?mr)),?r1,.inr ⟨hb,rfl,?r2,?r3,?r4,?r5,?r6,?r7,?r8,?r9,hle⟩⟩
   case mr=>simp only [k0,k2,k7,k9,k11,hlk2,q9,q9t,hr,Xfu,Xcd,hrl,hro,ha,reduceSub,reduceIte,reduceEqDiff,reduceLT,reduceAdd,reduceMul,reduceLeDiff,ZS,ZT]; rfl
   case r3=>exact k0
   case r4=>exact k2
   case r5=>exact k7
   case r6=>exact k14
   case r7=>exact k15
   case r8=>exact k16
   case r9=>exact hS'
   all_goals rfl
 rw [h2] at k53
 simp only [Ze,if_false]
 cases h3:(x.nm == Xg1)
 ·simp only [Xg1] at h3
  simp only [ZE,Ze,if_false]
  refine ⟨(.normal,?sa,M++[.row (eC x) 0 (25+1)]),hpre.trans (Xbh (Xe1 k53 ?ms)),?s1,.inr ⟨rfl,rfl,?s2,?s3,?s4,?s5,?s6,?s7,?s8,?s9,by simp⟩⟩
  case ms=>simp only [k24,h3,reduceSub,reduceIte,reduceEqDiff,reduceLT,reduceAdd,reduceMul,reduceLeDiff,ZS,ZT]; rfl
  case s3=>exact k0
  case s4=>exact k2
  case s5=>exact k7
  case s6=>exact k14
  case s7=>exact k15
  case s8=>exact k16
  case s9 =>
   have h8:∀ z:AV,z=v→Xdm H px vr vs g L (acc++[]) z (M++[.row (eC x) 0 (25+1)]):=fun z h=>by rw [h,List.append_nil]; exact hS1
   exact h8 _ k9
  all_goals rfl
 simp only [Xg1] at h3
 simp only [ZH]
 cases h4:h.is
 ·rw [h4] at q5t
  simp only [ZF,if_true]
  obtain ⟨⟨e,H'⟩,hr,hQ⟩:=hyp_eq (N:=N) hN rels sts para d m px vr vs hl hR2 hd x hxl hm g hg (M++[.row (eC x) 0 (25+1)]) hLoM (Xax hxM _) (hvM.app _) (hvsM.app _)
  have hRl:(Xpw rels sts para m g x).1.length≤wEl x:=by
   have:=(oneD_len rels sts para m Xg7 g x).1
   have h5:Xh9 rels sts para m Xg7 g x=Xpw rels sts para m g x:=by
    unfold Xh9
    rw [if_pos hsp,if_neg (by unfold rS; rw [h1]; simp),if_neg (by rw [h2]; simp),if_pos (by unfold Xg1 Xg7; rw [h3]; rfl)]
   rw [h5] at this; exact this
  generalize Xpw rels sts para m g x=R at *
  rcases hQ with ⟨hb,rfl,g',rfl⟩ | ⟨hb,rfl,rfl⟩
  ·simp only [hsetM] at hr
   refine ⟨(.pan (Xbw 15),?ua,M.set px (Xcu vr vs g')++[.row (eC x) 0 (25+1)]),hpre.trans (Xcb (Xe1 k53 ?mu)),?u1,.inl ⟨hb,rfl,g',(Xek hpl hS.1).app _⟩⟩
   case mu=>simp only [k0,k2,k7,k9,k11,k24,h3,hlk2,q5,q5t,hr,reduceSub,reduceIte,reduceEqDiff,reduceLT,reduceAdd,reduceMul,reduceLeDiff,ZS,ZT]; rfl
   case u1=>rfl
  ·simp only [hsetM] at hr
   obtain ⟨v',M',ha,hS',hle⟩:=fin R (by omega)
   have hrl:=Xa7 R.1
   have hro:=Xh6 R.1
   refine ⟨(.normal,?va,M'),hpre.trans (Xbh (Xe1 k53 ?mv)),?v1,.inr ⟨hb,rfl,?v2,?v3,?v4,?v5,?v6,?v7,?v8,?v9,hle⟩⟩
   case mv=>simp only [k0,k2,k7,k9,k11,k24,h3,hlk2,q5,q5t,hr,Xfu,Xcd,hrl,hro,ha,reduceSub,reduceIte,reduceEqDiff,reduceLT,reduceAdd,reduceMul,reduceLeDiff,ZS,ZT]; rfl
   case v3=>exact k0
   case v4=>exact k2
   case v5=>exact k7
   case v6=>exact k14
   case v7=>exact k15
   case v8=>exact k16
   case v9=>exact hS'
   all_goals rfl
 ·rw [h4] at q5t
  simp only [ZG,Ze,if_false]
  refine ⟨(.normal,?wa,M++[.row (eC x) 0 (25+1)]),hpre.trans (Xbh (Xe1 k53 ?mw)),?w1,.inr ⟨rfl,rfl,?w2,?w3,?w4,?w5,?w6,?w7,?w8,?w9,by simp⟩⟩
  case mw=>simp only [k7,k24,h3,hlk2,q5,q5t,reduceSub,reduceIte,reduceEqDiff,reduceLT,reduceAdd,reduceMul,reduceLeDiff,ZS,ZT]; rfl
  case w3=>exact k0
  case w4=>exact k2
  case w5=>exact k7
  case w6=>exact k14
  case w7=>exact k15
  case w8=>exact k16
  case w9 =>
   have h8:∀ z:AV,z=v→Xdm H px vr vs g L (acc++[]) z (M++[.row (eC x) 0 (25+1)]):=fun z h=>by rw [h,List.append_nil]; exact hS1
   exact h8 _ k9
  all_goals rfl
end
end Go.Proofs.YtmhhddhbdbcmbaaGreatDoor.Ev
