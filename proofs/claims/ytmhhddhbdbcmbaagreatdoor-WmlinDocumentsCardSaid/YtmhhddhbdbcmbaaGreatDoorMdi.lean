/- Parts of one proof. -/
import Derived.Test.YtmhhddhbdbcmbaaGreatDoorMdh
import Derived.Test.YtmhhddhbdbcmbaaGreatDoorMdc
set_option linter.all false
namespace Go.Proofs.YtmhhddhbdbcmbaaGreatDoor.Ev
open Nat (reduceEqDiff reduceLT reduceAdd reduceMul reduceLeDiff reduceSub)
open Go.Proofs.YtmhhddhbdbcmbaaGreatDoor.Ic
set_option maxRecDepth 100000
set_option maxHeartbeats 4000000
theorem Xak.pre {H L M:Mem} (h:Xak (H++L) M):Xak H M:=by
 have:=congrArg (List.take H.length) h
 rw [List.take_take,Nat.min_eq_left (by simp),List.take_left] at this
 exact this
theorem Xpu {H M:Mem} (h:Xak H M) {n0 ty:Nat} (h0:H.length≤n0) {l:List Rn} {v:AV} (hg:Xbr n0 9 ty l.length (Xat l) v M):Xao false H v M=(.lst l.length (Xat l),H):=by
 have hl:low H.length (.lst l.length (Xat l))=true:=by simp [low,Xci]
 rcases hg with ⟨h1,h2,rfl⟩ | ⟨q,st,rfl,h1,h2⟩
 ·rw [h2,h1] at hl ⊢
  exact Xha h rfl hl
 ·refine Xha h ?_ hl
  rw [Xp6 (by omega) h2 (by rw [Xa7]; omega) (cs':=Xat l) ?_]
  rw [List.drop_zero,List.take_of_length_le (by rw [Xa7]; omega)]
  exact Xld _ _ _ _
theorem SlC.starts {H M:Mem} {v:AV} {l:List St} (h:SlC H v l) (hst:Xak H M):SlC M v l:=by
 rcases h with h | ⟨q,st,ty,h1,h2⟩
 ·exact .inl h
 ·exact .inr ⟨q,st,ty,h1,hst.get0 h2⟩
section
variable {N:Nat} (hN:9223372036854775808≤N)
include hN
theorem pieces_eq (d:Nat) (e:El) (he:Lim e) (hd:dEl e+8≤d) (para:List UInt8) (H:Mem) (px g:Nat) (vr vs:AV) (rels:List Rl) (sts:List St) (hl:rels.length≤4611686018427387904) (hs:sts.length≤4611686018427387904) (hx:H[px]? = some (Xcu vr vs g)) (hv:RlV H vr rels) (hvs:SlC H vs sts) :
  Xaw Tryz.prog cfg T N d 103 [.ptr px 0 0,.agg (eC e),.str para] H=some ((if (Xcm rels sts para e).2=true then .pan (Xbw 15) else .ret (.lst (Xcm rels sts para e).1.length (Xat (Xcm rels sts para e).1))),H):=by
 have h1:=dEl_1 e
 obtain ⟨n,rfl⟩ : ∃ n,d=n+9:=⟨d-9,by omega⟩
 have hx2:∀ L:Mem,(H++L)[px]? = some (Xcu vr vs g):=fun L=>Xax hx L
 have hK:=fun H=>Xn3 Tryz.prog N (n+6) hN Xg4 e he.1 H
 have hV:=fun H=>Xtd Tryz.prog N (n+5) hN Xdy (kidOf e Xg4) (he.kidOf _).1 H
 have hTi:=fun H=>Xrm Tryz.prog N (n+5) hN iS (kidOf e Xg4) (he.kidOf _).1 H
 have hTb:=fun H=>Xrm Tryz.prog N (n+5) hN bS (kidOf e Xg4) (he.kidOf _).1 H
 have hR:=fun L=>run_eq Tryz.prog clo_f clo_1 clo_2 N (n+8) (by omega) sts (by omega) hs para (Xbf (kidOf e Xg4) Xdy) (Xg2 (kidOf e Xg4) iS) (Xg2 (kidOf e Xg4) bS) vs (H++L) (hvs.app L)
 have hkind:Xjb e=if (Xbf (kidOf e Xg4) Xdy == Xhf)=true then 2 else 1:=rfl
 have hstyle:Xix sts para e=Xt8 sts para (Xbf (kidOf e Xg4) Xdy) (Xg2 (kidOf e Xg4) iS) (Xg2 (kidOf e Xg4) bS):=rfl
 have hpcs:Xcm rels sts para e=Xg0 rels (Xjb e) (Xix sts para e) e.kids:=rfl
 rw [hpcs]
 rw [← hstyle] at hR
 generalize Xix sts para e=style at *
 generalize Xg2 (kidOf e Xg4) iS=ti at *
 generalize Xg2 (kidOf e Xg4) bS=tb at *
 generalize Xbf (kidOf e Xg4) Xdy=own at *
 generalize Xjb e=kind at *
 obtain ⟨kp,hkp⟩ : ∃ kp,kp=kidOf e Xg4:=⟨_,rfl⟩
 rw [← hkp] at hK hV hTi hTb
 have hB:∀ L,Xak (H++L) (H++L):=fun L=>Xak.refl _
 obtain ⟨⟨o,⟨an,at',ad⟩,M'⟩,hr,hst,hd0,hE⟩:=Xwr (N:=N) hN (n+8) e.kids (fun x hx=>he.kid hx) (fun x hx=>by have:=Xik hx; omega) (by have:=he.kids; omega) rels hl kind style (H++[.row (eC e) 0 (25+1),.row (eC kp) 0 (25+1),.row (rnT kind style []) 0 (43+1)]) px (H.length+2) g vr vs (hx2 _) (hv.app _) (Xff _ _ _) N 0 [] .nilS _ (Nat.zero_le _) (by have:=he.kids; omega) (Nat.zero_le _) (hB _) (.inl ⟨rfl,rfl,rfl⟩)
 simp only at hd0
 subst hd0
 rw [List.drop_zero,List.nil_append] at hE
 generalize Xg0 rels kind style e.kids=res at *
 simp only [Xg4] at hK
 simp only [Xdy] at hV
 simp only [iS] at hTi
 simp only [bS] at hTb
 have hstH:=hst.pre
 have hcode:(own == Xhf)=(own == [67,111,100,101,84,101,120,116]):=rfl
 rw [hcode] at hkind
 have pre:∃ a,evI Tryz.prog cfg (Xaw Tryz.prog cfg T N (n+8)) N Xon.c ⟨104,idx 0 [.ptr px 0 0,.agg (eC e),.str para],[]⟩ H=evI Tryz.prog cfg (Xaw Tryz.prog cfg T N (n+8)) N (Xon.c.nb 5) a (H++[.row (eC e) 0 (25+1),.row (eC kp) 0 (25+1),.row (rnT kind style []) 0 (43+1)])∧a.n=104∧a.d=[]∧Xad a.t 0=.ptr px 0 0∧Xad a.t 4=.ptr H.length 0 0∧Xad a.t 9=.ptr (H.length+2) 0 0:=by
  cases h1:(own == [67,111,100,101,84,101,120,116])
  ·rw [h1] at hkind
   have hkind:kind=1:=hkind
   subst hkind
   refine ⟨?pa,?pm,?p1,?p2,?p3,?p4,?p5⟩
   case pm =>
    apply Xaa
    ·simp only [idx,reduceIte,reduceEqDiff,reduceLT,reduceAdd,reduceMul,reduceLeDiff,ZS]; rfl
    apply Xaa
    ·simp only [hK,reduceSub,reduceIte,reduceEqDiff,reduceLT,reduceAdd,reduceMul,reduceLeDiff,ZS,ZT]; rfl
    apply Xaa
    ·simp only [hV,reduceSub,reduceIte,reduceEqDiff,reduceLT,reduceAdd,reduceMul,reduceLeDiff,ZS,ZT]; rfl
    apply Xaa
    ·simp only [hTi,hTb,hR,hx2,reduceSub,reduceIte,reduceEqDiff,reduceLT,reduceAdd,reduceMul,reduceLeDiff,ZU,ZS,ZT]; rfl
    apply Xaa
    ·simp only [h1,reduceIte,reduceEqDiff,reduceLT,reduceAdd,reduceMul,reduceLeDiff,ZS]; rfl
    rfl
   all_goals rfl
  ·rw [h1] at hkind
   have hkind:kind=2:=hkind
   subst hkind
   refine ⟨?qa,?qm,?q1,?q2,?q3,?q4,?q5⟩
   case qm =>
    apply Xaa
    ·simp only [idx,reduceIte,reduceEqDiff,reduceLT,reduceAdd,reduceMul,reduceLeDiff,ZS]; rfl
    apply Xaa
    ·simp only [hK,reduceSub,reduceIte,reduceEqDiff,reduceLT,reduceAdd,reduceMul,reduceLeDiff,ZS,ZT]; rfl
    apply Xaa
    ·simp only [hV,reduceSub,reduceIte,reduceEqDiff,reduceLT,reduceAdd,reduceMul,reduceLeDiff,ZS,ZT]; rfl
    apply Xaa
    ·simp only [hTi,hTb,hR,hx2,reduceSub,reduceIte,reduceEqDiff,reduceLT,reduceAdd,reduceMul,reduceLeDiff,ZU,ZS,ZT]; rfl
    apply Xaa
    ·simp only [h1,reduceIte,reduceEqDiff,reduceLT,reduceAdd,reduceMul,reduceLeDiff,ZS]; rfl
    rfl
   all_goals rfl
 obtain ⟨⟨pn,pt,pd⟩,hpre,e1,e2,l0,l4,l9⟩:=pre
 simp only at e1 e2
 subst e1 e2
 rcases hE with ⟨hbad,rfl⟩ | ⟨hok,rfl,hn,hg⟩
 ·rw [hbad]
  simp only [if_true]
  refine Xdu (m:=104) (v:=Xbw 15) (a:=⟨an,at',[]⟩) (H1:=M') rfl t103 rfl ?hb rfl ?hz
  case hb =>
   refine hpre.trans ?_
   apply Xaa
   ·simp only [reduceIte,reduceEqDiff,reduceLT,reduceAdd,reduceMul,reduceLeDiff,ZS]; rfl
   apply Xbj
   apply Xaa
   ·simp only [l4,reduceSub,reduceIte,reduceEqDiff,reduceLT,reduceAdd,reduceMul,reduceLeDiff,ZS,ZT]; rfl
   apply Xcb
   apply Xaf
   simp only [AAct.keepT,Zv,Zz,Xad,reduceIte,reduceEqDiff,l0,l9]
   exact hr
  case hz =>
   rw [Xmo 15 (by unfold Xce; rw [hstH,Xb0,Bool.true_or]),hstH]
 ·rw [hok]
  simp only at hn hg
  subst hn
  simp only [Ze,if_false]
  refine Xac (m:=104) (v:=Xad at' 10) (a:=?ra) (H1:=M') rfl t103 rfl ?hb2 ?hd2 ?hr2 ?hz2
  case hb2 =>
   refine hpre.trans ?_
   apply Xaa
   ·simp only [reduceIte,reduceEqDiff,reduceLT,reduceAdd,reduceMul,reduceLeDiff,ZS]; rfl
   apply Xaa
   ·apply Xaa
    ·simp only [l4,reduceSub,reduceIte,reduceEqDiff,reduceLT,reduceAdd,reduceMul,reduceLeDiff,ZS,ZT]; rfl
    apply Xab
    apply Xaf
    simp only [AAct.keepT,Zv,Zz,Xad,reduceIte,reduceEqDiff,l0,l9]
    exact hr
   apply Xaa
   ·simp only [reduceIte,reduceEqDiff,reduceLT,reduceAdd,reduceMul,reduceLeDiff,ZS]; rfl
   rfl
  case hd2=>rfl
  case hr2=>simp only [Xon,Xc6,Xbc,Xad,reduceIte,reduceEqDiff,Zh]
  case hz2=>exact Xpu hstH (by simp) hg
end
noncomputable def Xfv:IC:=(Xq5.c.loops).getD 0 .bad
noncomputable def Xpm:IC:=(Xq5.c.loops).getD 1 .bad
noncomputable def Xfs:IC:=IC.inn ((Xfv.nb 1).hd)
noncomputable def Xid:IC:=Xfs.nb 2
theorem Xww (P:Program) (F:Xc5) (N:Nat) (x:El) (hkl:x.kids.length≤1073741824) (t0 t4 t10 t11 t12 t13:AV) (W:Mem) (p:Nat) (hW:W[p]? = some (.row (eC x) 0 (25+1))):∀ (fuel j:Nat) (s:List UInt8),j≤x.kids.length→x.kids.length-j<fuel→s.length+wEls (x.kids.drop j)≤1073741824 →
  ∃ t,Xa6 (fun a H=>evI P cfg F N Xpm a H) (some [0,4,10,11,12,13,14,15,16]) fuel ⟨121,[(0,t0),(4,t4),(10,t10),(11,t11),(12,t12),(13,t13),(14,.ptr p 0 0),(15,.str s),(16,.int .i64 j)],[]⟩ W=some (.exit 3,⟨121,t,[]⟩,W)∧Xad t 0=t0∧Xad t 4=t4∧Xad t 10=t10∧Xad t 11=t11∧Xad t 12=t12∧Xad t 13=t13∧Xad t 15=.str (Xiy s (x.kids.drop j))
 | 0,j,_,_,h,_=>by omega
 | fuel+1,j,s,hj,hf,hs=>by
  rcases Nat.lt_or_ge j x.kids.length with hlt | hge
  ·obtain ⟨y,hy⟩:=Xbb hlt
   have hget:(kC x.kids).drop (j*5)=eC y++kC (x.kids.drop (j+1)):=by rw [Xd1,hy]; rfl
   have hlen:j*5+5≤(kC x.kids).length:=by rw [Xen]; omega
   have hi:(j:Int)<(x.kids.length:Int):=by omega
   have hw:=Xav hlt (by omega)
   have hn:=Xan j .i64
   rw [hy] at hs ⊢
   simp only [wEls] at hs
   have htx:y.tx.length≤wEl y:=by rw [Xb2]; omega
   have h40:s.length+y.tx.length≤2 ^ 40:=by omega
   have ih:=Xww P F N x hkl t0 t4 t10 t11 t12 t13 W p hW fuel (j+1)
   rw [show Xiy s (y::x.kids.drop (j+1))=if (y.nm == [])=true then Xiy (s++y.tx) (x.kids.drop (j+1)) else Xiy s (x.kids.drop (j+1)) by rw [Xiy]]
   cases h1:(y.nm == [])
   ·simp only [Ze,if_false]
    obtain ⟨t,ht,hQ⟩:=ih s (by omega) (by omega) (by omega)
    refine ⟨t,?_,hQ⟩
    refine Xap (by simp only [Xpm,Xq5,IC.loops,hi,hlt,hlen,hget,hn,hw,h1,hW,reduceSub,reduceIte,reduceEqDiff,reduceLT,reduceAdd,reduceMul,reduceLeDiff,ZS,ZT]; rfl) ?_
    rw [Xbx]
    exact ht
   ·simp only [if_true]
    obtain ⟨t,ht,hQ⟩:=ih (s++y.tx) (by omega) (by omega) (by rw [List.length_append]; omega)
    refine ⟨t,?_,hQ⟩
    refine Xap (by simp only [Xpm,Xq5,IC.loops,hi,hlt,hlen,hget,hn,hw,h1,hW,h40,reduceSub,reduceIte,reduceEqDiff,reduceLT,reduceAdd,reduceMul,reduceLeDiff,ZS,ZT]; rfl) ?_
    rw [Xbx]
    exact ht
  ·have hk':j=x.kids.length:=by omega
   subst hk'
   simp only [List.drop_length,Xiy]
   exact ⟨_,Xae (by simp only [Xpm,Xq5,IC.loops,Int.lt_irrefl,hW,reduceSub,reduceIte,reduceEqDiff,reduceLT,reduceAdd,reduceMul,reduceLeDiff,ZS,ZT]; rfl),rfl,rfl,rfl,rfl,rfl,rfl,rfl⟩
theorem Xlw (n:Nat) (r:Rn):lowL n (rnC r)=true:=rfl
theorem Xm9 {n0 sz e n cnt m:Nat} {cs new:List AV} {v v':AV} {M M':Mem} (h:Xbr n0 sz (e+1) n cs v M) (hM:Xb6 m M=true) (hnew:lowL m new=true) (ha:Xgu M e sz cnt new v=some (v',M')) (hc:cnt≠0):Xb6 m M'=true:=by
 rcases h with ⟨rfl,rfl,rfl⟩ | ⟨q,st,rfl,h2,h3⟩
 ·simp only [Xgu,hc,if_false] at ha
  split at ha
  ·injection ha with ha
   injection ha with _ ha
   rw [← ha,Xcp,hM,Bool.true_and]
   simp [Xb6,Xcn,hnew]
  ·cases ha
 ·simp only [Xgu,h3] at ha
  split at ha
  ·injection ha with ha
   injection ha with _ ha
   rw [← ha]
   refine Xb9 hM ?_ q
   have:=List.all_eq_true.1 hM _ (List.mem_of_getElem? h3)
   simp only [Xcn] at this ⊢
   rw [Xer,this,hnew]; rfl
  ·cases ha
theorem Xhi {n m:Nat} {M:Mem} (h:Xb6 n M=true):Xb6 n (M.take m)=true:=by
 unfold Xb6 at *
 exact List.all_eq_true.2 fun b hb=>List.all_eq_true.1 h b (List.mem_of_mem_take hb)
def RPcEnd (lb:Nat) (H:Mem) (px g e:Nat) (vr vs:AV) (L:Mem) (acc:List Rn) (t0 t4 t10 t11 t13:AV) (W:Mem):Out × AAct × Mem→Prop
 | (o,a,W')=>o=.normal∧a.n=121∧a.d=[]∧Xad a.t 0=t0∧Xad a.t 4=t4∧Xad a.t 10=t10∧Xad a.t 11=t11∧Xad a.t 13=t13∧Xak (H.set px (Xa0 vr vs g e)++L) W'∧Xb6 lb W'=true∧W.length≤W'.length∧Xbr (H.length+L.length) 9 (43+1) acc.length (Xat acc) (Xad a.t 12) W'
theorem Xfe {H L M:Mem} {p:Nat} {b:Blk} (h:Xak (H.set p b++L) M):H.length+L.length≤M.length:=by
 have:=Xak.len h
 rw [List.length_append,List.length_set] at this; exact this
section
variable {N:Nat} (hN:9223372036854775808≤N)
include hN
theorem rpc_mid (lb m:Nat) (x:El) (hx:Lim x) (hm:dEl x+8≤m) (hsp:(x.sp == wNs)=true) (rels:List Rl) (hl:rels.length≤4611686018427387904) (kind style:Int) (H:Mem) (hlb:lb≤H.length) (L M:Mem) (px p4 g e g0 e0:Nat) (vr vs:AV) (hpx:H[px]? = some (Xa0 vr vs g0 e0)) (hv:RlV H vr rels) (hvl:Xcn lb (Xa0 vr vs g e)=true)
  (hst:Xak (H.set px (Xa0 vr vs g e)++L) M) (hlo:Xb6 lb M=true) (acc:List Rn) (hac:acc.length<1073741824) (v:AV) (hg:Xbr (H.length+L.length) 9 (43+1) acc.length (Xat acc) v M) (t13:AV)
  (t:List (Nat × AV)) (l0:Xad t 0=.ptr px 0 0) (l4:Xad t 4=.ptr p4 0 0) (l10:Xad t 10=.int .i64 style) (l11:Xad t 11=.int .i64 kind) (l12:Xad t 12=v) (l13:Xad t 13=t13) (l14:Xad t 14=.ptr M.length 0 0) :
  ∃ r,evI Tryz.prog cfg (Xaw Tryz.prog cfg T N m) N Xid ⟨121,t,[]⟩ (M++[.row (eC x) 0 (25+1)])=some r∧RPcEnd lb H px g (erN e (pcD rels kind style x).2) vr vs L (acc++(pcD rels kind style x).1.toList) (.ptr px 0 0) (.ptr p4 0 0) (.int .i64 style) (.int .i64 kind) t13 M r:=by
 have hHL:H.length+L.length≤M.length:=Xfe hst
 have hpl:px<H.length:=(List.getElem?_eq_some_iff.1 hpx).1
 have hcs:=Xa7 acc
 -- appending a run behind new rows
 have app:∀ (R:Mem),Xb6 lb R=true→∀ r:Rn,∃ v' M',Xgu (M++(R++[.row (rnC r) 0 (43+1)])) 43 9 1 (rnC r) v=some (v',M')∧Xbr (H.length+L.length) 9 (43+1) (acc++[r]).length (Xat (acc++[r])) v' M'∧Xb6 lb M'=true∧Xak (H.set px (Xa0 vr vs g e)++L) M'∧M.length≤M'.length:=fun R hR r=>by
  have g1:Xbr (H.length+L.length) 9 (43+1) acc.length (Xat acc) v (M++(R++[.row (rnC r) 0 (43+1)])):=hg.app _
  obtain ⟨v',M',ha,h1,h2,h3,h4⟩:=Xfn (sz:=9) (cnt:=1) (e:=43) (new:=rnC r) g1 hcs (by decide) (by omega) (by rw [List.length_append]; omega)
  have hlo':Xb6 lb (M++(R++[.row (rnC r) 0 (43+1)]))=true:=by
   rw [Xcp,Xcp,hlo,hR]; rfl
  have h5:=Xm9 g1 hlo' (Xlw _ r) ha (by decide)
  rw [List.take_append_of_le_length hHL] at h4
  have h6:Xak (H.set px (Xa0 vr vs g e)++L) M':=hst.of_take (by rw [List.length_append,List.length_set]; exact Nat.le_refl _) h4
  rw [List.length_append] at h2
  have e6:Xat acc++rnC r=Xat (acc++[r]):=by rw [Xct]; simp [Xat]
  have e7:acc.length+1=(acc++[r]).length:=by simp
  rw [e6,e7] at h1
  have h7:M.length≤M'.length:=by omega
  exact ⟨v',M',ha,h1,h5,h6,h7⟩
 have hloE:Xb6 lb [Blk.row (eC x) 0 (25+1)]=true:=by simp [Xb6,Xcn,Xay]
 have none_:∀ (a:AAct),evI Tryz.prog cfg (Xaw Tryz.prog cfg T N m) N Xid ⟨121,t,[]⟩ (M++[.row (eC x) 0 (25+1)])=some (.normal,a,M++[.row (eC x) 0 (25+1)])→a.n=121→a.d=[]→Xad a.t 0=.ptr px 0 0→Xad a.t 4=.ptr p4 0 0→Xad a.t 10=.int .i64 style→Xad a.t 11=.int .i64 kind→Xad a.t 12=v→Xad a.t 13=t13 →
   ∃ r,evI Tryz.prog cfg (Xaw Tryz.prog cfg T N m) N Xid ⟨121,t,[]⟩ (M++[.row (eC x) 0 (25+1)])=some r∧RPcEnd lb H px g e vr vs L acc (.ptr px 0 0) (.ptr p4 0 0) (.int .i64 style) (.int .i64 kind) t13 M r:=fun a h1 h2 h3 h4 h5 h6 h7 h8 h9 =>
  ⟨_,h1,rfl,h2,h3,h4,h5,h6,h7,h9,hst.app _,by rw [Xcp,hlo,hloE]; rfl,by simp,by rw [h8]; exact hg.app _⟩
 have hpc:pcD rels kind style x=if (x.nm == tS)=true then (if (Xiy [] x.kids == [])=true then (none,false) else (some { Xj5 kind style with text:=Xc4 (Xiy [] x.kids) },false))
  else if (x.nm == tabS)=true then (some { Xj5 kind style with text:=[9] },false)
  else if (x.nm == brS || x.nm == crS)=true then (some (Xj5 3 0),false)
  else if (x.nm == Xqy)=true then (match Xbq Xfq (dEl x) x.kids with
   | none=>(none,false)
   | some b=>(some (Xng rels style x b).1,(Xng rels style x b).2))
  else (none,false):=by unfold pcD; rw [if_pos hsp]; rfl
 rw [hpc]
 cases h1:(x.nm == tS)
 rotate_left
 ·simp only [tS] at h1
  simp only [if_true]
  have hk:=hx.kids
  have hw:wEls x.kids≤1048576:=by have:=hx.2; rw [Xb2] at this; omega
  obtain ⟨t',hr,k0,k4,k10,k11,k12,k13,k15⟩:=Xww Tryz.prog (Xaw Tryz.prog cfg T N m) N x (by omega) (.ptr px 0 0) (.ptr p4 0 0) (.int .i64 style) (.int .i64 kind) v t13 (M++[.row (eC x) 0 (25+1)]) M.length (Xfr _ _) N 0 [] (Nat.zero_le _) (by omega) (by rw [List.drop_zero]; simp; omega)
  rw [List.drop_zero] at k15
  have htl:=Xi6 x.kids []
  rw [List.length_nil] at htl
  obtain ⟨m',rfl⟩ : ∃ m',m=m'+3:=⟨m-3,by omega⟩
  have u1:=fun H=>Xfi (N:=N) m' (Xiy [] x.kids) (by omega) (by omega) H
  generalize Xiy [] x.kids=s at *
  cases h2:(s == [])
  ·simp only [Ze,if_false,Xgi,Option.toList]
   obtain ⟨v',M',ha,b1,b2,b3,b4⟩:=app [.row (eC x) 0 (25+1)] hloE { Xj5 kind style with text:=Xc4 s }
   rw [rnT_eq] at ha
   simp only [rnT,Zp,Zr] at ha
   refine ⟨(.normal,?aa,M'),?ma,rfl,?a1,?a2,?a3,?a4,?a5,?a6,?a7,b3,b2,b4,?a8⟩
   case ma =>
    apply Xaa
    ·simp only [l14,h1,reduceSub,reduceIte,reduceEqDiff,reduceLT,reduceAdd,reduceMul,reduceLeDiff,ZS,ZT]; rfl
    apply Xbh
    apply Xaa
    ·simp only [h1,reduceIte,reduceEqDiff,reduceLT,reduceAdd,reduceMul,reduceLeDiff,ZS]; rfl
    apply Xde (by rfl)
    apply Xaa
    ·simp only [reduceIte,reduceEqDiff,reduceLT,reduceAdd,reduceMul,reduceLeDiff,ZS]; rfl
    apply Xaa
    ·apply Xaa
     ·simp only [l14,reduceSub,reduceIte,reduceEqDiff,reduceLT,reduceAdd,reduceMul,reduceLeDiff,ZS,ZT]; rfl
     apply Xab
     apply Xaf
     simp only [AAct.keepT,Zv,Zz,Xad,reduceIte,reduceEqDiff,l0,l4,l10,l11,l12,l13,l14]
     exact hr
    simp only [k10,k11,k12,k15,u1,h2,Xfu,Xcd,ha,reduceIte,reduceEqDiff,reduceLT,reduceAdd,reduceMul,reduceLeDiff,ZS]; rfl
   case a3=>exact k0
   case a4=>exact k4
   case a5=>exact k10
   case a6=>exact k11
   case a7=>exact k13
   case a8=>exact b1
   all_goals rfl
  ·simp only [if_true,Xgi,Option.toList,Zs]
   refine none_ ?ba ?mb ?b1 ?b2 ?b3 ?b4 ?b5 ?b6 ?b7 ?b8
   case mb =>
    apply Xaa
    ·simp only [l14,h1,reduceSub,reduceIte,reduceEqDiff,reduceLT,reduceAdd,reduceMul,reduceLeDiff,ZS,ZT]; rfl
    apply Xbh
    apply Xaa
    ·simp only [h1,reduceIte,reduceEqDiff,reduceLT,reduceAdd,reduceMul,reduceLeDiff,ZS]; rfl
    apply Xde (by rfl)
    apply Xaa
    ·simp only [reduceIte,reduceEqDiff,reduceLT,reduceAdd,reduceMul,reduceLeDiff,ZS]; rfl
    apply Xaa
    ·apply Xaa
     ·simp only [l14,reduceSub,reduceIte,reduceEqDiff,reduceLT,reduceAdd,reduceMul,reduceLeDiff,ZS,ZT]; rfl
     apply Xab
     apply Xaf
     simp only [AAct.keepT,Zv,Zz,Xad,reduceIte,reduceEqDiff,l0,l4,l10,l11,l12,l13,l14]
     exact hr
    simp only [k15,h2,reduceIte,reduceEqDiff,reduceLT,reduceAdd,reduceMul,reduceLeDiff,ZS]; rfl
   case b3=>exact k0
   case b4=>exact k4
   case b5=>exact k10
   case b6=>exact k11
   case b7=>exact k12
   case b8=>exact k13
   all_goals rfl
 simp only [tS] at h1
 simp only [Ze,if_false]
 cases h2:(x.nm == tabS)
 rotate_left
 ·simp only [tabS] at h2
  simp only [if_true,Xgi,Option.toList]
  obtain ⟨v',M',ha,b1,b2,b3,b4⟩:=app [.row (eC x) 0 (25+1)] hloE { Xj5 kind style with text:=[9] }
  rw [rnT_eq] at ha
  simp only [rnT,Zp,Zr] at ha
  refine ⟨(.normal,?ca,M'),?mc,rfl,?c1,?c2,?c3,?c4,?c5,?c6,?c7,b3,b2,b4,?c8⟩
  case mc=>simp only [Xid,Xfs,Xfv,Xq5,IC.loops,IC.nb,IC.hd,IC.inn,l10,l11,l12,l14,h1,h2,Xfu,Xcd,ha,reduceSub,reduceIte,reduceEqDiff,reduceLT,reduceAdd,reduceMul,reduceLeDiff,ZS,ZT]; rfl
  case c3=>exact l0
  case c4=>exact l4
  case c5=>exact l10
  case c6=>exact l11
  case c7=>exact l13
  case c8=>exact b1
  all_goals rfl
 simp only [tabS] at h2
 simp only [Ze,if_false]
 cases h3:(x.nm == brS)
 rotate_left
 ·simp only [brS] at h3
  simp only [Bool.true_or,if_true,Xgi,Option.toList]
  obtain ⟨v',M',ha,b1,b2,b3,b4⟩:=app [.row (eC x) 0 (25+1)] hloE (Xj5 3 0)
  rw [rnT_eq0] at ha
  simp only [rnT,Zp,Zr] at ha
  refine ⟨(.normal,?da,M'),?md,rfl,?d1,?d2,?d3,?d4,?d5,?d6,?d7,b3,b2,b4,?d8⟩
  case md=>simp only [Xid,Xfs,Xfv,Xq5,IC.loops,IC.nb,IC.hd,IC.inn,l10,l11,l12,l14,h1,h2,h3,Xfu,Xcd,ha,reduceSub,reduceIte,reduceEqDiff,reduceLT,reduceAdd,reduceMul,reduceLeDiff,ZS,ZT]; rfl
  case d3=>exact l0
  case d4=>exact l4
  case d5=>exact l10
  case d6=>exact l11
  case d7=>exact l13
  case d8=>exact b1
  all_goals rfl
 simp only [brS] at h3
 cases h4:(x.nm == crS)
 rotate_left
 ·simp only [crS] at h4
  simp only [Bool.or_true,if_true,Xgi,Option.toList]
  obtain ⟨v',M',ha,b1,b2,b3,b4⟩:=app [.row (eC x) 0 (25+1)] hloE (Xj5 3 0)
  rw [rnT_eq0] at ha
  simp only [rnT,Zp,Zr] at ha
  refine ⟨(.normal,?ea,M'),?me,rfl,?e1,?e2,?e3,?e4,?e5,?e6,?e7,b3,b2,b4,?e8⟩
  case me=>simp only [Xid,Xfs,Xfv,Xq5,IC.loops,IC.nb,IC.hd,IC.inn,l10,l11,l12,l14,h1,h2,h3,h4,Xfu,Xcd,ha,reduceSub,reduceIte,reduceEqDiff,reduceLT,reduceAdd,reduceMul,reduceLeDiff,ZS,ZT]; rfl
  case e3=>exact l0
  case e4=>exact l4
  case e5=>exact l10
  case e6=>exact l11
  case e7=>exact l13
  case e8=>exact b1
  all_goals rfl
 simp only [crS] at h4
 simp only [Bool.or_self,Ze,if_false]
 cases h5:(x.nm == Xqy)
 ·simp only [Xqy] at h5
  simp only [Ze,if_false,Xgi,Option.toList,Zs]
  refine none_ ?fa ?mf ?f1 ?f2 ?f3 ?f4 ?f5 ?f6 ?f7 ?f8
  case mf=>simp only [Xid,Xfs,Xfv,Xq5,IC.loops,IC.nb,IC.hd,IC.inn,l10,l11,l12,l14,h1,h2,h3,h4,h5,reduceSub,reduceIte,reduceEqDiff,reduceLT,reduceAdd,reduceMul,reduceLeDiff,ZS,ZT]; rfl
  case f3=>exact l0
  case f4=>exact l4
  case f5=>exact l10
  case f6=>exact l11
  case f7=>exact l12
  case f8=>exact l13
  all_goals rfl
 simp only [Xqy] at h5
 simp only [if_true]
 have hpxM:M[px]? = some (Xa0 vr vs g e):=hst.get0 (Xax (List.getElem?_set_self hpl) L)
 have hpM:px<M.length:=by omega
 have hvM:RlV M vr rels:=by
  rcases hv with ⟨q,st,ty,h1,h2⟩ | h
  ·refine .inl ⟨q,st,ty,h1,hst.get0 (Xax ?_ L)⟩
   rw [List.getElem?_set_ne,h2]
   rintro rfl
   rw [hpx] at h2
   injection h2 with h2
   injection h2 with h2
   have:=congrArg List.length h2
   rw [Xpl] at this
   cases rels with
   | nil=>simp at this
   | cons a rs=>cases rs with
    | nil=>simp [Xg6,rlC] at h2
    | cons b rs=>simp at this; omega
  ·exact .inr h
 have hI:=rimg_eq (N:=N) hN m x hx (by omega) (M++[.row (eC x) 0 (25+1)]) (LoH.app (Xcl (by omega) hlo) (Xcl (by rw [List.length_append]; omega) hloE)) px g e vr vs rels hl (Xax hpxM _) (hvM.app _)
 have hsetM:∀ (L:Mem) (c:Blk),(M++L).set px c=M.set px c++L:=fun L c=>Xd9 hpxM L c
 cases hf:Xbq Xfq (dEl x) x.kids with
 | none =>
  rw [hf] at hI
  simp only [Xgi,Option.toList,Zs,Xj5,rnC] at hI ⊢
  refine ⟨(.normal,?ga,M++?gL),?mg,rfl,?g1,?g2,?g3,?g4,?g5,?g6,?g7,hst.app _,?g9,by simp,?g8⟩
  case mg=>simp only [Xid,Xfs,Xfv,Xq5,IC.loops,IC.nb,IC.hd,IC.inn,l0,l10,l11,l12,l14,h1,h2,h3,h4,h5,hI,reduceSub,reduceIte,reduceEqDiff,reduceLT,reduceAdd,reduceMul,reduceLeDiff,ZS,ZT]; rfl
  case g3=>exact l0
  case g4=>exact l4
  case g5=>exact l10
  case g6=>exact l11
  case g7=>exact l13
  case g8 =>
   have h8:∀ (z:AV) (R:Mem),z=v→Xbr (H.length+L.length) 9 (43+1) acc.length (Xat acc) z (M++R):=fun z R h=>by rw [h]; exact hg.app R
   exact h8 _ _ l12
  case g9 =>
   rw [Xcp,hlo]
   simp [Xb6,Xcn,Xay,lowL,low]
  all_goals rfl
 | some b =>
  rw [hf] at hI
  have e8:(Xng rels style x b).1={ (Xng rels 0 x b).1 with style:=style }:=rfl
  have e9:(Xng rels style x b).2=(Xng rels 0 x b).2:=rfl
  dsimp only
  rw [e8,e9]
  simp only [hsetM] at hI
  generalize (Xng rels 0 x b).2=ib at *
  generalize (Xng rels 0 x b).1=ir at *
  generalize erN e ib=e' at *
  -- the memory behind the image
  have hx':Xcn lb (Xa0 vr vs g e')=true:=hvl
  have hst':Xak (H.set px (Xa0 vr vs g e')++L) (M.set px (Xa0 vr vs g e')):=by
   have h8:(H.set px (Xa0 vr vs g e)++L).set px (Xa0 vr vs g e')=H.set px (Xa0 vr vs g e')++L:=by
    rw [List.set_append_left _ _ (by rw [List.length_set]; exact hpl),List.set_set]
   unfold Xak at hst ⊢
   rw [← h8,List.length_set,List.take_set,hst]
  have hlo':Xb6 lb (M.set px (Xa0 vr vs g e'))=true:=Xb9 hlo hx' px
  have hg':Xbr (H.length+L.length) 9 (43+1) acc.length (Xat acc) v (M.set px (Xa0 vr vs g e')):=by
   rcases hg with hg | ⟨q,st,b1,b2,b3⟩
   ·exact .inl hg
   ·exact .inr ⟨q,st,b1,b2,by rw [List.getElem?_set_ne (by omega)]; exact b3⟩
  have hMl:(M.set px (Xa0 vr vs g e')).length=M.length:=List.length_set
  have s0:∀ L:Mem,(M.set px (Xa0 vr vs g e')++L)[M.length]? = L[0]?:=fun L=>Xgx L
  have sk:∀ (L:Mem) (k:Nat),(M.set px (Xa0 vr vs g e')++L)[M.length+k]? = L[k]?:=fun L k=>Xkt L k
  have t0:∀ (L:Mem) (c:Blk),(M.set px (Xa0 vr vs g e')++L).set M.length c=M.set px (Xa0 vr vs g e')++L.set 0 c:=fun L c=>setS_0 L c
  have tk:∀ (L:Mem) (k:Nat) (c:Blk),(M.set px (Xa0 vr vs g e')++L).set (M.length+k) c=M.set px (Xa0 vr vs g e')++L.set k c:=fun L k c=>Xtl L k c
  generalize M.set px (Xa0 vr vs g e')=Ms at *
  obtain ⟨v',M',ha,b1,b2,b3,b4⟩ : ∃ v' M',Xgu (Ms++[.row (eC x) 0 (25+1),.row (rnC { ir with style:=style }) 0 (43+1),.row (rnC { ir with style:=style }) 0 (43+1)]) 43 9 1 (rnC { ir with style:=style }) v=some (v',M')∧Xbr (H.length+L.length) 9 (43+1) (acc++[{ ir with style:=style }]).length (Xat (acc++[{ ir with style:=style }])) v' M'∧Xb6 lb M'=true∧Xak (H.set px (Xa0 vr vs g e')++L) M'∧M.length≤M'.length:=by
   have g1:Xbr (H.length+L.length) 9 (43+1) acc.length (Xat acc) v (Ms++[.row (eC x) 0 (25+1),.row (rnC { ir with style:=style }) 0 (43+1),.row (rnC { ir with style:=style }) 0 (43+1)]):=hg'.app _
   obtain ⟨v',M',ha,h1,h2,h3,h4⟩:=Xfn (sz:=9) (cnt:=1) (e:=43) (new:=rnC { ir with style:=style }) g1 hcs (by decide) (by omega) (by rw [List.length_append]; omega)
   have hlo2:Xb6 lb (Ms++[.row (eC x) 0 (25+1),.row (rnC { ir with style:=style }) 0 (43+1),.row (rnC { ir with style:=style }) 0 (43+1)])=true:=by
    rw [Xcp,hlo']
    simp [Xb6,Xcn,Xay,Xlw]
   have h5:=Xm9 g1 hlo2 (Xlw _ _) ha (by decide)
   rw [List.take_append_of_le_length (by omega)] at h4
   have h6:Xak (H.set px (Xa0 vr vs g e')++L) M':=hst'.of_take (by rw [List.length_append,List.length_set]; exact Nat.le_refl _) h4
   rw [List.length_append] at h2
   have e6:Xat acc++rnC { ir with style:=style }=Xat (acc++[{ ir with style:=style }]):=by rw [Xct]; simp [Xat]
   have e7:acc.length+1=(acc++[{ ir with style:=style }]).length:=by simp
   rw [e6,e7] at h1
   exact ⟨v',M',ha,h1,h5,h6,by omega⟩
  simp only [rnC] at hI ha
  simp only [Option.toList]
  refine ⟨(.normal,?ha,M'),?mh,rfl,?h1,?h2,?h3,?h4,?h5,?h6,?h7,b3,b2,b4,?h8⟩
  case mh=>simp only [Xid,Xfs,Xfv,Xq5,IC.loops,IC.nb,IC.hd,IC.inn,l0,l10,l11,l12,l14,h1,h2,h3,h4,h5,hI,hMl,s0,sk,t0,tk,Xfu,Xcd,ha,reduceSub,reduceIte,reduceEqDiff,reduceLT,reduceAdd,reduceMul,reduceLeDiff,ZS,ZT]; rfl
  case h3=>exact l0
  case h4=>exact l4
  case h5=>exact l10
  case h6=>exact l11
  case h7=>exact l13
  case h8=>exact b1
  all_goals rfl
end
def RvC (H:Mem) (v:AV) (l:List St):Prop:=(∃ q st ty,v=.slc q 0 l.length 6 st∧H[q]? = some (.row (Xdb l) st ty))∨v=.lst l.length (Xdb l)
noncomputable def Xlq:IC:=(I60.c.loops).getD 0 .bad
theorem Xlx (P:Program) (F:Xc5) (N:Nat) (id:List UInt8) (H:Mem) (v:AV) (l:List St) (hl:l.length≤4611686018427387904) (hv:RvC H v l):∀ (fuel k:Nat),k≤l.length→l.length-k<fuel →
  ∃ t,Xa6 (fun a H=>evI P cfg F N Xlq a H) (some [0,1,5]) fuel ⟨20,[(0,v),(1,.str id),(5,.int .i64 k)],[]⟩ H =
   (match ixF id (l.drop k) k with
   | some j=>some (.ret,⟨20,(4,.int .i64 j)::t,[]⟩,H)
   | none=>some (.exit 0,⟨20,t,[]⟩,H))
 | 0,k,_,h=>by omega
 | fuel+1,k,hk,hf=>by
  rcases Nat.lt_or_ge k l.length with hlt | hge
  ·obtain ⟨x,hx⟩:=Xbb hlt
   obtain ⟨r,hr⟩:=Xcr hlt
   have hxe:l.getD k default=x:=by
    have h0:(l.drop k)[0]? = some x:=by rw [hx]; rfl
    rw [List.getD_eq_getElem?_getD]
    simpa using congrArg (Option.getD · default) h0
   rw [hxe] at hr
   obtain ⟨g1,g2,g3,g4,g5⟩:=Xcf hr
   have e1:k*6+1≤(Xdb l).length:=by omega
   have e5:0<((Xdb l).drop (k*6)).length:=by rw [List.length_drop]; omega
   have e6:1≤((Xdb l).drop (k*6)).length:=e5
   have hi:(k:Int)<(l.length:Int):=by omega
   have hw:=Xav hlt (by omega)
   have hn:=Xan k .i64
   obtain ⟨t,ht⟩:=Xlx P F N id H v l hl hv fuel (k+1) (by omega) (by omega)
   rw [hx]
   have e:ixF id (x::l.drop (k+1)) k=if (x.id == id)=true then some k else ixF id (l.drop (k+1)) (k+1):=rfl
   rw [e]
   rcases hv with ⟨q,st,ty,rfl,hq⟩ | rfl
   ·cases h1:(x.id == id)
    ·refine ⟨t,?_⟩
     simp only [Ze,if_false]
     refine Xap (H':=H) (by simp only [Xlq,I60,IC.loops,hi,hlt,hn,hw,hq,g1,g3,e1,h1,reduceIte,reduceEqDiff,reduceLT,reduceAdd,reduceMul,reduceLeDiff,ZS]; rfl) ?_
     rw [Xbx]
     exact ht
    ·simp only [if_true]
     exact ⟨_,Xah (by simp only [Xlq,I60,IC.loops,hi,hlt,hn,hw,hq,g1,g3,e1,h1,reduceIte,reduceEqDiff,reduceLT,reduceAdd,reduceMul,reduceLeDiff,ZS]; rfl)⟩
   ·cases h1:(x.id == id)
    ·refine ⟨t,?_⟩
     simp only [Ze,if_false]
     refine Xap (H':=H) (by simp only [Xlq,I60,IC.loops,hi,hlt,hn,hw,g1,g3,e1,e5,e6,h1,reduceIte,reduceEqDiff,reduceLT,reduceAdd,reduceMul,reduceLeDiff,ZS]; rfl) ?_
     rw [Xbx]
     exact ht
    ·simp only [if_true]
     exact ⟨_,Xah (by simp only [Xlq,I60,IC.loops,hi,hlt,hn,hw,g1,g3,e1,e5,e6,h1,reduceIte,reduceEqDiff,reduceLT,reduceAdd,reduceMul,reduceLeDiff,ZS]; rfl)⟩
  ·have hk':k=l.length:=by omega
   subst hk'
   simp only [List.drop_length,ixF]
   rcases hv with ⟨q,st,ty,rfl,hq⟩ | rfl
   ·exact ⟨_,Xae (by simp only [Xlq,I60,IC.loops,Int.lt_irrefl,reduceIte,reduceEqDiff,reduceLT,reduceAdd,reduceMul,reduceLeDiff,ZS]; rfl)⟩
   ·exact ⟨_,Xae (by simp only [Xlq,I60,IC.loops,Int.lt_irrefl,reduceIte,reduceEqDiff,reduceLT,reduceAdd,reduceMul,reduceLeDiff,ZS]; rfl)⟩
theorem Xhh (P:Program) (N d:Nat) (hd:1≤d) (id:List UInt8) (H:Mem) (v:AV) (l:List St) (hN:l.length<N) (hl:l.length≤4611686018427387904) (hv:RvC H v l) :
  Xaw P cfg T N d 60 [v,.str id] H=some (.ret (.int .i64 (ixZ (ixF id l 0))),H):=by
 obtain ⟨n,rfl⟩ : ∃ k,d=k+1:=⟨d-1,by omega⟩
 obtain ⟨t,ht⟩:=Xlx P (Xaw P cfg T N n) N id H v l hl hv N 0 (Nat.zero_le _) (by omega)
 rw [List.drop_zero] at ht
 cases hx:ixF id l 0 with
 | some j =>
  rw [hx] at ht
  refine Xac (m:=20) (v:=.int .i64 (j:Nat)) (a:=?ab) (H1:=H) rfl t60 rfl ?hb ?hd ?hr ?hz
  case hb =>
   apply Xaa
   ·simp only [idx,I60,reduceIte,reduceEqDiff,reduceLT,reduceAdd,reduceMul,reduceLeDiff,ZS]; rfl
   apply Xau
   apply Xaa
   ·simp only [reduceIte,reduceEqDiff,reduceLT,reduceAdd,reduceMul,reduceLeDiff,ZS]; rfl
   apply Xam
   apply Xaf
   exact ht
  case hd=>rfl
  case hr=>rfl
  case hz=>exact Xaq rfl rfl
 | none =>
  rw [hx] at ht
  refine Xac (m:=20) (v:=.int .i64 (-1)) (a:=?ac) (H1:=H) rfl t60 rfl ?hb ?hd ?hr ?hz
  case hb =>
   apply Xaa
   ·simp only [idx,I60,reduceIte,reduceEqDiff,reduceLT,reduceAdd,reduceMul,reduceLeDiff,ZS]; rfl
   apply Xaa
   ·apply Xaa
    ·simp only [reduceIte,reduceEqDiff,reduceLT,reduceAdd,reduceMul,reduceLeDiff,ZS]; rfl
    apply Xab
    apply Xaf
    exact ht
   simp only [reduceIte,reduceEqDiff,reduceLT,reduceAdd,reduceMul,reduceLeDiff,ZS]; rfl
  case hd=>rfl
  case hr=>rfl
  case hz=>exact Xaq rfl rfl
theorem Xwi (id:List UInt8) (x:St) (r:List St) (hx:(x.id == id)=true):∀ (pre:List St) (i:Nat),∃ j,ixF id (pre++x::r) i=some j∧pre.any (fun y=>y.id == id)=decide (j<i+pre.length)
 | [],i=>⟨i,by rw [List.nil_append,show ixF id (x::r) i=if (x.id == id)=true then some i else ixF id r (i+1) from rfl,if_pos hx],by simp⟩
 | s::pre,i=>by
  rw [List.cons_append,show ixF id (s::(pre++x::r)) i=if (s.id == id)=true then some i else ixF id (pre++x::r) (i+1) from rfl,List.any_cons]
  cases h:(s.id == id)
  ·obtain ⟨j,h1,h2⟩:=Xwi id x r hx pre (i+1)
   refine ⟨j,h1,?_⟩
   rw [h2,Bool.false_or,List.length_cons,show i+1+pre.length=i+(pre.length+1) by omega]
  ·refine ⟨i,rfl,?_⟩
   rw [Bool.true_or]
   exact (decide_eq_true (by simp)).symm
noncomputable def Xa3 (j:Nat):IC:=(I56.c.loops).getD j .bad
def Xt5 (H:Mem) (v:AV) (id:Nat) (ok:Bool):Out × AAct × Mem→Prop
 | (o,a,M)=>Xak H M∧a.n=143∧a.d=[]∧if ok=true then o=.exit id∧Xad a.t 0=v else o=.ret∧∃ i e,Xad a.t 2=.int .i64 i∧Xad a.t 3=.int .i64 e∧e≠0
theorem Xo8 (P:Program) (N n:Nat) (l:List St) (hN:l.length<N) (hl:l.length≤4611686018427387904) (H:Mem) (v:AV) (hv:RvC H v l):∀ (fuel k:Nat) (M:Mem),k≤l.length→l.length-k<fuel→Xak H M →
  ∃ r,Xa6 (fun a H=>evI P cfg (Xaw P cfg T N (n+1)) N (Xa3 0) a H) (some [0,4]) fuel ⟨143,[(0,v),(4,.int .i64 k)],[]⟩ M=some r∧Xt5 H v 0 (Xt6 (l.take k) (l.drop k)) r
 | 0,k,_,_,h,_=>by omega
 | fuel+1,k,M,hk,hf,hst=>by
  rcases Nat.lt_or_ge k l.length with hlt | hge
  ·obtain ⟨x,hx⟩:=Xbb hlt
   obtain ⟨r,hc⟩:=Xcr hlt
   have hxe:l.getD k default=x:=by
    have h0:(l.drop k)[0]? = some x:=by rw [hx]; rfl
    rw [List.getD_eq_getElem?_getD]
    simpa using congrArg (Option.getD · default) h0
   rw [hxe] at hc
   obtain ⟨g1,g2,g3,g4,g5⟩:=Xcf hc
   have e5:0<((Xdb l).drop (k*6)).length:=by rw [List.length_drop]; omega
   have e6:6≤((Xdb l).drop (k*6)).length:=by rw [List.length_drop]; omega
   have hi:(k:Int)<(l.length:Int):=by omega
   have hw:=Xav hlt (by omega)
   have hn:=Xan k .i64
   have hvM:∀ L:Mem,RvC (M++L) v l:=fun L=>by
    rcases hv with ⟨q,st,ty,h1,h2⟩ | h
    ·exact .inl ⟨q,st,ty,h1,by rw [(hst.app L).get (List.getElem?_eq_some_iff.1 h2).1]; exact h2⟩
    ·exact .inr h
   have hfd:=fun L:Mem=>Xhh P N (n+1) (by omega) x.id (M++L) v l hN hl (hvM L)
   have htk:(l.take k).length=k:=by rw [List.length_take]; omega
   obtain ⟨j,hj,hany⟩:=Xwi x.id x (l.drop (k+1)) (beq_self_eq_true _) (l.take k) 0
   rw [← hx,List.take_append_drop] at hj
   rw [htk,Nat.zero_add] at hany
   rw [hj] at hfd
   have c8:decide (ixZ (some j)<(k:Int))=decide (j<k):=by
    show decide ((j:Int)<(k:Int))=_
    congr 1
    exact propext ⟨fun h=>by omega,fun h=>by omega⟩
   rw [hx,show Xt6 (l.take k) (x::l.drop (k+1))=(!Xl0 x && !(l.take k).any (fun y=>y.id == x.id) && Xt6 (l.take k++[x]) (l.drop (k+1))) from rfl,hany]
   have e1:l.take k++[x]=l.take (k+1):=by
    rw [List.take_succ_eq_append_getElem hlt]
    have h0:(l.drop k)[0]? = some x:=by rw [hx]; rfl
    rw [List.getElem?_drop,Nat.add_zero,List.getElem?_eq_getElem hlt] at h0
    injection h0 with h0
    rw [h0]
   rw [e1]
   simp only [stC] at g2
   have ih:=Xo8 P N n l hN hl H v hv fuel (k+1)
   have hgo:∀ X:Mem,∀ M',(M'=M++X∨M'=(M++X).take M.length)→∃ r,Xa6 (fun a H=>evI P cfg (Xaw P cfg T N (n+1)) N (Xa3 0) a H) (some [0,4]) fuel ⟨143,[(0,v),(4,.int .i64 (k+1:Nat))],[]⟩ M'=some r∧Xt5 H v 0 (Xt6 (l.take (k+1)) (l.drop (k+1))) r:=by
    rintro X M' (rfl | rfl)
    ·exact ih _ (by omega) (by omega) (hst.app X)
    ·rw [List.take_left]
     exact ih _ (by omega) (by omega) hst
   unfold Xl0
   clear ih hvM
   rcases hv with ⟨q,st,ty,rfl,hq⟩ | rfl
   ·have hql:q<H.length:=(List.getElem?_eq_some_iff.1 hq).1
    have hqM:M[q]? = some (.row (Xdb l) st ty):=by rw [hst.get hql]; exact hq
    have hqL:∀ L:Mem,(M++L)[q]? = some (.row (Xdb l) st ty):=fun L=>by rw [(hst.app L).get hql]; exact hq
    cases c0:(x.id == [])
    rotate_left
    ·refine ⟨_,Xah (by simp only [Xa3,I56,IC.loops,hi,hlt,hn,hw,hqM,hqL,g1,g2,c0,reduceIte,reduceEqDiff,reduceLT,reduceAdd,reduceMul,reduceLeDiff,ZS]; rfl),hst.app _,rfl,rfl,?_⟩
     exact ⟨rfl,_,_,rfl,rfl,by decide⟩
    cases c1:decide (x.emph<0)
    rotate_left
    ·refine ⟨_,Xah (by simp only [Xa3,I56,IC.loops,hi,hlt,hn,hw,hqM,hqL,g1,g2,c0,c1,reduceIte,reduceEqDiff,reduceLT,reduceAdd,reduceMul,reduceLeDiff,ZS]; rfl),hst.app _,rfl,rfl,?_⟩
     exact ⟨rfl,_,_,rfl,rfl,by decide⟩
    cases c2:decide (x.emph>2)
    rotate_left
    ·refine ⟨_,Xah (by simp only [Xa3,I56,IC.loops,hi,hlt,hn,hw,hqM,hqL,g1,g2,c0,c1,c2,reduceIte,reduceEqDiff,reduceLT,reduceAdd,reduceMul,reduceLeDiff,ZS]; rfl),hst.app _,rfl,rfl,?_⟩
     exact ⟨rfl,_,_,rfl,rfl,by decide⟩
    cases c3:decide (x.bold<0)
    rotate_left
    ·refine ⟨_,Xah (by simp only [Xa3,I56,IC.loops,hi,hlt,hn,hw,hqM,hqL,g1,g2,c0,c1,c2,c3,reduceIte,reduceEqDiff,reduceLT,reduceAdd,reduceMul,reduceLeDiff,ZS]; rfl),hst.app _,rfl,rfl,?_⟩
     exact ⟨rfl,_,_,rfl,rfl,by decide⟩
    cases c4:decide (x.bold>2)
    rotate_left
    ·refine ⟨_,Xah (by simp only [Xa3,I56,IC.loops,hi,hlt,hn,hw,hqM,hqL,g1,g2,c0,c1,c2,c3,c4,reduceIte,reduceEqDiff,reduceLT,reduceAdd,reduceMul,reduceLeDiff,ZS]; rfl),hst.app _,rfl,rfl,?_⟩
     exact ⟨rfl,_,_,rfl,rfl,by decide⟩
    cases c5:decide (x.head<0)
    rotate_left
    ·refine ⟨_,Xah (by simp only [Xa3,I56,IC.loops,hi,hlt,hn,hw,hqM,hqL,g1,g2,c0,c1,c2,c3,c4,c5,reduceIte,reduceEqDiff,reduceLT,reduceAdd,reduceMul,reduceLeDiff,ZS]; rfl),hst.app _,rfl,rfl,?_⟩
     exact ⟨rfl,_,_,rfl,rfl,by decide⟩
    cases c6:decide (x.head>6)
    rotate_left
    ·refine ⟨_,Xah (by simp only [Xa3,I56,IC.loops,hi,hlt,hn,hw,hqM,hqL,g1,g2,c0,c1,c2,c3,c4,c5,c6,reduceIte,reduceEqDiff,reduceLT,reduceAdd,reduceMul,reduceLeDiff,ZS]; rfl),hst.app _,rfl,rfl,?_⟩
     exact ⟨rfl,_,_,rfl,rfl,by decide⟩
    have c7:(x.head != 0)=decide (x.head>0):=by
     have:=of_decide_eq_false c5
     cases h:decide (x.head>0)
     ·have:=of_decide_eq_false h
      rw [show x.head=0 by omega]; rfl
     ·have:=of_decide_eq_true h
      exact bne_iff_ne.2 (by omega)
    generalize decide (x.head>0)=hd at *
    cases b2:x.run
    ·skip
     cases b4:decide (j<k)
     ·rw [b4] at c8
      exact Xdi (by simp only [Xa3,I56,IC.loops,hi,hlt,hn,hw,hqM,hqL,g1,g2,hfd,c0,c1,c2,c3,c4,c5,c6,b2,c7,c8,reduceIte,reduceEqDiff,reduceLT,reduceAdd,reduceMul,reduceLeDiff,ZS]; rfl) (hgo _)
     ·rw [b4] at c8
      refine ⟨_,Xah (by simp only [Xa3,I56,IC.loops,hi,hlt,hn,hw,hqM,hqL,g1,g2,hfd,c0,c1,c2,c3,c4,c5,c6,b2,c7,c8,reduceIte,reduceEqDiff,reduceLT,reduceAdd,reduceMul,reduceLeDiff,ZS]; rfl),hst.app _,rfl,rfl,?_⟩
      exact ⟨rfl,_,_,rfl,rfl,by decide⟩
    ·cases hd
     ·skip
      cases b4:decide (j<k)
      ·rw [b4] at c8
       exact Xdi (by simp only [Xa3,I56,IC.loops,hi,hlt,hn,hw,hqM,hqL,g1,g2,hfd,c0,c1,c2,c3,c4,c5,c6,b2,c7,c8,reduceIte,reduceEqDiff,reduceLT,reduceAdd,reduceMul,reduceLeDiff,ZS]; rfl) (hgo _)
      ·rw [b4] at c8
       refine ⟨_,Xah (by simp only [Xa3,I56,IC.loops,hi,hlt,hn,hw,hqM,hqL,g1,g2,hfd,c0,c1,c2,c3,c4,c5,c6,b2,c7,c8,reduceIte,reduceEqDiff,reduceLT,reduceAdd,reduceMul,reduceLeDiff,ZS]; rfl),hst.app _,rfl,rfl,?_⟩
       exact ⟨rfl,_,_,rfl,rfl,by decide⟩
     ·refine ⟨_,Xah (by simp only [Xa3,I56,IC.loops,hi,hlt,hn,hw,hqM,hqL,g1,g2,c0,c1,c2,c3,c4,c5,c6,b2,c7,reduceIte,reduceEqDiff,reduceLT,reduceAdd,reduceMul,reduceLeDiff,ZS]; rfl),hst.app _,rfl,rfl,?_⟩
      exact ⟨rfl,_,_,rfl,rfl,by decide⟩
   ·skip
    cases c0:(x.id == [])
    rotate_left
    ·refine ⟨_,Xah (by simp only [Xa3,I56,IC.loops,hi,hlt,hn,hw,g1,g2,e5,e6,c0,reduceIte,reduceEqDiff,reduceLT,reduceAdd,reduceMul,reduceLeDiff,ZS]; rfl),hst.app _,rfl,rfl,?_⟩
     exact ⟨rfl,_,_,rfl,rfl,by decide⟩
    cases c1:decide (x.emph<0)
    rotate_left
    ·refine ⟨_,Xah (by simp only [Xa3,I56,IC.loops,hi,hlt,hn,hw,g1,g2,e5,e6,c0,c1,reduceIte,reduceEqDiff,reduceLT,reduceAdd,reduceMul,reduceLeDiff,ZS]; rfl),hst.app _,rfl,rfl,?_⟩
     exact ⟨rfl,_,_,rfl,rfl,by decide⟩
    cases c2:decide (x.emph>2)
    rotate_left
    ·refine ⟨_,Xah (by simp only [Xa3,I56,IC.loops,hi,hlt,hn,hw,g1,g2,e5,e6,c0,c1,c2,reduceIte,reduceEqDiff,reduceLT,reduceAdd,reduceMul,reduceLeDiff,ZS]; rfl),hst.app _,rfl,rfl,?_⟩
     exact ⟨rfl,_,_,rfl,rfl,by decide⟩
    cases c3:decide (x.bold<0)
    rotate_left
    ·refine ⟨_,Xah (by simp only [Xa3,I56,IC.loops,hi,hlt,hn,hw,g1,g2,e5,e6,c0,c1,c2,c3,reduceIte,reduceEqDiff,reduceLT,reduceAdd,reduceMul,reduceLeDiff,ZS]; rfl),hst.app _,rfl,rfl,?_⟩
     exact ⟨rfl,_,_,rfl,rfl,by decide⟩
    cases c4:decide (x.bold>2)
    rotate_left
    ·refine ⟨_,Xah (by simp only [Xa3,I56,IC.loops,hi,hlt,hn,hw,g1,g2,e5,e6,c0,c1,c2,c3,c4,reduceIte,reduceEqDiff,reduceLT,reduceAdd,reduceMul,reduceLeDiff,ZS]; rfl),hst.app _,rfl,rfl,?_⟩
     exact ⟨rfl,_,_,rfl,rfl,by decide⟩
    cases c5:decide (x.head<0)
    rotate_left
    ·refine ⟨_,Xah (by simp only [Xa3,I56,IC.loops,hi,hlt,hn,hw,g1,g2,e5,e6,c0,c1,c2,c3,c4,c5,reduceIte,reduceEqDiff,reduceLT,reduceAdd,reduceMul,reduceLeDiff,ZS]; rfl),hst.app _,rfl,rfl,?_⟩
     exact ⟨rfl,_,_,rfl,rfl,by decide⟩
    cases c6:decide (x.head>6)
    rotate_left
    ·refine ⟨_,Xah (by simp only [Xa3,I56,IC.loops,hi,hlt,hn,hw,g1,g2,e5,e6,c0,c1,c2,c3,c4,c5,c6,reduceIte,reduceEqDiff,reduceLT,reduceAdd,reduceMul,reduceLeDiff,ZS]; rfl),hst.app _,rfl,rfl,?_⟩
     exact ⟨rfl,_,_,rfl,rfl,by decide⟩
    have c7:(x.head != 0)=decide (x.head>0):=by
     have:=of_decide_eq_false c5
     cases h:decide (x.head>0)
     ·have:=of_decide_eq_false h
      rw [show x.head=0 by omega]; rfl
     ·have:=of_decide_eq_true h
      exact bne_iff_ne.2 (by omega)
    generalize decide (x.head>0)=hd at *
    cases b2:x.run
    ·skip
     cases b4:decide (j<k)
     ·rw [b4] at c8
      exact Xdi (by simp only [Xa3,I56,IC.loops,hi,hlt,hn,hw,g1,g2,e5,e6,hfd,c0,c1,c2,c3,c4,c5,c6,b2,c7,c8,reduceIte,reduceEqDiff,reduceLT,reduceAdd,reduceMul,reduceLeDiff,ZS]; rfl) (hgo _)
     ·rw [b4] at c8
      refine ⟨_,Xah (by simp only [Xa3,I56,IC.loops,hi,hlt,hn,hw,g1,g2,e5,e6,hfd,c0,c1,c2,c3,c4,c5,c6,b2,c7,c8,reduceIte,reduceEqDiff,reduceLT,reduceAdd,reduceMul,reduceLeDiff,ZS]; rfl),hst.app _,rfl,rfl,?_⟩
      exact ⟨rfl,_,_,rfl,rfl,by decide⟩
    ·cases hd
     ·skip
      cases b4:decide (j<k)
      ·rw [b4] at c8
       exact Xdi (by simp only [Xa3,I56,IC.loops,hi,hlt,hn,hw,g1,g2,e5,e6,hfd,c0,c1,c2,c3,c4,c5,c6,b2,c7,c8,reduceIte,reduceEqDiff,reduceLT,reduceAdd,reduceMul,reduceLeDiff,ZS]; rfl) (hgo _)
      ·rw [b4] at c8
       refine ⟨_,Xah (by simp only [Xa3,I56,IC.loops,hi,hlt,hn,hw,g1,g2,e5,e6,hfd,c0,c1,c2,c3,c4,c5,c6,b2,c7,c8,reduceIte,reduceEqDiff,reduceLT,reduceAdd,reduceMul,reduceLeDiff,ZS]; rfl),hst.app _,rfl,rfl,?_⟩
       exact ⟨rfl,_,_,rfl,rfl,by decide⟩
     ·refine ⟨_,Xah (by simp only [Xa3,I56,IC.loops,hi,hlt,hn,hw,g1,g2,e5,e6,c0,c1,c2,c3,c4,c5,c6,b2,c7,reduceIte,reduceEqDiff,reduceLT,reduceAdd,reduceMul,reduceLeDiff,ZS]; rfl),hst.app _,rfl,rfl,?_⟩
      exact ⟨rfl,_,_,rfl,rfl,by decide⟩
  ·have hk':k=l.length:=by omega
   subst hk'
   rw [List.drop_length]
   rcases hv with ⟨q,st,ty,rfl,hq⟩ | rfl
   ·exact ⟨_,Xae (by simp only [Xa3,I56,IC.loops,Int.lt_irrefl,reduceIte,reduceEqDiff,reduceLT,reduceAdd,reduceMul,reduceLeDiff,ZS]; rfl),hst,rfl,rfl,⟨rfl,rfl⟩⟩
   ·exact ⟨_,Xae (by simp only [Xa3,I56,IC.loops,Int.lt_irrefl,reduceIte,reduceEqDiff,reduceLT,reduceAdd,reduceMul,reduceLeDiff,ZS]; rfl),hst,rfl,rfl,⟨rfl,rfl⟩⟩
end Go.Proofs.YtmhhddhbdbcmbaaGreatDoor.Ev
