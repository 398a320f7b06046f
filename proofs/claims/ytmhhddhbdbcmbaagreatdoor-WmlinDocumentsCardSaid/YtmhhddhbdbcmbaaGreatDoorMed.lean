/- Parts of one proof. -/
import Derived.Test.YtmhhddhbdbcmbaaGreatDoorMec
set_option linter.all false
namespace Go.Proofs.YtmhhddhbdbcmbaaGreatDoor.Ev
open Nat (reduceEqDiff reduceLT reduceAdd reduceMul reduceLeDiff reduceSub)
open Go.Proofs.YtmhhddhbdbcmbaaGreatDoor.Ic
set_option maxRecDepth 100000
set_option maxHeartbeats 4000000
theorem max_num (s:List UInt8):(if Xiz s>0 then Xiz s else 0)=Xni s:=by
 have h:=Xxg s
 unfold Xni
 by_cases h1:Xiz s = -1
 ·rw [if_pos h1,if_neg (by omega)]
 ·rw [if_neg h1]
  split <;> omega
theorem frz_bl (n0:Nat) (M:Mem) (tag style:List UInt8) (num level:Int) (runs:List Rn):frz n0 M 12 (.agg [.str tag,.str style,.int .i64 num,.int .i64 level,.lst runs.length (Xat runs),.nilS])=some (.agg (blC (.mk tag style num level runs []))):=by
 have h1:frz n0 M 11 (.lst runs.length (Xat runs))=some (.lst runs.length (Xat runs)):=by
  have hl:low n0 (.lst runs.length (Xat runs))=true:=by simp [low,Xci]
  show (if low n0 (.lst runs.length (Xat runs))=true then _ else _)=_
  rw [if_pos hl]
 show (Xel (frz n0 M 11) [.str tag,.str style,.int .i64 num,.int .i64 level,.lst runs.length (Xat runs),.nilS]).map AV.agg=_
 have hs:∀ s,frz n0 M 11 (.str s)=some (.str s):=fun _=>rfl
 have hi:∀ z,frz n0 M 11 (.int .i64 z)=some (.int .i64 z):=fun _=>rfl
 have hn:frz n0 M 11 .nilS=some (.lst 0 []):=rfl
 simp only [Xel,hs,hi,hn,h1,Zh]
 rfl
section
variable {N:Nat} (hN:9223372036854775808≤N)
include hN
def ParaRes (px:Nat) (vr vs:AV) (R:Bl × Nat × Bool) (H:Mem):End × Mem→Prop
 | (e,H')=>(R.2.2=true∧e=.pan (Xbw 15)∧∃ g',H'=H.set px (Xcu vr vs g'))∨(R.2.2=false∧e=.ret (.agg (blC R.1))∧H'=H.set px (Xcu vr vs R.2.1))
theorem para_eq (rels:List Rl) (sts:List St) (d m px:Nat) (vr vs:AV) (hl:rels.length≤4611686018427387904) (hs:sts.length≤4611686018427387904) (hd:2*m+10≤d) (e:El) (he:Lim e) (hm:dEls e.kids<m) (g:Nat) (hg:g+wEl e≤1099511627776) (H:Mem) (hH:LoH H) (hx:H[px]? = some (Xcu vr vs g)) (hv:RlV H vr rels) (hvs:SlC H vs sts) :
  ∃ r,Xaw Tryz.prog cfg T N d 50 [.ptr px 0 0,.agg (eC e)] H=some r∧ParaRes px vr vs (Xfa rels sts m g e) H r:=by
 obtain ⟨n,rfl⟩ : ∃ n,d=n+10:=⟨d-10,by omega⟩
 have hpl:px<H.length:=(List.getElem?_eq_some_iff.1 hx).1
 have hx2:∀ L:Mem,(H++L)[px]? = some (Xcu vr vs g):=fun L=>Xax hx L
 have hset:∀ (L:Mem) (b:Blk),(H++L).set px b=H.set px b++L:=fun L b=>Xd9 hx L b
 have hK:=fun H=>Xn3 Tryz.prog N (n+7) hN Xd5 e he.1 H
 have hV:=fun H=>Xtd Tryz.prog N (n+6) hN Xbu (kidOf e Xd5) (he.kidOf _).1 H
 have hK2:=fun H=>Xn3 Tryz.prog N (n+7) hN Xb7 (kidOf e Xd5) (he.kidOf _).1 H
 have hV2:=fun H=>Xtd Tryz.prog N (n+6) hN Xfd (kidOf (kidOf e Xd5) Xb7) ((he.kidOf _).kidOf _).1 H
 have hV3:=fun H=>Xtd Tryz.prog N (n+6) hN Xj9 (kidOf (kidOf e Xd5) Xb7) ((he.kidOf _).kidOf _).1 H
 have hlv2:=((he.kidOf Xd5).kidOf Xb7).val Xfd
 have hlv3:=((he.kidOf Xd5).kidOf Xb7).val Xj9
 have hNu:=fun H=>Xsb Tryz.prog N (n+8) (Xbf (kidOf (kidOf e Xd5) Xb7) Xfd) (by omega) H
 have hNl:=fun H=>Xsb Tryz.prog N (n+8) (Xbf (kidOf (kidOf e Xd5) Xb7) Xj9) (by omega) H
 have hwe:=Xb2 e
 have hw2:=he.2
 have hR:=Xqe (N:=N) hN rels sts (Xbf (kidOf e Xd5) Xbu) px vr vs hl hs m (n+9) (by omega)
 have hrl:=(Xcx rels sts (Xbf (kidOf e Xd5) Xbu) m Xg7 g e.kids).1
 have hrx:=Xh7 rels sts (Xbf (kidOf e Xd5) Xbu) m Xg7 g e.kids (fun x hx=>he.kid hx)
 have hp:Xfa rels sts m g e=(.mk [] (Xbf (kidOf e Xd5) Xbu) (Xni (Xbf (kidOf (kidOf e Xd5) Xb7) Xfd)) (if Xni (Xbf (kidOf (kidOf e Xd5) Xb7) Xfd)>0 then Xni (Xbf (kidOf (kidOf e Xd5) Xb7) Xj9) else 0) (Xex [] (Xbm rels sts (Xbf (kidOf e Xd5) Xbu) m Xg7 g e.kids).1) [],(Xbm rels sts (Xbf (kidOf e Xd5) Xbu) m Xg7 g e.kids).2.1,(Xbm rels sts (Xbf (kidOf e Xd5) Xbu) m Xg7 g e.kids).2.2):=rfl
 rw [hp]
 generalize Xbf (kidOf (kidOf e Xd5) Xb7) Xfd=vn at *
 generalize Xbf (kidOf (kidOf e Xd5) Xb7) Xj9=vl at *
 generalize kidOf (kidOf e Xd5) Xb7=np at *
 generalize Xbf (kidOf e Xd5) Xbu=sty at *
 generalize kidOf e Xd5=pp at *
 generalize Xni vn=zn at *
 generalize Xni vl=zl at *
 generalize Xnq vn=bn at *
 generalize Xnq vl=bl at *
 obtain ⟨lv,hlv⟩ : ∃ lv:Int,lv=if zn>0 then zl else 0:=⟨_,rfl⟩
 rw [← hlv]
 have hlo:LoH (H++[Blk.row (eC e) 0 (25+1),.row [.str [],.str [],.int .i64 0,.int .i64 0,.nilS,.nilS] 0 (46+1),.row (eC pp) 0 (25+1),.row [.str [],.str sty,.int .i64 zn,.int .i64 lv,.nilS,.nilS] 0 (46+1)]):=hH.app (by simp [Xb6,Xcn,Xay,lowL,low])
 obtain ⟨⟨ee,H'⟩,hr,hQ⟩:=hR e.kids (fun x hx=>he.kid hx) hm (by omega) Xg7 g (by omega) _ hlo (hx2 _) (hv.app _) (hvs.app _)
 rw [lkC_no] at hr
 generalize Xbm rels sts sty m Xg7 g e.kids=R at *
 have hJ:=fun H=>joined_eq N (n+9) (by omega) R.1 (by omega) (by omega) hrx H
 generalize Xex [] R.1=J at *
 simp only [Xd5] at hK
 simp only [Xbu] at hV
 simp only [Xb7] at hK2
 simp only [Xfd] at hV2
 simp only [Xj9] at hV3
 have pre:∃ a,evI Tryz.prog cfg (Xaw Tryz.prog cfg T N (n+9)) N I50.c ⟨41,idx 0 [.ptr px 0 0,.agg (eC e)],[]⟩ H=evI Tryz.prog cfg (Xaw Tryz.prog cfg T N (n+9)) N (I50.c.nb 5) a (H++[Blk.row (eC e) 0 (25+1),.row [.str [],.str [],.int .i64 0,.int .i64 0,.nilS,.nilS] 0 (46+1),.row (eC pp) 0 (25+1),.row [.str [],.str sty,.int .i64 zn,.int .i64 lv,.nilS,.nilS] 0 (46+1)])∧a.n=41∧a.d=[]∧Xad a.t 0=.ptr px 0 0∧Xad a.t 3=.ptr H.length 0 0∧Xad a.t 4=.ptr (H.length+1) 0 0∧Xad a.t 6=.ptr (H.length+3) 0 0:=by
  cases hz:decide (zn>0)
  ·have hz0:¬ zn>0:=of_decide_eq_false hz
   rw [if_neg hz0] at hlv
   subst hlv
   refine ⟨?pa,?pm,?p1,?p2,?p3,?p4,?p5,?p6⟩
   case pm =>
    apply Xaa
    ·simp only [idx,reduceIte,reduceEqDiff,reduceLT,reduceAdd,reduceMul,reduceLeDiff,ZS]; rfl
    apply Xaa
    ·simp only [hK,reduceSub,reduceIte,reduceEqDiff,reduceLT,reduceAdd,reduceMul,reduceLeDiff,ZS,ZT]; rfl
    apply Xaa
    ·simp only [hV,reduceSub,reduceIte,reduceEqDiff,reduceLT,reduceAdd,reduceMul,reduceLeDiff,ZS,ZT]; rfl
    apply Xaa
    ·simp only [hK2,hV2,hNu,reduceSub,reduceIte,reduceEqDiff,reduceLT,reduceAdd,reduceMul,reduceLeDiff,ZS,ZT]; rfl
    apply Xaa
    ·simp only [hz,reduceIte,reduceEqDiff,reduceLT,reduceAdd,reduceMul,reduceLeDiff,ZS]; rfl
    rfl
   all_goals rfl
  ·have hz0:zn>0:=of_decide_eq_true hz
   rw [if_pos hz0] at hlv
   subst hlv
   refine ⟨?qa,?qm,?q1,?q2,?q3,?q4,?q5,?q6⟩
   case qm =>
    apply Xaa
    ·simp only [idx,reduceIte,reduceEqDiff,reduceLT,reduceAdd,reduceMul,reduceLeDiff,ZS]; rfl
    apply Xaa
    ·simp only [hK,reduceSub,reduceIte,reduceEqDiff,reduceLT,reduceAdd,reduceMul,reduceLeDiff,ZS,ZT]; rfl
    apply Xaa
    ·simp only [hV,reduceSub,reduceIte,reduceEqDiff,reduceLT,reduceAdd,reduceMul,reduceLeDiff,ZS,ZT]; rfl
    apply Xaa
    ·simp only [hK2,hV2,hNu,reduceSub,reduceIte,reduceEqDiff,reduceLT,reduceAdd,reduceMul,reduceLeDiff,ZS,ZT]; rfl
    apply Xaa
    ·simp only [hz,hK2,hV3,hNl,reduceSub,reduceIte,reduceEqDiff,reduceLT,reduceAdd,reduceMul,reduceLeDiff,ZS,ZT]; rfl
    rfl
   all_goals rfl
 obtain ⟨⟨an,at',ad⟩,hpre,e1,e2,l0,l3,l4,l6⟩:=pre
 simp only at e1 e2 l0 l3 l4 l6
 subst e1 e2
 have sk:∀ (b:Blk) (L:Mem) (k:Nat),(H.set px b++L)[H.length+k]? = L[k]?:=fun b L k=>Xkt L k
 have tk:∀ (b:Blk) (L:Mem) (k:Nat) (c:Blk),(H.set px b++L).set (H.length+k) c=H.set px b++L.set k c:=fun b L k c=>Xtl L k c
 rcases hQ with ⟨hb,rfl,g',rfl⟩ | ⟨hb,rfl,rfl⟩
 ·simp only [hset] at hr
  refine ⟨(.pan (Xbw 15),H.set px (Xcu vr vs g')),?_,.inl ⟨hb,rfl,g',rfl⟩⟩
  refine Xdu (m:=41) (v:=Xbw 15) (a:=?ra) (H1:=?rH) rfl t50 rfl ?hb ?hd ?hz
  case hb =>
   refine hpre.trans ?_
   apply Xbj
   simp only [l0,l3,l6,hr,reduceSub,reduceIte,reduceEqDiff,reduceLT,reduceAdd,reduceMul,reduceLeDiff,ZS,ZT]; rfl
  case hd=>rfl
  case hz=>exact Xeb hH (Xes hH hx _) rfl rfl
 ·simp only [hset] at hr
  refine ⟨(.ret (.agg (blC (.mk [] sty zn lv J []))),H.set px (Xcu vr vs R.2.1)),?_,.inr ⟨hb,rfl,rfl⟩⟩
  refine Xac (m:=41) (v:=.agg [.str [],.str sty,.int .i64 zn,.int .i64 lv,.lst J.length (Xat J),.nilS]) (a:=?sa) (H1:=?sH) rfl t50 rfl ?hb2 ?hd2 ?hr2 ?hz2
  case hb2 =>
   refine hpre.trans ?_
   apply Xaa
   ·simp only [l0,l3,l6,hr,hJ,sk,tk,reduceSub,reduceIte,reduceEqDiff,reduceLT,reduceAdd,reduceMul,reduceLeDiff,ZS,ZT]; rfl
   apply Xaa
   ·simp only [l4,l6,sk,tk,reduceSub,reduceIte,reduceEqDiff,reduceLT,reduceAdd,reduceMul,reduceLeDiff,ZS,ZT]; rfl
   rfl
  case hd2=>rfl
  case hr2=>simp only [I50,Xc6,Xbc,l4,sk,reduceSub,reduceIte,reduceEqDiff,reduceLT,reduceAdd,reduceMul,reduceLeDiff,ZS,ZT]
  case hz2=>exact Xeb hH (Xes hH hx _) (frz_bl _ _ _ _ _ _ _) (by simp [low,Xj3])
theorem rpara_eq (rels:List Rl) (sts:List St) (d m px:Nat) (hl:rels.length≤4611686018427387904) (hs:sts.length≤4611686018427387904) (hd:2*m+10≤d) (e:El) (he:Lim e) (hm:dEls e.kids<m) (g er:Nat) (hg:g+wEl e≤1099511627776) (H:Mem) (hH:LoH H) (hx:H[px]? = some (Xa0 (vR rels) (vS sts) g er)) :
  Xaw Tryz.prog cfg T N d 53 [.ptr px 0 0,.agg (eC e)] H=some (.ret (.agg (blC (Xfa rels sts m g e).1)),H.set px (Xa0 (vR rels) (vS sts) (Xfa rels sts m g e).2.1 (erN er (Xfa rels sts m g e).2.2))):=by
 obtain ⟨n,rfl⟩ : ∃ n,d=n+10:=⟨d-10,by omega⟩
 have hpl:px<H.length:=(List.getElem?_eq_some_iff.1 hx).1
 have hx2:∀ L:Mem,(H++L)[px]? = some (Xa0 (vR rels) (vS sts) g er):=fun L=>Xax hx L
 have hset:∀ (L:Mem) (b:Blk),(H++L).set px b=H.set px b++L:=fun L b=>Xd9 hx L b
 have hK:=fun H=>Xfl Tryz.prog N (n+7) hN Xd5 e he.1 H
 have hV:=fun H=>Xmy Tryz.prog N (n+6) hN Xbu (kidOf e Xd5) (he.kidOf _).1 H
 have hK2:=fun H=>Xfl Tryz.prog N (n+7) hN Xb7 (kidOf e Xd5) (he.kidOf _).1 H
 have hV2:=fun H=>Xmy Tryz.prog N (n+6) hN Xfd (kidOf (kidOf e Xd5) Xb7) ((he.kidOf _).kidOf _).1 H
 have hV3:=fun H=>Xmy Tryz.prog N (n+6) hN Xj9 (kidOf (kidOf e Xd5) Xb7) ((he.kidOf _).kidOf _).1 H
 have hNu:=fun H=>Xo5 Tryz.prog N (n+8) hN (Xbf (kidOf (kidOf e Xd5) Xb7) Xfd) H
 have hNl:=fun H=>Xo5 Tryz.prog N (n+8) hN (Xbf (kidOf (kidOf e Xd5) Xb7) Xj9) H
 have hwe:=Xb2 e
 have hw2:=he.2
 have hR:=Xll (N:=N) hN rels sts (Xbf (kidOf e Xd5) Xbu) px hl hs m (n+9) (by omega)
 have hrl:=(Xcx rels sts (Xbf (kidOf e Xd5) Xbu) m Xg7 g e.kids).1
 have hrx:=Xh7 rels sts (Xbf (kidOf e Xd5) Xbu) m Xg7 g e.kids (fun x hx=>he.kid hx)
 have hrk:=Xf1 rels sts (Xbf (kidOf e Xd5) Xbu) m Xg7 g e.kids
 have hp:Xfa rels sts m g e=(.mk [] (Xbf (kidOf e Xd5) Xbu) (Xni (Xbf (kidOf (kidOf e Xd5) Xb7) Xfd)) (if Xni (Xbf (kidOf (kidOf e Xd5) Xb7) Xfd)>0 then Xni (Xbf (kidOf (kidOf e Xd5) Xb7) Xj9) else 0) (Xex [] (Xbm rels sts (Xbf (kidOf e Xd5) Xbu) m Xg7 g e.kids).1) [],(Xbm rels sts (Xbf (kidOf e Xd5) Xbu) m Xg7 g e.kids).2.1,(Xbm rels sts (Xbf (kidOf e Xd5) Xbu) m Xg7 g e.kids).2.2):=rfl
 rw [hp]
 have mx1:=max_num (Xbf (kidOf (kidOf e Xd5) Xb7) Xfd)
 have mx2:=max_num (Xbf (kidOf (kidOf e Xd5) Xb7) Xj9)
 generalize Xbf (kidOf (kidOf e Xd5) Xb7) Xfd=vn at *
 generalize Xbf (kidOf (kidOf e Xd5) Xb7) Xj9=vl at *
 generalize (Xbg wNs Xb7 (kidOf e Xd5).kids).isSome=f2 at *
 generalize (Xbg wNs Xd5 e.kids).isSome=f1 at *
 generalize kidOf (kidOf e Xd5) Xb7=np at *
 generalize Xbf (kidOf e Xd5) Xbu=sty at *
 generalize kidOf e Xd5=pp at *
 generalize Xni vn=zn at *
 generalize Xni vl=zl at *
 obtain ⟨lv,hlv⟩ : ∃ lv:Int,lv=if zn>0 then zl else 0:=⟨_,rfl⟩
 rw [← hlv]
 have hlo:LoH (H++[Blk.row (eC e) 0 (25+1),.row [.str [],.str [],.int .i64 0,.int .i64 0,.nilS,.nilS] 0 (46+1),.row (eC pp) 0 (25+1),.row [.str [],.str sty,.int .i64 zn,.int .i64 lv,.nilS,.nilS] 0 (46+1),.row (eC np) 0 (25+1)]):=hH.app (by simp [Xb6,Xcn,Xay,lowL,low])
 have hr:=hR e he hm Xg7 g er (by omega) _ hlo (hx2 _)
 have e0:lkR Xg7=[.bool false,.str [],.str []]:=rfl
 rw [e0] at hr
 generalize Xbm rels sts sty m Xg7 g e.kids=R at *
 have hJ:=fun H=>Xxk N (n+9) (by omega) R.1 (by omega) (by omega) hrx hrk H
 generalize Xex [] R.1=J at *
 simp only [Xd5] at hK
 simp only [Xbu] at hV
 simp only [Xb7] at hK2
 simp only [Xfd] at hV2
 simp only [Xj9] at hV3
 have pre:∃ a,evI Tryz.prog cfg (Xaw Tryz.prog cfg T N (n+9)) N I53.c ⟨45,idx 0 [.ptr px 0 0,.agg (eC e)],[]⟩ H=evI Tryz.prog cfg (Xaw Tryz.prog cfg T N (n+9)) N (I53.c.nb 6) a (H++[Blk.row (eC e) 0 (25+1),.row [.str [],.str [],.int .i64 0,.int .i64 0,.nilS,.nilS] 0 (46+1),.row (eC pp) 0 (25+1),.row [.str [],.str sty,.int .i64 zn,.int .i64 lv,.nilS,.nilS] 0 (46+1),.row (eC np) 0 (25+1)])∧a.n=45∧a.d=[]∧Xad a.t 0=.ptr px 0 0∧Xad a.t 3=.ptr H.length 0 0∧Xad a.t 4=.ptr (H.length+1) 0 0∧Xad a.t 7=.ptr (H.length+3) 0 0:=by
  cases hz:decide (zn>0)
  ·have hz0:¬ zn>0:=of_decide_eq_false hz
   rw [if_neg hz0] at hlv
   subst hlv
   refine ⟨?pa,?pm,?p1,?p2,?p3,?p4,?p5,?p6⟩
   case pm =>
    apply Xaa
    ·simp only [idx,reduceIte,reduceEqDiff,reduceLT,reduceAdd,reduceMul,reduceLeDiff,ZS]; rfl
    apply Xaa
    ·simp only [hK,reduceSub,reduceIte,reduceEqDiff,reduceLT,reduceAdd,reduceMul,reduceLeDiff,ZS,ZT]; rfl
    apply Xaa
    ·simp only [hV,reduceSub,reduceIte,reduceEqDiff,reduceLT,reduceAdd,reduceMul,reduceLeDiff,ZS,ZT]; rfl
    apply Xaa
    ·simp only [hK2,reduceSub,reduceIte,reduceEqDiff,reduceLT,reduceAdd,reduceMul,reduceLeDiff,ZS,ZT]; rfl
    apply Xaa
    ·simp only [hV2,hNu,maxA,Xgp,List.foldl_cons,List.foldl_nil,mx1,reduceSub,reduceIte,reduceEqDiff,reduceLT,reduceAdd,reduceMul,reduceLeDiff,ZS,ZT]; rfl
    apply Xaa
    ·simp only [hz,reduceIte,reduceEqDiff,reduceLT,reduceAdd,reduceMul,reduceLeDiff,ZS]; rfl
    rfl
   all_goals rfl
  ·have hz0:zn>0:=of_decide_eq_true hz
   rw [if_pos hz0] at hlv
   subst hlv
   refine ⟨?qa,?qm,?q1,?q2,?q3,?q4,?q5,?q6⟩
   case qm =>
    apply Xaa
    ·simp only [idx,reduceIte,reduceEqDiff,reduceLT,reduceAdd,reduceMul,reduceLeDiff,ZS]; rfl
    apply Xaa
    ·simp only [hK,reduceSub,reduceIte,reduceEqDiff,reduceLT,reduceAdd,reduceMul,reduceLeDiff,ZS,ZT]; rfl
    apply Xaa
    ·simp only [hV,reduceSub,reduceIte,reduceEqDiff,reduceLT,reduceAdd,reduceMul,reduceLeDiff,ZS,ZT]; rfl
    apply Xaa
    ·simp only [hK2,reduceSub,reduceIte,reduceEqDiff,reduceLT,reduceAdd,reduceMul,reduceLeDiff,ZS,ZT]; rfl
    apply Xaa
    ·simp only [hV2,hNu,maxA,Xgp,List.foldl_cons,List.foldl_nil,mx1,reduceSub,reduceIte,reduceEqDiff,reduceLT,reduceAdd,reduceMul,reduceLeDiff,ZS,ZT]; rfl
    apply Xaa
    ·simp only [hz,hV3,hNl,maxA,Xgp,List.foldl_cons,List.foldl_nil,mx2,reduceSub,reduceIte,reduceEqDiff,reduceLT,reduceAdd,reduceMul,reduceLeDiff,ZS,ZT]; rfl
    rfl
   all_goals rfl
 obtain ⟨⟨an,at',ad⟩,hpre,e1,e2,l0,l3,l4,l7⟩:=pre
 simp only at e1 e2 l0 l3 l4 l7
 subst e1 e2
 have sk:∀ (b:Blk) (L:Mem) (k:Nat),(H.set px b++L)[H.length+k]? = L[k]?:=fun b L k=>Xkt L k
 have tk:∀ (b:Blk) (L:Mem) (k:Nat) (c:Blk),(H.set px b++L).set (H.length+k) c=H.set px b++L.set k c:=fun b L k c=>Xtl L k c
 simp only [hset] at hr
 refine Xac (m:=45) (v:=.agg [.str [],.str sty,.int .i64 zn,.int .i64 lv,.lst J.length (Xat J),.nilS]) (a:=?sa) (H1:=?sH) rfl t53 rfl ?hb2 ?hd2 ?hr2 ?hz2
 case hb2 =>
  refine hpre.trans ?_
  apply Xaa
  ·simp only [l0,l3,l7,hr,hJ,sk,tk,reduceSub,reduceIte,reduceEqDiff,reduceLT,reduceAdd,reduceMul,reduceLeDiff,ZS,ZT]; rfl
  apply Xaa
  ·simp only [l4,l7,sk,tk,reduceSub,reduceIte,reduceEqDiff,reduceLT,reduceAdd,reduceMul,reduceLeDiff,ZS,ZT]; rfl
  rfl
 case hd2=>rfl
 case hr2=>simp only [I53,Xc6,Xbc,l4,sk,reduceSub,reduceIte,reduceEqDiff,reduceLT,reduceAdd,reduceMul,reduceLeDiff,ZS,ZT]
 case hz2=>exact Xeb hH (Xeu _ _ _ _ _) (frz_bl _ _ _ _ _ _ _) (by simp [low,Xj3])
end
theorem Xfc (e:El) (nm:List UInt8):wEl (kidOf e nm)≤wEl e:=by
 unfold kidOf
 cases hf:Xbg wNs nm e.kids with
 | none=>rw [Option.getD_none,wEl_z]; exact Xyd e
 | some x=>have:=wEl_kid (Xgc hf); rw [Option.getD_some]; omega
theorem paraD_g (rels:List Rl) (sts:List St) (m g:Nat) (e:El):(Xfa rels sts m g e).2.1≤g+wEls e.kids:=(Xcx _ _ _ _ _ _ _).2
def Xka (rels:List Rl) (sts:List St) (m dp g:Nat) (k:El):List Bl × Nat × Nat :=
 if (k.sp == wNs && (k.nm == pS || k.nm == sdtS))=true then (
   if 64<dp then ([],g,19)
   else if (k.nm == pS)=true then (
    if (Xfa rels sts m g k).2.2=true then ([],(Xfa rels sts m g k).2.1,15) else ([(Xfa rels sts m g k).1],(Xfa rels sts m g k).2.1,0))
   else (
    if (Xby rels sts m (dp+1) g (kidOf k Xa5).kids).2.2=0 then ((if (Xc4 (Xbf (kidOf k Xd6) Xrt) == [])=true then (Xby rels sts m (dp+1) g (kidOf k Xa5).kids).1 else [.mk (Xc4 (Xbf (kidOf k Xd6) Xrt)) [] 0 0 [] (Xby rels sts m (dp+1) g (kidOf k Xa5).kids).1]),(Xby rels sts m (dp+1) g (kidOf k Xa5).kids).2.1,0)
    else ([],(Xby rels sts m (dp+1) g (kidOf k Xa5).kids).2.1,(Xby rels sts m (dp+1) g (kidOf k Xa5).kids).2.2)))
 else ([],g,0)
theorem Xhy (rels:List Rl) (sts:List St) (m dp g:Nat) (k:El) (ks:List El):Xby rels sts (m+1) dp g (k::ks)=if (Xka rels sts m dp g k).2.2=0 then ((Xka rels sts m dp g k).1++(Xby rels sts (m+1) dp (Xka rels sts m dp g k).2.1 ks).1,(Xby rels sts (m+1) dp (Xka rels sts m dp g k).2.1 ks).2.1,(Xby rels sts (m+1) dp (Xka rels sts m dp g k).2.1 ks).2.2) else Xka rels sts m dp g k:=by
 rw [Xby]
 unfold Xka
 split
 ·split
  ·rfl
  ·split
   ·dsimp only
    split
    ·rfl
    ·rfl
   ·dsimp only
    split
    ·rfl
    ·rfl
 ·rfl
theorem Xtm (rels:List Rl) (sts:List St) (m dp g:Nat):Xby rels sts (m+1) dp g []=([],g,0):=by rw [Xby]
mutual
theorem Xhe (rels:List Rl) (sts:List St):∀ (m dp g:Nat) (l:List El),(Xby rels sts m dp g l).1.length≤wEls l∧(Xby rels sts m dp g l).2.1≤g+wEls l
 | 0,_,_,_=>by simp [Xby]
 | _+1,_,_,[]=>by simp [Xby]
 | m+1,dp,g,k::ks=>by
  have h1:=oneB_len rels sts m dp g k
  have h2:=Xhe rels sts (m+1) dp (Xka rels sts m dp g k).2.1 ks
  rw [Xhy]
  simp only [wEls]
  split
  ·simp only [Zg]; omega
  ·omega
termination_by m _ _ l=>(m,l.length,0)
theorem oneB_len (rels:List Rl) (sts:List St) (m dp g:Nat) (k:El):(Xka rels sts m dp g k).1.length≤wEl k∧(Xka rels sts m dp g k).2.1≤g+wEl k:=by
 have hw:=Xb2 k
 have h8:=Xyd k
 have hp:=paraD_g rels sts m g k
 have h1:=Xhe rels sts m (dp+1) g (kidOf k Xa5).kids
 have h2:=Xfc k Xa5
 have h3:=Xb2 (kidOf k Xa5)
 unfold Xka
 split
 ·split
  ·simp
  ·split
   ·split
    ·simp; omega
    ·simp; omega
   ·split
    ·dsimp only
     split
     ·omega
     ·simp; omega
    ·simp; omega
 ·simp
termination_by (m+1,0,1)
end
def Xkm (cs:List AV) (l:List Bl):Prop:=cs.length=l.length*6∧(∀ n,lowL n cs=true)∧cs.all AV.one=true∧∀ n0 M k,Xel (frz n0 M (k+1)) cs=some (blsC l)
theorem Xkm.nil:Xkm [] []:=⟨rfl,fun _=>rfl,rfl,fun _ _ _=>rfl⟩
theorem Xkm.app {cs cs':List AV} {l l':List Bl} (h:Xkm cs l) (h':Xkm cs' l'):Xkm (cs++cs') (l++l') :=
 ⟨by rw [List.length_append,List.length_append,h.1,h'.1]; omega,fun n=>by rw [Xer,h.2.1 n,h'.2.1 n]; rfl,by rw [List.all_append,h.2.2.1,h'.2.2.1]; rfl,fun n0 M k=>by rw [Xvy]; exact Xpy _ _ _ _ _ (h.2.2.2 n0 M k) (h'.2.2.2 n0 M k)⟩
theorem Xk5 {n0 k n:Nat} {M:Mem} {cs:List AV} (h:lowL n0 cs=true):frz n0 M (k+1) (.lst n cs)=some (.lst n cs):=by
 have hl:low n0 (.lst n cs)=true:=h
 show (if low n0 (.lst n cs)=true then _ else _)=_
 rw [if_pos hl]
theorem Xkm.one (b:Bl):Xkm (blC b) [b]:=by
 refine ⟨by rw [Xmb]; rfl,fun n=>Xj3 n b,Xql b,fun n0 M k=>?_⟩
 cases b with
 | mk tag style num level runs kids =>
  have h1:frz n0 M (k+1) (.lst runs.length (Xat runs))=some (.lst runs.length (Xat runs)):=Xk5 (Xci _ _)
  have h2:frz n0 M (k+1) (.lst kids.length (blsC kids))=some (.lst kids.length (blsC kids)):=Xk5 (blsC_low _ _)
  have hs:∀ s,frz n0 M (k+1) (.str s)=some (.str s):=fun _=>rfl
  have hi:∀ z,frz n0 M (k+1) (.int .i64 z)=some (.int .i64 z):=fun _=>rfl
  simp only [blC,blsC,Zs,Xel,h1,h2,hs,hi]
theorem Xkm.all:∀ l:List Bl,Xkm (blsC l) l
 | []=>Xkm.nil
 | b::l=>by
  have:=(Xkm.one b).app (Xkm.all l)
  exact this
theorem Xkm.tag (tag:List UInt8) (kids:List Bl):Xkm [.str tag,.str [],.int .i64 0,.int .i64 0,.nilS,.lst kids.length (blsC kids)] [.mk tag [] 0 0 [] kids]:=by
 refine ⟨rfl,fun n=>by simp [lowL,low,blsC_low],rfl,fun n0 M k=>?_⟩
 have h2:frz n0 M (k+1) (.lst kids.length (blsC kids))=some (.lst kids.length (blsC kids)):=Xk5 (blsC_low _ _)
 have hs:∀ s,frz n0 M (k+1) (.str s)=some (.str s):=fun _=>rfl
 have hi:∀ z,frz n0 M (k+1) (.int .i64 z)=some (.int .i64 z):=fun _=>rfl
 have hn:frz n0 M (k+1) .nilS=some (.lst 0 []):=rfl
 simp only [Xel,h2,hs,hi,hn]
 simp [blsC,blC,Xat]
def Xew (H:Mem) (px:Nat) (b:Blk) (L:Mem) (acc:List Bl) (v:AV) (M:Mem):Prop:=Xak (H.set px b++L) M∧Xb6 H.length M=true∧∃ cs,Xkm cs acc∧Xbr (H.length+L.length) 6 (46+1) acc.length cs v M
theorem Xew.len {H:Mem} {px:Nat} {b:Blk} {v:AV} {L M:Mem} {acc:List Bl} (h:Xew H px b L acc v M):H.length+L.length≤M.length:=Xfe h.1
theorem Xew.app {H:Mem} {px:Nat} {b:Blk} {v:AV} {L M:Mem} {acc:List Bl} (h:Xew H px b L acc v M) {R:Mem} (hR:Xb6 H.length R=true):Xew H px b L acc v (M++R):=by
 obtain ⟨h1,h2,cs,h3,h4⟩:=h
 exact ⟨h1.app _,by rw [Xcp,h2,hR]; rfl,cs,h3,h4.app _⟩
theorem Xew.cut {H:Mem} {px:Nat} {b:Blk} {v:AV} {L M' M'':Mem} {acc:List Bl} {m:Nat} (h:Xew H px b L acc v M') (hm:H.length+L.length≤m) (hM:M''=M'∨(M''=M'.take m∧low m v=true)):Xew H px b L acc v M'':=by
 obtain ⟨h1,h2,cs,h3,h4⟩:=h
 obtain ⟨k1,k2⟩:=Xdl h1 h4 (by rw [List.length_append,List.length_set]; exact hm) hM
 refine ⟨k1,?_,cs,h3,k2⟩
 rcases hM with rfl | ⟨rfl,_⟩
 ·exact h2
 ·exact Xhi h2
theorem Xew.px {H:Mem} {px:Nat} {b:Blk} {v:AV} {L M:Mem} {acc:List Bl} (h:Xew H px b L acc v M) (hpl:px<H.length) (b':Blk) (hb:Xcn H.length b'=true):Xew H px b' L acc v (M.set px b'):=by
 obtain ⟨h1,h2,cs,h3,h4⟩:=h
 exact ⟨Xek hpl h1,Xb9 h2 hb px,cs,h3,Xqm h4 (by omega) _⟩
theorem Xew.add {H:Mem} {px:Nat} {b:Blk} {v:AV} {L M:Mem} {acc l:List Bl} (h:Xew H px b L acc v M) {new:List AV} (hp:Xkm new l) (hn:acc.length+l.length≤1073741824):∃ v' M',Xgu M 46 6 l.length new v=some (v',M')∧Xew H px b L (acc++l) v' M'∧M.length≤M'.length:=by
 have hlen:=h.len
 obtain ⟨h1,h2,cs,h3,h4⟩:=h
 cases l with
 | nil =>
  have hnew:new=[]:=List.eq_nil_of_length_eq_zero (by rw [hp.1]; rfl)
  subst hnew
  rw [List.append_nil]
  rcases h4 with ⟨g1,g2,rfl⟩ | ⟨q,st,rfl,g2,g3⟩
  ·exact ⟨.nilS,M,rfl,⟨h1,h2,cs,h3,.inl ⟨g1,g2,rfl⟩⟩,Nat.le_refl _⟩
  ·have hq:=(List.getElem?_eq_some_iff.1 g3).1
   have hcs:=h3.1
   refine ⟨.slc q 0 acc.length 6 (st+1),M.set q (.row cs (st+1) (46+1)),?_,⟨?_,?_,cs,h3,.inr ⟨q,st+1,rfl,g2,by rw [List.getElem?_set_self hq]⟩⟩,by simp⟩
   ·have h34:acc.length≤2 ^ 34:=by omega
    simp only [Xgu,g3,hcs,h34,true_and,and_self,if_true,Zk,ZM,Zs]
   ·exact h1.set (by rw [List.length_append,List.length_set]; exact g2) _
   ·refine Xb9 h2 ?_ q
    exact h3.2.1 _
 | cons r l =>
  obtain ⟨v',M',ha,g1,g2,g3,g4⟩:=Xfn (sz:=6) (cnt:=(r::l).length) (e:=46) (new:=new) h4 h3.1 (by simp) hn hlen
  have h5:=Xm9 h4 h2 (hp.2.1 _) ha (by simp)
  have e9:(acc++r::l).length=acc.length+(r::l).length:=List.length_append
  rw [← e9] at g1
  exact ⟨v',M',ha,⟨h1.of_take (by rw [List.length_append,List.length_set]; exact Nat.le_refl _) g4,h5,_,h3.app hp,g1⟩,g2⟩
noncomputable def loopBk:IC:=(I28.c.loops).getD 0 .bad
noncomputable def Xry:IC:=IC.inn ((loopBk.nb 2).hd)
noncomputable def midBk:IC:=Xry.nb 2
theorem bk_pre (F:Xc5) (N:Nat) (x:El) (kids:List El) (k:Nat) (hlt:k<kids.length) (hget:(kC kids).drop (k*5)=eC x++kC (kids.drop (k+1))) (M:Mem) (t0' t2 v:AV) (t0:List (Nat × AV)) (l0:Xad t0 0=t0') (l2:Xad t0 2=t2) (l7:Xad t0 7=v) (l12:Xad t0 12=.lst kids.length (kC kids)) (l13:Xad t0 13=.int .i64 kids.length) (l14:Xad t0 14=.int .i64 k) :
  ∃ t,Xad t 0=t0'∧Xad t 2=t2∧Xad t 7=v∧Xad t 9=.ptr M.length 0 0∧Xad t 12=.lst kids.length (kC kids)∧Xad t 13=.int .i64 kids.length∧Xad t 14=.int .i64 k ∧
   evI Tryz.prog cfg F N Xry ⟨67,t0,[]⟩ M=(if (x.sp == wNs && (x.nm == pS || x.nm == sdtS))=true then evI Tryz.prog cfg F N midBk ⟨67,t,[]⟩ (M++[.row (eC x) 0 (25+1)]) else some (.exit 1,⟨67,t,[]⟩,M++[.row (eC x) 0 (25+1)])):=by
 have hlen:k*5+5≤(kC kids).length:=by rw [Xen]; omega
 have hn:=Xan k .i64
 unfold wNs pS sdtS
 have go:∀ b:Bool,(x.sp == [104,116,116,112,58,47,47,115,99,104,101,109,97,115,46,111,112,101,110,120,109,108,102,111,114,109,97,116,115,46,111,114,103,47,119,111,114,100,112,114,111,99,101,115,115,105,110,103,109,108,47,50,48,48,54,47,109,97,105,110] && (x.nm == [112] || x.nm == [115,100,116]))=b→(∃ t,evI Tryz.prog cfg F N Xry ⟨67,t0,[]⟩ M=(if b=true then evI Tryz.prog cfg F N midBk ⟨67,t,[]⟩ (M++[.row (eC x) 0 (25+1)]) else some (.exit 1,⟨67,t,[]⟩,M++[.row (eC x) 0 (25+1)]))∧(∀ i,i<15→i≠9→Xad t i=Xad t0 i)∧Xad t 9=.ptr M.length 0 0) →
   ∃ t,Xad t 0=t0'∧Xad t 2=t2∧Xad t 7=v∧Xad t 9=.ptr M.length 0 0∧Xad t 12=.lst kids.length (kC kids)∧Xad t 13=.int .i64 kids.length∧Xad t 14=.int .i64 k ∧
   evI Tryz.prog cfg F N Xry ⟨67,t0,[]⟩ M=(if (x.sp == [104,116,116,112,58,47,47,115,99,104,101,109,97,115,46,111,112,101,110,120,109,108,102,111,114,109,97,116,115,46,111,114,103,47,119,111,114,100,112,114,111,99,101,115,115,105,110,103,109,108,47,50,48,48,54,47,109,97,105,110] && (x.nm == [112] || x.nm == [115,100,116]))=true then evI Tryz.prog cfg F N midBk ⟨67,t,[]⟩ (M++[.row (eC x) 0 (25+1)]) else some (.exit 1,⟨67,t,[]⟩,M++[.row (eC x) 0 (25+1)])):=by
  rintro b hb ⟨t,h1,h2,h9⟩
  rw [hb]
  exact ⟨t,by rw [h2 0 (by omega) (by omega),l0],by rw [h2 2 (by omega) (by omega),l2],by rw [h2 7 (by omega) (by omega),l7],h9,by rw [h2 12 (by omega) (by omega),l12],by rw [h2 13 (by omega) (by omega),l13],by rw [h2 14 (by omega) (by omega),l14],h1⟩
 have bo:∀ b:Bool,b=false∨b=true:=fun b=>by cases b <;> simp
 rcases bo (x.sp == [104,116,116,112,58,47,47,115,99,104,101,109,97,115,46,111,112,101,110,120,109,108,102,111,114,109,97,116,115,46,111,114,103,47,119,111,114,100,112,114,111,99,101,115,115,105,110,103,109,108,47,50,48,48,54,47,109,97,105,110]) with h1 | h1
 ·refine go false (by rw [h1]; rfl) ⟨?ta,?ma,?ga,?na⟩
  case ma =>
   rw [if_neg (by simp)]
   apply Xaa
   ·simp only [l12,l14,hlt,hlen,hget,hn,reduceSub,reduceIte,reduceEqDiff,reduceLT,reduceAdd,reduceMul,reduceLeDiff,ZS,ZT]; rfl
   apply Xbd
   simp only [h1,reduceSub,reduceIte,reduceEqDiff,reduceLT,reduceAdd,reduceMul,reduceLeDiff,ZS,ZT]; rfl
  case ga=>exact fun i h h'=>by rcases i with _ | _ | _ | _ | _ | _ | _ | _ | _ | _ | _ | _ | _ | _ | _ | i <;> first | rfl | omega
  case na=>rfl
 rcases bo (x.nm == [112]) with h2 | h2
 ·rcases bo (x.nm == [115,100,116]) with h3 | h3
  ·refine go false (by rw [h1,h2,h3]; rfl) ⟨?tb,?mb,?gb,?nb⟩
   case mb =>
    rw [if_neg (by simp)]
    apply Xaa
    ·simp only [l12,l14,hlt,hlen,hget,hn,reduceSub,reduceIte,reduceEqDiff,reduceLT,reduceAdd,reduceMul,reduceLeDiff,ZS,ZT]; rfl
    apply Xbd
    simp only [h1,h2,h3,reduceSub,reduceIte,reduceEqDiff,reduceLT,reduceAdd,reduceMul,reduceLeDiff,ZS,ZT]; rfl
   case gb=>exact fun i h h'=>by rcases i with _ | _ | _ | _ | _ | _ | _ | _ | _ | _ | _ | _ | _ | _ | _ | i <;> first | rfl | omega
   case nb=>rfl
  ·refine go true (by rw [h1,h2,h3]; rfl) ⟨?tc,?mc,?gc,?nc⟩
   case mc =>
    rw [if_pos rfl]
    apply Xaa
    ·simp only [l12,l14,hlt,hlen,hget,hn,reduceSub,reduceIte,reduceEqDiff,reduceLT,reduceAdd,reduceMul,reduceLeDiff,ZS,ZT]; rfl
    apply Xaa
    ·simp only [h1,h2,h3,reduceSub,reduceIte,reduceEqDiff,reduceLT,reduceAdd,reduceMul,reduceLeDiff,ZS,ZT]; rfl
    rfl
   case gc=>exact fun i h h'=>by rcases i with _ | _ | _ | _ | _ | _ | _ | _ | _ | _ | _ | _ | _ | _ | _ | i <;> first | rfl | omega
   case nc=>rfl
 ·refine go true (by rw [h1,h2]; rfl) ⟨?td,?md,?gd,?nd⟩
  case md =>
   rw [if_pos rfl]
   apply Xaa
   ·simp only [l12,l14,hlt,hlen,hget,hn,reduceSub,reduceIte,reduceEqDiff,reduceLT,reduceAdd,reduceMul,reduceLeDiff,ZS,ZT]; rfl
   apply Xaa
   ·simp only [h1,h2,reduceSub,reduceIte,reduceEqDiff,reduceLT,reduceAdd,reduceMul,reduceLeDiff,ZS,ZT]; rfl
   rfl
  case gd=>exact fun i h h'=>by rcases i with _ | _ | _ | _ | _ | _ | _ | _ | _ | _ | _ | _ | _ | _ | _ | i <;> first | rfl | omega
  case nd=>rfl
def BlkRes (px:Nat) (vr vs:AV) (R:List Bl × Nat × Nat) (H:Mem):End × Mem→Prop
 | (e,H')=>(R.2.2≠0∧e=.pan (Xbw R.2.2)∧∃ g',H'=H.set px (Xcu vr vs g'))∨(R.2.2=0∧e=.ret (.lst R.1.length (blsC R.1))∧H'=H.set px (Xcu vr vs R.2.1))
def BlksOk (rels:List Rl) (sts:List St) (N d m px:Nat) (vr vs:AV):Prop:=∀ (kids:List El),(∀ x ∈ kids,Lim x)→dEls kids<m→wEls kids≤1048576→∀ (dp g:Nat),dp≤65→g+wEls kids≤1099511627776→∀ (H:Mem),LoH H→H[px]? = some (Xcu vr vs g)→RlV H vr rels→SlC H vs sts →
 ∃ r,Xaw Tryz.prog cfg T N d 28 [.ptr px 0 0,.lst kids.length (kC kids),.int .i64 dp] H=some r∧BlkRes px vr vs (Xby rels sts m dp g kids) H r
def BkEnd (H L:Mem) (px:Nat) (vr vs:AV) (R:List Bl × Nat × Nat) (acc:List Bl) (t0 t2 t12 t13 t14:AV) (M:Mem):Out × AAct × Mem→Prop
 | (o,a,M')=>a.d=[]∧((R.2.2≠0∧o=.pan (Xbw R.2.2)∧∃ g',Xak (H.set px (Xcu vr vs g')++L) M')∨(R.2.2=0∧(o=.normal∨o=.exit 1)∧a.n=67∧Xad a.t 0=t0∧Xad a.t 2=t2∧Xad a.t 12=t12∧Xad a.t 13=t13∧Xad a.t 14=t14∧Xew H px (Xcu vr vs R.2.1) L (acc++R.1) (Xad a.t 7) M'∧M.length≤M'.length))
section
variable {N:Nat} (hN:9223372036854775808≤N)
include hN
theorem bk_mid (rels:List Rl) (sts:List St) (d m px:Nat) (vr vs:AV) (hl:rels.length≤4611686018427387904) (hs:sts.length≤4611686018427387904) (hR:BlksOk rels sts N d m px vr vs) (hd:2*m+10≤d) (x:El) (hxl:Lim x) (hm:dEls x.kids<m) (hsp:(x.sp == wNs && (x.nm == pS || x.nm == sdtS))=true) (dp g gz:Nat) (hdp:dp≤65) (hg:g+wEl x≤1099511627776)
  (H L M:Mem) (hpx:H[px]? = some (Xcu vr vs gz)) (hlow:∀ g,Xcn H.length (Xcu vr vs g)=true) (hv:RlV H vr rels) (hvs:SlC H vs sts) (acc:List Bl) (hac:acc.length≤1048576) (v:AV) (hS:Xew H px (Xcu vr vs g) L acc v M) (t12 t13 t14:AV)
  (t:List (Nat × AV)) (l0:Xad t 0=.ptr px 0 0) (l2:Xad t 2=.int .i64 dp) (l7:Xad t 7=v) (l9:Xad t 9=.ptr M.length 0 0) (l12:Xad t 12=t12) (l13:Xad t 13=t13) (l14:Xad t 14=t14) :
  ∃ r,evI Tryz.prog cfg (Xaw Tryz.prog cfg T N d) N midBk ⟨67,t,[]⟩ (M++[.row (eC x) 0 (25+1)])=some r∧BkEnd H L px vr vs (Xka rels sts m dp g x) acc (.ptr px 0 0) (.int .i64 dp) t12 t13 t14 M r:=by
 have hpl:px<H.length:=(List.getElem?_eq_some_iff.1 hpx).1
 have hML:=hS.len
 have hxM:M[px]? = some (Xcu vr vs g):=hS.1.get0 (Xax (List.getElem?_set_self hpl) L)
 have hvM:RlV M vr rels:=((rlv_px hpx hv (Xcu vr vs g)).app L).starts hS.1
 have hvsM:SlC M vs sts:=((slc_px hpx hvs (Xcu vr vs g)).app L).starts hS.1
 have hloE:Xb6 H.length [Blk.row (eC x) 0 (25+1)]=true:=by simp [Xb6,Xcn,Xay]
 have hLoM:LoH (M++[Blk.row (eC x) 0 (25+1)]):=LoH.app (Xcl (by omega) hS.2.1) (Xcl (by rw [List.length_append]; omega) hloE)
 have hS1:=hS.app hloE
 have hsetM:∀ (R:Mem) (c:Blk),(M++R).set px c=M.set px c++R:=fun R c=>Xd9 hxM R c
 have hwx:=Xb2 x
 have hw2:=hxl.2
 obtain ⟨n,rfl⟩ : ∃ n,d=n+10:=⟨d-10,by omega⟩
 have hp:Xka rels sts m dp g x=(if 64<dp then ([],g,19)
   else if (x.nm == pS)=true then (
    if (Xfa rels sts m g x).2.2=true then ([],(Xfa rels sts m g x).2.1,15) else ([(Xfa rels sts m g x).1],(Xfa rels sts m g x).2.1,0))
   else (
    if (Xby rels sts m (dp+1) g (kidOf x Xa5).kids).2.2=0 then ((if (Xc4 (Xbf (kidOf x Xd6) Xrt) == [])=true then (Xby rels sts m (dp+1) g (kidOf x Xa5).kids).1 else [.mk (Xc4 (Xbf (kidOf x Xd6) Xrt)) [] 0 0 [] (Xby rels sts m (dp+1) g (kidOf x Xa5).kids).1]),(Xby rels sts m (dp+1) g (kidOf x Xa5).kids).2.1,0)
    else ([],(Xby rels sts m (dp+1) g (kidOf x Xa5).kids).2.1,(Xby rels sts m (dp+1) g (kidOf x Xa5).kids).2.2))):=by unfold Xka; rw [if_pos hsp]
 rw [hp]
 rcases Nat.lt_or_ge 64 dp with h64 | h64
 ·rw [if_pos h64]
  have c1:decide ((dp:Int)≤64)=false:=decide_eq_false (by omega)
  have hno:=fun H=>Xuq Tryz.prog N (n+10) (by omega) 19 H
  refine ⟨(.pan (Xbw 19),?aa,M++[.row (eC x) 0 (25+1)]),?ma,?a1,.inl ⟨(by decide:(19:Nat)≠0),rfl,g,hS1.1⟩⟩
  case ma =>
   apply Xbj
   simp only [l2,c1,hno,reduceIte,reduceEqDiff,reduceLT,reduceAdd,reduceMul,reduceLeDiff,ZS]; rfl
  case a1=>rfl
 rw [if_neg (by omega)]
 have c1:decide ((dp:Int)≤64)=true:=decide_eq_true (by omega)
 have hok:=fun H=>Xuw Tryz.prog N (n+10) (by omega) 19 H
 cases h1:(x.nm == pS)
 rotate_left
 ·simp only [pS] at h1
  simp only [if_true]
  obtain ⟨⟨e,H'⟩,hr,hQ⟩:=para_eq (N:=N) hN rels sts (n+10) m px vr vs hl hs hd x hxl hm g hg (M++[.row (eC x) 0 (25+1)]) hLoM (Xax hxM _) (hvM.app _) (hvsM.app _)
  generalize Xfa rels sts m g x=R at *
  rcases hQ with ⟨hb,rfl,g',rfl⟩ | ⟨hb,rfl,rfl⟩
  ·rw [if_pos hb]
   simp only [hsetM] at hr
   refine ⟨(.pan (Xbw 15),?pa,M.set px (Xcu vr vs g')++[.row (eC x) 0 (25+1)]),?mp,?p1,.inl ⟨(by decide:(15:Nat)≠0),rfl,g',(Xek hpl hS.1).app _⟩⟩
   case mp =>
    apply Xaa
    ·simp only [l2,c1,hok,reduceIte,reduceEqDiff,reduceLT,reduceAdd,reduceMul,reduceLeDiff,ZS]; rfl
    apply Xbj
    simp only [l0,l9,h1,hr,reduceSub,reduceIte,reduceEqDiff,reduceLT,reduceAdd,reduceMul,reduceLeDiff,ZS,ZT]; rfl
   case p1=>rfl
  ·rw [if_neg (by rw [hb]; simp)]
   simp only [hsetM] at hr
   have k1:=(hS.px hpl _ (hlow R.2.1)).app (R:=[.row (eC x) 0 (25+1),.row (blC R.1) 0 (46+1)]) (by simp [Xb6,Xcn,Xay,Xj3])
   obtain ⟨v',M',ha,hS',hle⟩:=k1.add (Xkm.one R.1) (by simp; omega)
   rw [List.length_append,List.length_set] at hle
   have hb6:=Xmb R.1
   have hb6':6≤(blC R.1).length:=by omega
   have hbt:(blC R.1).take 6=blC R.1:=List.take_of_length_le (by omega)
   have hb1:=Xql R.1
   have hMl:(M.set px (Xcu vr vs R.2.1)).length=M.length:=List.length_set
   have s0:∀ (b:Blk) (L:Mem),(M.set px b++L)[M.length]? = L[0]?:=fun b L=>Xgx L
   have sk:∀ (b:Blk) (L:Mem) (k:Nat),(M.set px b++L)[M.length+k]? = L[k]?:=fun b L k=>Xkt L k
   have hbd:(blC R.1).drop 6=[]:=List.drop_eq_nil_of_le (by omega)
   rw [show [R.1].length=1 from rfl] at ha
   refine ⟨(.exit 1,?qa,M'),?mq,?q1,.inr ⟨rfl,.inr rfl,?q2,?q3,?q4,?q5,?q6,?q7,?q8,by omega⟩⟩
   case mq =>
    apply Xaa
    ·simp only [l2,c1,hok,reduceIte,reduceEqDiff,reduceLT,reduceAdd,reduceMul,reduceLeDiff,ZS]; rfl
    apply Xbd
    simp only [l0,l7,l9,h1,hr,hb6,hb6',hbt,hbd,hb1,hMl,s0,sk,Xfu,Xcd,ha,reduceSub,reduceIte,reduceEqDiff,reduceLT,reduceAdd,reduceMul,reduceLeDiff,ZS,ZT]; rfl
   case q3=>exact l0
   case q4=>exact l2
   case q5=>exact l12
   case q6=>exact l13
   case q7=>exact l14
   case q8=>exact hS'
   all_goals rfl
 ·simp only [pS] at h1
  simp only [Ze,if_false]
  have hK:=fun H=>Xn3 Tryz.prog N (n+8) hN Xd6 x hxl.1 H
  have hV:=fun H=>Xtd Tryz.prog N (n+7) hN Xrt (kidOf x Xd6) (hxl.kidOf _).1 H
  have hC:=fun H=>Xn3 Tryz.prog N (n+8) hN Xa5 x hxl.1 H
  have u1:=fun H=>Xgk (N:=N) (n+4) (Xbf (kidOf x Xd6) Xrt) (hxl.kidOf _ |>.val _) (by omega) H
  have hcl:=hxl.kidOf Xa5
  have hcd:=Xjn x Xa5
  have hcw:=Xfc x Xa5
  generalize kidOf x Xd6=pr at *
  generalize kidOf x Xa5=co at *
  generalize hut:Xc4 (Xbf pr Xrt)=tag at *
  generalize Xbf pr Xrt=tv at *
  have hde:=Xib x
  have hdc:=Xib co
  have hwc:=Xb2 co
  obtain ⟨⟨e,H'⟩,hr,hQ⟩:=hR co.kids (fun y hy=>hcl.kid hy) (by omega) (by have:=hcl.2; omega) (dp+1) g (by omega) (by omega) (M++[.row (eC x) 0 (25+1)]) hLoM (Xax hxM _) (hvM.app _) (hvsM.app _)
  have hRl:=(Xhe rels sts m (dp+1) g co.kids).1
  generalize Xby rels sts m (dp+1) g co.kids=R at *
  have hc4:(eC co)[4]? = some (.lst co.kids.length (kC co.kids)):=by rw [Xdo]; rfl
  have w1:IntKind.wrap .i64 ((dp:Int)+1)=((dp+1:Nat):Int):=by rw [Xbs] <;> omega
  simp only [Xd6] at hK
  simp only [Xrt] at hV
  simp only [Xa5] at hC
  rcases hQ with ⟨hb,rfl,g',rfl⟩ | ⟨hb,rfl,rfl⟩
  ·rw [if_neg hb]
   simp only [hsetM] at hr
   refine ⟨(.pan (Xbw R.2.2),?ra,M.set px (Xcu vr vs g')++[.row (eC x) 0 (25+1)]),?mr,?r1,.inl ⟨hb,rfl,g',(Xek hpl hS.1).app _⟩⟩
   case mr =>
    apply Xaa
    ·simp only [l2,c1,hok,reduceIte,reduceEqDiff,reduceLT,reduceAdd,reduceMul,reduceLeDiff,ZS]; rfl
    apply Xaa
    ·simp only [l9,h1,reduceSub,reduceIte,reduceEqDiff,reduceLT,reduceAdd,reduceMul,reduceLeDiff,ZS,ZT]; rfl
    apply Xaa
    ·simp only [l9,hK,hV,u1,reduceSub,reduceIte,reduceEqDiff,reduceLT,reduceAdd,reduceMul,reduceLeDiff,ZS,ZT]; rfl
    apply Xbj
    simp only [l0,l2,l9,hC,hc4,w1,hr,reduceSub,reduceIte,reduceEqDiff,reduceLT,reduceAdd,reduceMul,reduceLeDiff,ZS,ZT]; rfl
   case r1=>rfl
  ·rw [if_pos hb]
   simp only [hsetM] at hr
   cases ht:(tag == [])
   ·simp only [Ze,if_false]
    have k1:=(hS.px hpl _ (hlow R.2.1)).app (R:=[.row (eC x) 0 (25+1),.row [.str tag,.str [],.int .i64 0,.int .i64 0,.nilS,.lst R.1.length (blsC R.1)] 0 (46+1)]) (by simp [Xb6,Xcn,Xay,lowL,low,blsC_low])
    obtain ⟨v',M',ha,hS',hle⟩:=k1.add (Xkm.tag tag R.1) (by simp; omega)
    rw [List.length_append,List.length_set] at hle
    have hMl:(M.set px (Xcu vr vs R.2.1)).length=M.length:=List.length_set
    have s0:∀ (b:Blk) (L:Mem),(M.set px b++L)[M.length]? = L[0]?:=fun b L=>Xgx L
    have sk:∀ (b:Blk) (L:Mem) (k:Nat),(M.set px b++L)[M.length+k]? = L[k]?:=fun b L k=>Xkt L k
    rw [show [Bl.mk tag [] 0 0 [] R.1].length=1 from rfl] at ha
    refine ⟨(.normal,?sa,M'),?ms,?s1,.inr ⟨rfl,.inl rfl,?s2,?s3,?s4,?s5,?s6,?s7,?s8,by omega⟩⟩
    case ms =>
     apply Xaa
     ·simp only [l2,c1,hok,reduceIte,reduceEqDiff,reduceLT,reduceAdd,reduceMul,reduceLeDiff,ZS]; rfl
     apply Xaa
     ·simp only [l9,h1,reduceSub,reduceIte,reduceEqDiff,reduceLT,reduceAdd,reduceMul,reduceLeDiff,ZS,ZT]; rfl
     apply Xaa
     ·simp only [l9,hK,hV,u1,reduceSub,reduceIte,reduceEqDiff,reduceLT,reduceAdd,reduceMul,reduceLeDiff,ZS,ZT]; rfl
     apply Xaa
     ·simp only [l0,l2,l9,hC,hc4,w1,hr,reduceSub,reduceIte,reduceEqDiff,reduceLT,reduceAdd,reduceMul,reduceLeDiff,ZS,ZT]; rfl
     simp only [l7,ht,hMl,s0,sk,Xfu,Xcd,ha,reduceSub,reduceIte,reduceEqDiff,reduceLT,reduceAdd,reduceMul,reduceLeDiff,ZS,ZT]; rfl
    case s3=>exact l0
    case s4=>exact l2
    case s5=>exact l12
    case s6=>exact l13
    case s7=>exact l14
    case s8=>exact hS'
    all_goals rfl
   ·simp only [if_true]
    have k1:=(hS.px hpl _ (hlow R.2.1)).app hloE
    obtain ⟨v',M',ha,hS',hle⟩:=k1.add (Xkm.all R.1) (by omega)
    rw [List.length_append,List.length_set] at hle
    have hbl:=Xk7 R.1
    have hbo:=Xpn R.1
    refine ⟨(.normal,?ua,M'),?mu,?u1,.inr ⟨rfl,.inl rfl,?u2,?u3,?u4,?u5,?u6,?u7,?u8,by omega⟩⟩
    case mu =>
     apply Xaa
     ·simp only [l2,c1,hok,reduceIte,reduceEqDiff,reduceLT,reduceAdd,reduceMul,reduceLeDiff,ZS]; rfl
     apply Xaa
     ·simp only [l9,h1,reduceSub,reduceIte,reduceEqDiff,reduceLT,reduceAdd,reduceMul,reduceLeDiff,ZS,ZT]; rfl
     apply Xaa
     ·simp only [l9,hK,hV,u1,reduceSub,reduceIte,reduceEqDiff,reduceLT,reduceAdd,reduceMul,reduceLeDiff,ZS,ZT]; rfl
     apply Xaa
     ·simp only [l0,l2,l9,hC,hc4,w1,hr,reduceSub,reduceIte,reduceEqDiff,reduceLT,reduceAdd,reduceMul,reduceLeDiff,ZS,ZT]; rfl
     simp only [l7,ht,Xfu,Xcd,hbl,hbo,ha,reduceSub,reduceIte,reduceEqDiff,reduceLT,reduceAdd,reduceMul,reduceLeDiff,ZS,ZT]; rfl
    case u3=>exact l0
    case u4=>exact l2
    case u5=>exact l12
    case u6=>exact l13
    case u7=>exact l14
    case u8=>exact hS'
    all_goals rfl
end
theorem Xkq {P:Program} {g:Cfg} {F:Xc5} {N:Nat} {c:IC} {a a':AAct} {H H':Mem} {o:Out} {id:Nat} (h:evI P g F N c a H=some (o,a',H')) (ho:o=.normal∨o=.exit id):evI P g F N (.block id c) a H=some (.normal,a',H'):=by
 rcases ho with rfl | rfl
 ·exact Xbh h
 ·exact Xab h
def BksEnd (H L:Mem) (px:Nat) (vr vs:AV) (R:List Bl × Nat × Nat) (acc:List Bl):Out × AAct × Mem→Prop
 | (o,a,M')=>a.d=[]∧((R.2.2≠0∧o=.pan (Xbw R.2.2)∧∃ g',Xak (H.set px (Xcu vr vs g')++L) M')∨(R.2.2=0∧o=.exit 0∧a.n=67∧Xew H px (Xcu vr vs R.2.1) L (acc++R.1) (Xad a.t 7) M'))
section
variable {N:Nat} (hN:9223372036854775808≤N)
include hN
theorem bk_loop (rels:List Rl) (sts:List St) (d m px:Nat) (vr vs:AV) (hl:rels.length≤4611686018427387904) (hs:sts.length≤4611686018427387904) (hR:BlksOk rels sts N d m px vr vs) (hd:2*m+10≤d) (kids:List El) (hxl:∀ x ∈ kids,Lim x) (hm:dEls kids<m+1) (hkl:wEls kids≤1048576) (dp gz:Nat) (hdp:dp≤65)
  (H L:Mem) (hpx:H[px]? = some (Xcu vr vs gz)) (hlow:∀ g,Xcn H.length (Xcu vr vs g)=true) (hv:RlV H vr rels) (hvs:SlC H vs sts):∀ (fuel k g:Nat) (acc:List Bl) (v:AV) (M:Mem),k≤kids.length→kids.length-k<fuel→g+wEls (kids.drop k)≤1099511627776→acc.length+wEls (kids.drop k)≤1048576→Xew H px (Xcu vr vs g) L acc v M →
  ∃ r,Xa6 (fun a H=>evI Tryz.prog cfg (Xaw Tryz.prog cfg T N d) N loopBk a H) (some [0,2,7,12,13,14]) fuel ⟨67,[(0,.ptr px 0 0),(2,.int .i64 dp),(7,v),(12,.lst kids.length (kC kids)),(13,.int .i64 kids.length),(14,.int .i64 k)],[]⟩ M=some r∧BksEnd H L px vr vs (Xby rels sts (m+1) dp g (kids.drop k)) acc r
 | 0,k,_,_,_,_,_,h,_,_,_=>by omega
 | fuel+1,k,g,acc,v,M,hk,hf,hg,ha,hS=>by
  rcases Nat.lt_or_ge k kids.length with hlt | hge
  ·obtain ⟨x,hxx⟩:=Xbb hlt
   have hxm:x ∈ kids:=List.mem_of_mem_drop (i:=k) (by rw [hxx]; exact List.mem_cons_self)
   have hget:(kC kids).drop (k*5)=eC x++kC (kids.drop (k+1)):=by rw [Xd1,hxx]; rfl
   have hkl2:=Xmf kids
   have hi:(k:Int)<(kids.length:Int):=by omega
   have hw:=Xav hlt (by omega)
   have hML:=hS.len
   have hdx:=Xjz hxm
   have hde:=Xib x
   rw [hxx] at hg ha ⊢
   simp only [wEls] at hg ha
   have ih:=bk_loop rels sts d m px vr vs hl hs hR hd kids hxl hm hkl dp gz hdp H L hpx hlow hv hvs fuel (k+1)
   have hol:=oneB_len rels sts m dp g x
   rw [Xhy]
   obtain ⟨t,k0,k2,k7,k9,k12,k13,k14,hpre⟩:=bk_pre (Xaw Tryz.prog cfg T N d) N x kids k hlt hget M (.ptr px 0 0) (.int .i64 dp) v [(15,.bool true),(0,.ptr px 0 0),(2,.int .i64 dp),(7,v),(12,.lst kids.length (kC kids)),(13,.int .i64 kids.length),(14,.int .i64 k)] rfl rfl rfl rfl rfl rfl
   have one:∃ r,evI Tryz.prog cfg (Xaw Tryz.prog cfg T N d) N Xry ⟨67,[(15,.bool true),(0,.ptr px 0 0),(2,.int .i64 dp),(7,v),(12,.lst kids.length (kC kids)),(13,.int .i64 kids.length),(14,.int .i64 k)],[]⟩ M=some r∧BkEnd H L px vr vs (Xka rels sts m dp g x) acc (.ptr px 0 0) (.int .i64 dp) (.lst kids.length (kC kids)) (.int .i64 kids.length) (.int .i64 k) M r:=by
    cases hsp:(x.sp == wNs && (x.nm == pS || x.nm == sdtS))
    ·rw [hsp,if_neg (by simp)] at hpre
     have e3:Xka rels sts m dp g x=([],g,0):=by unfold Xka; rw [hsp]; rfl
     rw [e3]
     refine ⟨_,hpre,rfl,.inr ⟨rfl,.inr rfl,rfl,k0,k2,k12,k13,k14,?_,by simp⟩⟩
     simp only [k7,Zs]
     exact hS.app (by simp [Xb6,Xcn,Xay])
    ·rw [hsp,if_pos rfl] at hpre
     obtain ⟨r,hr,hQ⟩:=bk_mid (N:=N) hN rels sts d m px vr vs hl hs hR hd x (hxl x hxm) (by omega) hsp dp g gz hdp (by omega) H L M hpx hlow hv hvs acc (by omega) v hS (.lst kids.length (kC kids)) (.int .i64 kids.length) (.int .i64 k) t k0 k2 k7 k9 k12 k13 k14
     exact ⟨r,hpre.trans hr,hQ⟩
   obtain ⟨⟨o,⟨an,at',ad⟩,M'⟩,hr,hd0,hQ⟩:=one
   simp only at hd0
   subst hd0
   generalize Xka rels sts m dp g x=R at *
   rcases hQ with ⟨hb,rfl,hQ⟩ | ⟨hb,ho,hn,m0,m2,m12,m13,m14,hS',hle⟩
   ·rw [if_neg hb]
    refine ⟨_,Xlm (v:=Xbw R.2.2) (a':=⟨an,at',[]⟩) (H':=M') ?hb,rfl,.inl ⟨hb,rfl,hQ⟩⟩
    case hb =>
     apply Xaa
     ·simp only [hi,reduceIte,reduceEqDiff,reduceLT,reduceAdd,reduceMul,reduceLeDiff,ZS]; rfl
     apply Xaa
     ·simp only [reduceIte,reduceEqDiff,reduceLT,reduceAdd,reduceMul,reduceLeDiff,ZS]; rfl
     apply Xbj
     apply Xcb
     exact hr
   ·rw [if_pos hb]
    simp only at hn m0 m2 m12 m13 m14 hS'
    subst hn
    generalize hv':Xad at' 7=v' at *
    refine Xbv (a':=?aa) (H':=M') ?hb ?hn
    case hb =>
     apply Xaa
     ·simp only [hi,reduceIte,reduceEqDiff,reduceLT,reduceAdd,reduceMul,reduceLeDiff,ZS]; rfl
     apply Xaa
     ·simp only [reduceIte,reduceEqDiff,reduceLT,reduceAdd,reduceMul,reduceLeDiff,ZS]; rfl
     apply Xaa
     ·exact Xkq hr ho
     simp only [m14,hw,reduceIte,reduceEqDiff,reduceLT,reduceAdd,reduceMul,reduceLeDiff,ZS]; rfl
    case hn =>
     simp only [AAct.keepT,Zv,Zz,Xad,reduceIte,reduceEqDiff,m0,m2,m12,m13,m14,hv']
     intro M'' hM''
     have hM2:M''=M'∨(M''=M'.take M.length∧low M.length v'=true):=by
      rcases hM'' with h | ⟨h,h2⟩
      ·exact .inl h
      ·refine .inr ⟨h,?_⟩
       unfold Xto at h2
       exact List.all_eq_true.1 h2 (7,v') (by simp)
     have hS'':=hS'.cut hML hM2
     obtain ⟨r,e1,e2⟩:=ih R.2.1 (acc++R.1) v' M'' (by omega) (by omega) (by omega) (by rw [List.length_append]; omega) hS''
     refine ⟨r,e1,?_⟩
     obtain ⟨o,a,M3⟩:=r
     obtain ⟨f1,f2⟩:=e2
     refine ⟨f1,?_⟩
     rw [List.append_assoc] at f2
     exact f2
  ·have hk':k=kids.length:=by omega
   subst hk'
   rw [List.drop_length,Xtm]
   refine ⟨_,Xae (by simp only [loopBk,I28,IC.loops,Int.lt_irrefl,reduceIte,reduceEqDiff,reduceLT,reduceAdd,reduceMul,reduceLeDiff,ZS]; rfl),rfl,.inr ⟨rfl,rfl,rfl,?_⟩⟩
   rw [List.append_nil]
   exact hS
theorem Xw6 {n0 n1:Nat} {M:Mem} {l:List Bl} {cs:List AV} {v:AV} (hp:Xkm cs l) (h01:n0≤n1) (hg:Xbr n1 6 (46+1) l.length cs v M):frz n0 M 12 v=some (.lst l.length (blsC l)):=by
 rcases hg with ⟨h1,h2,rfl⟩ | ⟨q,st,rfl,h1,h2⟩
 ·have:l=[]:=List.eq_nil_of_length_eq_zero h1
  subst this; rfl
 ·rw [Xp6 (by omega) h2 (by rw [hp.1]; omega) (cs':=blsC l) ?_]
  rw [List.drop_zero,List.take_of_length_le (by rw [hp.1]; omega)]
  exact hp.2.2.2 _ _ _
theorem Xvp (rels:List Rl) (sts:List St) (px:Nat) (vr vs:AV) (hl:rels.length≤4611686018427387904) (hs:sts.length≤4611686018427387904):∀ (m d:Nat),2*m+11≤d→BlksOk rels sts N d m px vr vs
 | 0,d,hd=>fun kids _ hm=>by omega
 | m+1,d,hd=>by
  obtain ⟨n,rfl⟩ : ∃ n,d=n+1:=⟨d-1,by omega⟩
  have hR:=Xvp rels sts px vr vs hl hs m n (by omega)
  intro kids hx hm hw dp g hdp hg H hH hpx hv hvs
  have hlow:=fun g'=>Xes hH hpx g'
  have hB:Xew H px (Xcu vr vs g) [] [] .nilS H:=by
   refine ⟨?_,hH,[],Xkm.nil,.inl ⟨rfl,rfl,rfl⟩⟩
   rw [Xec hpx,List.append_nil]; exact Xak.refl _
  have hkl2:=Xmf kids
  obtain ⟨⟨o,⟨an,at',ad⟩,M'⟩,hr,hd0,hQ⟩:=bk_loop (N:=N) hN rels sts n m px vr vs hl hs hR (by omega) kids hx hm hw dp g hdp H [] hpx hlow hv hvs N 0 g [] .nilS _ (Nat.zero_le _) (by omega) (by rw [List.drop_zero]; omega) (by rw [List.drop_zero]; simp; omega) hB
  simp only at hd0
  subst hd0
  rw [List.drop_zero] at hQ
  generalize Xby rels sts (m+1) dp g kids=R at *
  rcases hQ with ⟨hb,rfl,g',hst⟩ | ⟨hb,rfl,hn,hst,hlo,cs,hp,hgr⟩
  ·have hst2:=hst.pre
   have htk:M'.take H.length=H.set px (Xcu vr vs g'):=by
    unfold Xak at hst2
    rw [List.length_set] at hst2; exact hst2
   refine ⟨(.pan (Xbw R.2.2),H.set px (Xcu vr vs g')),?_,.inl ⟨hb,rfl,g',rfl⟩⟩
   refine Xdu (m:=67) (v:=Xbw R.2.2) (a:=⟨an,at',[]⟩) (H1:=M') rfl t28 rfl ?hb rfl ?hz
   case hb =>
    apply Xaa
    ·simp only [idx,I28,reduceIte,reduceEqDiff,reduceLT,reduceAdd,reduceMul,reduceLeDiff,ZS]; rfl
    apply Xaa
    ·simp only [reduceIte,reduceEqDiff,reduceLT,reduceAdd,reduceMul,reduceLeDiff,ZS]; rfl
    apply Xbj
    apply Xaa
    ·simp only [reduceIte,reduceEqDiff,reduceLT,reduceAdd,reduceMul,reduceLeDiff,ZS]; rfl
    apply Xcb
    apply Xaf
    exact hr
   case hz =>
    rw [Xmo _ (by unfold Xce; rw [htk,Xb9 hH (hlow g'),Bool.or_true]),htk]
  ·have hst2:=hst.pre
   have htk:M'.take H.length=H.set px (Xcu vr vs R.2.1):=by
    unfold Xak at hst2
    rw [List.length_set] at hst2; exact hst2
   simp only at hn hgr
   subst hn
   rw [List.nil_append] at hgr hp
   refine ⟨(.ret (.lst R.1.length (blsC R.1)),H.set px (Xcu vr vs R.2.1)),?_,.inr ⟨hb,rfl,rfl⟩⟩
   refine Xac (m:=67) (v:=Xad at' 7) (a:=?ra) (H1:=M') rfl t28 rfl ?hb2 ?hd2 ?hr2 ?hz2
   case hb2 =>
    apply Xaa
    ·simp only [idx,I28,reduceIte,reduceEqDiff,reduceLT,reduceAdd,reduceMul,reduceLeDiff,ZS]; rfl
    apply Xaa
    ·simp only [reduceIte,reduceEqDiff,reduceLT,reduceAdd,reduceMul,reduceLeDiff,ZS]; rfl
    apply Xaa
    ·apply Xaa
     ·simp only [reduceIte,reduceEqDiff,reduceLT,reduceAdd,reduceMul,reduceLeDiff,ZS]; rfl
     apply Xab
     apply Xaf
     exact hr
    apply Xaa
    ·simp only [reduceIte,reduceEqDiff,reduceLT,reduceAdd,reduceMul,reduceLeDiff,ZS]; rfl
    rfl
   case hd2=>rfl
   case hr2=>simp only [I28,Xc6,Xbc,Xad,reduceIte,reduceEqDiff,Zh]
   case hz2 =>
    have hf:frz H.length M' 12 (Xad at' 7)=some (.lst R.1.length (blsC R.1)):=Xw6 hN hp (by omega) hgr
    have hl2:low H.length (.lst R.1.length (blsC R.1))=true:=by simp [low,blsC_low]
    simp only [Xao,Ze,if_false,cfg,keep,hf,hl2,Xce,htk,Xb9 hH (hlow R.2.1),Bool.or_true,ZJ,if_true]
end
end Go.Proofs.YtmhhddhbdbcmbaaGreatDoor.Ev
