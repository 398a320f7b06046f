/- Parts of one proof. -/
import Derived.Test.YtmhhddhbdbcmbaaGreatDoorMdb
set_option linter.all false
namespace Go.Proofs.YtmhhddhbdbcmbaaGreatDoor.Ev
open Nat (reduceEqDiff reduceLT reduceAdd reduceMul reduceLeDiff reduceSub)
open Go.Proofs.YtmhhddhbdbcmbaaGreatDoor.Ic
set_option maxRecDepth 100000
set_option maxHeartbeats 2000000
theorem Xdi {body:AAct→Mem→Option (Out × AAct × Mem)} {lv:List Tmp} {n:Nat} {a a':AAct} {H H':Mem} {Q:Out × AAct × Mem→Prop} (h:body a H=some (.normal,a',H'))
  (h2:∀ M',(M'=H'∨M'=H'.take H.length)→∃ r,Xa6 body (some lv) n (a'.keepT lv) M'=some r∧Q r):∃ r,Xa6 body (some lv) (n+1) a H=some r∧Q r:=by
 rw [Xdj,h]
 simp only [Xbk]
 split
 ·exact h2 _ (.inr rfl)
 ·exact h2 _ (.inl rfl)
theorem Xbx {l:List Tmp} {a:AAct} {H:Mem}:Xbk (some l) H a H=(a.keepT l,H):=by
 simp only [Xbk,List.take_length,ite_self]
theorem Xa4 {H L:Mem} {v:AV} (hf:frz H.length (H++L) 12 v=some v) (hl:low H.length v=true):Xao false H v (H++L)=(v,H):=by
 simp only [Xao,Ze,if_false,hf,hl,Xce,List.take_left,Xb0,Bool.true_or,ZJ,if_true]
theorem Xqn (l:List St):(Xdb l).length=l.length*6:=by
 induction l with
 | nil=>rfl
 | cons s l ih =>
  have e:Xdb (s::l)=stC s++Xdb l:=rfl
  rw [e,List.length_append,ih]; simp [stC]; omega
theorem stsC_drop (l:List St) (j:Nat):(Xdb l).drop (j*6)=Xdb (l.drop j):=by
 induction j generalizing l with
 | zero=>simp
 | succ j ih =>
  cases l with
  | nil=>simp [Xdb]
  | cons s l =>
   have e:Xdb (s::l)=stC s++Xdb l:=rfl
   rw [e,show (j+1)*6=6+j*6 by omega,← List.drop_drop,List.drop_left' (show (stC s).length=6 from rfl),ih,List.drop_succ_cons]
theorem Xcr {l:List St} {j:Nat} (h:j<l.length):∃ r,(Xdb l).drop (j*6)=stC (l.getD j default)++r:=by
 rw [stsC_drop,List.drop_eq_getElem_cons h]
 exact ⟨Xdb (l.drop (j+1)),by rw [List.getD_eq_getElem?_getD,List.getElem?_eq_getElem h]; rfl⟩
theorem Xcf {cs:List AV} {o:Nat} {s:St} {r:List AV} (h:cs.drop o=stC s++r):o+6≤cs.length∧(cs.drop o).take 6=stC s∧(cs.drop o).take 1=[.str s.id]∧(cs.drop (o+1)).take 1=[.str s.based]∧(cs.drop (o+2)).take 1=[.bool s.run]:=by
 have hl:cs.length-o=6+r.length:=by rw [← List.length_drop,h]; simp [stC]; omega
 refine ⟨by omega,by rw [h]; rfl,by rw [h]; rfl,?_,?_⟩
 ·rw [← List.drop_drop,h]; rfl
 ·rw [← List.drop_drop,h]; rfl
def SlC (H:Mem) (v:AV) (l:List St):Prop:=(l=[]∧v=.nilS)∨∃ q st ty,v=.slc q 0 l.length 6 st∧H[q]? = some (.row (Xdb l) st ty)
theorem SlC.app {H:Mem} {v:AV} {l:List St} (h:SlC H v l) (L:Mem):SlC (H++L) v l:=by
 rcases h with h | ⟨q,st,ty,h1,h2⟩
 ·exact .inl h
 ·exact .inr ⟨q,st,ty,h1,by rw [List.getElem?_append_left (List.getElem?_eq_some_iff.1 h2).1]; exact h2⟩
theorem alone_eq (P:Program) (N d:Nat) (hd:1≤d) (s:St) (H:Mem):Xaw P cfg T N d 68 [.agg (stC s)] H=some (.ret (.bool (Xl0 s)),H):=by
 obtain ⟨n,rfl⟩ : ∃ k,d=k+1:=⟨d-1,by omega⟩
 have yes:∀ a,evI P cfg (Xaw P cfg T N n) N I68.c ⟨45,idx 0 [.agg (stC s)],[]⟩ H=some (.ret,a,H++[.row (stC s) 0 (68+1)])→a.d=[]→Xad a.t 2=.bool true→Xaw P cfg T N (n+1) 68 [.agg (stC s)] H=some (.ret (.bool true),H):=fun a h1 h2 h3 =>
  Xac (m:=45) (v:=.bool true) (a:=a) (H1:=H++[.row (stC s) 0 (68+1)]) rfl t68 rfl h1 h2 (by simp only [I68,Xc6,Xbc,h3,Zh]) (Xa4 rfl rfl)
 have no:∀ b a,evI P cfg (Xaw P cfg T N n) N I68.c ⟨45,idx 0 [.agg (stC s)],[]⟩ H=some (.ret,a,H++[.row (stC s) 0 (68+1)])→a.d=[]→Xad a.t 2=.bool b→Xaw P cfg T N (n+1) 68 [.agg (stC s)] H=some (.ret (.bool b),H):=fun b a h1 h2 h3 =>
  Xac (m:=45) (v:=.bool b) (a:=a) (H1:=H++[.row (stC s) 0 (68+1)]) rfl t68 rfl h1 h2 (by simp only [I68,Xc6,Xbc,h3,Zh]) (Xa4 rfl rfl)
 unfold Xl0
 simp only [stC] at yes no ⊢
 cases c0:(s.id == [])
 rotate_left
 ·exact yes _ (by simp only [idx,I68,c0,reduceIte,reduceEqDiff,reduceLT,reduceAdd,reduceMul,reduceLeDiff,ZS]; rfl) rfl rfl
 cases c1:decide (s.emph<0)
 rotate_left
 ·exact yes _ (by simp only [idx,I68,c0,c1,reduceIte,reduceEqDiff,reduceLT,reduceAdd,reduceMul,reduceLeDiff,ZS]; rfl) rfl rfl
 cases c2:decide (s.emph>2)
 rotate_left
 ·exact yes _ (by simp only [idx,I68,c0,c1,c2,reduceIte,reduceEqDiff,reduceLT,reduceAdd,reduceMul,reduceLeDiff,ZS]; rfl) rfl rfl
 cases c3:decide (s.bold<0)
 rotate_left
 ·exact yes _ (by simp only [idx,I68,c0,c1,c2,c3,reduceIte,reduceEqDiff,reduceLT,reduceAdd,reduceMul,reduceLeDiff,ZS]; rfl) rfl rfl
 cases c4:decide (s.bold>2)
 rotate_left
 ·exact yes _ (by simp only [idx,I68,c0,c1,c2,c3,c4,reduceIte,reduceEqDiff,reduceLT,reduceAdd,reduceMul,reduceLeDiff,ZS]; rfl) rfl rfl
 cases c5:decide (s.head<0)
 rotate_left
 ·exact yes _ (by simp only [idx,I68,c0,c1,c2,c3,c4,c5,reduceIte,reduceEqDiff,reduceLT,reduceAdd,reduceMul,reduceLeDiff,ZS]; rfl) rfl rfl
 cases c6:decide (s.head>6)
 rotate_left
 ·exact yes _ (by simp only [idx,I68,c0,c1,c2,c3,c4,c5,c6,reduceIte,reduceEqDiff,reduceLT,reduceAdd,reduceMul,reduceLeDiff,ZS]; rfl) rfl rfl
 cases c7:s.run
 ·rw [c7] at no
  simp only [Bool.false_or,ZE]
  exact no false _ (by simp only [idx,I68,c0,c1,c2,c3,c4,c5,c6,c7,reduceIte,reduceEqDiff,reduceLT,reduceAdd,reduceMul,reduceLeDiff,ZS]; rfl) rfl rfl
 ·rw [c7] at no
  simp only [Bool.false_or,ZH]
  generalize c8:decide (s.head>0)=q
  exact no q _ (by simp only [idx,I68,c0,c1,c2,c3,c4,c5,c6,c7,c8,reduceIte,reduceEqDiff,reduceLT,reduceAdd,reduceMul,reduceLeDiff,ZS]; rfl) rfl rfl
theorem cloS_eq (P:Program) (N d:Nat) (hd:1≤d) (s:St) (id:List UInt8) (H:Mem) (p ty:Nat) (hp:H[p]? = some (.row [.str id] 0 ty)):Xaw P cfg T N d 122 [.agg (stC s),.ptr p 0 0] H=some (.ret (.bool (s.id == id)),H):=by
 obtain ⟨n,rfl⟩ : ∃ k,d=k+1:=⟨d-1,by omega⟩
 have hlt:p<H.length:=(List.getElem?_eq_some_iff.1 hp).1
 have hp2:∀ L:Mem,(H++L)[p]? = some (.row [.str id] 0 ty):=fun L=>by rw [List.getElem?_append_left hlt]; exact hp
 refine Xac (m:=8) (v:=.bool (s.id == id)) (a:=?aa) (H1:=?Ha) rfl t122 rfl ?hb ?hd ?hr ?hz
 case hb=>simp only [idx,I122,stC,hp2,reduceIte,reduceEqDiff,reduceLT,reduceAdd,reduceMul,reduceLeDiff,ZS]; rfl
 case hd=>rfl
 case hr=>rfl
 case hz=>exact Xa4 rfl rfl
noncomputable def Xvv:IC:=(I121.c.loops).getD 0 .bad
theorem Xrj (P:Program) (hcl:Xa1 P 122=true) (N n:Nat) (id:List UInt8) (H:Mem) (p ty q st ty2:Nat) (l:List St) (hl:l.length≤4611686018427387904) (hp:H[p]? = some (.row [.str id] 0 ty)) (hq:H[q]? = some (.row (Xdb l) st ty2)):∀ (fuel k:Nat),k≤l.length→l.length-k<fuel →
  ∃ t,Xa6 (fun a H=>evI P cfg (Xaw P cfg T N (n+1)) N Xvv a H) (some [0,1,7,8]) fuel ⟨19,[(0,.slc q 0 l.length 6 st),(1,.fn (.func 122) [.ptr p 0 0]),(7,.int .i64 l.length),(8,.int .i64 k)],[]⟩ H =
   (match ixF id (l.drop k) k with
   | some j=>some (.ret,⟨19,(4,.int .i64 j)::t,[]⟩,H)
   | none=>some (.exit 0,⟨19,t,[]⟩,H))
 | 0,k,_,h=>by omega
 | fuel+1,k,hk,hf=>by
  rcases Nat.lt_or_ge k l.length with hlt | hge
  ·obtain ⟨x,hx⟩:=Xbb hlt
   obtain ⟨r,hr⟩:=Xcr hlt
   have hxe:l.getD k default=x:=by
    have h0:(l.drop k)[0]? = some x:=by rw [hx]; rfl
    rw [List.getD_eq_getElem?_getD]
    simpa using congrArg (Option.getD · default) h0
   rw [hxe] at hr
   obtain ⟨g1,g2,g3,g4,g5⟩:=Xcf hr
   have hi:(k:Int)<(l.length:Int):=by omega
   have hw:=Xav hlt (by omega)
   have hn:=Xan k .i64
   have hc:=cloS_eq P N (n+1) (by omega) x id H p ty hp
   simp only [stC] at hc g2
   obtain ⟨t,ht⟩:=Xrj P hcl N n id H p ty q st ty2 l hl hp hq fuel (k+1) (by omega) (by omega)
   have hpl:p<H.length:=(List.getElem?_eq_some_iff.1 hp).1
   have hql:q<H.length:=(List.getElem?_eq_some_iff.1 hq).1
   have k6:k*6+1*6≤(Xdb l).length:=by omega
   rw [hx]
   have e:ixF id (x::l.drop (k+1)) k=if (x.id == id)=true then some k else ixF id (l.drop (k+1)) (k+1):=rfl
   rw [e]
   cases h1:(x.id == id)
   ·rw [h1] at hc
    refine ⟨t,?_⟩
    simp only [Ze,if_false]
    refine Xap (H':=H) (by simp only [Xvv,I121,IC.loops,hi,hlt,hn,hw,hq,g1,g2,hcl,hc,reduceIte,reduceEqDiff,reduceLT,reduceAdd,reduceMul,reduceLeDiff,ZS]; rfl) ?_
    rw [Xbx]
    exact ht
   ·rw [h1] at hc
    simp only [if_true]
    exact ⟨_,Xah (by simp only [Xvv,I121,IC.loops,hi,hlt,hn,hw,hq,g1,g2,hcl,hc,reduceIte,reduceEqDiff,reduceLT,reduceAdd,reduceMul,reduceLeDiff,ZS]; rfl)⟩
  ·have hk':k=l.length:=by omega
   subst hk'
   simp only [List.drop_length,ixF]
   exact ⟨_,Xae (by simp only [Xvv,I121,IC.loops,Int.lt_irrefl,reduceIte,reduceEqDiff,reduceLT,reduceAdd,reduceMul,reduceLeDiff,ZS]; rfl)⟩
def ixZ (o:Option Nat):Int:=match o with
 | some j=>j
 | none=>-1
theorem idxS_eq (P:Program) (hcl:Xa1 P 122=true) (N d:Nat) (hd:2≤d) (id:List UInt8) (H:Mem) (p ty:Nat) (v:AV) (l:List St) (hN:l.length<N) (hl:l.length≤4611686018427387904) (hp:H[p]? = some (.row [.str id] 0 ty)) (hv:SlC H v l) :
  Xaw P cfg T N d 121 [v,.fn (.func 122) [.ptr p 0 0]] H=some (.ret (.int .i64 (ixZ (ixF id l 0))),H):=by
 obtain ⟨n,rfl⟩ : ∃ k,d=k+2:=⟨d-2,by omega⟩
 rcases hv with ⟨rfl,rfl⟩ | ⟨q,st,ty2,rfl,hq⟩
 ·obtain ⟨M,rfl⟩ : ∃ M,N=M+1:=⟨N-1,by omega⟩
  refine Xac (m:=19) (v:=.int .i64 (-1)) (a:=?aa) (H1:=H) rfl t121 rfl ?hb ?hd ?hr ?hz
  case hb =>
   apply Xaa
   ·simp only [idx,I121,reduceIte,reduceEqDiff,reduceLT,reduceAdd,reduceMul,reduceLeDiff,ZS]; rfl
   apply Xaa
   ·apply Xaa
    ·simp only [reduceIte,reduceEqDiff,reduceLT,reduceAdd,reduceMul,reduceLeDiff,ZS]; rfl
    apply Xab
    apply Xaf
    exact Xae (by simp only [AAct.keepT,Int.lt_irrefl,reduceIte,reduceEqDiff,reduceLT,reduceAdd,reduceMul,reduceLeDiff,ZS]; rfl)
   simp only [reduceIte,reduceEqDiff,reduceLT,reduceAdd,reduceMul,reduceLeDiff,ZS]; rfl
  case hd=>rfl
  case hr=>rfl
  case hz=>exact Xaq rfl rfl
 ·obtain ⟨t,ht⟩:=Xrj P hcl N n id H p ty q st ty2 l hl hp hq N 0 (Nat.zero_le _) (by omega)
  rw [List.drop_zero] at ht
  cases hx:ixF id l 0 with
  | some j =>
   rw [hx] at ht
   refine Xac (m:=19) (v:=.int .i64 (j:Nat)) (a:=?ab) (H1:=H) rfl t121 rfl ?hb ?hd ?hr ?hz
   case hb =>
    apply Xaa
    ·simp only [idx,I121,reduceIte,reduceEqDiff,reduceLT,reduceAdd,reduceMul,reduceLeDiff,ZS]; rfl
    apply Xau
    apply Xaa
    ·simp only [reduceIte,reduceEqDiff,reduceLT,reduceAdd,reduceMul,reduceLeDiff,ZS]; rfl
    apply Xam
    apply Xaf
    exact ht
   case hd=>rfl
   case hr=>rfl
   case hz=>exact Xaq rfl rfl
  | none =>
   rw [hx] at ht
   refine Xac (m:=19) (v:=.int .i64 (-1)) (a:=?ac) (H1:=H) rfl t121 rfl ?hb ?hd ?hr ?hz
   case hb =>
    apply Xaa
    ·simp only [idx,I121,reduceIte,reduceEqDiff,reduceLT,reduceAdd,reduceMul,reduceLeDiff,ZS]; rfl
    apply Xaa
    ·apply Xaa
     ·simp only [reduceIte,reduceEqDiff,reduceLT,reduceAdd,reduceMul,reduceLeDiff,ZS]; rfl
     apply Xab
     apply Xaf
     exact ht
    simp only [reduceIte,reduceEqDiff,reduceLT,reduceAdd,reduceMul,reduceLeDiff,ZS]; rfl
   case hd=>rfl
   case hr=>rfl
   case hz=>exact Xaq rfl rfl
def PtS (v:AV) (o:Option Nat) (p:AV):Prop:=match o with
 | none=>p=.nilP
 | some j=>∃ q n st,v=.slc q 0 n 6 st∧p=.ptr q (j*6) st
theorem Xp3 (P:Program) (hcl:Xa1 P 122=true) (N d:Nat) (hd:3≤d) (id:List UInt8) (H:Mem) (v:AV) (l:List St) (hN:l.length<N) (hl:l.length≤4611686018427387904) (hv:SlC H v l) :
  ∃ p,PtS v (ixF id l 0) p∧Xaw P cfg T N d 102 [v,.str id] H=some (.ret p,H):=by
 obtain ⟨n,rfl⟩ : ∃ k,d=k+3:=⟨d-3,by omega⟩
 have q1:=idxS_eq P hcl N (n+2) (by omega) id (H++[.row [.str id] 0 (9+1)]) H.length (9+1) v l hN hl (Xfr _ _) (hv.app _)
 cases hx:ixF id l 0 with
 | none =>
  rw [hx] at q1
  have c1:decide ((-1:Int)<0)=true:=rfl
  refine ⟨.nilP,rfl,?_⟩
  simp only [ixZ] at q1
  refine Xac (m:=14) (v:=.nilP) (a:=?aa) (H1:=?Ha) rfl t102 rfl ?hb ?hd ?hr ?hz
  case hb=>simp only [idx,I102,q1,c1,reduceIte,reduceEqDiff,reduceLT,reduceAdd,reduceMul,reduceLeDiff,ZS]; rfl
  case hd=>rfl
  case hr=>rfl
  case hz=>exact Xa4 rfl rfl
 | some j =>
  rw [hx] at q1
  obtain ⟨_,hj⟩:=Xih id l 0 j hx
  rcases hv with ⟨rfl,rfl⟩ | ⟨q,st,ty2,rfl,hq⟩
  ·simp [ixF] at hx
  have c1:decide ((j:Int)<0)=false:=decide_eq_false (by omega)
  have hn:=Xan j .i64
  have hql:q<H.length:=(List.getElem?_eq_some_iff.1 hq).1
  have hq2:∀ L:Mem,(H++L)[q]? = some (.row (Xdb l) st ty2):=fun L=>by rw [List.getElem?_append_left hql]; exact hq
  have hll:=Xqn l
  have k6:j<l.length:=by omega
  have k7:j*6+6≤l.length*6:=by omega
  have k8:j*6≤l.length*6:=by omega
  refine ⟨.ptr q (j*6) st,⟨q,_,st,rfl,rfl⟩,?_⟩
  simp only [ixZ] at q1
  refine Xac (m:=14) (v:=.ptr q (j*6) st) (a:=?ab) (H1:=?Hb) rfl t102 rfl ?hb ?hd ?hr ?hz
  case hb=>simp only [idx,I102,q1,c1,hn,hq2,hll,k6,k7,k8,reduceIte,reduceEqDiff,reduceLT,reduceAdd,reduceMul,reduceLeDiff,ZS]; rfl
  case hd=>rfl
  case hr=>rfl
  case hz=>exact Xa4 (by simp only [frz,low,decide_eq_true hql,if_true]) (by simp only [low,decide_eq_true hql])
set_option maxHeartbeats 4000000
structure PtX (M:Mem) (p:AV) (x:St) (a o sa ty:Nat) (cs r:List AV):Prop where
 p:p=.ptr a o sa
 row:M[a]? = some (.row cs sa ty)
 cell:cs.drop o=stC x++r
noncomputable def Xjl:IC:=(I69.c.loops).getD 0 .bad
theorem Xo1 (P:Program) (hcl:Xa1 P 122=true) (N n:Nat) (l:List St) (hN:l.length<N) (hl:l.length≤4611686018427387904) (v:AV) (s:St) (H:Mem) (hv:SlC H v l):∀ (fuel k:Nat) (x:St) (p:AV) (a o sa ty:Nat) (cs r:List AV),k≤l.length→l.length-k<fuel→PtX (H++[.row (stC s) 0 (68+1)]) p x a o sa ty cs r →
  ∃ ou t,Xa6 (fun a H=>evI P cfg (Xaw P cfg T N (n+3)) N Xjl a H) (some [0,3,5,8,9]) fuel ⟨53,[(0,v),(3,.ptr H.length 0 0),(5,p),(8,.int .i64 l.length),(9,.int .i64 k)],[]⟩ (H++[.row (stC s) 0 (68+1)])=some (ou,⟨53,t,[]⟩,H++[.row (stC s) 0 (68+1)]) ∧
   (if wkP l s (l.length-k) x=true then (ou=.ret∧Xad t 4=.int .i64 0)∨ou=.exit 0 else ou=.ret∧Xad t 4=.int .i64 16)
 | 0,k,_,_,_,_,_,_,_,_,_,h,_=>by omega
 | fuel+1,k,x,p,a,o,sa,ty,cs,r,hk,hf,hx=>by
  rcases Nat.lt_or_ge k l.length with hlt | hge
  ·obtain ⟨rfl,hrow,hcell⟩:=hx
   obtain ⟨g1,g2,g3,g4,g5⟩:=Xcf hcell
   have e1:o+1≤cs.length:=by omega
   have e2:o+2≤cs.length:=by omega
   have e3:o+3≤cs.length:=by omega
   have hi:(k:Int)<(l.length:Int):=by omega
   have hw:=Xav hlt (by omega)
   have z0:∀ k:Nat,k+0=k:=Nat.add_zero
   have hs:∀ L,(H++.row (stC s) 0 (68+1)::L)[H.length]? = some (.row (stC s) 0 (68+1)):=fun L=>Xfr _ _
   have hw1:wkP l s (l.length-k) x=if (x.based == [])=true then true else match ixF x.based l 0 with
     | none=>true
     | some j=>if (x.id == s.id && (l.getD j default).run != s.run || (l.getD j default).id == s.id)=true then false else wkP l s (l.length-(k+1)) (l.getD j default):=by
    obtain ⟨m,hm⟩ : ∃ m,l.length-k=m+1:=⟨l.length-k-1,by omega⟩
    rw [hm,show l.length-(k+1)=m by omega]; rfl
   obtain ⟨p2,hp2,q1⟩:=Xp3 P hcl N (n+3) (by omega) x.based (H++[.row (stC s) 0 (68+1)]) v l hN hl (hv.app _)
   rw [hw1]
   cases b1:(x.based == [])
   ·simp only [Ze,if_false]
    cases hj:ixF x.based l 0 with
    | none =>
     rw [hj] at hp2
     have hp2:p2=.nilP:=hp2
     subst hp2
     dsimp only
     refine ⟨_,_,Xah (by simp only [Xjl,I69,IC.loops,hi,hw,hrow,g3,g4,e1,e2,q1,b1,reduceIte,reduceEqDiff,reduceLT,reduceAdd,reduceMul,reduceLeDiff,ZS]; rfl),?_⟩
     rw [if_pos rfl]
     exact .inl ⟨rfl,rfl⟩
    | some j =>
     rw [hj] at hp2
     obtain ⟨_,hjl⟩:=Xih _ l 0 j hj
     rcases hv with ⟨rfl,rfl⟩ | ⟨q,st,ty2,rfl,hq⟩
     ·simp [ixF] at hj
     obtain ⟨q',n',st',h1,h2⟩:=hp2
     injection h1 with h1 _ _ _ h5
     subst h1 h5 h2
     have hql:q<H.length:=(List.getElem?_eq_some_iff.1 hq).1
     have hq2:∀ L:Mem,(H++L)[q]? = some (.row (Xdb l) st ty2):=fun L=>by rw [List.getElem?_append_left hql]; exact hq
     obtain ⟨r2,hr2⟩:=Xcr (l:=l) (j:=j) (by omega)
     obtain ⟨k1,k2,k3,k4,k5⟩:=Xcf hr2
     have f1:j*6+1≤(Xdb l).length:=by omega
     have f2:j*6+2≤(Xdb l).length:=by omega
     have f3:j*6+3≤(Xdb l).length:=by omega
     have ih:=Xo1 P hcl N n l hN hl (.slc q 0 l.length 6 st) s H (.inr ⟨q,st,ty2,rfl,hq⟩) fuel (k+1) (l.getD j default) (.ptr q (j*6) st) q (j*6) st ty2 (Xdb l) r2 (by omega) (by omega) ⟨rfl,hq2 _,hr2⟩
     dsimp only
     obtain ⟨y,hy⟩ : ∃ y,y=l.getD j default:=⟨_,rfl⟩
     simp only [← hy] at ih k2 k3 k4 k5 ⊢
     simp only [stC] at hrow hs q1 ih ⊢
     simp only [bne]
     cases b2:(x.id == s.id)
     ·simp only [ZE,Bool.false_or]
      cases b4:(y.id == s.id)
      ·simp only [Ze,if_false]
       obtain ⟨ou,t,ht,hQ⟩:=ih
       refine ⟨ou,t,?_,hQ⟩
       refine Xap (by simp only [Xjl,I69,IC.loops,hi,hw,hrow,hs,hq2,g3,g4,g5,e1,e2,e3,k3,k4,k5,f1,f2,f3,q1,b1,b2,b4,reduceIte,reduceEqDiff,reduceLT,reduceAdd,reduceMul,reduceLeDiff,ZU,ZS]; rfl) ?_
       rw [Xbx]
       exact ht
      ·refine ⟨_,_,Xah (by simp only [Xjl,I69,IC.loops,hi,hw,hrow,hs,hq2,g3,g4,g5,e1,e2,e3,k3,k4,k5,f1,f2,f3,q1,b1,b2,b4,reduceIte,reduceEqDiff,reduceLT,reduceAdd,reduceMul,reduceLeDiff,ZU,ZS]; rfl),?_⟩
       show _=Out.ret∧Xad _ 4=.int .i64 16
       exact ⟨rfl,rfl⟩
     ·simp only [ZH]
      cases b3:(y.run == s.run)
      ·refine ⟨_,_,Xah (by simp only [Xjl,I69,IC.loops,hi,hw,hrow,hs,hq2,g3,g4,g5,e1,e2,e3,k3,k4,k5,f1,f2,f3,q1,b1,b2,b3,reduceIte,reduceEqDiff,reduceLT,reduceAdd,reduceMul,reduceLeDiff,ZU,ZS]; rfl),?_⟩
       show _=Out.ret∧Xad _ 4=.int .i64 16
       exact ⟨rfl,rfl⟩
      ·simp only [ZG,Bool.false_or]
       cases b4:(y.id == s.id)
       ·simp only [Ze,if_false]
        obtain ⟨ou,t,ht,hQ⟩:=ih
        refine ⟨ou,t,?_,hQ⟩
        refine Xap (by simp only [Xjl,I69,IC.loops,hi,hw,hrow,hs,hq2,g3,g4,g5,e1,e2,e3,k3,k4,k5,f1,f2,f3,q1,b1,b2,b3,b4,reduceIte,reduceEqDiff,reduceLT,reduceAdd,reduceMul,reduceLeDiff,ZU,ZS]; rfl) ?_
        rw [Xbx]
        exact ht
       ·refine ⟨_,_,Xah (by simp only [Xjl,I69,IC.loops,hi,hw,hrow,hs,hq2,g3,g4,g5,e1,e2,e3,k3,k4,k5,f1,f2,f3,q1,b1,b2,b3,b4,reduceIte,reduceEqDiff,reduceLT,reduceAdd,reduceMul,reduceLeDiff,ZU,ZS]; rfl),?_⟩
        show _=Out.ret∧Xad _ 4=.int .i64 16
        exact ⟨rfl,rfl⟩
   ·refine ⟨_,_,Xah (by simp only [Xjl,I69,IC.loops,hi,hw,hrow,g3,g4,e1,e2,q1,b1,reduceIte,reduceEqDiff,reduceLT,reduceAdd,reduceMul,reduceLeDiff,ZS]; rfl),?_⟩
    rw [if_pos rfl,if_pos rfl]
    exact .inl ⟨rfl,rfl⟩
  ·have hk':k=l.length:=by omega
   subst hk'
   rw [Nat.sub_self]
   refine ⟨_,_,Xae (by simp only [Xjl,I69,IC.loops,Int.lt_irrefl,reduceIte,reduceEqDiff,reduceLT,reduceAdd,reduceMul,reduceLeDiff,ZS]; rfl),?_⟩
   rw [show wkP l s 0 x=true from rfl,if_pos rfl]
   exact .inr rfl
theorem based_eq (P:Program) (hcl:Xa1 P 122=true) (N d:Nat) (hd:4≤d) (l:List St) (hN:l.length<N) (hl:l.length≤4611686018427387904) (v:AV) (s:St) (H:Mem) (hv:SlC H v l) :
  Xaw P cfg T N d 69 [v,.agg (stC s)] H=some (.ret (.int .i64 (if wkP l s l.length s=true then 0 else 16)),H):=by
 obtain ⟨n,rfl⟩ : ∃ k,d=k+4:=⟨d-4,by omega⟩
 rcases hv with ⟨rfl,rfl⟩ | ⟨q,st,ty,rfl,hq⟩
 ·obtain ⟨M,rfl⟩ : ∃ M,N=M+1:=⟨N-1,by omega⟩
  rw [show wkP [] s ([]:List St).length s=true from rfl,if_pos rfl]
  refine Xac (m:=53) (v:=.int .i64 0) (a:=?an) (H1:=?Hn) rfl t69 rfl ?hb ?hd ?hr ?hz
  case hb =>
   apply Xaa
   ·simp only [idx,I69,stC,reduceIte,reduceEqDiff,reduceLT,reduceAdd,reduceMul,reduceLeDiff,ZS]; rfl
   apply Xaa
   ·simp only [reduceIte,reduceEqDiff,reduceLT,reduceAdd,reduceMul,reduceLeDiff,ZS]; rfl
   apply Xaa
   ·apply Xaa
    ·simp only [reduceIte,reduceEqDiff,reduceLT,reduceAdd,reduceMul,reduceLeDiff,ZS]; rfl
    apply Xab
    apply Xaf
    exact Xae (by simp only [AAct.keepT,Int.lt_irrefl,reduceIte,reduceEqDiff,reduceLT,reduceAdd,reduceMul,reduceLeDiff,ZS]; rfl)
   simp only [reduceIte,reduceEqDiff,reduceLT,reduceAdd,reduceMul,reduceLeDiff,ZS]; rfl
  case hd=>rfl
  case hr=>rfl
  case hz=>exact Xa4 rfl rfl
 have hv:SlC H (.slc q 0 l.length 6 st) l:=.inr ⟨q,st,ty,rfl,hq⟩
 obtain ⟨ou,t,ht,hQ⟩:=Xo1 P hcl N n l hN hl _ s H hv N 0 s (.ptr H.length 0 0) H.length 0 0 (68+1) (stC s) [] (Nat.zero_le _) (by omega) ⟨rfl,Xfr _ _,by simp⟩
 rw [Nat.sub_zero] at hQ
 simp only [stC] at ht
 cases hw:wkP l s l.length s
 ·rw [hw] at hQ
  simp only [Ze,if_false] at hQ ⊢
  obtain ⟨rfl,h4⟩:=hQ
  refine Xac (m:=53) (v:=.int .i64 16) (a:=?aa) (H1:=?Ha) rfl t69 rfl ?hb ?hd ?hr ?hz
  case hb =>
   apply Xaa
   ·simp only [idx,I69,stC,reduceIte,reduceEqDiff,reduceLT,reduceAdd,reduceMul,reduceLeDiff,ZS]; rfl
   apply Xaa
   ·simp only [reduceIte,reduceEqDiff,reduceLT,reduceAdd,reduceMul,reduceLeDiff,ZS]; rfl
   apply Xau
   apply Xaa
   ·simp only [reduceIte,reduceEqDiff,reduceLT,reduceAdd,reduceMul,reduceLeDiff,ZS]; rfl
   apply Xam
   apply Xaf
   exact ht
  case hd=>rfl
  case hr=>simp only [I69,Xc6,Xbc,h4,Zh]
  case hz=>exact Xa4 rfl rfl
 ·rw [hw] at hQ
  simp only [if_true] at hQ ⊢
  rcases hQ with ⟨rfl,h4⟩ | rfl
  ·refine Xac (m:=53) (v:=.int .i64 0) (a:=?ab) (H1:=?Hb) rfl t69 rfl ?hb ?hd ?hr ?hz
   case hb =>
    apply Xaa
    ·simp only [idx,I69,stC,reduceIte,reduceEqDiff,reduceLT,reduceAdd,reduceMul,reduceLeDiff,ZS]; rfl
    apply Xaa
    ·simp only [reduceIte,reduceEqDiff,reduceLT,reduceAdd,reduceMul,reduceLeDiff,ZS]; rfl
    apply Xau
    apply Xaa
    ·simp only [reduceIte,reduceEqDiff,reduceLT,reduceAdd,reduceMul,reduceLeDiff,ZS]; rfl
    apply Xam
    apply Xaf
    exact ht
   case hd=>rfl
   case hr=>simp only [I69,Xc6,Xbc,h4,Zh]
   case hz=>exact Xa4 rfl rfl
  ·refine Xac (m:=53) (v:=.int .i64 0) (a:=?ac) (H1:=?Hc) rfl t69 rfl ?hb ?hd ?hr ?hz
   case hb =>
    apply Xaa
    ·simp only [idx,I69,stC,reduceIte,reduceEqDiff,reduceLT,reduceAdd,reduceMul,reduceLeDiff,ZS]; rfl
    apply Xaa
    ·simp only [reduceIte,reduceEqDiff,reduceLT,reduceAdd,reduceMul,reduceLeDiff,ZS]; rfl
    apply Xaa
    ·apply Xaa
     ·simp only [reduceIte,reduceEqDiff,reduceLT,reduceAdd,reduceMul,reduceLeDiff,ZS]; rfl
     apply Xab
     apply Xaf
     exact ht
    simp only [reduceIte,reduceEqDiff,reduceLT,reduceAdd,reduceMul,reduceLeDiff,ZS]; rfl
   case hd=>rfl
   case hr=>simp only [I69,Xc6,Xbc,Xad,reduceIte,reduceEqDiff,Zh]
   case hz=>exact Xa4 rfl rfl
theorem Xbv {body:AAct→Mem→Option (Out × AAct × Mem)} {lv:List Tmp} {n:Nat} {a a':AAct} {H H':Mem} {Q:Out × AAct × Mem→Prop} (h:body a H=some (.normal,a',H'))
  (h2:∀ M',(M'=H'∨(M'=H'.take H.length∧Xto H.length (a'.keepT lv).t=true))→∃ r,Xa6 body (some lv) n (a'.keepT lv) M'=some r∧Q r):∃ r,Xa6 body (some lv) (n+1) a H=some r∧Q r:=by
 rw [Xdj,h]
 simp only [Xbk]
 split
 ·rename_i hc
  simp only [Bool.and_eq_true] at hc
  exact h2 _ (.inr ⟨rfl,hc.1.1⟩)
 ·exact h2 _ (.inl rfl)
def Xbr (n0 sz ty:Nat) (n:Nat) (cs:List AV) (v:AV) (M:Mem):Prop :=
 (n=0∧cs=[]∧v=.nilS)∨∃ q st,v=.slc q 0 n sz st∧n0≤q∧M[q]? = some (.row cs st ty)
theorem Xbr.app {n0 sz ty n:Nat} {cs:List AV} {v:AV} {M:Mem} (h:Xbr n0 sz ty n cs v M) (L:Mem):Xbr n0 sz ty n cs v (M++L):=by
 rcases h with h | ⟨q,st,h1,h2,h3⟩
 ·exact .inl h
 ·exact .inr ⟨q,st,h1,h2,by rw [List.getElem?_append_left (List.getElem?_eq_some_iff.1 h3).1]; exact h3⟩
def Xak (H M:Mem):Prop:=M.take H.length=H
theorem Xak.len {H M:Mem} (h:Xak H M):H.length≤M.length:=by
 have:=congrArg List.length h
 rw [List.length_take] at this
 omega
theorem Xak.app {H M:Mem} (h:Xak H M) (L:Mem):Xak H (M++L):=by
 unfold Xak
 rw [List.take_append_of_le_length h.len]; exact h
theorem Xak.set {H M:Mem} (h:Xak H M) {q:Nat} (hq:H.length≤q) (b:Blk):Xak H (M.set q b):=by
 unfold Xak
 rw [List.take_set_of_le hq]; exact h
theorem Xak.get {H M:Mem} (h:Xak H M) {p:Nat} (hp:p<H.length):M[p]? = H[p]?:=by
 have:(M.take H.length)[p]? = M[p]?:=List.getElem?_take_of_lt hp
 rw [← this,h]
theorem Xak.take {H M:Mem} (h:Xak H M) {n:Nat} (hn:H.length≤n):Xak H (M.take n):=by
 unfold Xak
 rw [List.take_take,Nat.min_eq_left hn]; exact h
theorem Xpy (f:AV→Option AV):∀ (a b a' b':List AV),Xel f a=some a'→Xel f b=some b'→Xel f (a++b)=some (a'++b')
 | [],b,a',b',h1,h2=>by
  simp only [Xel,Option.some.injEq] at h1
  subst h1; exact h2
 | x::a,b,a',b',h1,h2=>by
  simp only [Xel] at h1
  split at h1
  ·rename_i y ys hy hys
   injection h1 with h1; subst h1
   have:=Xpy f a b ys b' hys h2
   simp only [Zp,Xel,hy,this]
  ·cases h1
theorem Xxc {H M:Mem} (h:Xak H M):eqM (M.take H.length) H=true:=by rw [h]; exact Xb0 _
theorem Xp6 {n0 k q off len sz st ty:Nat} {H:Mem} {cs cs':List AV} (h:¬ q<n0) (hq:H[q]? = some (.row cs st ty)) (hl:off+len*sz≤cs.length) (hf:Xel (frz n0 H k) ((cs.drop off).take (len*sz))=some cs'):frz n0 H (k+1) (.slc q off len sz st)=some (.lst len cs'):=by
 show (if q<n0 then _ else _)=_
 rw [if_neg h,hq]
 show (if st=st∧_ then _ else _)=_
 rw [if_pos ⟨rfl,hl⟩,hf]; rfl
theorem frz_tup {n0 k:Nat} {H:Mem} {cs cs':List AV} (h:Xel (frz n0 H k) cs=some cs'):frz n0 H (k+1) (.tup cs)=some (.tup cs'):=by
 show (Xel (frz n0 H k) cs).map AV.tup=_
 rw [h]; rfl
theorem frzL_cons {f:AV→Option AV} {c c':AV} {cs cs':List AV} (h:f c=some c') (h2:Xel f cs=some cs'):Xel f (c::cs)=some (c'::cs'):=by
 simp only [Xel,h,h2]
theorem Xha {H M:Mem} (h:Xak H M) {v v':AV} (hf:frz H.length M 12 v=some v') (hl:low H.length v'=true):Xao false H v M=(v',H):=by
 simp only [Xao,Ze,if_false,hf,hl,Xce,Xxc h,Bool.true_or,ZJ,if_true]
 exact congrArg (Prod.mk _) h
def mpE:List St→Nat→List (AV × AV)
 | [],_=>[]
 | s::r,i=>(.str s.id,.int .i64 ((i+1:Nat):Int))::mpE r (i+1)
theorem Xv5 (s:St):∀ (l:List St) (i:Nat),mpE (l++[s]) i=mpE l i++[(.str s.id,.int .i64 ((i+l.length+1:Nat):Int))]
 | [],i=>rfl
 | y::l,i=>by
  show _::mpE (l++[s]) (i+1)=_
  rw [Xv5 s l (i+1),show i+1+l.length+1=i+(y::l).length+1 by simp; omega]; rfl
theorem Xp0 (k:List UInt8):∀ (l:List St) (i:Nat),Xnt .string (.str k) (mpE l i) i=some ((ixF k l i).map fun j=>(j,.int .i64 ((j+1:Nat):Int)))
 | [],i=>rfl
 | s::l,i=>by
  have ih:=Xp0 k l (i+1)
  have hc:(k == s.id)=(s.id == k):=by
   by_cases h:k=s.id
   ·rw [h]
   ·rw [beq_false_of_ne h,beq_false_of_ne fun e=>h e.symm]
  show (match Xt2 .string (AV.str k) (AV.str s.id) with
   | some true=>some (some (i,AV.int .i64 ((i+1:Nat):Int)))
   | some false=>Xnt .string (.str k) (mpE l (i+1)) (i+1)
   | none=>none)=_
  rw [ih,show ixF k (s::l) i=if (s.id == k)=true then some i else ixF k l (i+1) from rfl]
  cases h:(s.id == k)
  ·simp only [Xt2,hc,h,Ze,if_false]
  ·simp only [Xt2,hc,h,if_true,Zh]
def mpZ (o:Option Nat):Int:=match o with
 | some j=>((j+1:Nat):Int)
 | none=>0
theorem Xsu {M:Mem} {μ:Nat} {l:List St} (h:M[μ]? = some (.map (mpE l 0))) (k:List UInt8):Xj1 .string (.int .i64 0) M (.map μ) (.str k) false=some (.int .i64 (mpZ (ixF k l 0))):=by
 unfold Xj1
 simp only [h,Zo,Xtn,if_true,Xp0]
 cases ixF k l 0 <;> rfl
theorem update_st {M:Mem} {μ:Nat} {l:List St} (h:M[μ]? = some (.map (mpE l 0))) (s:St) (hn:ixF s.id l 0=none):Xjs .string M (.map μ) (.str s.id) (.int .i64 ((l.length+1:Nat):Int))=some (M.set μ (.map (mpE (l++[s]) 0))):=by
 unfold Xjs
 simp only [h,Xtn,if_true,Xp0,hn,Zt]
 rw [Xv5,Nat.zero_add]; rfl
theorem ixF_any (k:List UInt8):∀ (l:List St) (i:Nat),l.any (fun y=>y.id == k)=(ixF k l i).isSome
 | [],_=>rfl
 | s::l,i=>by
  rw [List.any_cons,show ixF k (s::l) i=if (s.id == k)=true then some i else ixF k l (i+1) from rfl,ixF_any k l (i+1)]
  cases s.id == k <;> rfl
noncomputable def Xim (j:Nat):IC:=(I46.c.loops).getD j .bad
def ChkEnd (H:Mem) (v:AV) (id:Nat) (ok:Bool) (mp:Mem→Prop):Out × AAct × Mem→Prop
 | (o,a,M)=>Xak H M∧a.n=69∧a.d=[]∧if ok=true then o=.exit id∧Xad a.t 0=v∧Xad a.t 4=.map H.length∧mp M else o=.ret∧∃ i e,Xad a.t 2=.int .i64 i∧Xad a.t 3=.int .i64 e∧e≠0
theorem Xs6 (P:Program) (N n:Nat) (l:List St) (hl:l.length≤4611686018427387904) (H:Mem) (q st ty:Nat) (hq:H[q]? = some (.row (Xdb l) st ty)):∀ (fuel k:Nat) (M:Mem),k≤l.length→l.length-k<fuel→Xak H M→M[H.length]? = some (.map (mpE (l.take k) 0)) →
  ∃ r,Xa6 (fun a H=>evI P cfg (Xaw P cfg T N (n+4)) N (Xim 0) a H) (some [0,4,13,14,15]) fuel ⟨69,[(0,.slc q 0 l.length 6 st),(4,.map H.length),(13,.slc q 0 l.length 6 st),(14,.int .i64 l.length),(15,.int .i64 k)],[]⟩ M=some r∧ChkEnd H (.slc q 0 l.length 6 st) 0 (Xt6 (l.take k) (l.drop k)) (fun M=>M[H.length]? = some (.map (mpE l 0))) r
 | 0,k,_,_,h,_,_=>by omega
 | fuel+1,k,M,hk,hf,hst,hmp=>by
  rcases Nat.lt_or_ge k l.length with hlt | hge
  ·obtain ⟨x,hx⟩:=Xbb hlt
   obtain ⟨r,hc⟩:=Xcr hlt
   have hxe:l.getD k default=x:=by
    have h0:(l.drop k)[0]? = some x:=by rw [hx]; rfl
    rw [List.getD_eq_getElem?_getD]
    simpa using congrArg (Option.getD · default) h0
   have hxm:x ∈ l:=List.mem_of_mem_drop (i:=k) (by rw [hx]; exact List.mem_cons_self)
   rw [hxe] at hc
   obtain ⟨g1,g2,g3,g4,g5⟩:=Xcf hc
   have hi:(k:Int)<(l.length:Int):=by omega
   have hw:=Xav hlt (by omega)
   have hn:=Xan k .i64
   have hql:q<H.length:=(List.getElem?_eq_some_iff.1 hq).1
   have hml:H.length<M.length:=(List.getElem?_eq_some_iff.1 hmp).1
   have hqM:M[q]? = some (.row (Xdb l) st ty):=by rw [hst.get hql]; exact hq
   have hqL:∀ L:Mem,(M++L)[q]? = some (.row (Xdb l) st ty):=fun L=>by rw [(hst.app L).get hql]; exact hq
   have hal:=fun H=>alone_eq P N (n+4) (by omega) x H
   have hlk:∀ L:Mem,Xj1 .string (.int .i64 0) (M++L) (.map H.length) (.str x.id) false=some (.int .i64 (mpZ (ixF x.id (l.take k) 0))):=fun L=>Xsu (by rw [List.getElem?_append_left hml]; exact hmp) x.id
   have htk:(l.take k).length=k:=by rw [List.length_take]; omega
   have hany:=ixF_any x.id (l.take k) 0
   rw [hx,show Xt6 (l.take k) (x::l.drop (k+1))=(!Xl0 x && !(l.take k).any (fun y=>y.id == x.id) && Xt6 (l.take k++[x]) (l.drop (k+1))) from rfl,hany]
   simp only [stC] at g2 hal
   cases h1:Xl0 x
   ·rw [h1] at hal
    cases h2:ixF x.id (l.take k) 0 with
    | some j =>
     rw [h2] at hlk
     have c1:decide (mpZ (some j)>0)=true:=decide_eq_true (by show (0:Int)<((j+1:Nat):Int); omega)
     refine ⟨_,Xah (by simp only [Xim,I46,IC.loops,hi,hlt,hn,hw,hqM,hqL,g1,g2,hal,hlk,c1,reduceIte,reduceEqDiff,reduceLT,reduceAdd,reduceMul,reduceLeDiff,ZS]; rfl),hst.app _,rfl,rfl,?_⟩
     exact ⟨rfl,_,_,rfl,rfl,by decide⟩
    | none =>
     rw [h2] at hlk
     have c1:decide (mpZ none>0)=false:=rfl
     have hup:∀ L:Mem,Xjs .string (M++L) (.map H.length) (.str x.id) (.int .i64 ((k+1:Nat):Int))=some (M.set H.length (.map (mpE (l.take (k+1)) 0))++L):=fun L=>by
      have h:=update_st (M:=M++L) (μ:=H.length) (l:=l.take k) (by rw [List.getElem?_append_left hml]; exact hmp) x h2
      rw [htk] at h
      rw [h,List.set_append_left _ _ hml,List.take_succ_eq_append_getElem hlt]
      have h0:(l.drop k)[0]? = some x:=by rw [hx]; rfl
      rw [List.getElem?_drop,Nat.add_zero,List.getElem?_eq_getElem hlt] at h0
      injection h0 with h0
      rw [h0]
     have hst2:Xak H (M.set H.length (.map (mpE (l.take (k+1)) 0))):=hst.set (Nat.le_refl _) _
     have hmp2:(M.set H.length (.map (mpE (l.take (k+1)) 0)))[H.length]? = some (.map (mpE (l.take (k+1)) 0)):=List.getElem?_set_self hml
     have e1:l.take k++[x]=l.take (k+1):=by
      rw [List.take_succ_eq_append_getElem hlt]
      have h0:(l.drop k)[0]? = some x:=by rw [hx]; rfl
      rw [List.getElem?_drop,Nat.add_zero,List.getElem?_eq_getElem hlt] at h0
      injection h0 with h0
      rw [h0]
     rw [e1]
     simp only [Option.isSome_none,ZF,ZH]
     have ih:=Xs6 P N n l hl H q st ty hq fuel (k+1)
     refine Xdi (by simp only [Xim,I46,IC.loops,hi,hlt,hn,hw,hqM,hqL,g1,g2,hal,hlk,hup,mkM,c1,reduceIte,reduceEqDiff,reduceLT,reduceAdd,reduceMul,reduceLeDiff,ZS]; rfl) ?_
     rintro M' (rfl | rfl)
     ·exact ih _ (by omega) (by omega) (hst2.app _) (by rw [List.getElem?_append_left (by rw [List.length_set]; exact hml)]; exact hmp2)
     ·rw [List.take_left' (by rw [List.length_set])]
      exact ih _ (by omega) (by omega) hst2 hmp2
   ·rw [h1] at hal
    refine ⟨_,Xah (by simp only [Xim,I46,IC.loops,hi,hlt,hn,hw,hqM,hqL,g1,g2,hal,reduceIte,reduceEqDiff,reduceLT,reduceAdd,reduceMul,reduceLeDiff,ZS]; rfl),hst.app _,rfl,rfl,?_⟩
    exact ⟨rfl,_,_,rfl,rfl,by decide⟩
  ·have hk':k=l.length:=by omega
   subst hk'
   rw [List.take_length] at hmp
   rw [List.drop_length,List.take_length]
   refine ⟨_,Xae (by simp only [Xim,I46,IC.loops,Int.lt_irrefl,reduceIte,reduceEqDiff,reduceLT,reduceAdd,reduceMul,reduceLeDiff,ZS]; rfl),hst,rfl,rfl,?_⟩
   exact ⟨rfl,rfl,rfl,hmp⟩
theorem Xtp (P:Program) (F:Xc5) (N:Nat) (l:List St) (hl:l.length≤4611686018427387904) (H:Mem) (q st ty:Nat) (hq:H[q]? = some (.row (Xdb l) st ty)):∀ (fuel k:Nat) (M:Mem),k≤l.length→l.length-k<fuel→Xak H M→M[H.length]? = some (.map (mpE l 0)) →
  ∃ r,Xa6 (fun a H=>evI P cfg F N (Xim 1) a H) (some [0,4,35,36,37]) fuel ⟨69,[(0,.slc q 0 l.length 6 st),(4,.map H.length),(35,.slc q 0 l.length 6 st),(36,.int .i64 l.length),(37,.int .i64 k)],[]⟩ M=some r∧ChkEnd H (.slc q 0 l.length 6 st) 2 ((l.drop k).all fun s=>s.based == [] || (ixF s.based l 0).isSome) (fun _=>True) r
 | 0,k,_,_,h,_,_=>by omega
 | fuel+1,k,M,hk,hf,hst,hmp=>by
  rcases Nat.lt_or_ge k l.length with hlt | hge
  ·obtain ⟨x,hx⟩:=Xbb hlt
   obtain ⟨r,hc⟩:=Xcr hlt
   have hxe:l.getD k default=x:=by
    have h0:(l.drop k)[0]? = some x:=by rw [hx]; rfl
    rw [List.getD_eq_getElem?_getD]
    simpa using congrArg (Option.getD · default) h0
   rw [hxe] at hc
   obtain ⟨g1,g2,g3,g4,g5⟩:=Xcf hc
   have hi:(k:Int)<(l.length:Int):=by omega
   have hw:=Xav hlt (by omega)
   have hn:=Xan k .i64
   have hql:q<H.length:=(List.getElem?_eq_some_iff.1 hq).1
   have hml:H.length<M.length:=(List.getElem?_eq_some_iff.1 hmp).1
   have hqM:M[q]? = some (.row (Xdb l) st ty):=by rw [hst.get hql]; exact hq
   have hqL:∀ L:Mem,(M++L)[q]? = some (.row (Xdb l) st ty):=fun L=>by rw [(hst.app L).get hql]; exact hq
   have hlk:∀ L:Mem,Xj1 .string (.int .i64 0) (M++L) (.map H.length) (.str x.based) false=some (.int .i64 (mpZ (ixF x.based l 0))):=fun L=>Xsu (by rw [List.getElem?_append_left hml]; exact hmp) x.based
   rw [hx,List.all_cons]
   simp only [stC] at g2
   have ih:=Xtp P F N l hl H q st ty hq fuel (k+1)
   have hgo:∀ X:Mem,∀ M',(M'=M++X∨M'=(M++X).take M.length)→∃ r,Xa6 (fun a H=>evI P cfg F N (Xim 1) a H) (some [0,4,35,36,37]) fuel ⟨69,[(0,.slc q 0 l.length 6 st),(4,.map H.length),(35,.slc q 0 l.length 6 st),(36,.int .i64 l.length),(37,.int .i64 (k+1:Nat))],[]⟩ M'=some r∧ChkEnd H (.slc q 0 l.length 6 st) 2 ((l.drop (k+1)).all fun s=>s.based == [] || (ixF s.based l 0).isSome) (fun _=>True) r:=by
    rintro X M' (rfl | rfl)
    ·exact ih _ (by omega) (by omega) (hst.app X) (by rw [List.getElem?_append_left hml]; exact hmp)
    ·rw [List.take_left]
     exact ih _ (by omega) (by omega) hst hmp
   cases h1:(x.based == [])
   ·have hb:(x.based != [])=true:=by unfold bne; rw [h1]; rfl
    cases h2:ixF x.based l 0 with
    | some j =>
     rw [h2] at hlk
     have c1:(mpZ (some j) == 0)=false:=beq_false_of_ne (by show ((j+1:Nat):Int)≠0; omega)
     simp only [Bool.false_or,Option.isSome_some,ZH]
     exact Xdi (by simp only [Xim,I46,IC.loops,hi,hlt,hn,hw,hqM,hqL,g1,g2,hlk,h1,hb,c1,reduceIte,reduceEqDiff,reduceLT,reduceAdd,reduceMul,reduceLeDiff,ZS]; rfl) (hgo _)
    | none =>
     rw [h2] at hlk
     have c1:(mpZ none == 0)=true:=rfl
     refine ⟨_,Xah (by simp only [Xim,I46,IC.loops,hi,hlt,hn,hw,hqM,hqL,g1,g2,hlk,h1,hb,c1,reduceIte,reduceEqDiff,reduceLT,reduceAdd,reduceMul,reduceLeDiff,ZS]; rfl),hst.app _,rfl,rfl,?_⟩
     exact ⟨rfl,_,_,rfl,rfl,by decide⟩
   ·have hb:(x.based != [])=false:=by unfold bne; rw [h1]; rfl
    simp only [Bool.true_or,ZH]
    exact Xdi (by simp only [Xim,I46,IC.loops,hi,hlt,hn,hw,hqM,hqL,g1,g2,h1,hb,reduceIte,reduceEqDiff,reduceLT,reduceAdd,reduceMul,reduceLeDiff,ZS]; rfl) (hgo _)
  ·have hk':k=l.length:=by omega
   subst hk'
   rw [List.drop_length]
   refine ⟨_,Xae (by simp only [Xim,I46,IC.loops,Int.lt_irrefl,reduceIte,reduceEqDiff,reduceLT,reduceAdd,reduceMul,reduceLeDiff,ZS]; rfl),hst,rfl,rfl,?_⟩
   exact ⟨rfl,rfl,rfl,trivial⟩
def ChkEnd2 (H:Mem) (ok:Bool):Out × AAct × Mem→Prop
 | (o,a,M)=>Xak H M∧a.n=69∧a.d=[]∧if ok=true then o=.exit 4 else o=.ret∧∃ i e,Xad a.t 2=.int .i64 i∧Xad a.t 3=.int .i64 e∧e≠0
theorem Xsr (P:Program) (hcl:Xa1 P 122=true) (N n:Nat) (l:List St) (hN:l.length<N) (hl:l.length≤4611686018427387904) (H:Mem) (q st ty:Nat) (hq:H[q]? = some (.row (Xdb l) st ty)):∀ (fuel k:Nat) (M:Mem),k≤l.length→l.length-k<fuel→Xak H M →
  ∃ r,Xa6 (fun a H=>evI P cfg (Xaw P cfg T N (n+4)) N (Xim 2) a H) (some [0,54,55,56]) fuel ⟨69,[(0,.slc q 0 l.length 6 st),(54,.slc q 0 l.length 6 st),(55,.int .i64 l.length),(56,.int .i64 k)],[]⟩ M=some r∧ChkEnd2 H ((l.drop k).all fun s=>wkP l s l.length s) r
 | 0,k,_,_,h,_=>by omega
 | fuel+1,k,M,hk,hf,hst=>by
  rcases Nat.lt_or_ge k l.length with hlt | hge
  ·obtain ⟨x,hx⟩:=Xbb hlt
   obtain ⟨r,hc⟩:=Xcr hlt
   have hxe:l.getD k default=x:=by
    have h0:(l.drop k)[0]? = some x:=by rw [hx]; rfl
    rw [List.getD_eq_getElem?_getD]
    simpa using congrArg (Option.getD · default) h0
   rw [hxe] at hc
   obtain ⟨g1,g2,g3,g4,g5⟩:=Xcf hc
   have hi:(k:Int)<(l.length:Int):=by omega
   have hw:=Xav hlt (by omega)
   have hn:=Xan k .i64
   have hql:q<H.length:=(List.getElem?_eq_some_iff.1 hq).1
   have hqM:M[q]? = some (.row (Xdb l) st ty):=by rw [hst.get hql]; exact hq
   have hqL:∀ L:Mem,(M++L)[q]? = some (.row (Xdb l) st ty):=fun L=>by rw [(hst.app L).get hql]; exact hq
   have hb:=fun L:Mem=>based_eq P hcl N (n+4) (by omega) l hN hl (.slc q 0 l.length 6 st) x (M++L) (.inr ⟨q,st,ty,rfl,hqL L⟩)
   rw [hx,List.all_cons]
   simp only [stC] at g2 hb
   have ih:=Xsr P hcl N n l hN hl H q st ty hq fuel (k+1)
   cases h1:wkP l x l.length x
   ·rw [h1] at hb
    have c1:((16:Int) != 0)=true:=rfl
    simp only [Ze,if_false] at hb
    refine ⟨_,Xah (by simp only [Xim,I46,IC.loops,hi,hlt,hn,hw,hqM,hqL,g1,g2,hb,c1,reduceIte,reduceEqDiff,reduceLT,reduceAdd,reduceMul,reduceLeDiff,ZS]; rfl),hst.app _,rfl,rfl,?_⟩
    exact ⟨rfl,_,_,rfl,rfl,by decide⟩
   ·rw [h1] at hb
    have c1:((0:Int) != 0)=false:=rfl
    simp only [if_true] at hb
    simp only [ZH]
    refine Xdi (by simp only [Xim,I46,IC.loops,hi,hlt,hn,hw,hqM,hqL,g1,g2,hb,c1,reduceIte,reduceEqDiff,reduceLT,reduceAdd,reduceMul,reduceLeDiff,ZS]; rfl) ?_
    rintro M' (rfl | rfl)
    ·exact ih _ (by omega) (by omega) (hst.app _)
    ·rw [List.take_left]
     exact ih _ (by omega) (by omega) hst
  ·have hk':k=l.length:=by omega
   subst hk'
   rw [List.drop_length]
   refine ⟨_,Xae (by simp only [Xim,I46,IC.loops,Int.lt_irrefl,reduceIte,reduceEqDiff,reduceLT,reduceAdd,reduceMul,reduceLeDiff,ZS]; rfl),hst,rfl,rfl,?_⟩
   exact rfl
theorem check_eq (P:Program) (hcl:Xa1 P 122=true) (N d:Nat) (hd:5≤d) (l:List St) (hN:l.length+1<N) (hl:l.length≤4611686018427387904) (v:AV) (H:Mem) (hv:SlC H v l) :
  ∃ i e,Xaw P cfg T N d 46 [v] H=some (.ret (.tup [.int .i64 i,.int .i64 e]),H)∧(e != 0) = !okP l:=by
 obtain ⟨n,rfl⟩ : ∃ k,d=k+5:=⟨d-5,by omega⟩
 rcases hv with ⟨rfl,rfl⟩ | ⟨q,st,ty,rfl,hq⟩
 ·obtain ⟨M,rfl⟩ : ∃ M,N=M+1:=⟨N-1,by omega⟩
  refine ⟨-1,0,?_,rfl⟩
  refine Xac (m:=69) (v:=.tup [.int .i64 (-1),.int .i64 0]) (a:=?an) (H1:=?Hn) rfl t46 rfl ?hb ?hd ?hr ?hz
  case hb =>
   apply Xaa
   ·simp only [idx,I46,reduceIte,reduceEqDiff,reduceLT,reduceAdd,reduceMul,reduceLeDiff,ZS]; rfl
   apply Xaa
   ·simp only [reduceIte,reduceEqDiff,reduceLT,reduceAdd,reduceMul,reduceLeDiff,ZS]; rfl
   apply Xaa
   ·apply Xaa
    ·simp only [reduceIte,reduceEqDiff,reduceLT,reduceAdd,reduceMul,reduceLeDiff,ZS]; rfl
    apply Xab
    apply Xaf
    exact Xae (by simp only [AAct.keepT,Int.lt_irrefl,reduceIte,reduceEqDiff,reduceLT,reduceAdd,reduceMul,reduceLeDiff,ZS]; rfl)
   apply Xaa
   ·apply Xaa
    ·simp only [reduceIte,reduceEqDiff,reduceLT,reduceAdd,reduceMul,reduceLeDiff,ZS]; rfl
    apply Xab
    apply Xaf
    exact Xae (by simp only [AAct.keepT,Int.lt_irrefl,reduceIte,reduceEqDiff,reduceLT,reduceAdd,reduceMul,reduceLeDiff,ZS]; rfl)
   apply Xaa
   ·apply Xaa
    ·simp only [reduceIte,reduceEqDiff,reduceLT,reduceAdd,reduceMul,reduceLeDiff,ZS]; rfl
    apply Xab
    apply Xaf
    exact Xae (by simp only [AAct.keepT,Int.lt_irrefl,reduceIte,reduceEqDiff,reduceLT,reduceAdd,reduceMul,reduceLeDiff,ZS]; rfl)
   simp only [reduceIte,reduceEqDiff,reduceLT,reduceAdd,reduceMul,reduceLeDiff,ZS]; rfl
  case hd=>rfl
  case hr=>rfl
  case hz=>exact Xa4 rfl rfl
 have hS:Xak H (H++[Blk.map []]):=List.take_left
 obtain ⟨⟨o0,⟨n0,t0,d0⟩,M0⟩,hr0,hs0,e1,e2,hc0⟩:=Xs6 P N n l hl H q st ty hq N 0 (H++[.map []]) (Nat.zero_le _) (by omega) hS (by rw [Xfr]; rfl)
 rw [List.take_zero,List.drop_zero] at hc0
 simp only at e1 e2
 subst e1 e2
 unfold okP
 cases k0:Xt6 [] l
 ·rw [k0] at hc0
  simp only [Ze,if_false] at hc0
  obtain ⟨rfl,i,e,h2,h3,hne⟩:=hc0
  refine ⟨i,e,?_,by rw [Bool.false_and,Bool.not_false]; exact bne_iff_ne.2 hne⟩
  refine Xac (m:=69) (v:=.tup [.int .i64 i,.int .i64 e]) (a:=?aa) (H1:=?Ha) rfl t46 rfl ?hb ?hd ?hr ?hz
  case hb =>
   apply Xaa
   ·simp only [idx,I46,reduceIte,reduceEqDiff,reduceLT,reduceAdd,reduceMul,reduceLeDiff,ZS]; rfl
   apply Xaa
   ·simp only [reduceIte,reduceEqDiff,reduceLT,reduceAdd,reduceMul,reduceLeDiff,ZS]; rfl
   apply Xau
   apply Xaa
   ·simp only [reduceIte,reduceEqDiff,reduceLT,reduceAdd,reduceMul,reduceLeDiff,ZS]; rfl
   apply Xam
   apply Xaf
   exact hr0
  case hd=>rfl
  case hr=>simp only [I46,Xc6,Xbc,h2,h3]; rfl
  case hz=>exact Xha hs0 rfl rfl
 rw [k0] at hc0
 simp only [if_true] at hc0
 obtain ⟨rfl,l0,l4,hm0⟩:=hc0
 obtain ⟨⟨o1,⟨n1,t1,d1⟩,M1⟩,hr1,hs1,e1,e2,hc1⟩:=Xtp P (Xaw P cfg T N (n+4)) N l hl H q st ty hq N 0 M0 (Nat.zero_le _) (by omega) hs0 hm0
 rw [List.drop_zero] at hc1
 simp only at e1 e2
 subst e1 e2
 rw [Bool.true_and,show chkB l=l.all (fun s=>s.based == [] || (ixF s.based l 0).isSome) from rfl]
 cases k1:l.all (fun s=>s.based == [] || (ixF s.based l 0).isSome)
 ·rw [k1] at hc1
  simp only [Ze,if_false] at hc1
  obtain ⟨rfl,i,e,h2,h3,hne⟩:=hc1
  refine ⟨i,e,?_,by rw [Bool.false_and,Bool.not_false]; exact bne_iff_ne.2 hne⟩
  refine Xac (m:=69) (v:=.tup [.int .i64 i,.int .i64 e]) (a:=?ab) (H1:=?Hb) rfl t46 rfl ?hb ?hd ?hr ?hz
  case hb =>
   apply Xaa
   ·simp only [idx,I46,reduceIte,reduceEqDiff,reduceLT,reduceAdd,reduceMul,reduceLeDiff,ZS]; rfl
   apply Xaa
   ·simp only [reduceIte,reduceEqDiff,reduceLT,reduceAdd,reduceMul,reduceLeDiff,ZS]; rfl
   apply Xaa
   ·apply Xaa
    ·simp only [reduceIte,reduceEqDiff,reduceLT,reduceAdd,reduceMul,reduceLeDiff,ZS]; rfl
    apply Xab
    apply Xaf
    exact hr0
   apply Xau
   apply Xaa
   ·simp only [l0,reduceIte,reduceEqDiff,reduceLT,reduceAdd,reduceMul,reduceLeDiff,ZS]; rfl
   apply Xam
   apply Xaf
   simp only [AAct.keepT,Zv,Zz,Xad,reduceIte,reduceEqDiff,l0,l4]
   exact hr1
  case hd=>rfl
  case hr=>simp only [I46,Xc6,Xbc,h2,h3]; rfl
  case hz=>exact Xha hs1 rfl rfl
 rw [k1] at hc1
 simp only [if_true] at hc1
 obtain ⟨rfl,m0,m4,_⟩:=hc1
 obtain ⟨⟨o2,⟨n2,t2,d2⟩,M2⟩,hr2,hs2,e1,e2,hc2⟩:=Xsr P hcl N n l (by omega) hl H q st ty hq N 0 M1 (Nat.zero_le _) (by omega) hs1
 rw [List.drop_zero] at hc2
 simp only at e1 e2
 subst e1 e2
 rw [Bool.true_and,show chkP l=l.all (fun s=>wkP l s l.length s) from rfl]
 cases k2:l.all (fun s=>wkP l s l.length s)
 ·rw [k2] at hc2
  simp only [Ze,if_false] at hc2
  obtain ⟨rfl,i,e,h2,h3,hne⟩:=hc2
  refine ⟨i,e,?_,by rw [Bool.not_false]; exact bne_iff_ne.2 hne⟩
  refine Xac (m:=69) (v:=.tup [.int .i64 i,.int .i64 e]) (a:=?ac) (H1:=?Hc) rfl t46 rfl ?hb ?hd ?hr ?hz
  case hb =>
   apply Xaa
   ·simp only [idx,I46,reduceIte,reduceEqDiff,reduceLT,reduceAdd,reduceMul,reduceLeDiff,ZS]; rfl
   apply Xaa
   ·simp only [reduceIte,reduceEqDiff,reduceLT,reduceAdd,reduceMul,reduceLeDiff,ZS]; rfl
   apply Xaa
   ·apply Xaa
    ·simp only [reduceIte,reduceEqDiff,reduceLT,reduceAdd,reduceMul,reduceLeDiff,ZS]; rfl
    apply Xab
    apply Xaf
    exact hr0
   apply Xaa
   ·apply Xaa
    ·simp only [l0,reduceIte,reduceEqDiff,reduceLT,reduceAdd,reduceMul,reduceLeDiff,ZS]; rfl
    apply Xab
    apply Xaf
    simp only [AAct.keepT,Zv,Zz,Xad,reduceIte,reduceEqDiff,l0,l4]
    exact hr1
   apply Xau
   apply Xaa
   ·simp only [m0,reduceIte,reduceEqDiff,reduceLT,reduceAdd,reduceMul,reduceLeDiff,ZS]; rfl
   apply Xam
   apply Xaf
   simp only [AAct.keepT,Zv,Zz,Xad,reduceIte,reduceEqDiff,m0]
   exact hr2
  case hd=>rfl
  case hr=>simp only [I46,Xc6,Xbc,h2,h3]; rfl
  case hz=>exact Xha hs2 rfl rfl
 rw [k2] at hc2
 simp only [if_true] at hc2
 subst hc2
 refine ⟨-1,0,?_,rfl⟩
 refine Xac (m:=69) (v:=.tup [.int .i64 (-1),.int .i64 0]) (a:=?ad) (H1:=?Hd) rfl t46 rfl ?hb ?hd ?hr ?hz
 case hb =>
  apply Xaa
  ·simp only [idx,I46,reduceIte,reduceEqDiff,reduceLT,reduceAdd,reduceMul,reduceLeDiff,ZS]; rfl
  apply Xaa
  ·simp only [reduceIte,reduceEqDiff,reduceLT,reduceAdd,reduceMul,reduceLeDiff,ZS]; rfl
  apply Xaa
  ·apply Xaa
   ·simp only [reduceIte,reduceEqDiff,reduceLT,reduceAdd,reduceMul,reduceLeDiff,ZS]; rfl
   apply Xab
   apply Xaf
   exact hr0
  apply Xaa
  ·apply Xaa
   ·simp only [l0,reduceIte,reduceEqDiff,reduceLT,reduceAdd,reduceMul,reduceLeDiff,ZS]; rfl
   apply Xab
   apply Xaf
   simp only [AAct.keepT,Zv,Zz,Xad,reduceIte,reduceEqDiff,l0,l4]
   exact hr1
  apply Xaa
  ·apply Xaa
   ·simp only [m0,reduceIte,reduceEqDiff,reduceLT,reduceAdd,reduceMul,reduceLeDiff,ZS]; rfl
   apply Xab
   apply Xaf
   simp only [AAct.keepT,Zv,Zz,Xad,reduceIte,reduceEqDiff,m0]
   exact hr2
  simp only [reduceIte,reduceEqDiff,reduceLT,reduceAdd,reduceMul,reduceLeDiff,ZS]; rfl
 case hd=>rfl
 case hr=>rfl
 case hz=>exact Xha hs2 rfl rfl
end Go.Proofs.YtmhhddhbdbcmbaaGreatDoor.Ev
