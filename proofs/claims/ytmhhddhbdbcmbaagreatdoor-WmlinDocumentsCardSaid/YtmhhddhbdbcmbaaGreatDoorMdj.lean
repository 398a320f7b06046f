/- Parts of one proof. -/
import Derived.Test.YtmhhddhbdbcmbaaGreatDoorMdi
import Derived.Test.YtmhhddhbdbcmbaaGreatDoorMdd
set_option linter.all false
namespace Go.Proofs.YtmhhddhbdbcmbaaGreatDoor.Ev
open Nat (reduceEqDiff reduceLT reduceAdd reduceMul reduceLeDiff reduceSub)
open Go.Proofs.YtmhhddhbdbcmbaaGreatDoor.Ic
set_option maxRecDepth 100000
set_option maxHeartbeats 4000000
theorem int_beq (a b:Nat):((a:Int) == (b:Int))=(a == b):=by
 by_cases h:a=b
 ·rw [h,beq_self_eq_true,beq_self_eq_true]
 ·rw [beq_false_of_ne h,beq_false_of_ne fun e=>h (by omega)]
def RvN (H:Mem) (v:AV) (l:List St):Prop:=(v=.nilS∧l=[])∨RvC H v l
theorem Xrv {cs:List AV} {o:Nat} {s:St} {r:List AV} (h:cs.drop o=stC s++r):(0<(cs.drop o).length∧1≤(cs.drop o).length∧6≤(cs.drop o).length)∧(1<(cs.drop o).length∧1≤((cs.drop o).drop 1).length∧((cs.drop o).drop 1).take 1=[.str s.based])∧(2<(cs.drop o).length∧1≤((cs.drop o).drop 2).length∧((cs.drop o).drop 2).take 1=[.bool s.run])∧(3<(cs.drop o).length∧1≤((cs.drop o).drop 3).length∧((cs.drop o).drop 3).take 1=[.int .i64 s.emph])∧(4<(cs.drop o).length∧1≤((cs.drop o).drop 4).length∧((cs.drop o).drop 4).take 1=[.int .i64 s.bold]):=by
 have hl:(stC s++r).length=6+r.length:=by rw [List.length_append]; rfl
 rw [h,hl]
 exact ⟨⟨by omega,by omega,by omega⟩,⟨by omega,by simp [stC],rfl⟩,⟨by omega,by simp [stC],rfl⟩,⟨by omega,by simp [stC],rfl⟩,⟨by omega,by simp [stC],rfl⟩⟩
theorem Xo3 (P:Program) (N n:Nat) (l:List St) (hN:l.length<N) (hl:l.length≤4611686018427387904) (H:Mem) (v:AV) (hv:RvC H v l):∀ (fuel k:Nat),k≤l.length→l.length-k<fuel →
  ∃ r,Xa6 (fun a H=>evI P cfg (Xaw P cfg T N (n+1)) N (Xa3 1) a H) (some [0,6]) fuel ⟨143,[(0,v),(6,.int .i64 k)],[]⟩ H=some r∧Xt5 H v 2 ((l.drop k).all fun s=>s.based == [] || (ixF s.based l 0).isSome) r∧r.2.2=H
 | 0,k,_,h=>by omega
 | fuel+1,k,hk,hf=>by
  have hst:Xak H H:=List.take_length
  rcases Nat.lt_or_ge k l.length with hlt | hge
  ·obtain ⟨x,hx⟩:=Xbb hlt
   obtain ⟨r,hc⟩:=Xcr hlt
   have hxe:l.getD k default=x:=by
    have h0:(l.drop k)[0]? = some x:=by rw [hx]; rfl
    rw [List.getD_eq_getElem?_getD]
    simpa using congrArg (Option.getD · default) h0
   rw [hxe] at hc
   obtain ⟨g1,g2,g3,g4,g5⟩:=Xcf hc
   have e2:k*6+2≤(Xdb l).length:=by omega
   have hi:(k:Int)<(l.length:Int):=by omega
   have hw:=Xav hlt (by omega)
   have hn:=Xan k .i64
   have hfd:=Xhh P N (n+1) (by omega) x.based H v l hN hl hv
   rw [hx,List.all_cons]
   obtain ⟨⟨z1,z2,z3⟩,⟨z4,z5,z6⟩,⟨z7,z8,z9⟩,_⟩:=Xrv hc
   have ih:=Xo3 P N n l hN hl H v hv fuel (k+1) (by omega) (by omega)
   rcases hv with ⟨q,st,ty,rfl,hq⟩ | rfl
   ·skip
    cases h1:(x.based == [])
    ·have hb:(x.based != [])=true:=by unfold bne; rw [h1]; rfl
     cases h2:ixF x.based l 0 with
     | some j =>
      rw [h2] at hfd
      have c1:decide (ixZ (some j)<0)=false:=decide_eq_false (by show ¬ ((j:Int)<0); omega)
      simp only [Bool.false_or,Option.isSome_some,ZH]
      obtain ⟨r',ih1,ih2⟩:=ih
      refine ⟨r',?_,ih2⟩
      refine Xap (H':=H) (by simp only [Xa3,I56,IC.loops,hi,hlt,hn,hw,hq,g1,g4,e2,hfd,h1,hb,c1,reduceIte,reduceEqDiff,reduceLT,reduceAdd,reduceMul,reduceLeDiff,ZS]; rfl) ?_
      rw [Xbx]
      exact ih1
     | none =>
      rw [h2] at hfd
      have c1:decide (ixZ none<0)=true:=rfl
      refine ⟨_,Xah (by simp only [Xa3,I56,IC.loops,hi,hlt,hn,hw,hq,g1,g4,e2,hfd,h1,hb,c1,reduceIte,reduceEqDiff,reduceLT,reduceAdd,reduceMul,reduceLeDiff,ZS]; rfl),⟨hst,rfl,rfl,?_⟩,rfl⟩
      exact ⟨rfl,_,_,rfl,rfl,by decide⟩
    ·have hb:(x.based != [])=false:=by unfold bne; rw [h1]; rfl
     simp only [Bool.true_or,ZH]
     obtain ⟨r',ih1,ih2⟩:=ih
     refine ⟨r',?_,ih2⟩
     refine Xap (H':=H) (by simp only [Xa3,I56,IC.loops,hi,hlt,hn,hw,hq,g1,g4,e2,h1,hb,reduceIte,reduceEqDiff,reduceLT,reduceAdd,reduceMul,reduceLeDiff,ZS]; rfl) ?_
     rw [Xbx]
     exact ih1
   ·skip
    cases h1:(x.based == [])
    ·have hb:(x.based != [])=true:=by unfold bne; rw [h1]; rfl
     cases h2:ixF x.based l 0 with
     | some j =>
      rw [h2] at hfd
      have c1:decide (ixZ (some j)<0)=false:=decide_eq_false (by show ¬ ((j:Int)<0); omega)
      simp only [Bool.false_or,Option.isSome_some,ZH]
      obtain ⟨r',ih1,ih2⟩:=ih
      refine ⟨r',?_,ih2⟩
      refine Xap (H':=H) (by simp only [Xa3,I56,IC.loops,hi,hlt,hn,hw,z1,z2,z3,z4,z5,z6,g1,g4,e2,hfd,h1,hb,c1,reduceIte,reduceEqDiff,reduceLT,reduceAdd,reduceMul,reduceLeDiff,ZS]; rfl) ?_
      rw [Xbx]
      exact ih1
     | none =>
      rw [h2] at hfd
      have c1:decide (ixZ none<0)=true:=rfl
      refine ⟨_,Xah (by simp only [Xa3,I56,IC.loops,hi,hlt,hn,hw,z1,z2,z3,z4,z5,z6,g1,g4,e2,hfd,h1,hb,c1,reduceIte,reduceEqDiff,reduceLT,reduceAdd,reduceMul,reduceLeDiff,ZS]; rfl),⟨hst,rfl,rfl,?_⟩,rfl⟩
      exact ⟨rfl,_,_,rfl,rfl,by decide⟩
    ·have hb:(x.based != [])=false:=by unfold bne; rw [h1]; rfl
     simp only [Bool.true_or,ZH]
     obtain ⟨r',ih1,ih2⟩:=ih
     refine ⟨r',?_,ih2⟩
     refine Xap (H':=H) (by simp only [Xa3,I56,IC.loops,hi,hlt,hn,hw,z1,z2,z3,z4,z5,z6,g1,g4,e2,h1,hb,reduceIte,reduceEqDiff,reduceLT,reduceAdd,reduceMul,reduceLeDiff,ZS]; rfl) ?_
     rw [Xbx]
     exact ih1
  ·have hk':k=l.length:=by omega
   subst hk'
   rw [List.drop_length]
   rcases hv with ⟨q,st,ty,rfl,hq⟩ | rfl
   all_goals refine ⟨_,Xae (by simp only [Xa3,I56,IC.loops,Int.lt_irrefl,reduceIte,reduceEqDiff,reduceLT,reduceAdd,reduceMul,reduceLeDiff,ZS]; rfl),⟨hst,rfl,rfl,?_⟩,rfl⟩
   all_goals exact ⟨rfl,rfl⟩
theorem Xo0 (P:Program) (N n:Nat) (l:List St) (hN:l.length<N) (hl:l.length≤4611686018427387904) (hB:∀ k,k<l.length→((l.getD k default).based == [])=false→(ixF (l.getD k default).based l 0).isSome=true) (H:Mem) (v:AV) (hv:RvC H v l) (i:Nat):∀ (fuel f m k:Nat),l.length+2=m+(f+1)→f+1≤fuel→k<l.length →
  ∃ ou t,Xa6 (fun a H=>evI P cfg (Xaw P cfg T N (n+1)) N (Xa3 3) a H) (some [0,7,8,9]) fuel ⟨143,[(0,v),(7,.int .i64 i),(8,.int .i64 k),(9,.int .i64 m)],[]⟩ H=some (ou,⟨143,t,[]⟩,H)∧Xad t 0=v∧Xad t 7=.int .i64 i ∧
   (if wkR l i (f+1) k=true then ou=.exit 6 else ou=.ret∧Xad t 2=.int .i64 i∧Xad t 3=.int .i64 16)
 | 0,f,m,k,_,h,_=>by omega
 | fuel+1,f,m,k,hm,hf,hk=>by
  obtain ⟨r,hc⟩:=Xcr hk
  obtain ⟨g1,g2,g3,g4,g5⟩:=Xcf hc
  have e2:k*6+2≤(Xdb l).length:=by omega
  have e3:k*6+3≤(Xdb l).length:=by omega
  have hn:=Xan k .i64
  have hw:IntKind.wrap .i64 ((m:Int)+1)=((m+1:Nat):Int):=by rw [Xbs] <;> omega
  have hfd:=Xhh P N (n+1) (by omega) (l.getD k default).based H v l hN hl hv
  obtain ⟨⟨z1,z2,z3⟩,⟨z4,z5,z6⟩,⟨z7,z8,z9⟩,_⟩:=Xrv hc
  have hki:=int_beq k i
  have hu:wkR l i (f+1) k=if ((l.getD k default).based == [])=true then true else match ixF (l.getD k default).based l 0 with
   | none=>true
   | some m=>if (k == i && (l.getD m default).run != (l.getD k default).run || m == i)=true then false else wkR l i f m:=rfl
  rw [hu]
  have hBk:=hB k hk
  have ih:=Xo0 P N n l hN hl hB H v hv i fuel
  cases h1:((l.getD k default).based == [])
  ·have hb:((l.getD k default).based != [])=true:=by unfold bne; rw [h1]; rfl
   simp only [Ze,if_false]
   cases h2:ixF (l.getD k default).based l 0 with
   | none =>
    have:=hBk h1
    rw [h2] at this
    cases this
   | some j =>
    rw [h2] at hfd
    have hj:=(Xih _ l 0 j h2).2
    have hjl:j<l.length:=by omega
    obtain ⟨r2,hc2⟩:=Xcr hjl
    obtain ⟨k1,k2,k3,k4,k5⟩:=Xcf hc2
    have d3:j*6+3≤(Xdb l).length:=by omega
    have hn2:=Xan j .i64
    obtain ⟨⟨y1,y2,y3⟩,⟨y4,y5,y6⟩,⟨y7,y8,y9⟩,_⟩:=Xrv hc2
    have hji:=int_beq j i
    have hix:ixZ (some j)=(j:Int):=rfl
    dsimp only
    obtain ⟨x,hx⟩ : ∃ x,x=l.getD k default:=⟨_,rfl⟩
    obtain ⟨y,hy⟩ : ∃ y,y=l.getD j default:=⟨_,rfl⟩
    simp only [← hx,← hy] at g3 g4 g5 k3 k4 k5 z6 z9 y6 y9 hfd hb h1 ⊢
    simp only [bne]
    have fin:¬ (m:Int)>(l.length:Int)→∃ ou t,Xa6 (fun a H=>evI P cfg (Xaw P cfg T N (n+1)) N (Xa3 3) a H) (some [0,7,8,9]) fuel ⟨143,[(0,v),(7,.int .i64 i),(8,.int .i64 j),(9,.int .i64 (m+1:Nat))],[]⟩ H=some (ou,⟨143,t,[]⟩,H)∧Xad t 0=v∧Xad t 7=.int .i64 i∧(if wkR l i f j=true then ou=.exit 6 else ou=.ret∧Xad t 2=.int .i64 i∧Xad t 3=.int .i64 16):=fun hml=>by
     obtain ⟨f',rfl⟩ : ∃ f',f=f'+1:=⟨f-1,by omega⟩
     exact ih f' (m+1) j (by omega) (by omega) hjl
    clear ih
    rcases hv with ⟨q,st,ty,rfl,hq⟩ | rfl
    ·skip
     cases b1:(k == i)
     ·rw [b1] at hki
      simp only [ZE,Bool.false_or]
      cases b2:(j == i)
      ·rw [b2] at hji
       simp only [Ze,if_false]
       cases b3:decide ((m:Int)>(l.length:Int))
       ·obtain ⟨ou,t,ht,hQ⟩:=fin (of_decide_eq_false b3)
        refine ⟨ou,t,?_,hQ⟩
        refine Xap (by simp only [Xa3,I56,IC.loops,hk,hjl,hn,hn2,hw,hq,g1,g3,g4,g5,e2,e3,k1,k3,k4,k5,d3,hfd,hix,h1,hki,hji,b3,reduceIte,reduceEqDiff,reduceLT,reduceAdd,reduceMul,reduceLeDiff,ZU,ZS]; rfl) ?_
        rw [Xbx]
        exact ht
       ·have:f=0:=by have:=of_decide_eq_true b3; omega
        subst this
        refine ⟨_,_,Xae (by simp only [Xa3,I56,IC.loops,hk,hjl,hn,hn2,hw,hq,g1,g3,g4,g5,e2,e3,k1,k3,k4,k5,d3,hfd,hix,h1,hki,hji,b3,reduceIte,reduceEqDiff,reduceLT,reduceAdd,reduceMul,reduceLeDiff,ZU,ZS]; rfl),rfl,rfl,?_⟩
        exact rfl
      ·rw [b2] at hji
       refine ⟨_,_,Xah (by simp only [Xa3,I56,IC.loops,hk,hjl,hn,hn2,hw,hq,g1,g3,g4,g5,e2,e3,k1,k3,k4,k5,d3,hfd,hix,h1,hki,hji,reduceIte,reduceEqDiff,reduceLT,reduceAdd,reduceMul,reduceLeDiff,ZU,ZS]; rfl),rfl,rfl,?_⟩
       exact ⟨rfl,rfl,rfl⟩
     ·rw [b1] at hki
      simp only [ZH]
      cases b4:(y.run == x.run)
      ·refine ⟨_,_,Xah (by simp only [Xa3,I56,IC.loops,hk,hjl,hn,hn2,hw,hq,g1,g3,g4,g5,e2,e3,k1,k3,k4,k5,d3,hfd,hix,h1,hki,hji,b4,reduceIte,reduceEqDiff,reduceLT,reduceAdd,reduceMul,reduceLeDiff,ZU,ZS]; rfl),rfl,rfl,?_⟩
       exact ⟨rfl,rfl,rfl⟩
      ·simp only [ZG,Bool.false_or]
       cases b2:(j == i)
       ·rw [b2] at hji
        simp only [Ze,if_false]
        cases b3:decide ((m:Int)>(l.length:Int))
        ·obtain ⟨ou,t,ht,hQ⟩:=fin (of_decide_eq_false b3)
         refine ⟨ou,t,?_,hQ⟩
         refine Xap (by simp only [Xa3,I56,IC.loops,hk,hjl,hn,hn2,hw,hq,g1,g3,g4,g5,e2,e3,k1,k3,k4,k5,d3,hfd,hix,h1,hki,hji,b3,b4,reduceIte,reduceEqDiff,reduceLT,reduceAdd,reduceMul,reduceLeDiff,ZU,ZS]; rfl) ?_
         rw [Xbx]
         exact ht
        ·have:f=0:=by have:=of_decide_eq_true b3; omega
         subst this
         refine ⟨_,_,Xae (by simp only [Xa3,I56,IC.loops,hk,hjl,hn,hn2,hw,hq,g1,g3,g4,g5,e2,e3,k1,k3,k4,k5,d3,hfd,hix,h1,hki,hji,b3,b4,reduceIte,reduceEqDiff,reduceLT,reduceAdd,reduceMul,reduceLeDiff,ZU,ZS]; rfl),rfl,rfl,?_⟩
         exact rfl
       ·rw [b2] at hji
        refine ⟨_,_,Xah (by simp only [Xa3,I56,IC.loops,hk,hjl,hn,hn2,hw,hq,g1,g3,g4,g5,e2,e3,k1,k3,k4,k5,d3,hfd,hix,h1,hki,hji,b4,reduceIte,reduceEqDiff,reduceLT,reduceAdd,reduceMul,reduceLeDiff,ZU,ZS]; rfl),rfl,rfl,?_⟩
        exact ⟨rfl,rfl,rfl⟩
    ·skip
     cases b1:(k == i)
     ·rw [b1] at hki
      simp only [ZE,Bool.false_or]
      cases b2:(j == i)
      ·rw [b2] at hji
       simp only [Ze,if_false]
       cases b3:decide ((m:Int)>(l.length:Int))
       ·obtain ⟨ou,t,ht,hQ⟩:=fin (of_decide_eq_false b3)
        refine ⟨ou,t,?_,hQ⟩
        refine Xap (by simp only [Xa3,I56,IC.loops,hk,hjl,hn,hn2,hw,z1,z2,z3,z4,z5,z6,z7,z8,z9,y1,y2,y3,y4,y5,y6,y7,y8,y9,g1,g3,g4,g5,e2,e3,k1,k3,k4,k5,d3,hfd,hix,h1,hki,hji,b3,reduceIte,reduceEqDiff,reduceLT,reduceAdd,reduceMul,reduceLeDiff,ZU,ZS]; rfl) ?_
        rw [Xbx]
        exact ht
       ·have:f=0:=by have:=of_decide_eq_true b3; omega
        subst this
        refine ⟨_,_,Xae (by simp only [Xa3,I56,IC.loops,hk,hjl,hn,hn2,hw,z1,z2,z3,z4,z5,z6,z7,z8,z9,y1,y2,y3,y4,y5,y6,y7,y8,y9,g1,g3,g4,g5,e2,e3,k1,k3,k4,k5,d3,hfd,hix,h1,hki,hji,b3,reduceIte,reduceEqDiff,reduceLT,reduceAdd,reduceMul,reduceLeDiff,ZU,ZS]; rfl),rfl,rfl,?_⟩
        exact rfl
      ·rw [b2] at hji
       refine ⟨_,_,Xah (by simp only [Xa3,I56,IC.loops,hk,hjl,hn,hn2,hw,z1,z2,z3,z4,z5,z6,z7,z8,z9,y1,y2,y3,y4,y5,y6,y7,y8,y9,g1,g3,g4,g5,e2,e3,k1,k3,k4,k5,d3,hfd,hix,h1,hki,hji,reduceIte,reduceEqDiff,reduceLT,reduceAdd,reduceMul,reduceLeDiff,ZU,ZS]; rfl),rfl,rfl,?_⟩
       exact ⟨rfl,rfl,rfl⟩
     ·rw [b1] at hki
      simp only [ZH]
      cases b4:(y.run == x.run)
      ·refine ⟨_,_,Xah (by simp only [Xa3,I56,IC.loops,hk,hjl,hn,hn2,hw,z1,z2,z3,z4,z5,z6,z7,z8,z9,y1,y2,y3,y4,y5,y6,y7,y8,y9,g1,g3,g4,g5,e2,e3,k1,k3,k4,k5,d3,hfd,hix,h1,hki,hji,b4,reduceIte,reduceEqDiff,reduceLT,reduceAdd,reduceMul,reduceLeDiff,ZU,ZS]; rfl),rfl,rfl,?_⟩
       exact ⟨rfl,rfl,rfl⟩
      ·simp only [ZG,Bool.false_or]
       cases b2:(j == i)
       ·rw [b2] at hji
        simp only [Ze,if_false]
        cases b3:decide ((m:Int)>(l.length:Int))
        ·obtain ⟨ou,t,ht,hQ⟩:=fin (of_decide_eq_false b3)
         refine ⟨ou,t,?_,hQ⟩
         refine Xap (by simp only [Xa3,I56,IC.loops,hk,hjl,hn,hn2,hw,z1,z2,z3,z4,z5,z6,z7,z8,z9,y1,y2,y3,y4,y5,y6,y7,y8,y9,g1,g3,g4,g5,e2,e3,k1,k3,k4,k5,d3,hfd,hix,h1,hki,hji,b3,b4,reduceIte,reduceEqDiff,reduceLT,reduceAdd,reduceMul,reduceLeDiff,ZU,ZS]; rfl) ?_
         rw [Xbx]
         exact ht
        ·have:f=0:=by have:=of_decide_eq_true b3; omega
         subst this
         refine ⟨_,_,Xae (by simp only [Xa3,I56,IC.loops,hk,hjl,hn,hn2,hw,z1,z2,z3,z4,z5,z6,z7,z8,z9,y1,y2,y3,y4,y5,y6,y7,y8,y9,g1,g3,g4,g5,e2,e3,k1,k3,k4,k5,d3,hfd,hix,h1,hki,hji,b3,b4,reduceIte,reduceEqDiff,reduceLT,reduceAdd,reduceMul,reduceLeDiff,ZU,ZS]; rfl),rfl,rfl,?_⟩
         exact rfl
       ·rw [b2] at hji
        refine ⟨_,_,Xah (by simp only [Xa3,I56,IC.loops,hk,hjl,hn,hn2,hw,z1,z2,z3,z4,z5,z6,z7,z8,z9,y1,y2,y3,y4,y5,y6,y7,y8,y9,g1,g3,g4,g5,e2,e3,k1,k3,k4,k5,d3,hfd,hix,h1,hki,hji,b4,reduceIte,reduceEqDiff,reduceLT,reduceAdd,reduceMul,reduceLeDiff,ZU,ZS]; rfl),rfl,rfl,?_⟩
        exact ⟨rfl,rfl,rfl⟩
  ·have hb:((l.getD k default).based != [])=false:=by unfold bne; rw [h1]; rfl
   rcases hv with ⟨q,st,ty,rfl,hq⟩ | rfl
   ·skip
    refine ⟨_,_,Xae (by simp only [Xa3,I56,IC.loops,hk,hn,hw,hq,g1,g3,g4,e2,h1,hb,reduceIte,reduceEqDiff,reduceLT,reduceAdd,reduceMul,reduceLeDiff,ZS]; rfl),rfl,rfl,?_⟩
    exact rfl
   ·skip
    refine ⟨_,_,Xae (by simp only [Xa3,I56,IC.loops,hk,hn,hw,z1,z2,z3,z4,z5,z6,g1,g3,g4,e2,h1,hb,reduceIte,reduceEqDiff,reduceLT,reduceAdd,reduceMul,reduceLeDiff,ZS]; rfl),rfl,rfl,?_⟩
    exact rfl
theorem Xpe (P:Program) (N n:Nat) (l:List St) (hN:l.length+3<N) (hl:l.length≤4611686018427387904) (hB:∀ k,k<l.length→((l.getD k default).based == [])=false→(ixF (l.getD k default).based l 0).isSome=true) (H:Mem) (v:AV) (hv:RvC H v l):∀ (fuel k:Nat),k≤l.length→l.length-k<fuel →
  ∃ ou t,Xa6 (fun a H=>evI P cfg (Xaw P cfg T N (n+1)) N (Xa3 2) a H) (some [0,7]) fuel ⟨143,[(0,v),(7,.int .i64 k)],[]⟩ H=some (ou,⟨143,t,[]⟩,H) ∧
   (if (List.range' k (l.length-k)).all (fun i=>wkR l i (l.length+2) i)=true then ou=.exit 4 else ou=.ret∧∃ i,Xad t 2=.int .i64 i∧Xad t 3=.int .i64 16)
 | 0,k,_,h=>by omega
 | fuel+1,k,hk,hf=>by
  rcases Nat.lt_or_ge k l.length with hlt | hge
  ·have hi:(k:Int)<(l.length:Int):=by omega
   have hw:=Xav hlt (by omega)
   obtain ⟨o3,t3,h3,l0,l7,hQ⟩:=Xo0 P N n l (by omega) hl hB H v hv k N (l.length+1) 0 k (by omega) (by omega) hlt
   obtain ⟨o2,t2,h2,hQ2⟩:=Xpe P N n l hN hl hB H v hv fuel (k+1) (by omega) (by omega)
   rw [show l.length-k=(l.length-(k+1))+1 by omega,List.range'_succ,List.all_cons]
   rcases hv with ⟨q,st,ty,rfl,hq⟩ | rfl
   ·skip
    cases c:wkR l k (l.length+2) k
    ·rw [c] at hQ
     simp only [Ze,if_false] at hQ
     obtain ⟨rfl,m2,m3⟩:=hQ
     refine ⟨.ret,t3,?_,?_⟩
     ·apply Xah
      apply Xaa
      ·simp only [hi,reduceIte,reduceEqDiff,reduceLT,reduceAdd,reduceMul,reduceLeDiff,ZS]; rfl
      apply Xau
      apply Xam
      apply Xaa
      ·simp only [reduceIte,reduceEqDiff,reduceLT,reduceAdd,reduceMul,reduceLeDiff,ZS]; rfl
      apply Xaa
      ·simp only [reduceIte,reduceEqDiff,reduceLT,reduceAdd,reduceMul,reduceLeDiff,ZS]; rfl
      apply Xam
      apply Xaf
      exact h3
     ·exact ⟨rfl,_,m2,m3⟩
    ·rw [c] at hQ
     simp only [if_true] at hQ
     subst hQ
     simp only [ZH]
     refine ⟨o2,t2,?_,hQ2⟩
     refine Xap (a':=?a1) (H':=H) ?hb ?hn
     case hb =>
      apply Xaa
      ·simp only [hi,reduceIte,reduceEqDiff,reduceLT,reduceAdd,reduceMul,reduceLeDiff,ZS]; rfl
      apply Xaa
      ·apply Xbh
       apply Xaa
       ·simp only [reduceIte,reduceEqDiff,reduceLT,reduceAdd,reduceMul,reduceLeDiff,ZS]; rfl
       apply Xaa
       ·simp only [reduceIte,reduceEqDiff,reduceLT,reduceAdd,reduceMul,reduceLeDiff,ZS]; rfl
       apply Xab
       apply Xaf
       exact h3
      simp only [l7,hw,reduceIte,reduceEqDiff,reduceLT,reduceAdd,reduceMul,reduceLeDiff,ZS]; rfl
     case hn =>
      rw [Xbx]
      simp only [AAct.keepT,Zv,Zz,Xad,reduceIte,reduceEqDiff,l0,l7]
      exact h2
   ·skip
    cases c:wkR l k (l.length+2) k
    ·rw [c] at hQ
     simp only [Ze,if_false] at hQ
     obtain ⟨rfl,m2,m3⟩:=hQ
     refine ⟨.ret,t3,?_,?_⟩
     ·apply Xah
      apply Xaa
      ·simp only [hi,reduceIte,reduceEqDiff,reduceLT,reduceAdd,reduceMul,reduceLeDiff,ZS]; rfl
      apply Xau
      apply Xam
      apply Xaa
      ·simp only [reduceIte,reduceEqDiff,reduceLT,reduceAdd,reduceMul,reduceLeDiff,ZS]; rfl
      apply Xaa
      ·simp only [reduceIte,reduceEqDiff,reduceLT,reduceAdd,reduceMul,reduceLeDiff,ZS]; rfl
      apply Xam
      apply Xaf
      exact h3
     ·exact ⟨rfl,_,m2,m3⟩
    ·rw [c] at hQ
     simp only [if_true] at hQ
     subst hQ
     simp only [ZH]
     refine ⟨o2,t2,?_,hQ2⟩
     refine Xap (a':=?a2) (H':=H) ?hb2 ?hn2
     case hb2 =>
      apply Xaa
      ·simp only [hi,reduceIte,reduceEqDiff,reduceLT,reduceAdd,reduceMul,reduceLeDiff,ZS]; rfl
      apply Xaa
      ·apply Xbh
       apply Xaa
       ·simp only [reduceIte,reduceEqDiff,reduceLT,reduceAdd,reduceMul,reduceLeDiff,ZS]; rfl
       apply Xaa
       ·simp only [reduceIte,reduceEqDiff,reduceLT,reduceAdd,reduceMul,reduceLeDiff,ZS]; rfl
       apply Xab
       apply Xaf
       exact h3
      simp only [l7,hw,reduceIte,reduceEqDiff,reduceLT,reduceAdd,reduceMul,reduceLeDiff,ZS]; rfl
     case hn2 =>
      rw [Xbx]
      simp only [AAct.keepT,Zv,Zz,Xad,reduceIte,reduceEqDiff,l0,l7]
      exact h2
  ·have hk':k=l.length:=by omega
   subst hk'
   rw [Nat.sub_self]
   rcases hv with ⟨q,st,ty,rfl,hq⟩ | rfl
   all_goals refine ⟨_,_,Xae (by simp only [Xa3,I56,IC.loops,Int.lt_irrefl,reduceIte,reduceEqDiff,reduceLT,reduceAdd,reduceMul,reduceLeDiff,ZS]; rfl),?_⟩
   all_goals exact rfl
theorem rcheck_eq (P:Program) (N d:Nat) (hd:2≤d) (l:List St) (hN:l.length+3<N) (hl:l.length≤4611686018427387904) (v:AV) (H:Mem) (hv:RvN H v l) :
  ∃ i e,Xaw P cfg T N d 56 [v] H=some (.ret (.tup [.int .i64 i,.int .i64 e]),H)∧(e != 0) = !okR l:=by
 obtain ⟨n,rfl⟩ : ∃ k,d=k+2:=⟨d-2,by omega⟩
 rcases hv with ⟨rfl,rfl⟩ | hv
 ·obtain ⟨M,rfl⟩ : ∃ M,N=M+1:=⟨N-1,by omega⟩
  refine ⟨-1,0,?_,rfl⟩
  refine Xac (m:=143) (v:=.tup [.int .i64 (-1),.int .i64 0]) (a:=?an) (H1:=H) rfl t56 rfl ?hb ?hd ?hr ?hz
  case hb =>
   apply Xaa
   ·simp only [idx,I56,reduceIte,reduceEqDiff,reduceLT,reduceAdd,reduceMul,reduceLeDiff,ZS]; rfl
   apply Xaa
   ·apply Xaa
    ·simp only [reduceIte,reduceEqDiff,reduceLT,reduceAdd,reduceMul,reduceLeDiff,ZS]; rfl
    apply Xab
    apply Xaf
    exact Xae (by simp only [AAct.keepT,Int.lt_irrefl,reduceIte,reduceEqDiff,reduceLT,reduceAdd,reduceMul,reduceLeDiff,ZS]; rfl)
   apply Xaa
   ·apply Xaa
    ·simp only [reduceIte,reduceEqDiff,reduceLT,reduceAdd,reduceMul,reduceLeDiff,ZS]; rfl
    apply Xab
    apply Xaf
    exact Xae (by simp only [AAct.keepT,Int.lt_irrefl,reduceIte,reduceEqDiff,reduceLT,reduceAdd,reduceMul,reduceLeDiff,ZS]; rfl)
   apply Xaa
   ·apply Xaa
    ·simp only [reduceIte,reduceEqDiff,reduceLT,reduceAdd,reduceMul,reduceLeDiff,ZS]; rfl
    apply Xab
    apply Xaf
    exact Xae (by simp only [AAct.keepT,Int.lt_irrefl,reduceIte,reduceEqDiff,reduceLT,reduceAdd,reduceMul,reduceLeDiff,ZS]; rfl)
   simp only [reduceIte,reduceEqDiff,reduceLT,reduceAdd,reduceMul,reduceLeDiff,ZS]; rfl
  case hd=>rfl
  case hr=>rfl
  case hz=>exact Xaq rfl rfl
 have hS:Xak H H:=List.take_length
 obtain ⟨⟨o0,⟨n0,t0,d0⟩,M0⟩,hr0,hs0,e1,e2,hc0⟩:=Xo8 P N n l (by omega) hl H v hv N 0 H (Nat.zero_le _) (by omega) hS
 rw [List.take_zero,List.drop_zero] at hc0
 simp only at e1 e2
 subst e1 e2
 unfold okR
 cases k0:Xt6 [] l
 ·rw [k0] at hc0
  simp only [Ze,if_false] at hc0
  obtain ⟨rfl,i,e,h2,h3,hne⟩:=hc0
  refine ⟨i,e,?_,by rw [Bool.false_and,Bool.not_false]; exact bne_iff_ne.2 hne⟩
  refine Xac (m:=143) (v:=.tup [.int .i64 i,.int .i64 e]) (a:=?aa) (H1:=?Ha) rfl t56 rfl ?hb ?hd ?hr ?hz
  case hb =>
   apply Xaa
   ·simp only [idx,I56,reduceIte,reduceEqDiff,reduceLT,reduceAdd,reduceMul,reduceLeDiff,ZS]; rfl
   apply Xau
   apply Xaa
   ·simp only [reduceIte,reduceEqDiff,reduceLT,reduceAdd,reduceMul,reduceLeDiff,ZS]; rfl
   apply Xam
   apply Xaf
   exact hr0
  case hd=>rfl
  case hr=>simp only [I56,Xc6,Xbc,h2,h3]; rfl
  case hz=>exact Xha hs0 rfl rfl
 rw [k0] at hc0
 simp only [if_true] at hc0
 obtain ⟨rfl,l0⟩:=hc0
 have hvM:RvC M0 v l:=by
  rcases hv with ⟨q,st,ty,h1,h2⟩ | h
  ·exact .inl ⟨q,st,ty,h1,by rw [hs0.get (List.getElem?_eq_some_iff.1 h2).1]; exact h2⟩
  ·exact .inr h
 obtain ⟨⟨o1,⟨n1,t1,d1⟩,M1⟩,hr1,⟨hs1,e1,e2,hc1⟩,hm1⟩:=Xo3 P N n l (by omega) hl M0 v hvM N 0 (Nat.zero_le _) (by omega)
 rw [List.drop_zero] at hc1
 simp only at e1 e2 hm1
 subst e1 e2 hm1
 rw [Bool.true_and,show chkB l=l.all (fun s=>s.based == [] || (ixF s.based l 0).isSome) from rfl]
 cases k1:l.all (fun s=>s.based == [] || (ixF s.based l 0).isSome)
 ·rw [k1] at hc1
  simp only [Ze,if_false] at hc1
  obtain ⟨rfl,i,e,h2,h3,hne⟩:=hc1
  refine ⟨i,e,?_,by rw [Bool.false_and,Bool.not_false]; exact bne_iff_ne.2 hne⟩
  refine Xac (m:=143) (v:=.tup [.int .i64 i,.int .i64 e]) (a:=?ab) (H1:=?Hb) rfl t56 rfl ?hb ?hd ?hr ?hz
  case hb =>
   apply Xaa
   ·simp only [idx,I56,reduceIte,reduceEqDiff,reduceLT,reduceAdd,reduceMul,reduceLeDiff,ZS]; rfl
   apply Xaa
   ·apply Xaa
    ·simp only [reduceIte,reduceEqDiff,reduceLT,reduceAdd,reduceMul,reduceLeDiff,ZS]; rfl
    apply Xab
    apply Xaf
    exact hr0
   apply Xau
   apply Xaa
   ·simp only [reduceIte,reduceEqDiff,reduceLT,reduceAdd,reduceMul,reduceLeDiff,ZS]; rfl
   apply Xam
   apply Xaf
   simp only [AAct.keepT,Zv,Zz,Xad,reduceIte,reduceEqDiff,l0]
   exact hr1
  case hd=>rfl
  case hr=>simp only [I56,Xc6,Xbc,h2,h3]; rfl
  case hz=>exact Xha hs0 rfl rfl
 rw [k1] at hc1
 simp only [if_true] at hc1
 obtain ⟨rfl,m0⟩:=hc1
 have hB:∀ k,k<l.length→((l.getD k default).based == [])=false→(ixF (l.getD k default).based l 0).isSome=true:=fun k hk h=>by
  have hm:l.getD k default ∈ l:=by
   rw [List.getD_eq_getElem?_getD,List.getElem?_eq_getElem hk]
   exact List.getElem_mem hk
  have:=List.all_eq_true.1 k1 _ hm
  rw [h,Bool.false_or] at this
  exact this
 obtain ⟨o2,t2,hr2,hc2⟩:=Xpe P N n l hN hl hB M1 v hvM N 0 (Nat.zero_le _) (by omega)
 rw [Nat.sub_zero,← List.range_eq_range'] at hc2
 rw [Bool.true_and,show chkR l=(List.range l.length).all (fun i=>wkR l i (l.length+2) i) from rfl]
 cases k2:(List.range l.length).all (fun i=>wkR l i (l.length+2) i)
 ·rw [k2] at hc2
  simp only [Ze,if_false] at hc2
  obtain ⟨rfl,i,h2,h3⟩:=hc2
  refine ⟨i,16,?_,rfl⟩
  refine Xac (m:=143) (v:=.tup [.int .i64 i,.int .i64 16]) (a:=?ac) (H1:=?Hc) rfl t56 rfl ?hb ?hd ?hr ?hz
  case hb =>
   apply Xaa
   ·simp only [idx,I56,reduceIte,reduceEqDiff,reduceLT,reduceAdd,reduceMul,reduceLeDiff,ZS]; rfl
   apply Xaa
   ·apply Xaa
    ·simp only [reduceIte,reduceEqDiff,reduceLT,reduceAdd,reduceMul,reduceLeDiff,ZS]; rfl
    apply Xab
    apply Xaf
    exact hr0
   apply Xaa
   ·apply Xaa
    ·simp only [reduceIte,reduceEqDiff,reduceLT,reduceAdd,reduceMul,reduceLeDiff,ZS]; rfl
    apply Xab
    apply Xaf
    simp only [AAct.keepT,Zv,Zz,Xad,reduceIte,reduceEqDiff,l0]
    exact hr1
   apply Xau
   apply Xaa
   ·simp only [reduceIte,reduceEqDiff,reduceLT,reduceAdd,reduceMul,reduceLeDiff,ZS]; rfl
   apply Xam
   apply Xaf
   simp only [AAct.keepT,Zv,Zz,Xad,reduceIte,reduceEqDiff,m0]
   exact hr2
  case hd=>rfl
  case hr=>simp only [I56,Xc6,Xbc,h2,h3]; rfl
  case hz=>exact Xha hs0 rfl rfl
 rw [k2] at hc2
 simp only [if_true] at hc2
 subst hc2
 refine ⟨-1,0,?_,rfl⟩
 refine Xac (m:=143) (v:=.tup [.int .i64 (-1),.int .i64 0]) (a:=?ad) (H1:=?Hd) rfl t56 rfl ?hb ?hd ?hr ?hz
 case hb =>
  apply Xaa
  ·simp only [idx,I56,reduceIte,reduceEqDiff,reduceLT,reduceAdd,reduceMul,reduceLeDiff,ZS]; rfl
  apply Xaa
  ·apply Xaa
   ·simp only [reduceIte,reduceEqDiff,reduceLT,reduceAdd,reduceMul,reduceLeDiff,ZS]; rfl
   apply Xab
   apply Xaf
   exact hr0
  apply Xaa
  ·apply Xaa
   ·simp only [reduceIte,reduceEqDiff,reduceLT,reduceAdd,reduceMul,reduceLeDiff,ZS]; rfl
   apply Xab
   apply Xaf
   simp only [AAct.keepT,Zv,Zz,Xad,reduceIte,reduceEqDiff,l0]
   exact hr1
  apply Xaa
  ·apply Xaa
   ·simp only [reduceIte,reduceEqDiff,reduceLT,reduceAdd,reduceMul,reduceLeDiff,ZS]; rfl
   apply Xab
   apply Xaf
   simp only [AAct.keepT,Zv,Zz,Xad,reduceIte,reduceEqDiff,m0]
   exact hr2
  simp only [reduceIte,reduceEqDiff,reduceLT,reduceAdd,reduceMul,reduceLeDiff,ZS]; rfl
 case hd=>rfl
 case hr=>rfl
 case hz=>exact Xha hs0 rfl rfl
theorem st_cell2 {cs:List AV} {o:Nat} {s:St} {r:List AV} (h:cs.drop o=stC s++r):(cs.drop (o+3)).take 1=[.int .i64 s.emph]∧(cs.drop (o+4)).take 1=[.int .i64 s.bold]:=by
 refine ⟨?_,?_⟩
 ·rw [← List.drop_drop,h]; rfl
 ·rw [← List.drop_drop,h]; rfl
noncomputable def Xr3:IC:=(Xtx.c.loops).getD 0 .bad
theorem Xou (P:Program) (N n:Nat) (l:List St) (hN:l.length<N) (hl:l.length≤4611686018427387904) (hB:Xne l) (H:Mem) (v:AV) (hv:RvC H v l):∀ (fuel m k:Nat) (e b:Int),m≤fuel→k<l.length→orb (Xc9 l) k m=none →
  ∃ t,Xa6 (fun a H=>evI P cfg (Xaw P cfg T N (n+1)) N Xr3 a H) (some [0,8,9,10]) fuel ⟨58,[(0,v),(8,.int .i64 k),(9,.int .i64 e),(10,.int .i64 b)],[]⟩ H=some (.ret,⟨58,t,[]⟩,H)∧Xad t 6=.int .i64 (sayR l m k e b).1∧Xad t 7=.int .i64 (sayR l m k e b).2
 | 0,m,k,e,b,hm,_,ho=>by
  have:m=0:=by omega
  subst this
  cases ho
 | fuel+1,0,k,e,b,hm,hk,ho=>by cases ho
 | fuel+1,m+1,k,e,b,hm,hk,ho=>by
  obtain ⟨r,hc⟩:=Xcr hk
  obtain ⟨g1,g2,g3,g4,g5⟩:=Xcf hc
  obtain ⟨g6,g7⟩:=st_cell2 hc
  obtain ⟨⟨z1,z2,z3⟩,⟨z4,z5,z6⟩,⟨z7,z8,z9⟩,⟨y1,y2,y3⟩,y4,y5,y6⟩:=Xrv hc
  have e2:k*6+2≤(Xdb l).length:=by omega
  have e4:k*6+4≤(Xdb l).length:=by omega
  have e5:k*6+5≤(Xdb l).length:=by omega
  have hn:=Xan k .i64
  have hfd:=Xhh P N (n+1) (by omega) (l.getD k default).based H v l hN hl hv
  have hBk:=hB k hk
  have hu:sayR l (m+1) k e b=if ((l.getD k default).based == [])=true then (if (e == 0)=true then (l.getD k default).emph else e,if (b == 0)=true then (l.getD k default).bold else b) else match Xc9 l k with
   | none=>(if (e == 0)=true then (l.getD k default).emph else e,if (b == 0)=true then (l.getD k default).bold else b)
   | some j=>sayR l m j (if (e == 0)=true then (l.getD k default).emph else e) (if (b == 0)=true then (l.getD k default).bold else b):=rfl
  rw [hu]
  have ih:=Xou P N n l hN hl hB H v hv fuel m
  have hs1:Xc9 l k=if ((l.getD k default).based == [])=true then none else ixF (l.getD k default).based l 0:=rfl
  obtain ⟨x,hx⟩ : ∃ x,x=l.getD k default:=⟨_,rfl⟩
  simp only [← hx] at g3 g4 g5 g6 g7 z6 z9 y3 y6 hfd hBk hs1 ⊢
  have nx:∀ j,Xc9 l k=some j→orb (Xc9 l) j m=none∧j<l.length:=fun j hj=>by
   have:=Xi3 (f:=Xc9 l) (k:=k) (a:=1) (i:=j) hj m
   exact ⟨by rw [← this,show 1+m=m+1 by omega]; exact ho,Xvx hj⟩
  cases b0:(x.based == [])
  ·simp only [Ze,if_false]
   rw [b0] at hs1
   simp only [Ze,if_false] at hs1
   rw [hs1]
   cases h2:ixF x.based l 0 with
   | none =>
    have:=hBk b0
    rw [h2] at this
    cases this
   | some j =>
    rw [h2] at hfd hs1
    obtain ⟨n1,n2⟩:=nx j hs1
    have hix:ixZ (some j)=(j:Int):=rfl
    dsimp only
    obtain ⟨t,ht,hQ⟩:=ih j (if (e == 0)=true then x.emph else e) (if (b == 0)=true then x.bold else b) (by omega) n2 n1
    refine ⟨t,?_,hQ⟩
    clear ih hQ
    rcases hv with ⟨q,st,ty,rfl,hq⟩ | rfl
    ·cases b1:(e == 0) <;> cases b2:(b == 0) <;> simp only [b1,b2,Ze,if_false,if_true] at ht
     all_goals
      refine Xap (by simp only [Xr3,Xtx,IC.loops,hk,hn,hq,g1,g4,g6,g7,e2,e4,e5,hfd,hix,b0,b1,b2,reduceIte,reduceEqDiff,reduceLT,reduceAdd,reduceMul,reduceLeDiff,ZS]; rfl) ?_
      rw [Xbx]
      exact ht
    ·cases b1:(e == 0) <;> cases b2:(b == 0) <;> simp only [b1,b2,Ze,if_false,if_true] at ht
     all_goals
      refine Xap (by simp only [Xr3,Xtx,IC.loops,hk,hn,g1,z1,z2,z3,z4,z5,z6,y1,y2,y3,y4,y5,y6,hfd,hix,b0,b1,b2,reduceIte,reduceEqDiff,reduceLT,reduceAdd,reduceMul,reduceLeDiff,ZS]; rfl) ?_
      rw [Xbx]
      exact ht
  ·simp only [if_true]
   rcases hv with ⟨q,st,ty,rfl,hq⟩ | rfl
   ·cases b1:(e == 0) <;> cases b2:(b == 0) <;> simp only [Ze,if_false,if_true]
    all_goals
     refine ⟨_,Xah (by simp only [Xr3,Xtx,IC.loops,hk,hn,hq,g1,g4,g6,g7,e2,e4,e5,b0,b1,b2,reduceIte,reduceEqDiff,reduceLT,reduceAdd,reduceMul,reduceLeDiff,ZS]; rfl),rfl,rfl⟩
   ·cases b1:(e == 0) <;> cases b2:(b == 0) <;> simp only [Ze,if_false,if_true]
    all_goals
     refine ⟨_,Xah (by simp only [Xr3,Xtx,IC.loops,hk,hn,g1,z1,z2,z3,z4,z5,z6,y1,y2,y3,y4,y5,y6,b0,b1,b2,reduceIte,reduceEqDiff,reduceLT,reduceAdd,reduceMul,reduceLeDiff,ZS]; rfl),rfl,rfl⟩
theorem Xw5 (P:Program) (N d:Nat) (hd:2≤d) (l:List St) (hN:l.length<N) (hl:l.length≤4611686018427387904) (hB:Xne l) (hR:chkR l=true) (id:List UInt8) (run:Bool) (v:AV) (H:Mem) (hv:RvN H v l) :
  Xaw P cfg T N d 149 [v,.str id,.bool run] H=some (.ret (.tup [.int .i64 (Xhc l id run St.emph),.int .i64 (Xhc l id run St.bold)]),H):=by
 obtain ⟨n,rfl⟩ : ∃ k,d=k+2:=⟨d-2,by omega⟩
 have q1:Xaw P cfg T N (n+1) 60 [v,.str id] H=some (.ret (.int .i64 (ixZ (ixF id l 0))),H):=by
  rcases hv with ⟨rfl,rfl⟩ | hv
  ·obtain ⟨M,rfl⟩ : ∃ M,N=M+1:=⟨N-1,by omega⟩
   refine Xac (m:=20) (v:=.int .i64 (-1)) (a:=?a0) (H1:=H) rfl t60 rfl ?hb ?hd ?hr ?hz
   case hb =>
    apply Xaa
    ·simp only [idx,I60,reduceIte,reduceEqDiff,reduceLT,reduceAdd,reduceMul,reduceLeDiff,ZS]; rfl
    apply Xaa
    ·apply Xaa
     ·simp only [reduceIte,reduceEqDiff,reduceLT,reduceAdd,reduceMul,reduceLeDiff,ZS]; rfl
     apply Xab
     apply Xaf
     exact Xae (by simp only [AAct.keepT,Int.lt_irrefl,reduceIte,reduceEqDiff,reduceLT,reduceAdd,reduceMul,reduceLeDiff,ZS]; rfl)
    simp only [reduceIte,reduceEqDiff,reduceLT,reduceAdd,reduceMul,reduceLeDiff,ZS]; rfl
   case hd=>rfl
   case hr=>rfl
   case hz=>exact Xaq rfl rfl
  ·exact Xhh P N (n+1) (by omega) id H v l hN hl hv
 unfold Xhc
 cases b1:(id == [])
 ·simp only [Ze,if_false]
  cases hx:ixF id l 0 with
  | none =>
   rw [hx] at q1
   have c1:decide (ixZ none<0)=true:=rfl
   refine Xac (m:=58) (v:=.tup [.int .i64 0,.int .i64 0]) (a:=?aa) (H1:=H) rfl t149 rfl ?hb ?hd ?hr ?hz
   case hb=>simp only [idx,Xtx,q1,b1,c1,reduceIte,reduceEqDiff,reduceLT,reduceAdd,reduceMul,reduceLeDiff,ZS]; rfl
   case hd=>rfl
   case hr=>rfl
   case hz=>exact Xaq rfl rfl
  | some j =>
   rw [hx] at q1
   obtain ⟨_,hjl⟩:=Xih _ l 0 j hx
   rcases hv with ⟨rfl,rfl⟩ | hv
   ·simp [ixF] at hx
   have c1:decide ((j:Int)<0)=false:=decide_eq_false (by omega)
   have hix:ixZ (some j)=(j:Int):=rfl
   have hjl:j<l.length:=by omega
   obtain ⟨r,hc⟩:=Xcr hjl
   obtain ⟨g1,g2,g3,g4,g5⟩:=Xcf hc
   obtain ⟨⟨z1,z2,z3⟩,⟨z4,z5,z6⟩,⟨z7,z8,z9⟩,_⟩:=Xrv hc
   have e3:j*6+3≤(Xdb l).length:=by omega
   have hn:=Xan j .i64
   rw [hix] at q1
   dsimp only
   cases b2:((l.getD j default).run == run)
   ·simp only [Ze,if_false]
    rcases hv with ⟨q,st,ty,rfl,hq⟩ | rfl
    ·skip
     refine Xac (m:=58) (v:=.tup [.int .i64 0,.int .i64 0]) (a:=?ab) (H1:=H) rfl t149 rfl ?hb ?hd ?hr ?hz
     case hb =>
      simp only [idx,Xtx,q1,b1,b2,c1,hn,hjl,hq,g1,g5,e3,reduceIte,reduceEqDiff,reduceLT,reduceAdd,reduceMul,reduceLeDiff,ZS]; rfl
     case hd=>rfl
     case hr=>rfl
     case hz=>exact Xaq rfl rfl
    ·skip
     refine Xac (m:=58) (v:=.tup [.int .i64 0,.int .i64 0]) (a:=?ab2) (H1:=H) rfl t149 rfl ?hb2 ?hd2 ?hr2 ?hz2
     case hb2 =>
      simp only [idx,Xtx,q1,b1,b2,c1,hn,hjl,g1,z1,z2,z3,z7,z8,z9,reduceIte,reduceEqDiff,reduceLT,reduceAdd,reduceMul,reduceLeDiff,ZS]; rfl
     case hd2=>rfl
     case hr2=>rfl
     case hz2=>exact Xaq rfl rfl
   ·simp only [if_true]
    obtain ⟨t,ht,h6,h7⟩:=Xou P N n l hN hl hB H v hv N l.length j 0 0 (by omega) hjl (Xn8 hR hjl)
    rw [sayR_eq l l.length j 0 0 (Xn8 hR hjl)] at h6 h7
    simp only [ZA,if_true] at h6 h7
    rcases hv with ⟨q,st,ty,rfl,hq⟩ | rfl
    ·skip
     refine Xac (m:=58) (v:=.tup [.int .i64 (Xwc l St.emph l.length j),.int .i64 (Xwc l St.bold l.length j)]) (a:=?ac) (H1:=H) rfl t149 rfl ?hb ?hd ?hr ?hz
     case hb =>
      apply Xaa
      ·simp only [idx,Xtx,reduceIte,reduceEqDiff,reduceLT,reduceAdd,reduceMul,reduceLeDiff,ZS]; rfl
      apply Xaa
      ·simp only [q1,reduceIte,reduceEqDiff,reduceLT,reduceAdd,reduceMul,reduceLeDiff,ZS]; rfl
      apply Xaa
      ·simp only [b1,b2,c1,hn,hjl,hq,g1,g5,e3,reduceIte,reduceEqDiff,reduceLT,reduceAdd,reduceMul,reduceLeDiff,ZS]; rfl
      apply Xaa
      ·simp only [reduceIte,reduceEqDiff,reduceLT,reduceAdd,reduceMul,reduceLeDiff,ZS]; rfl
      apply Xam
      apply Xaf
      exact ht
     case hd=>rfl
     case hr=>simp only [Xtx,Xc6,Xbc,h6,h7]; rfl
     case hz=>exact Xaq rfl rfl
    ·skip
     refine Xac (m:=58) (v:=.tup [.int .i64 (Xwc l St.emph l.length j),.int .i64 (Xwc l St.bold l.length j)]) (a:=?ac2) (H1:=H) rfl t149 rfl ?hb2 ?hd2 ?hr2 ?hz2
     case hb2 =>
      apply Xaa
      ·simp only [idx,Xtx,reduceIte,reduceEqDiff,reduceLT,reduceAdd,reduceMul,reduceLeDiff,ZS]; rfl
      apply Xaa
      ·simp only [q1,reduceIte,reduceEqDiff,reduceLT,reduceAdd,reduceMul,reduceLeDiff,ZS]; rfl
      apply Xaa
      ·simp only [b1,b2,c1,hn,hjl,g1,z1,z2,z3,z7,z8,z9,reduceIte,reduceEqDiff,reduceLT,reduceAdd,reduceMul,reduceLeDiff,ZS]; rfl
      apply Xaa
      ·simp only [reduceIte,reduceEqDiff,reduceLT,reduceAdd,reduceMul,reduceLeDiff,ZS]; rfl
      apply Xam
      apply Xaf
      exact ht
     case hd2=>rfl
     case hr2=>simp only [Xtx,Xc6,Xbc,h6,h7]; rfl
     case hz2=>exact Xaq rfl rfl
 ·simp only [if_true]
  refine Xac (m:=58) (v:=.tup [.int .i64 0,.int .i64 0]) (a:=?ad) (H1:=H) rfl t149 rfl ?hb ?hd ?hr ?hz
  case hb=>simp only [idx,Xtx,q1,b1,reduceIte,reduceEqDiff,reduceLT,reduceAdd,reduceMul,reduceLeDiff,ZS]; rfl
  case hd=>rfl
  case hr=>rfl
  case hz=>exact Xaq rfl rfl
theorem on_eq (P:Program) (N d:Nat) (hd:1≤d) (o a b:Int) (H:Mem) :
  Xaw P cfg T N d 150 [.int .i64 o,.int .i64 a,.int .i64 b] H=some (.ret (.bool (o == 1 || (o == 0 && ((a == 1) != (b == 1))))),H):=by
 obtain ⟨n,rfl⟩ : ∃ k,d=k+1:=⟨d-1,by omega⟩
 cases b1:(o == 1)
 ·cases b2:(o == 0)
  ·refine Xac (m:=20) (v:=.bool false) (a:=?aa) (H1:=H) rfl t150 rfl ?hb ?hd ?hr ?hz
   case hb=>simp only [idx,I150,b1,b2,reduceIte,reduceEqDiff,reduceLT,reduceAdd,reduceMul,reduceLeDiff,ZS]; rfl
   case hd=>rfl
   case hr=>rfl
   case hz=>exact Xaq rfl rfl
  ·simp only [Bool.false_or,ZH,bne]
   refine Xac (m:=20) (v:=.bool (!((a == 1) == (b == 1)))) (a:=?ab) (H1:=H) rfl t150 rfl ?hb ?hd ?hr ?hz
   case hb=>simp only [idx,I150,b1,b2,reduceIte,reduceEqDiff,reduceLT,reduceAdd,reduceMul,reduceLeDiff,ZS]; rfl
   case hd=>rfl
   case hr=>rfl
   case hz=>exact Xaq rfl rfl
 ·refine Xac (m:=20) (v:=.bool true) (a:=?ac) (H1:=H) rfl t150 rfl ?hb ?hd ?hr ?hz
  case hb=>simp only [idx,I150,b1,reduceIte,reduceEqDiff,reduceLT,reduceAdd,reduceMul,reduceLeDiff,ZS]; rfl
  case hd=>rfl
  case hr=>rfl
  case hz=>exact Xaq rfl rfl
theorem rrun_eq (P:Program) (N d:Nat) (hd:3≤d) (l:List St) (hN:l.length+3<N) (hl:l.length≤4611686018427387904) (para own:List UInt8) (e b:Int) (v:AV) (H:Mem) (hv:RvN H v l) :
  Xaw P cfg T N d 131 [v,.str para,.str own,.int .i64 e,.int .i64 b] H=some (.ret (.int .i64 (Xt8 l para own e b)),H):=by
 obtain ⟨n,rfl⟩ : ∃ k,d=k+3:=⟨d-3,by omega⟩
 obtain ⟨i,er,qc,hne⟩:=rcheck_eq P N (n+2) (by omega) l hN hl v H hv
 unfold Xt8
 rw [ok_same]
 cases ok:okR l
 ·rw [ok,Bool.not_false] at hne
  simp only [Ze,if_false]
  refine Xac (m:=50) (v:=.int .i64 0) (a:=?aa) (H1:=H) rfl t131 rfl ?hb ?hd ?hr ?hz
  case hb=>simp only [idx,I131,qc,hne,reduceIte,reduceEqDiff,reduceLT,reduceAdd,reduceMul,reduceLeDiff,ZS]; rfl
  case hd=>rfl
  case hr=>rfl
  case hz=>exact Xaq rfl rfl
 ·rw [ok,Bool.not_true] at hne
  unfold okR at ok
  simp only [Bool.and_eq_true] at ok
  have hB:=Xoj ok.2.1
  have q1:=Xw5 P N (n+2) (by omega) l (by omega) hl hB ok.2.2 para false v H hv
  have q2:=Xw5 P N (n+2) (by omega) l (by omega) hl hB ok.2.2 own true v H hv
  have o1:=on_eq P N (n+2) (by omega) e (Xhc l para false St.emph) (Xhc l own true St.emph) H
  have o2:=on_eq P N (n+2) (by omega) b (Xhc l para false St.bold) (Xhc l own true St.bold) H
  simp only [if_true]
  rw [show (e == 1 || (e == 0 && ((Xhc l para false St.emph == 1) != (Xhc l own true St.emph == 1))))=togB l para own e St.emph from rfl] at o1
  rw [show (b == 1 || (b == 0 && ((Xhc l para false St.bold == 1) != (Xhc l own true St.bold == 1))))=togB l para own b St.bold from rfl] at o2
  have w1:IntKind.wrap .i64 (0+1)=1:=by decide
  have w2:IntKind.wrap .i64 (0+2)=2:=by decide
  have w3:IntKind.wrap .i64 (1+2)=3:=by decide
  cases b1:togB l para own e St.emph <;> cases b2:togB l para own b St.bold <;> rw [b1] at o1 <;> rw [b2] at o2 <;> simp only [Ze,if_false,if_true]
  ·refine Xac (m:=50) (v:=.int .i64 0) (a:=?ab) (H1:=H) rfl t131 rfl ?hb ?hd ?hr ?hz
   case hb=>simp only [idx,I131,qc,hne,q1,q2,o1,o2,w1,w2,w3,reduceIte,reduceEqDiff,reduceLT,reduceAdd,reduceMul,reduceLeDiff,ZS]; rfl
   case hd=>rfl
   case hr=>rfl
   case hz=>exact Xaq rfl rfl
  ·refine Xac (m:=50) (v:=.int .i64 2) (a:=?ac) (H1:=H) rfl t131 rfl ?hb ?hd ?hr ?hz
   case hb=>simp only [idx,I131,qc,hne,q1,q2,o1,o2,w1,w2,w3,reduceIte,reduceEqDiff,reduceLT,reduceAdd,reduceMul,reduceLeDiff,ZS]; rfl
   case hd=>rfl
   case hr=>rfl
   case hz=>exact Xaq rfl rfl
  ·refine Xac (m:=50) (v:=.int .i64 1) (a:=?ad) (H1:=H) rfl t131 rfl ?hb ?hd ?hr ?hz
   case hb=>simp only [idx,I131,qc,hne,q1,q2,o1,o2,w1,w2,w3,reduceIte,reduceEqDiff,reduceLT,reduceAdd,reduceMul,reduceLeDiff,ZS]; rfl
   case hd=>rfl
   case hr=>rfl
   case hz=>exact Xaq rfl rfl
  ·refine Xac (m:=50) (v:=.int .i64 3) (a:=?ae) (H1:=H) rfl t131 rfl ?hb ?hd ?hr ?hz
   case hb=>simp only [idx,I131,qc,hne,q1,q2,o1,o2,w1,w2,w3,reduceIte,reduceEqDiff,reduceLT,reduceAdd,reduceMul,reduceLeDiff,ZS]; rfl
   case hd=>rfl
   case hr=>rfl
   case hz=>exact Xaq rfl rfl
end Go.Proofs.YtmhhddhbdbcmbaaGreatDoor.Ev
