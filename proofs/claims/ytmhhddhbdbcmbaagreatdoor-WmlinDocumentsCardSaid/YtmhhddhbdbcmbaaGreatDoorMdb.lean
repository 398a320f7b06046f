/- Parts of one proof. -/
import Derived.Test.YtmhhddhbdbcmbaaGreatDoorMda
set_option linter.all false
namespace Go.Proofs.YtmhhddhbdbcmbaaGreatDoor.Ev
open Nat (reduceEqDiff reduceLT reduceAdd reduceMul reduceLeDiff reduceSub)
inductive El where
 | mk (sp nm tx:List UInt8) (ats:List (List UInt8 × List UInt8 × List UInt8)) (kids:List El)
def atC (a:List UInt8 × List UInt8 × List UInt8):List AV:=[.str a.1,.str a.2.1,.str a.2.2]
mutual
def eC:El→List AV
 | .mk sp nm tx ats kids=>[.str sp,.str nm,.str tx,.lst ats.length (ats.flatMap atC),.lst kids.length (kC kids)]
def kC:List El→List AV
 | []=>[]
 | k::ks=>eC k++kC ks
end
def El.sp:El→List UInt8 | .mk sp _ _ _ _=>sp
def El.nm:El→List UInt8 | .mk _ nm _ _ _=>nm
def El.tx:El→List UInt8 | .mk _ _ tx _ _=>tx
def El.ats:El→List (List UInt8 × List UInt8 × List UInt8) | .mk _ _ _ a _=>a
def El.kids:El→List El | .mk _ _ _ _ ks=>ks
theorem Xdo (x:El):eC x=[.str x.sp,.str x.nm,.str x.tx,.lst x.ats.length (x.ats.flatMap atC),.lst x.kids.length (kC x.kids)]:=by cases x; rfl
theorem Xvj (e:El):(eC e).length=5:=by rw [Xdo]; rfl
theorem Xen:∀ l:List El,(kC l).length=l.length*5
 | []=>rfl
 | k::ks=>by simp [kC,Xvj,Xen ks]; omega
theorem Xd1:∀ (l:List El) (k:Nat),(kC l).drop (k*5)=kC (l.drop k)
 | l,0=>by simp
 | [],k+1=>by simp [kC]
 | x::l,k+1=>by
  rw [kC,show (k+1)*5=5+k*5 by omega,← List.drop_drop,List.drop_left' (Xvj x),Xd1 l k]; rfl
theorem atC_low (a:List UInt8 × List UInt8 × List UInt8) (n:Nat):lowL n (atC a)=true:=rfl
theorem Xa8 (n:Nat):∀ l:List (List UInt8 × List UInt8 × List UInt8),lowL n (l.flatMap atC)=true
 | []=>rfl
 | a::l=>by simp [List.flatMap_cons,Xer,atC_low,Xa8 n l]
theorem Xk3:∀ l:List (List UInt8 × List UInt8 × List UInt8),(l.flatMap atC).length=l.length*3
 | []=>rfl
 | a::l=>by rw [List.flatMap_cons,List.length_append,Xk3 l]; simp [atC]; omega
theorem Xi7:∀ (l:List (List UInt8 × List UInt8 × List UInt8)) (k:Nat),(l.flatMap atC).drop (k*3)=(l.drop k).flatMap atC
 | l,0=>by simp
 | [],k+1=>by simp
 | x::l,k+1=>by
  rw [List.flatMap_cons,show (k+1)*3=3+k*3 by omega,← List.drop_drop,List.drop_left' (show (atC x).length=3 from rfl),Xi7 l k]; rfl
mutual
theorem Xay (n:Nat):∀ e:El,lowL n (eC e)=true
 | .mk sp nm tx ats kids=>by simp [eC,lowL,low,Xa8,kC_low n kids]
theorem kC_low (n:Nat):∀ l:List El,lowL n (kC l)=true
 | []=>rfl
 | k::ks=>by simp [kC,Xer,Xay n k,kC_low n ks]
end
def zEl:El:=.mk [] [] [] [] []
theorem eC_take (e:El):(eC e).take 5=eC e:=by rw [Xdo]; rfl
theorem eC_one (e:El):(eC e).all AV.one=true:=by rw [Xdo]; rfl
theorem eC_0 (e:El):(eC e).take 1=[.str e.sp]:=by rw [Xdo]; rfl
theorem eC_1 (e:El):((eC e).drop 1).take 1=[.str e.nm]:=by rw [Xdo]; rfl
theorem eC_2 (e:El):((eC e).drop 2).take 1=[.str e.tx]:=by rw [Xdo]; rfl
theorem eC_3 (e:El):((eC e).drop 3).take 1=[.lst e.ats.length (e.ats.flatMap atC)]:=by rw [Xdo]; rfl
theorem eC_4 (e:El):((eC e).drop 4).take 1=[.lst e.kids.length (kC e.kids)]:=by rw [Xdo]; rfl
theorem eCr (e:El) (r:List AV):(eC e++r).take 5=eC e:=by rw [Xdo]; rfl
theorem eCr_0 (e:El) (r:List AV):(eC e++r).take 1=[.str e.sp]:=by rw [Xdo]; rfl
theorem eCr_1 (e:El) (r:List AV):((eC e++r).drop 1).take 1=[.str e.nm]:=by rw [Xdo]; rfl
theorem eCr_2 (e:El) (r:List AV):((eC e++r).drop 2).take 1=[.str e.tx]:=by rw [Xdo]; rfl
theorem eCr_3 (e:El) (r:List AV):((eC e++r).drop 3).take 1=[.lst e.ats.length (e.ats.flatMap atC)]:=by rw [Xdo]; rfl
theorem eCr_4 (e:El) (r:List AV):((eC e++r).drop 4).take 1=[.lst e.kids.length (kC e.kids)]:=by rw [Xdo]; rfl
theorem atr (a:List UInt8 × List UInt8 × List UInt8):atC a=[.str a.1,.str a.2.1,.str a.2.2]:=rfl
def ZT:=And.intro @Xvj (And.intro @eC_take (And.intro @eC_one (And.intro @eC_0 (And.intro @eC_1 (And.intro @eC_2 (And.intro @eC_3 (And.intro @eC_4 (And.intro @eCr (And.intro @eCr_0 (And.intro @eCr_1 (And.intro @eCr_2 (And.intro @eCr_3 (And.intro @eCr_4 (And.intro @List.length_drop.{0} (And.intro @ZR (@atr))))))))))))))))
theorem Xbb {α:Type} {all:List α} {k:Nat} (h:k<all.length):∃ x,all.drop k=x::all.drop (k+1):=⟨all[k],by simp⟩
theorem Xan (k:Nat) (t:IntKind):Xfb (.int t (k:Int))=some k:=by simp [Xfb]
theorem Xav {k n:Nat} (h:k<n) (hn:n≤9223372036854775807):IntKind.wrap .i64 ((k:Int)+1)=((k+1:Nat):Int):=by rw [Xbs] <;> omega
def Xbg (s n:List UInt8):List El→Option El
 | []=>none
 | k::ks=>if k.sp == s && k.nm == n then some k else Xbg s n ks
open Go.Proofs.YtmhhddhbdbcmbaaGreatDoor.Ic
set_option maxRecDepth 100000
noncomputable def Xhz:IC:=(I26.c.loops).getD 0 .bad
theorem Xre (P:Program) (F:Xc5) (N:Nat) (s n:List UInt8) (all:List El) (hall:all.length≤9223372036854775807) (H:Mem) (R0:Blk):∀ (fuel k:Nat),k≤all.length→all.length-k<fuel →
  ∃ t,Xa6 (fun a H=>evI P cfg F N Xhz a H) (some [1,2,6,11,12,13]) fuel ⟨30,[(1,.str s),(2,.str n),(6,.ptr (H.length+1) 0 0),(11,.lst all.length (kC all)),(12,.int .i64 all.length),(13,.int .i64 k)],[]⟩ (H++[R0,.row [.str [],.str [],.str [],.nilS,.nilS] 0 (25+1)]) =
   (match Xbg s n (all.drop k) with
   | some x=>some (.ret,⟨30,(7,.bool true)::t,[]⟩,H++[R0,.row (eC x) 0 (25+1),.row (eC x) 0 (25+1)])
   | none=>some (.exit 0,⟨30,t,[]⟩,H++[R0,.row [.str [],.str [],.str [],.nilS,.nilS] 0 (25+1)]))∧Xad t 6=.ptr (H.length+1) 0 0
 | 0,k,_,h=>by omega
 | fuel+1,k,hk,hf=>by
  rcases Nat.lt_or_ge k all.length with hlt | hge
  ·obtain ⟨x,hx⟩:=Xbb hlt
   have hget:(kC all).drop (k*5)=eC x++kC (all.drop (k+1)):=by rw [Xd1,hx]; rfl
   have hlen:k*5+5≤(kC all).length:=by rw [Xen]; omega
   have hi:(k:Int)<(all.length:Int):=by omega
   have hw:=Xav hlt hall
   have hn:=Xan k .i64
   obtain ⟨t,ht,hl⟩:=Xre P F N s n all hall H R0 fuel (k+1) (by omega) (by omega)
   rw [hx]
   cases h1:(x.sp == s) <;> cases h2:(x.nm == n)
   ·refine ⟨t,?_,hl⟩
    simp only [Xbg,h1,h2,ZJ,Ze,if_false]
    refine Xap (by simp only [Xhz,I26,IC.loops,hi,hlt,hlen,hget,hn,hw,h1,h2,Xdo,reduceIte,reduceEqDiff,reduceLT,reduceAdd,reduceMul,reduceLeDiff,ZS]; rfl) ?_
    simp only [kC_low,reduceIte,reduceEqDiff,reduceAdd,reduceLT,ZV]
    exact ht
   ·refine ⟨t,?_,hl⟩
    simp only [Xbg,h1,h2,ZI,Ze,if_false]
    refine Xap (by simp only [Xhz,I26,IC.loops,hi,hlt,hlen,hget,hn,hw,h1,h2,Xdo,reduceIte,reduceEqDiff,reduceLT,reduceAdd,reduceMul,reduceLeDiff,ZS]; rfl) ?_
    simp only [kC_low,reduceIte,reduceEqDiff,reduceAdd,reduceLT,ZV]
    exact ht
   ·refine ⟨t,?_,hl⟩
    simp only [Xbg,h1,h2,ZD,Ze,if_false]
    refine Xap (by simp only [Xhz,I26,IC.loops,hi,hlt,hlen,hget,hn,hw,h1,h2,Xdo,reduceIte,reduceEqDiff,reduceLT,reduceAdd,reduceMul,reduceLeDiff,ZS]; rfl) ?_
    simp only [kC_low,reduceIte,reduceEqDiff,reduceAdd,reduceLT,ZV]
    exact ht
   ·simp only [Xbg,h1,h2,ZJ,if_true]
    refine ⟨_,Xah (by simp only [Xhz,I26,IC.loops,hi,hlt,hlen,hget,hn,hw,h1,h2,Xdo,reduceIte,reduceEqDiff,reduceLT,reduceAdd,reduceMul,reduceLeDiff,ZS]; rfl),?_⟩
    rfl
  ·have hk':k=all.length:=by omega
   subst hk'
   simp only [List.drop_length,Xbg]
   exact ⟨_,Xae (by simp only [Xhz,I26,IC.loops,Int.lt_irrefl,reduceIte,reduceEqDiff,reduceLT,reduceAdd,reduceMul,reduceLeDiff,ZS]; rfl),rfl⟩
theorem Xua (P:Program) (N n:Nat) (hN:9223372036854775808≤N) (s nm:List UInt8) (e:El) (he:e.kids.length≤9223372036854775807) (H:Mem) :
  Xaw P cfg T N (n+1) 26 [.agg (eC e),.str s,.str nm] H=some (.ret (.tup [.agg (eC ((Xbg s nm e.kids).getD zEl)),.bool (Xbg s nm e.kids).isSome]),H):=by
 obtain ⟨t,ht,h6⟩:=Xre P (Xaw P cfg T N n) N s nm e.kids he H (.row (eC e) 0 (25+1)) N 0 (Nat.zero_le _) (by omega)
 rw [List.drop_zero] at ht
 cases hf:Xbg s nm e.kids with
 | some x =>
  rw [hf,Xdo e] at ht
  simp only [Option.getD_some,Option.isSome_some]
  refine Xac (m:=30) (v:=.tup [.agg (eC x),.bool true]) (a:=?a) (H1:=?H1) rfl t26 rfl ?hb ?hd ?hr ?hz
  case hb =>
   apply Xaa
   ·simp only [idx,Xdo,I26,reduceIte,reduceEqDiff,reduceLT,reduceAdd,reduceMul,reduceLeDiff,ZS]; rfl
   apply Xau
   apply Xaa
   ·simp only [reduceIte,reduceEqDiff,reduceLT,reduceAdd,reduceMul,reduceLeDiff,ZS]; rfl
   apply Xam
   apply Xaf
   exact ht
  case hd=>rfl
  case hr=>simp only [I26,Xc6,Xbc,h6,Xdo,reduceIte,reduceEqDiff,reduceLT,reduceAdd,reduceMul,reduceLeDiff,ZS]
  case hz=>simp only [Xao,Xdo,cfg,keep,Ze,if_false,frz,Xel,Xay,kC_low,Xa8,Zh,reduceIte,reduceEqDiff,reduceAdd,reduceLT,ZV]
 | none =>
  rw [hf,Xdo e] at ht
  simp only [Option.getD_none,Option.isSome_none]
  refine Xac (m:=30) (v:=.tup [.agg [.str [],.str [],.str [],.nilS,.nilS],.bool false]) (a:=?a2) (H1:=?H2) rfl t26 rfl ?hb ?hd ?hr ?hz
  case hb =>
   apply Xaa
   ·simp only [idx,Xdo,I26,reduceIte,reduceEqDiff,reduceLT,reduceAdd,reduceMul,reduceLeDiff,ZS]; rfl
   apply Xaa
   ·apply Xaa
    ·simp only [reduceIte,reduceEqDiff,reduceLT,reduceAdd,reduceMul,reduceLeDiff,ZS]; rfl
    apply Xab
    apply Xaf
    exact ht
   apply Xaa
   ·simp only [h6,reduceIte,reduceEqDiff,reduceLT,reduceAdd,reduceMul,reduceLeDiff,ZS]; rfl
   rfl
  case hd=>rfl
  case hr=>simp only [I26,Xc6,Xbc,h6,reduceIte,reduceEqDiff,reduceLT,reduceAdd,reduceMul,reduceLeDiff,ZS]
  case hz =>
   simp only [Xao,cfg,keep,Ze,if_false,frz,Xel,Xay,kC_low,Xa8,Zh,reduceIte,reduceEqDiff,reduceAdd,reduceLT,ZV]
   rfl
noncomputable def Xkc:IC:=(I65.c.loops).getD 0 .bad
def Xba (s n:List UInt8):List (List UInt8 × List UInt8 × List UInt8)→Option (List UInt8)
 | []=>none
 | k::ks=>if k.1 == s && k.2.1 == n then some k.2.2 else Xba s n ks
theorem Xws (P:Program) (F:Xc5) (N:Nat) (s n:List UInt8) (all:List (List UInt8 × List UInt8 × List UInt8)) (hall:all.length≤9223372036854775807) (H:Mem) (R0:Blk):∀ (fuel k:Nat),k≤all.length→all.length-k<fuel →
  ∃ t M,Xa6 (fun a H=>evI P cfg F N Xkc a H) (some [1,2,11,12,13]) fuel ⟨30,[(1,.str s),(2,.str n),(11,.lst all.length (all.flatMap atC)),(12,.int .i64 all.length),(13,.int .i64 k)],[]⟩ (H++[R0]) =
   (match Xba s n (all.drop k) with
   | some x=>some (.ret,⟨30,(7,.bool true)::(6,.str x)::t,[]⟩,H++R0::M)
   | none=>some (.exit 0,⟨30,t,[]⟩,H++R0::M))
 | 0,k,_,h=>by omega
 | fuel+1,k,hk,hf=>by
  rcases Nat.lt_or_ge k all.length with hlt | hge
  ·obtain ⟨x,hx⟩:=Xbb hlt
   have hget:(all.flatMap atC).drop (k*3)=atC x++(all.drop (k+1)).flatMap atC:=by rw [Xi7,hx]; rfl
   have hlen:k*3+3≤(all.flatMap atC).length:=by rw [Xk3]; omega
   have hi:(k:Int)<(all.length:Int):=by omega
   have hw:=Xav hlt hall
   have hn:=Xan k .i64
   obtain ⟨t,M,ht⟩:=Xws P F N s n all hall H R0 fuel (k+1) (by omega) (by omega)
   rw [hx]
   cases h1:(x.1 == s) <;> cases h2:(x.2.1 == n)
   ·refine ⟨t,M,?_⟩
    simp only [Xba,h1,h2,ZJ,Ze,if_false]
    refine Xap (by simp only [Xkc,I65,IC.loops,hi,hlt,hlen,hget,hn,hw,h1,h2,reduceSub,reduceIte,reduceEqDiff,reduceLT,reduceAdd,reduceMul,reduceLeDiff,ZS,ZT]; rfl) ?_
    simp only [Xa8,reduceIte,reduceEqDiff,reduceAdd,reduceLT,ZV]
    exact ht
   ·refine ⟨t,M,?_⟩
    simp only [Xba,h1,h2,ZI,Ze,if_false]
    refine Xap (by simp only [Xkc,I65,IC.loops,hi,hlt,hlen,hget,hn,hw,h1,h2,reduceSub,reduceIte,reduceEqDiff,reduceLT,reduceAdd,reduceMul,reduceLeDiff,ZS,ZT]; rfl) ?_
    simp only [Xa8,reduceIte,reduceEqDiff,reduceAdd,reduceLT,ZV]
    exact ht
   ·refine ⟨t,M,?_⟩
    simp only [Xba,h1,h2,ZD,Ze,if_false]
    refine Xap (by simp only [Xkc,I65,IC.loops,hi,hlt,hlen,hget,hn,hw,h1,h2,reduceSub,reduceIte,reduceEqDiff,reduceLT,reduceAdd,reduceMul,reduceLeDiff,ZS,ZT]; rfl) ?_
    simp only [Xa8,reduceIte,reduceEqDiff,reduceAdd,reduceLT,ZV]
    exact ht
   ·simp only [Xba,h1,h2,ZJ,if_true]
    refine ⟨_,_,Xah (by simp only [Xkc,I65,IC.loops,hi,hlt,hlen,hget,hn,hw,h1,h2,reduceSub,reduceIte,reduceEqDiff,reduceLT,reduceAdd,reduceMul,reduceLeDiff,ZS,ZT]; rfl)⟩
  ·have hk':k=all.length:=by omega
   subst hk'
   simp only [List.drop_length,Xba]
   exact ⟨_,_,Xae (by simp only [Xkc,I65,IC.loops,Int.lt_irrefl,reduceIte,reduceEqDiff,reduceLT,reduceAdd,reduceMul,reduceLeDiff,ZS]; rfl)⟩
theorem Xnx (P:Program) (N n:Nat) (hN:9223372036854775808≤N) (s nm:List UInt8) (e:El) (he:e.ats.length≤9223372036854775807) (H:Mem) :
  Xaw P cfg T N (n+1) 65 [.agg (eC e),.str s,.str nm] H=some (.ret (.tup [.str ((Xba s nm e.ats).getD []),.bool (Xba s nm e.ats).isSome]),H):=by
 obtain ⟨t,M,ht⟩:=Xws P (Xaw P cfg T N n) N s nm e.ats he H (.row (eC e) 0 (25+1)) N 0 (Nat.zero_le _) (by omega)
 rw [List.drop_zero] at ht
 cases hf:Xba s nm e.ats with
 | some x =>
  rw [hf] at ht
  simp only [Option.getD_some,Option.isSome_some]
  refine Xac (m:=30) (v:=.tup [.str x,.bool true]) (a:=?a) (H1:=?H1) rfl t65 rfl ?hb ?hd ?hr ?hz
  case hb =>
   apply Xaa
   ·simp only [idx,I65,reduceSub,reduceIte,reduceEqDiff,reduceLT,reduceAdd,reduceMul,reduceLeDiff,ZS,ZT]; rfl
   apply Xau
   apply Xaa
   ·simp only [reduceSub,reduceIte,reduceEqDiff,reduceLT,reduceAdd,reduceMul,reduceLeDiff,ZS,ZT]; rfl
   apply Xam
   apply Xaf
   exact ht
  case hd=>rfl
  case hr=>simp only [I65,Xc6,Xbc,reduceIte,reduceEqDiff,reduceLT,reduceAdd,reduceMul,reduceLeDiff,ZS]
  case hz=>simp only [Xao,cfg,keep,Ze,if_false,frz,Xel,Xay,kC_low,Xa8,Zh,reduceIte,reduceEqDiff,reduceAdd,reduceLT,ZV]
 | none =>
  rw [hf] at ht
  simp only [Option.getD_none,Option.isSome_none]
  refine Xac (m:=30) (v:=.tup [.str [],.bool false]) (a:=?a2) (H1:=?H2) rfl t65 rfl ?hb ?hd ?hr ?hz
  case hb =>
   apply Xaa
   ·simp only [idx,I65,reduceSub,reduceIte,reduceEqDiff,reduceLT,reduceAdd,reduceMul,reduceLeDiff,ZS,ZT]; rfl
   apply Xaa
   ·apply Xaa
    ·simp only [reduceSub,reduceIte,reduceEqDiff,reduceLT,reduceAdd,reduceMul,reduceLeDiff,ZS,ZT]; rfl
    apply Xab
    apply Xaf
    exact ht
   apply Xaa
   ·simp only [reduceIte,reduceEqDiff,reduceLT,reduceAdd,reduceMul,reduceLeDiff,ZS]; rfl
   rfl
  case hd=>rfl
  case hr=>simp only [I65,Xc6,Xbc,reduceIte,reduceEqDiff,reduceLT,reduceAdd,reduceMul,reduceLeDiff,ZS]
  case hz=>simp only [Xao,cfg,keep,Ze,if_false,frz,Xel,Xay,kC_low,Xa8,Zh,reduceIte,reduceEqDiff,reduceAdd,reduceLT,ZV]
def wNs:List UInt8:=[104,116,116,112,58,47,47,115,99,104,101,109,97,115,46,111,112,101,110,120,109,108,102,111,114,109,97,116,115,46,111,114,103,47,119,111,114,100,112,114,111,99,101,115,115,105,110,103,109,108,47,50,48,48,54,47,109,97,105,110]
def Xoo:List UInt8:=[118,97,108]
def Xc2 (e:El) (nm:List UInt8):List UInt8:=(Xba wNs nm e.ats).getD []
def kidOf (e:El) (nm:List UInt8):El:=(Xbg wNs nm e.kids).getD zEl
def Xbf (e:El) (nm:List UInt8):List UInt8:=Xc2 (kidOf e nm) Xoo
inductive Fits:El→Prop
 | mk (sp nm tx:List UInt8) (ats:List (List UInt8 × List UInt8 × List UInt8)) (kids:List El) (ha:ats.length≤9223372036854775807) (hk:kids.length≤9223372036854775807) (h:∀ k ∈ kids,Fits k) (hv:∀ a ∈ ats,a.2.2.length≤9223372036854775807):Fits (.mk sp nm tx ats kids)
theorem Fits.ats {e:El} (h:Fits e):e.ats.length≤9223372036854775807:=by cases h; assumption
theorem Fits.len {e:El} (h:Fits e):e.kids.length≤9223372036854775807:=by cases h; assumption
theorem Fits.kid {e k:El} (h:Fits e) (hk:k ∈ e.kids):Fits k:=by cases h with | mk _ _ _ _ _ _ _ h _=>exact h k hk
theorem Fits.z:Fits zEl:=.mk _ _ _ _ _ (by simp) (by simp) (by simp) (by simp)
theorem Xgc {s n:List UInt8} {x:El}:∀ {l:List El},Xbg s n l=some x→x ∈ l
 | [],h=>by simp [Xbg] at h
 | k::ks,h=>by
  simp only [Xbg] at h
  split at h
  ·injection h with h; subst h; exact List.mem_cons_self
  ·exact List.mem_cons_of_mem _ (Xgc h)
theorem Xs8 {s n v:List UInt8}:∀ {l:List (List UInt8 × List UInt8 × List UInt8)},Xba s n l=some v→∃ a ∈ l,a.2.2=v
 | [],h=>by simp [Xba] at h
 | k::ks,h=>by
  simp only [Xba] at h
  split at h
  ·injection h with h; exact ⟨k,List.mem_cons_self,h⟩
  ·obtain ⟨a,h1,h2⟩:=Xs8 h
   exact ⟨a,List.mem_cons_of_mem _ h1,h2⟩
theorem Fits.attr {e:El} (h:Fits e) (nm:List UInt8):(Xc2 e nm).length≤9223372036854775807:=by
 unfold Xc2
 cases hg:Xba wNs nm e.ats with
 | none=>simp
 | some v =>
  obtain ⟨a,h1,rfl⟩:=Xs8 hg
  cases h with | mk _ _ _ _ _ _ _ _ hv=>exact hv a h1
theorem Fits.found {e:El} (h:Fits e) (s n:List UInt8):Fits ((Xbg s n e.kids).getD zEl):=by
 cases hf:Xbg s n e.kids with
 | none=>exact .z
 | some x=>exact h.kid (Xgc hf)
theorem Fits.kidOf {e:El} (h:Fits e) (nm:List UInt8):Fits (kidOf e nm):=h.found _ _
theorem Fits.val {e:El} (h:Fits e) (nm:List UInt8):(Xbf e nm).length≤9223372036854775807:=(h.kidOf nm).attr Xoo
theorem Xuv (P:Program) (N n:Nat) (hN:9223372036854775808≤N) (nm:List UInt8) (e:El) (he:Fits e) (H:Mem) :
  Xaw P cfg T N (n+2) 41 [.agg (eC e),.str nm] H=some (.ret (.str (Xc2 e nm)),H):=by
 have hg:=fun H=>Xnx P N n hN wNs nm e he.ats H
 simp only [wNs] at hg
 refine Xac (m:=14) (v:=.str (Xc2 e nm)) (a:=?a) (H1:=?H1) rfl t41 rfl ?hb ?hd ?hr ?hz
 case hb=>simp only [idx,I41,hg,reduceSub,reduceIte,reduceEqDiff,reduceLT,reduceAdd,reduceMul,reduceLeDiff,ZS,ZT]; rfl
 case hd=>rfl
 case hr=>simp only [I41,Xc6,Xbc,Xc2,wNs,reduceIte,reduceEqDiff,reduceLT,reduceAdd,reduceMul,reduceLeDiff,ZS]
 case hz=>simp only [Xao,cfg,keep,Ze,if_false,frz,Xel,Xay,kC_low,Xa8,Zh,reduceIte,reduceEqDiff,reduceAdd,reduceLT,ZV]
theorem Xn3 (P:Program) (N n:Nat) (hN:9223372036854775808≤N) (nm:List UInt8) (e:El) (he:Fits e) (H:Mem) :
  Xaw P cfg T N (n+2) 44 [.agg (eC e),.str nm] H=some (.ret (.agg (eC (kidOf e nm))),H):=by
 have hg:=fun H=>Xua P N n hN wNs nm e he.len H
 simp only [wNs] at hg
 refine Xac (m:=14) (v:=.agg (eC (kidOf e nm))) (a:=?a) (H1:=?H1) rfl t44 rfl ?hb ?hd ?hr ?hz
 case hb=>simp only [idx,I44,hg,reduceSub,reduceIte,reduceEqDiff,reduceLT,reduceAdd,reduceMul,reduceLeDiff,ZS,ZT]; rfl
 case hd=>rfl
 case hr=>simp only [I44,Xc6,Xbc,kidOf,wNs,reduceSub,reduceIte,reduceEqDiff,reduceLT,reduceAdd,reduceMul,reduceLeDiff,ZS,ZT]
 case hz=>simp only [Xao,Xdo,cfg,keep,Ze,if_false,frz,Xel,Xay,kC_low,Xa8,Zh,reduceIte,reduceEqDiff,reduceAdd,reduceLT,ZV]
theorem Xtd (P:Program) (N n:Nat) (hN:9223372036854775808≤N) (nm:List UInt8) (e:El) (he:Fits e) (H:Mem) :
  Xaw P cfg T N (n+3) 42 [.agg (eC e),.str nm] H=some (.ret (.str (Xbf e nm)),H):=by
 have hk:=fun H=>Xn3 P N n hN nm e he H
 have ha:=fun H=>Xuv P N n hN Xoo (kidOf e nm) (he.found _ _) H
 simp only [Xoo] at ha
 refine Xac (m:=9) (v:=.str (Xbf e nm)) (a:=?a) (H1:=?H1) rfl t42 rfl ?hb ?hd ?hr ?hz
 case hb=>simp only [idx,I42,hk,ha,reduceSub,reduceIte,reduceEqDiff,reduceLT,reduceAdd,reduceMul,reduceLeDiff,ZS,ZT]; rfl
 case hd=>rfl
 case hr=>simp only [I42,Xc6,Xbc,Xbf,Xoo,reduceIte,reduceEqDiff,reduceLT,reduceAdd,reduceMul,reduceLeDiff,ZS]
 case hz=>simp only [Xao,cfg,keep,Ze,if_false,frz,Xel,Xay,kC_low,Xa8,Zh,reduceIte,reduceEqDiff,reduceAdd,reduceLT,ZV]
set_option maxHeartbeats 2000000
mutual
def dEl:El→Nat
 | .mk _ _ _ _ ks=>dEls ks+1
def dEls:List El→Nat
 | []=>0
 | k::ks=>max (dEl k) (dEls ks)
end
theorem Xjz {x:El}:∀ {l:List El},x ∈ l→dEl x≤dEls l
 | k::ks,h=>by
  simp only [dEls]
  rcases List.mem_cons.1 h with rfl | h
  ·omega
  ·have:=Xjz h; omega
theorem Xik {e x:El} (h:x ∈ e.kids):dEl x+1≤dEl e:=by
 have:=Xjz h
 cases e
 simp only [dEl,El.kids] at *
 omega
inductive Small (B:Nat):El→Prop
 | mk (sp nm tx:List UInt8) (ats:List (List UInt8 × List UInt8 × List UInt8)) (kids:List El) (h1:sp.length≤B) (h2:nm.length≤B) (h3:tx.length≤B) (ha:ats.length≤B) (hk:kids.length≤B) (h:∀ k ∈ kids,Small B k) (hv:∀ a ∈ ats,a.1.length≤B∧a.2.1.length≤B∧a.2.2.length≤B):Small B (.mk sp nm tx ats kids)
theorem Small.kid {B:Nat} {e k:El} (h:Small B e) (hk:k ∈ e.kids):Small B k:=by cases h with | mk _ _ _ _ _ _ _ _ _ _ h _=>exact h k hk
theorem Small.fits {B:Nat} (hB:B≤9223372036854775807):∀ (n:Nat) (e:El),dEl e≤n→Small B e→Fits e
 | 0,e,h,_=>by cases e; simp [dEl] at h
 | n+1,e,h,hs=>by
  cases hs with
  | mk sp nm tx ats kids h1 h2 h3 ha hk h4 hv =>
   exact .mk _ _ _ _ _ (by omega) (by omega) (fun k hk=>Small.fits hB n k (by have:=Xik (e:=.mk sp nm tx ats kids) hk; omega) (h4 k hk)) (fun a ha=>by have:=hv a ha; omega)
theorem Small.nm {B:Nat} {e:El} (h:Small B e):e.nm.length≤B:=by cases h; assumption
theorem Small.tx {B:Nat} {e:El} (h:Small B e):e.tx.length≤B:=by cases h; assumption
theorem Small.at {B:Nat} {e:El} (h:Small B e):∀ a ∈ e.ats,a.2.1.length≤B∧a.2.2.length≤B:=by
 cases h with | mk _ _ _ _ _ _ _ _ _ _ _ hv=>exact fun a ha=>(hv a ha).2
noncomputable def Xlg:IC:=(I8.c.loops).getD 0 .bad
noncomputable def Xqf:IC:=(I8.c.loops).getD 1 .bad
def HvEnd (R:Int→Prop) (id:Nat) (p:Nat) (M:Mem):Out × AAct × Mem→Prop
 | (o,a,M')=>M'=M∧a.n=77∧a.d=[]∧((o=.exit id∧(∃ z,Xad a.t 1=.int .i64 z∧R z)∧Xad a.t 2=.ptr p 0 0)∨(o=.ret∧Xad a.t 4=.int .i64 (-1)))
theorem HvEnd.mono {R R':Int→Prop} {id p:Nat} {M:Mem} {r:Out × AAct × Mem} (h:HvEnd R id p M r) (hR:∀ z,R z→R' z):HvEnd R' id p M r:=by
 obtain ⟨o,a,M'⟩:=r
 obtain ⟨h1,h2,h3,h4⟩:=h
 refine ⟨h1,h2,h3,?_⟩
 rcases h4 with ⟨h5,⟨z,h6,h7⟩,h8⟩ | h4
 ·exact .inl ⟨h5,⟨z,h6,hR z h7⟩,h8⟩
 ·exact .inr h4
def wAts:List (List UInt8 × List UInt8 × List UInt8)→Nat
 | []=>0
 | a::l=>4+a.2.1.length+a.2.2.length+wAts l
mutual
def wEl:El→Nat
 | .mk _ nm tx ats ks=>8+nm.length+tx.length+wAts ats+wEls ks
def wEls:List El→Nat
 | []=>0
 | k::ks=>wEl k+wEls ks
end
theorem Xb2 (e:El):wEl e=8+e.nm.length+e.tx.length+wAts e.ats+wEls e.kids:=by cases e; rw [wEl]; rfl
theorem Xvk (P:Program) (N:Nat) (F:Xc5) (e:El) (he:e.ats.length≤9223372036854775807) (hB:∀ a ∈ e.ats,a.2.1.length≤1125899906842624∧a.2.2.length≤1125899906842624) (H:Mem):∀ (fuel k:Nat) (z:Int),k≤e.ats.length→e.ats.length-k<fuel→z≤1099511627776 →
  ∃ r,Xa6 (fun a H=>evI P cfg F N Xlg a H) (some [1,2,5]) fuel ⟨77,[(1,.int .i64 z),(2,.ptr H.length 0 0),(5,.int .i64 k)],[]⟩ (H++[.row (eC e) 0 (25+1)])=some r∧HvEnd (fun z'=>0≤z'→z'+(wAts (e.ats.drop k):Int)≤z) 0 H.length (H++[.row (eC e) 0 (25+1)]) r
 | 0,k,_,_,h,_=>by omega
 | fuel+1,k,z,hk,hf,hzu=>by
  rcases Nat.lt_or_ge k e.ats.length with hlt | hge
  ·obtain ⟨x,hx⟩:=Xbb hlt
   have hget:(e.ats.flatMap atC).drop (k*3)=atC x++(e.ats.drop (k+1)).flatMap atC:=by rw [Xi7,hx]; rfl
   have hlen:k*3+3≤(e.ats.flatMap atC).length:=by rw [Xk3]; omega
   have hi:(k:Int)<(e.ats.length:Int):=by omega
   have hw:=Xav hlt he
   have hn:=Xan k .i64
   cases hz:decide (z ≥ 0)
   ·refine ⟨_,Xae (by simp only [Xlg,I8,IC.loops,hi,hlt,hlen,hget,hn,hw,hz,reduceSub,reduceIte,reduceEqDiff,reduceLT,reduceAdd,reduceMul,reduceLeDiff,ZS,ZT]; rfl),?_⟩
    exact ⟨rfl,rfl,rfl,.inl ⟨rfl,⟨z,rfl,fun h=>absurd h (of_decide_eq_false hz)⟩,rfl⟩⟩
   cases hs:decide ((x.1.length:Int)>200)
   rotate_left
   ·refine ⟨_,Xah (by simp only [Xlg,I8,IC.loops,hi,hlt,hlen,hget,hn,hw,hz,hs,reduceSub,reduceIte,reduceEqDiff,reduceLT,reduceAdd,reduceMul,reduceLeDiff,ZS,ZT]; rfl),?_⟩
    exact ⟨rfl,rfl,rfl,.inr ⟨rfl,rfl⟩⟩
   ·have hxb:=hB x (List.mem_of_mem_drop (i:=k) (by rw [hx]; exact List.mem_cons_self))
    have hz0:z ≥ 0:=of_decide_eq_true hz
    have w1:IntKind.wrap .i64 (z-4)=z-4:=Xbs (by omega) (by omega)
    have w2:IntKind.wrap .i64 (z-4-(x.2.1.length:Int))=z-4-(x.2.1.length:Int):=Xbs (by omega) (by omega)
    have w3:IntKind.wrap .i64 (z-4-(x.2.1.length:Int)-(x.2.2.length:Int))=z-4-(x.2.1.length:Int)-(x.2.2.length:Int):=Xbs (by omega) (by omega)
    obtain ⟨r,hr,hQ⟩:=Xvk P N F e he hB H fuel (k+1) (z-4-(x.2.1.length:Int)-(x.2.2.length:Int)) (by omega) (by omega) (by omega)
    refine ⟨r,?_,hQ.mono fun y hy h=>by have:=hy h; rw [hx]; simp only [wAts]; omega⟩
    refine Xap (by simp only [Xlg,I8,IC.loops,hi,hlt,hlen,hget,hn,hw,hz,hs,w1,w2,w3,reduceSub,reduceIte,reduceEqDiff,reduceLT,reduceAdd,reduceMul,reduceLeDiff,ZU,ZS,ZT]; rfl) ?_
    simp only [Xay,kC_low,reduceIte,reduceEqDiff,reduceAdd,reduceLT,ZV]
    exact hr
  ·have hk':k=e.ats.length:=by omega
   subst hk'
   refine ⟨_,Xae (by simp only [Xlg,I8,IC.loops,Int.lt_irrefl,reduceSub,reduceIte,reduceEqDiff,reduceLT,reduceAdd,reduceMul,reduceLeDiff,ZS,ZT]; rfl),?_⟩
   exact ⟨rfl,rfl,rfl,.inl ⟨rfl,⟨z,rfl,fun _=>by rw [List.drop_length]; simp only [wAts]; omega⟩,rfl⟩⟩
theorem Xvh (P:Program) (N:Nat) (F:Xc5) (e:El) (he:e.kids.length≤9223372036854775807) (hF:∀ x ∈ e.kids,∀ z,0≤z→z≤1099511627776→∀ H,∃ z',F 8 [.agg (eC x),.int .i64 z] H=some (.ret (.int .i64 z'),H)∧(0≤z'→z'+(wEl x:Int)≤z)) (H:Mem):∀ (fuel k:Nat) (z:Int),k≤e.kids.length→e.kids.length-k<fuel→z≤1099511627776 →
  ∃ r,Xa6 (fun a H=>evI P cfg F N Xqf a H) (some [1,2,6]) fuel ⟨77,[(1,.int .i64 z),(2,.ptr H.length 0 0),(6,.int .i64 k)],[]⟩ (H++[.row (eC e) 0 (25+1)])=some r∧HvEnd (fun z'=>0≤z'→z'+(wEls (e.kids.drop k):Int)≤z) 2 H.length (H++[.row (eC e) 0 (25+1)]) r
 | 0,k,_,_,h,_=>by omega
 | fuel+1,k,z,hk,hf,hzu=>by
  rcases Nat.lt_or_ge k e.kids.length with hlt | hge
  ·obtain ⟨x,hx⟩:=Xbb hlt
   have hxm:x ∈ e.kids:=List.mem_of_mem_drop (i:=k) (by rw [hx]; exact List.mem_cons_self)
   have hget:(kC e.kids).drop (k*5)=eC x++kC (e.kids.drop (k+1)):=by rw [Xd1,hx]; rfl
   have hlen:k*5+5≤(kC e.kids).length:=by rw [Xen]; omega
   have hi:(k:Int)<(e.kids.length:Int):=by omega
   have hw:=Xav hlt he
   have hn:=Xan k .i64
   cases hz:decide (z ≥ 0)
   ·refine ⟨_,Xae (by simp only [Xqf,I8,IC.loops,hi,hlt,hlen,hget,hn,hw,hz,reduceSub,reduceIte,reduceEqDiff,reduceLT,reduceAdd,reduceMul,reduceLeDiff,ZS,ZT]; rfl),?_⟩
    have hz0:¬ z ≥ 0:=of_decide_eq_false hz
    exact ⟨rfl,rfl,rfl,.inl ⟨rfl,⟨z,rfl,fun h=>absurd h hz0⟩,rfl⟩⟩
   ·have hz0:z ≥ 0:=of_decide_eq_true hz
    obtain ⟨z',hc,hz'⟩:=hF x hxm z hz0 hzu (H++[.row (eC e) 0 (25+1)])
    obtain ⟨r,hr,hQ⟩:=Xvh P N F e he hF H fuel (k+1) z' (by omega) (by omega) (by omega)
    refine ⟨r,?_,hQ.mono fun y hy h=>by have:=hy h; rw [hx]; simp only [wEls]; omega⟩
    refine Xap (by simp only [Xqf,I8,IC.loops,hi,hlt,hlen,hget,hn,hw,hz,hc,reduceSub,reduceIte,reduceEqDiff,reduceLT,reduceAdd,reduceMul,reduceLeDiff,ZU,ZS,ZT]; rfl) ?_
    simp only [Xay,kC_low,reduceIte,reduceEqDiff,reduceAdd,reduceLT,ZV]
    exact hr
  ·have hk':k=e.kids.length:=by omega
   subst hk'
   refine ⟨_,Xae (by simp only [Xqf,I8,IC.loops,Int.lt_irrefl,reduceSub,reduceIte,reduceEqDiff,reduceLT,reduceAdd,reduceMul,reduceLeDiff,ZS,ZT]; rfl),?_⟩
   exact ⟨rfl,rfl,rfl,.inl ⟨rfl,⟨z,rfl,fun _=>by rw [List.drop_length]; simp only [wEls]; omega⟩,rfl⟩⟩
theorem Xs9 (P:Program) (N:Nat) (hN:9223372036854775808≤N):∀ (m:Nat) (e:El),dEl e≤m→Small 1125899906842624 e→∀ (n:Nat) (left:Int),0≤left→left≤1099511627776→∀ (H:Mem),
  ∃ z,Xaw P cfg T N (n+m) 8 [.agg (eC e),.int .i64 left] H=some (.ret (.int .i64 z),H)∧(0≤z→z+(wEl e:Int)≤left)
 | 0,e,h,_,_,_,_,_,_=>by cases e; simp [dEl] at h
 | m+1,e,h,hsm,n,left,hl0,hl1,H=>by
  have he:Fits e:=Small.fits (by omega) _ e h hsm
  have hF:∀ x ∈ e.kids,∀ z,0≤z→z≤1099511627776→∀ H,∃ z',Xaw P cfg T N (n+m) 8 [.agg (eC x),.int .i64 z] H=some (.ret (.int .i64 z'),H)∧(0≤z'→z'+(wEl x:Int)≤z):=fun x hx z h0 h1 H=>by
   obtain ⟨z',h2,h3⟩:=Xs9 P N hN m x (by have:=Xik hx; omega) (hsm.kid hx) n z h0 h1 H
   exact ⟨z',h2,h3⟩
  have hnm:=hsm.nm
  have htx:=hsm.tx
  have w1:IntKind.wrap .i64 (left-8)=left-8:=Xbs (by omega) (by omega)
  have w2:IntKind.wrap .i64 (left-8-(e.nm.length:Int))=left-8-(e.nm.length:Int):=Xbs (by omega) (by omega)
  have w3:IntKind.wrap .i64 (left-8-(e.nm.length:Int)-(e.tx.length:Int))=left-8-(e.nm.length:Int)-(e.tx.length:Int):=Xbs (by omega) (by omega)
  cases hs:decide ((e.sp.length:Int)>200)
  rotate_left
  ·refine ⟨-1,?_,fun h=>absurd h (by decide)⟩
   refine (Xac (m:=77) (v:=.int .i64 (-1)) (a:=?a) (H1:=?H1) rfl t8 rfl ?hb ?hd ?hr ?hz)
   case hb=>simp only [idx,I8,hs,reduceSub,reduceIte,reduceEqDiff,reduceLT,reduceAdd,reduceMul,reduceLeDiff,ZS,ZT]; rfl
   case hd=>rfl
   case hr=>simp only [I8,Xc6,Xbc,reduceIte,reduceEqDiff,reduceLT,reduceAdd,reduceMul,reduceLeDiff,ZS]
   case hz=>simp only [Xao,cfg,keep,Ze,if_false,frz,Xel,Xay,kC_low,Xa8,Zh,reduceIte,reduceEqDiff,reduceAdd,reduceLT,ZV]
  obtain ⟨⟨o,⟨an,t,ad⟩,M'⟩,hr,rfl,rfl,rfl,hQ⟩:=Xvk P N (Xaw P cfg T N (n+m)) e he.ats hsm.at H N 0 (left-8-(e.nm.length:Int)-(e.tx.length:Int)) (Nat.zero_le _) (by have:=he.ats; omega) (by omega)
  rcases hQ with ⟨rfl,⟨z,e1,hz⟩,e2⟩ | ⟨rfl,e4⟩
  rotate_left
  ·refine ⟨-1,?_,fun h=>absurd h (by decide)⟩
   refine (Xac (m:=77) (v:=.int .i64 (-1)) (a:=?a3) (H1:=?H3) rfl t8 rfl ?hb ?hd ?hr ?hz)
   case hb =>
    apply Xaa
    ·simp only [idx,I8,reduceSub,reduceIte,reduceEqDiff,reduceLT,reduceAdd,reduceMul,reduceLeDiff,ZS,ZT]; rfl
    apply Xaa
    ·simp only [hs,reduceSub,reduceIte,reduceEqDiff,reduceLT,reduceAdd,reduceMul,reduceLeDiff,ZS,ZT]; rfl
    apply Xaa
    ·simp only [w1,w2,w3,reduceSub,reduceIte,reduceEqDiff,reduceLT,reduceAdd,reduceMul,reduceLeDiff,ZS,ZT]; rfl
    apply Xau
    apply Xaa
    ·simp only [reduceSub,reduceIte,reduceEqDiff,reduceLT,reduceAdd,reduceMul,reduceLeDiff,ZS,ZT]; rfl
    apply Xam
    apply Xaf
    exact hr
   case hd=>rfl
   case hr=>simp only [I8,Xc6,Xbc,e4,reduceIte,reduceEqDiff,reduceLT,reduceAdd,reduceMul,reduceLeDiff,ZS]
   case hz=>simp only [Xao,cfg,keep,Ze,if_false,frz,Xel,Xay,kC_low,Xa8,Zh,reduceIte,reduceEqDiff,reduceAdd,reduceLT,ZV]
  simp only at e1 e2
  obtain ⟨⟨o,⟨an,t2,ad⟩,M'⟩,hr2,rfl,rfl,rfl,hQ⟩:=Xvh P N (Xaw P cfg T N (n+m)) e he.len hF H N 0 z (Nat.zero_le _) (by have:=he.len; omega) (by omega)
  rcases hQ with ⟨rfl,⟨z2,e3,hz2⟩,e4⟩ | ⟨rfl,e4⟩
  ·refine ⟨z2,?_,fun h=>by have h5:=hz2 h; rw [List.drop_zero] at h5 hz; rw [Xb2]; have h6:=hz (by omega); omega⟩
   refine (Xac (m:=77) (v:=.int .i64 z2) (a:=?a4) (H1:=?H4) rfl t8 rfl ?hb ?hd ?hr ?hz)
   case hb =>
    apply Xaa
    ·simp only [idx,I8,reduceSub,reduceIte,reduceEqDiff,reduceLT,reduceAdd,reduceMul,reduceLeDiff,ZS,ZT]; rfl
    apply Xaa
    ·simp only [hs,reduceSub,reduceIte,reduceEqDiff,reduceLT,reduceAdd,reduceMul,reduceLeDiff,ZS,ZT]; rfl
    apply Xaa
    ·simp only [w1,w2,w3,reduceSub,reduceIte,reduceEqDiff,reduceLT,reduceAdd,reduceMul,reduceLeDiff,ZS,ZT]; rfl
    apply Xaa
    ·apply Xaa
     ·simp only [reduceSub,reduceIte,reduceEqDiff,reduceLT,reduceAdd,reduceMul,reduceLeDiff,ZS,ZT]; rfl
     apply Xab
     apply Xaf
     exact hr
    apply Xaa
    ·apply Xaa
     ·simp only [reduceSub,reduceIte,reduceEqDiff,reduceLT,reduceAdd,reduceMul,reduceLeDiff,ZS,ZT]; rfl
     apply Xab
     apply Xaf
     simp only [AAct.keepT,Zv,Zz,Xad,reduceIte,reduceEqDiff,e1,e2]
     exact hr2
    apply Xaa
    ·simp only [e3,reduceSub,reduceIte,reduceEqDiff,reduceLT,reduceAdd,reduceMul,reduceLeDiff,ZS,ZT]; rfl
    rfl
   case hd=>rfl
   case hr=>simp only [I8,Xc6,Xbc,reduceIte,reduceEqDiff,reduceLT,reduceAdd,reduceMul,reduceLeDiff,ZS]
   case hz=>simp only [Xao,cfg,keep,Ze,if_false,frz,Xel,Xay,kC_low,Xa8,Zh,reduceIte,reduceEqDiff,reduceAdd,reduceLT,ZV]
  ·refine ⟨-1,?_,fun h=>absurd h (by decide)⟩
   refine (Xac (m:=77) (v:=.int .i64 (-1)) (a:=?a5) (H1:=?H5) rfl t8 rfl ?hb ?hd ?hr ?hz)
   case hb =>
    apply Xaa
    ·simp only [idx,I8,reduceSub,reduceIte,reduceEqDiff,reduceLT,reduceAdd,reduceMul,reduceLeDiff,ZS,ZT]; rfl
    apply Xaa
    ·simp only [hs,reduceSub,reduceIte,reduceEqDiff,reduceLT,reduceAdd,reduceMul,reduceLeDiff,ZS,ZT]; rfl
    apply Xaa
    ·simp only [w1,w2,w3,reduceSub,reduceIte,reduceEqDiff,reduceLT,reduceAdd,reduceMul,reduceLeDiff,ZS,ZT]; rfl
    apply Xaa
    ·apply Xaa
     ·simp only [reduceSub,reduceIte,reduceEqDiff,reduceLT,reduceAdd,reduceMul,reduceLeDiff,ZS,ZT]; rfl
     apply Xab
     apply Xaf
     exact hr
    apply Xau
    apply Xaa
    ·simp only [reduceSub,reduceIte,reduceEqDiff,reduceLT,reduceAdd,reduceMul,reduceLeDiff,ZS,ZT]; rfl
    apply Xam
    apply Xaf
    simp only [AAct.keepT,Zv,Zz,Xad,reduceIte,reduceEqDiff,e1,e2]
    exact hr2
   case hd=>rfl
   case hr=>simp only [I8,Xc6,Xbc,e4,reduceIte,reduceEqDiff,reduceLT,reduceAdd,reduceMul,reduceLeDiff,ZS]
   case hz=>simp only [Xao,cfg,keep,Ze,if_false,frz,Xel,Xay,kC_low,Xa8,Zh,reduceIte,reduceEqDiff,reduceAdd,reduceLT,ZV]
theorem pig:∀ (L T:Nat) (o:Nat→Nat),(∀ a b,a<b→b<T→o a≠o b)→(∀ a,a<T→o a<L)→T≤L
 | 0,T,o,_,h=>by
  cases T with
  | zero=>exact Nat.le_refl _
  | succ T=>exact absurd (h 0 (by omega)) (by omega)
 | L+1,T,o,hi,h=>by
  by_cases hx:∃ a,a<T∧o a=L
  ·obtain ⟨a,ha,e⟩:=hx
   have:=pig L (T-1) (fun b=>if b<a then o b else o (b+1)) (fun b c hbc hc=>by
    show (if b<a then o b else o (b+1))≠(if c<a then o c else o (c+1))
    split <;> split
    ·exact hi b c hbc (by omega)
    ·exact hi b (c+1) (by omega) (by omega)
    ·omega
    ·exact hi (b+1) (c+1) (by omega) (by omega)) (fun b hb=>by
    show (if b<a then o b else o (b+1))<L
    split
    ·rename_i hlt
     have h1:=h b (by omega)
     have h2:=hi b a hlt ha
     omega
    ·have h1:=h (b+1) (by omega)
     have h2:=hi a (b+1) (by omega) (by omega)
     omega)
   omega
  ·have:=pig L T o hi fun a ha=>by
    have h1:=h a ha
    have h2:o a≠L:=fun e=>hx ⟨a,ha,e⟩
    omega
   omega
def wlk (f:Nat→Option Nat) (bad:Nat→Bool) (i:Nat):Nat→Nat→Bool
 | 0,_=>true
 | n+1,k=>match f k with
  | none=>true
  | some m=>if (k == i && bad m || m == i)=true then false else wlk f bad i n m
def orb (f:Nat→Option Nat) (i:Nat):Nat→Option Nat
 | 0=>some i
 | t+1=>(orb f i t).bind f
theorem Xjc {f:Nat→Option Nat} {i t:Nat} (h:orb f i t=none):∀ s,orb f i (t+s)=none
 | 0=>h
 | s+1=>by
  show (orb f i (t+s)).bind f=none
  rw [Xjc h s]; rfl
theorem orb_per {f:Nat→Option Nat} {i a b:Nat} (h:orb f i a=orb f i b):∀ s,orb f i (a+s)=orb f i (b+s)
 | 0=>h
 | s+1=>by
  show (orb f i (a+s)).bind f=(orb f i (b+s)).bind f
  rw [orb_per h s]
theorem Xk4 (f:Nat→Option Nat) (bad:Nat→Bool) (i:Nat):∀ (n t k:Nat),orb f i t=some k→k≠i→(wlk f bad i n k=false↔∃ s,t<s∧s≤t+n∧orb f i s=some i)
 | 0,t,k,_,_=>by
  constructor
  ·intro h; cases h
  ·rintro ⟨s,h1,h2,_⟩; omega
 | n+1,t,k,ho,hk=>by
  have hki:(k == i)=false:=beq_false_of_ne hk
  unfold wlk
  rw [hki]
  cases hf:f k with
  | none =>
   have hn:orb f i (t+1)=none:=by show (orb f i t).bind f=none; rw [ho]; exact hf
   constructor
   ·intro h; cases h
   ·rintro ⟨s,h1,h2,h3⟩
    have:=Xjc hn (s-(t+1))
    rw [show t+1+(s-(t+1))=s by omega,h3] at this
    cases this
  | some m =>
   have hn:orb f i (t+1)=some m:=by show (orb f i t).bind f=_; rw [ho]; exact hf
   simp only [ZE,Bool.false_or]
   by_cases hm:m=i
   ·subst hm
    rw [beq_self_eq_true,if_pos rfl]
    exact ⟨fun _=>⟨t+1,by omega,by omega,hn⟩,fun _=>rfl⟩
   ·rw [beq_false_of_ne hm,if_neg (by simp),Xk4 f bad i n (t+1) m hn hm]
    constructor
    ·rintro ⟨s,h1,h2,h3⟩; exact ⟨s,by omega,by omega,h3⟩
    ·rintro ⟨s,h1,h2,h3⟩
     refine ⟨s,?_,by omega,h3⟩
     rcases Nat.lt_or_ge (t+1) s with h | h
     ·exact h
     ·have:s=t+1:=by omega
      rw [this,hn] at h3
      injection h3 with h3
      exact absurd h3 hm
theorem orb_soon (f:Nat→Option Nat) (i L:Nat) (hi:i<L) (hf:∀ k m,f k=some m→m<L) (s:Nat) (h0:0<s) (hs:orb f i s=some i):∃ u,0<u∧u≤L∧orb f i u=some i:=by
 induction s using Nat.strongRecOn with
 | _ s ih =>
  by_cases hx:∃ u,0<u∧u<s∧orb f i u=some i
  ·obtain ⟨u,h1,h2,h3⟩:=hx
   exact ih u h2 h1 h3
  refine ⟨s,h0,?_,hs⟩
  have hsome:∀ t,t<s→∃ k,orb f i t=some k:=fun t ht=>by
   cases h:orb f i t with
   | some k=>exact ⟨k,rfl⟩
   | none =>
    have:=Xjc h (s-t)
    rw [show t+(s-t)=s by omega,hs] at this
    cases this
  refine pig L s (fun t=>(orb f i t).getD 0) (fun a b hab hb e=>?_) fun a ha=>?_
  ·obtain ⟨x,hxa⟩:=hsome a (by omega)
   obtain ⟨y,hyb⟩:=hsome b hb
   simp only [hxa,hyb,Option.getD_some] at e
   subst e
   have h:=orb_per (hxa.trans hyb.symm) (s-b)
   rw [show b+(s-b)=s by omega,hs] at h
   exact hx ⟨a+(s-b),by omega,by omega,h⟩
  ·obtain ⟨x,hxa⟩:=hsome a ha
   simp only [hxa,Option.getD_some]
   cases a with
   | zero =>
    have:orb f i 0=some i:=rfl
    rw [this] at hxa
    injection hxa with e
    omega
   | succ a =>
    have:(orb f i a).bind f=some x:=hxa
    cases h:orb f i a with
    | none=>rw [h] at this; cases this
    | some k=>rw [h] at this; exact hf k x this
theorem wlk_more (f:Nat→Option Nat) (bad:Nat→Bool) (i L d:Nat) (hi:i<L) (hf:∀ k m,f k=some m→m<L):wlk f bad i (L+d) i=wlk f bad i L i:=by
 obtain ⟨L',rfl⟩ : ∃ k,L=k+1:=⟨L-1,by omega⟩
 rw [show L'+1+d=(L'+d)+1 by omega]
 unfold wlk
 cases h:f i with
 | none=>rfl
 | some m =>
  simp only [ZA,ZH]
  cases hb:(bad m || m == i)
  ·simp only [Ze,if_false]
   have hm:m≠i:=by
    intro e; subst e; simp at hb
   have ho:orb f i 1=some m:=h
   have a1:=Xk4 f bad i (L'+d) 1 m ho hm
   have a2:=Xk4 f bad i L' 1 m ho hm
   cases e1:wlk f bad i L' m
   ·obtain ⟨s,h1,h2,h3⟩:=a2.1 e1
    exact a1.2 ⟨s,h1,by omega,h3⟩
   ·cases e2:wlk f bad i (L'+d) m
    ·obtain ⟨s,h1,h2,h3⟩:=a1.1 e2
     obtain ⟨u,h4,h5,h6⟩:=orb_soon f i (L'+1) hi hf s (by omega) h3
     have hu:1<u:=by
      rcases Nat.lt_or_ge 1 u with h | h
      ·exact h
      ·have:u=1:=by omega
       rw [this,ho] at h6
       injection h6 with h6
       exact absurd h6 hm
     rw [a2.2 ⟨u,hu,by omega,h6⟩] at e1
     cases e1
    ·rfl
  ·simp only [if_true]
structure St where
 id:List UInt8
 based:List UInt8
 run:Bool
 emph:Int
 bold:Int
 head:Int
deriving Inhabited
def stC (s:St):List AV:=[.str s.id,.str s.based,.bool s.run,.int .i64 s.emph,.int .i64 s.bold,.int .i64 s.head]
def Xdb (l:List St):List AV:=l.flatMap stC
def Xl0 (s:St):Bool:=s.id == [] || (decide (s.emph<0) || (decide (s.emph>2) || (decide (s.bold<0) || (decide (s.bold>2) || (decide (s.head<0) || (decide (s.head>6) || (s.run && decide (s.head>0))))))))
def ixF (id:List UInt8):List St→Nat→Option Nat
 | [],_=>none
 | s::l,i=>if (s.id == id)=true then some i else ixF id l (i+1)
def Xt6:List St→List St→Bool
 | _,[]=>true
 | pre,s::r=>!Xl0 s && !pre.any (fun y=>y.id == s.id) && Xt6 (pre++[s]) r
def chkB (l:List St):Bool:=l.all fun s=>s.based == [] || (ixF s.based l 0).isSome
def wkP (l:List St) (s:St):Nat→St→Bool
 | 0,_=>true
 | n+1,x=>if (x.based == [])=true then true else match ixF x.based l 0 with
  | none=>true
  | some j=>if (x.id == s.id && (l.getD j default).run != s.run || (l.getD j default).id == s.id)=true then false else wkP l s n (l.getD j default)
def chkP (l:List St):Bool:=l.all fun s=>wkP l s l.length s
def wkR (l:List St) (i:Nat):Nat→Nat→Bool
 | 0,_=>true
 | n+1,k=>if ((l.getD k default).based == [])=true then true else match ixF (l.getD k default).based l 0 with
  | none=>true
  | some m=>if (k == i && (l.getD m default).run != (l.getD k default).run || m == i)=true then false else wkR l i n m
def chkR (l:List St):Bool:=(List.range l.length).all fun i=>wkR l i (l.length+2) i
def okP (l:List St):Bool:=Xt6 [] l && (chkB l && chkP l)
def okR (l:List St):Bool:=Xt6 [] l && (chkB l && chkR l)
theorem Xih (id:List UInt8):∀ (l:List St) (i j:Nat),ixF id l i=some j→i≤j∧j<i+l.length
 | [],i,j,h=>by cases h
 | s::l,i,j,h=>by
  unfold ixF at h
  split at h
  ·injection h with h; subst h
   simp
  ·have:=Xih id l (i+1) j h
   simp; omega
theorem Xwz (l:List St):∀ (r pre:List St),Xt6 pre r=true→l=pre++r→(∀ j k,j<k→k<pre.length→(l.getD j default).id≠(l.getD k default).id)→∀ j k,j<k→k<l.length→(l.getD j default).id≠(l.getD k default).id
 | [],pre,_,hl,hp=>by
  rw [List.append_nil] at hl
  subst hl
  exact hp
 | s::r,pre,h,hl,hp=>by
  unfold Xt6 at h
  simp only [Bool.and_eq_true,Bool.not_eq_true'] at h
  refine Xwz l r (pre++[s]) h.2 (by rw [hl]; simp) fun j k hjk hk=>?_
  rw [List.length_append] at hk
  simp only [Zf,Zk] at hk
  rcases Nat.lt_or_ge k pre.length with h1 | h1
  ·exact hp j k hjk h1
  ·have hk2:k=pre.length:=by omega
   subst hk2
   have e2:l.getD pre.length default=s:=by rw [hl]; simp
   have e1:l.getD j default=pre[j]:=by rw [hl]; simp [List.getD_eq_getElem?_getD,List.getElem?_append_left hjk,List.getElem?_eq_getElem hjk]
   rw [e1,e2]
   intro e
   have h3:=h.1.2
   rw [List.any_eq_false] at h3
   exact h3 pre[j] (List.getElem_mem hjk) (by rw [e]; exact beq_self_eq_true _)
def Xc9 (l:List St) (k:Nat):Option Nat:=if ((l.getD k default).based == [])=true then none else ixF (l.getD k default).based l 0
theorem Xty (l:List St) (i:Nat):∀ n k,wkR l i n k=wlk (Xc9 l) (fun m=>(l.getD m default).run != (l.getD i default).run) i n k
 | 0,_=>rfl
 | n+1,k=>by
  unfold wkR wlk Xc9
  cases h:((l.getD k default).based == [])
  ·simp only [Ze,if_false]
   cases h2:ixF (l.getD k default).based l 0 with
   | none=>rfl
   | some m =>
    show (if _ then _ else _)=(if _ then _ else _)
    rw [Xty l i n m]
    cases h3:(k == i)
    ·rfl
    ·rw [eq_of_beq h3]; rfl
  ·simp only [if_true]
theorem wkP_wlk (l:List St) (hids:∀ j k,j<k→k<l.length→(l.getD j default).id≠(l.getD k default).id) (i:Nat) (hi:i<l.length):∀ n k,k<l.length→wkP l (l.getD i default) n (l.getD k default)=wlk (Xc9 l) (fun m=>(l.getD m default).run != (l.getD i default).run) i n k
 | 0,_,_=>rfl
 | n+1,k,hk=>by
  have same:∀ j,j<l.length→((l.getD j default).id == (l.getD i default).id)=(j == i):=fun j hj=>by
   by_cases h:j=i
   ·rw [h,beq_self_eq_true,beq_self_eq_true]
   ·rw [beq_false_of_ne h]
    refine beq_false_of_ne ?_
    rcases Nat.lt_or_ge j i with h1 | h1
    ·exact hids j i h1 hi
    ·exact fun e=>hids i j (by omega) hj e.symm
  unfold wkP wlk Xc9
  cases h:((l.getD k default).based == [])
  ·simp only [Ze,if_false]
   cases h2:ixF (l.getD k default).based l 0 with
   | none=>rfl
   | some m =>
    have hm:=(Xih _ l 0 m h2).2
    show (if _ then _ else _)=(if _ then _ else _)
    rw [wkP_wlk l hids i hi n m (by omega),same k hk,same m (by omega)]
    rfl
  ·simp only [if_true]
theorem ok_same (l:List St):okP l=okR l:=by
 unfold okP okR
 cases h:Xt6 [] l
 ·rfl
 ·have hids:=Xwz l l [] h rfl fun j k _ hk=>by simp at hk
  have e:chkP l=chkR l:=by
   unfold chkP chkR
   have h1:∀ i,i<l.length→wkP l (l.getD i default) l.length (l.getD i default)=wkR l i (l.length+2) i:=fun i hi=>by
    rw [wkP_wlk l hids i hi l.length i hi,Xty,wlk_more _ _ i l.length 2 hi fun k m hkm=>by
     unfold Xc9 at hkm
     split at hkm
     ·cases hkm
     ·have:=(Xih _ l 0 m hkm).2
      omega]
   rw [Bool.eq_iff_iff,List.all_eq_true,List.all_eq_true]
   constructor
   ·intro h i hi
    rw [List.mem_range] at hi
    rw [← h1 i hi]
    refine h _ ?_
    rw [List.getD_eq_getElem?_getD,List.getElem?_eq_getElem hi]
    exact List.getElem_mem hi
   ·intro h s hs
    obtain ⟨i,hi,rfl⟩:=List.getElem_of_mem hs
    have:=h i (List.mem_range.2 hi)
    rw [← h1 i hi] at this
    rw [List.getD_eq_getElem?_getD,List.getElem?_eq_getElem hi] at this
    exact this
  rw [e]
end Go.Proofs.YtmhhddhbdbcmbaaGreatDoor.Ev
