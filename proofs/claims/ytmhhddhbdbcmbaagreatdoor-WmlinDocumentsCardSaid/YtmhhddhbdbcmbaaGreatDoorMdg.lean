/- Parts of one proof. -/
import Derived.Test.YtmhhddhbdbcmbaaGreatDoorMdb
import Derived.Test.YtmhhddhbdbcmbaaGreatDoorMdf
import Derived.Test.YtmhhddhbdbcmbaaGreatDoorMdd
set_option linter.all false
namespace Go.Proofs.YtmhhddhbdbcmbaaGreatDoor.Ev
open Nat (reduceEqDiff reduceLT reduceAdd reduceMul reduceLeDiff reduceSub)
open Go.Proofs.YtmhhddhbdbcmbaaGreatDoor.Ic
set_option maxRecDepth 100000
set_option maxHeartbeats 4000000
def Xbq (p:El→Bool):Nat→List El→Option El
 | 0,_=>none
 | _+1,[]=>none
 | m+1,k::ks=>if p k=true then some k else match Xbq p m k.kids with
  | some y=>some y
  | none=>Xbq p (m+1) ks
def SaysB (f:FuncId) (d:Nat) (N:Nat) (p:El→Bool):Prop:=∀ (n:Nat) (k:El),Fits k→∀ H:Mem,Xaw Tryz.prog cfg T N (n+d) f [.agg (eC k)] H=some (.ret (.bool (p k)),H)
noncomputable def Xrg:IC:=(Xym.c.loops).getD 0 .bad
section
variable {N:Nat}
theorem Xru (f:FuncId) (hcl:Xa1 Tryz.prog f=true) (dd:Nat) (p:El→Bool) (hp:SaysB f dd N p) (m n:Nat) (all:List El) (hall:all.length≤9223372036854775807) (hfit:∀ x ∈ all,Fits x)
  (hF:∀ x ∈ all,∀ H,Xaw Tryz.prog cfg T N (n+dd) 124 [.agg (eC x),.fn (.func f) []] H=some (.ret (.tup [.agg (eC ((Xbq p m x.kids).getD zEl)),.bool (Xbq p m x.kids).isSome]),H)) (H:Mem) (R0:Blk):∀ (fuel k:Nat),k≤all.length→all.length-k<fuel →
  ∃ t M,Xa6 (fun a H=>evI Tryz.prog cfg (Xaw Tryz.prog cfg T N (n+dd)) N Xrg a H) (some [1,4,11,12,13]) fuel ⟨31,[(1,.fn (.func f) []),(4,.ptr (H.length+1) 0 0),(11,.lst all.length (kC all)),(12,.int .i64 all.length),(13,.int .i64 k)],[]⟩ (H++[R0,.row [.str [],.str [],.str [],.nilS,.nilS] 0 (25+1)]) =
   (match Xbq p (m+1) (all.drop k) with
   | some x=>some (.ret,⟨31,(5,.bool true)::t,[]⟩,H++(R0::.row (eC x) 0 (25+1)::M))
   | none=>some (.exit 0,⟨31,t,[]⟩,H++[R0,.row [.str [],.str [],.str [],.nilS,.nilS] 0 (25+1)]))∧Xad t 4=.ptr (H.length+1) 0 0
 | 0,k,_,h=>by omega
 | fuel+1,k,hk,hf=>by
  rcases Nat.lt_or_ge k all.length with hlt | hge
  ·obtain ⟨x,hx⟩:=Xbb hlt
   have hxm:x ∈ all:=List.mem_of_mem_drop (i:=k) (by rw [hx]; exact List.mem_cons_self)
   have hget:(kC all).drop (k*5)=eC x++kC (all.drop (k+1)):=by rw [Xd1,hx]; rfl
   have hlen:k*5+5≤(kC all).length:=by rw [Xen]; omega
   have hi:(k:Int)<(all.length:Int):=by omega
   have hw:=Xav hlt hall
   have hn:=Xan k .i64
   have hP:=fun H=>hp n x (hfit x hxm) H
   have hD:=fun H=>hF x hxm H
   obtain ⟨t,M,ht,hl⟩:=Xru f hcl dd p hp m n all hall hfit hF H R0 fuel (k+1) (by omega) (by omega)
   rw [hx]
   have e:Xbq p (m+1) (x::all.drop (k+1))=if p x=true then some x else match Xbq p m x.kids with
    | some y=>some y
    | none=>Xbq p (m+1) (all.drop (k+1)):=by rw [Xbq]
   rw [e]
   cases h1:p x
   ·rw [h1] at hP
    simp only [Ze,if_false]
    cases h2:Xbq p m x.kids with
    | some y =>
     rw [h2] at hD
     simp only [Option.getD_some,Option.isSome_some] at hD
     refine ⟨_,_,Xah (by simp only [Xrg,Xym,IC.loops,hi,hlt,hlen,hget,hn,hw,hcl,hP,hD,reduceSub,reduceIte,reduceEqDiff,reduceLT,reduceAdd,reduceMul,reduceLeDiff,ZS,ZT]; rfl),rfl⟩
    | none =>
     rw [h2] at hD
     simp only [Option.getD_none,Option.isSome_none] at hD
     refine ⟨t,M,?_,hl⟩
     refine Xap (by simp only [Xrg,Xym,IC.loops,hi,hlt,hlen,hget,hn,hw,hcl,hP,hD,reduceSub,reduceIte,reduceEqDiff,reduceLT,reduceAdd,reduceMul,reduceLeDiff,ZS,ZT]; rfl) ?_
     simp only [kC_low,reduceIte,reduceEqDiff,reduceAdd,reduceLT,ZV]
     exact ht
   ·rw [h1] at hP
    simp only [if_true]
    refine ⟨_,_,Xah (by simp only [Xrg,Xym,IC.loops,hi,hlt,hlen,hget,hn,hw,hcl,hP,reduceSub,reduceIte,reduceEqDiff,reduceLT,reduceAdd,reduceMul,reduceLeDiff,ZS,ZT]; rfl),rfl⟩
  ·have hk':k=all.length:=by omega
   subst hk'
   simp only [List.drop_length,Xbq]
   exact ⟨_,[],Xae (by simp only [Xrg,Xym,IC.loops,Int.lt_irrefl,reduceIte,reduceEqDiff,reduceLT,reduceAdd,reduceMul,reduceLeDiff,ZS]; rfl),rfl⟩
theorem Xur (f:FuncId) (hcl:Xa1 Tryz.prog f=true) (dd:Nat) (p:El→Bool) (hp:SaysB f dd N p) (hN:9223372036854775808≤N):∀ (m:Nat) (e:El),dEl e≤m→Fits e→∀ (n:Nat) (H:Mem),
  Xaw Tryz.prog cfg T N (n+dd+m) 124 [.agg (eC e),.fn (.func f) []] H=some (.ret (.tup [.agg (eC ((Xbq p m e.kids).getD zEl)),.bool (Xbq p m e.kids).isSome]),H)
 | 0,e,h,_,_,_=>by cases e; simp [dEl] at h
 | m+1,e,h,he,n,H=>by
  have hF:∀ x ∈ e.kids,∀ H,Xaw Tryz.prog cfg T N (n+m+dd) 124 [.agg (eC x),.fn (.func f) []] H=some (.ret (.tup [.agg (eC ((Xbq p m x.kids).getD zEl)),.bool (Xbq p m x.kids).isSome]),H):=fun x hx H=>by
   rw [show n+m+dd=n+dd+m by omega]
   exact Xur f hcl dd p hp hN m x (by have:=Xik hx; omega) (he.kid hx) n H
  obtain ⟨t,M,ht,h4⟩:=Xru (N:=N) f hcl dd p hp m (n+m) e.kids he.len (fun x hx=>he.kid hx) hF H (.row (eC e) 0 (25+1)) N 0 (Nat.zero_le _) (by have:=he.len; omega)
  rw [List.drop_zero] at ht
  rw [show n+dd+(m+1)=(n+m+dd)+1 by omega]
  cases hf:Xbq p (m+1) e.kids with
  | some x =>
   rw [hf] at ht
   simp only [Option.getD_some,Option.isSome_some]
   refine Xac (m:=31) (v:=.tup [.agg (eC x),.bool true]) (a:=?a) (H1:=?H1) rfl t124 rfl ?hb ?hd ?hr ?hz
   case hb =>
    apply Xaa
    ·simp only [idx,Xym,reduceSub,reduceIte,reduceEqDiff,reduceLT,reduceAdd,reduceMul,reduceLeDiff,ZS,ZT]; rfl
    apply Xau
    apply Xaa
    ·simp only [reduceSub,reduceIte,reduceEqDiff,reduceLT,reduceAdd,reduceMul,reduceLeDiff,ZS,ZT]; rfl
    apply Xam
    apply Xaf
    exact ht
   case hd=>rfl
   case hr=>simp only [Xym,Xc6,Xbc,h4,reduceSub,reduceIte,reduceEqDiff,reduceLT,reduceAdd,reduceMul,reduceLeDiff,ZS,ZT]
   case hz=>simp only [Xao,Xdo,cfg,keep,Ze,if_false,frz,Xel,Xay,kC_low,Xa8,Zh,reduceIte,reduceEqDiff,reduceAdd,reduceLT,ZV]
  | none =>
   rw [hf] at ht
   simp only [Option.getD_none,Option.isSome_none]
   refine Xac (m:=31) (v:=.tup [.agg [.str [],.str [],.str [],.nilS,.nilS],.bool false]) (a:=?a2) (H1:=?H2) rfl t124 rfl ?hb ?hd ?hr ?hz
   case hb =>
    apply Xaa
    ·simp only [idx,Xym,reduceSub,reduceIte,reduceEqDiff,reduceLT,reduceAdd,reduceMul,reduceLeDiff,ZS,ZT]; rfl
    apply Xaa
    ·apply Xaa
     ·simp only [reduceSub,reduceIte,reduceEqDiff,reduceLT,reduceAdd,reduceMul,reduceLeDiff,ZS,ZT]; rfl
     apply Xab
     apply Xaf
     exact ht
    apply Xaa
    ·simp only [h4,reduceIte,reduceEqDiff,reduceLT,reduceAdd,reduceMul,reduceLeDiff,ZS]; rfl
    rfl
   case hd=>rfl
   case hr=>simp only [Xym,Xc6,Xbc,h4,reduceIte,reduceEqDiff,reduceLT,reduceAdd,reduceMul,reduceLeDiff,ZS]
   case hz =>
    simp only [Xao,cfg,keep,Ze,if_false,frz,Xel,Xay,kC_low,Xa8,Zh,reduceIte,reduceEqDiff,reduceAdd,reduceLT,ZV]
    rfl
end
def nsR:List UInt8:=[104,116,116,112,58,47,47,115,99,104,101,109,97,115,46,111,112,101,110,120,109,108,102,111,114,109,97,116,115,46,111,114,103,47,111,102,102,105,99,101,68,111,99,117,109,101,110,116,47,50,48,48,54,47,114,101,108,97,116,105,111,110,115,104,105,112,115]
def nsA:List UInt8:=[104,116,116,112,58,47,47,115,99,104,101,109,97,115,46,111,112,101,110,120,109,108,102,111,114,109,97,116,115,46,111,114,103,47,100,114,97,119,105,110,103,109,108,47,50,48,48,54,47,109,97,105,110]
def nsWp:List UInt8:=[104,116,116,112,58,47,47,115,99,104,101,109,97,115,46,111,112,101,110,120,109,108,102,111,114,109,97,116,115,46,111,114,103,47,100,114,97,119,105,110,103,109,108,47,50,48,48,54,47,119,111,114,100,112,114,111,99,101,115,115,105,110,103,68,114,97,119,105,110,103]
def Xpx:List UInt8:=[98,108,105,112]
def Xd3:List UInt8:=[108,105,110,107]
def Xl2:List UInt8:=[100,111,99,80,114]
def Xfq (e:El):Bool:=e.sp == nsA && (e.nm == Xpx && (Xba nsR Xd3 e.ats).isSome)
def Xc8 (e:El):Bool:=e.sp == nsWp && e.nm == Xl2
section
variable {N:Nat}
theorem says_blip (hN:9223372036854775808≤N):SaysB 125 2 N Xfq:=fun n k hk H=>by
 have hg:=fun H=>Xnx Tryz.prog N n hN nsR Xd3 k hk.ats H
 rw [show Xfq k=(k.sp == nsA && (k.nm == Xpx && (Xba nsR Xd3 k.ats).isSome)) from rfl]
 generalize (Xba nsR Xd3 k.ats).isSome=gs at *
 generalize (Xba nsR Xd3 k.ats).getD []=gv at *
 simp only [nsR,Xd3] at hg
 cases h1:(k.sp == nsA)
 ·simp only [nsA] at h1
  refine Xac (m:=21) (v:=.bool false) (a:=?aa) (H1:=?Ha) rfl t125 rfl ?hb ?hd ?hr ?hz
  case hb=>simp only [idx,I125,hg,h1,reduceSub,reduceIte,reduceEqDiff,reduceLT,reduceAdd,reduceMul,reduceLeDiff,ZS,ZT]; rfl
  case hd=>rfl
  case hr=>rfl
  case hz=>exact Xdr rfl rfl
 cases h2:(k.nm == Xpx)
 ·simp only [nsA] at h1
  simp only [Xpx] at h2
  refine Xac (m:=21) (v:=.bool false) (a:=?ab) (H1:=?Hb) rfl t125 rfl ?hb ?hd ?hr ?hz
  case hb=>simp only [idx,I125,hg,h1,h2,reduceSub,reduceIte,reduceEqDiff,reduceLT,reduceAdd,reduceMul,reduceLeDiff,ZS,ZT]; rfl
  case hd=>rfl
  case hr=>rfl
  case hz=>exact Xdr rfl rfl
 ·simp only [nsA] at h1
  simp only [Xpx] at h2
  refine Xac (m:=21) (v:=.bool gs) (a:=?ac) (H1:=?Hc) rfl t125 rfl ?hb ?hd ?hr ?hz
  case hb=>simp only [idx,I125,hg,h1,h2,reduceSub,reduceIte,reduceEqDiff,reduceLT,reduceAdd,reduceMul,reduceLeDiff,ZS,ZT]; rfl
  case hd=>rfl
  case hr=>rfl
  case hz=>exact Xdr rfl rfl
theorem Xxm:SaysB 144 1 N Xc8:=fun n k hk H=>by
 rw [show Xc8 k=(k.sp == nsWp && k.nm == Xl2) from rfl]
 cases h1:(k.sp == nsWp)
 ·simp only [nsWp] at h1
  refine Xac (m:=11) (v:=.bool false) (a:=?aa) (H1:=?Ha) rfl t144 rfl ?hb ?hd ?hr ?hz
  case hb=>simp only [idx,I144,h1,reduceSub,reduceIte,reduceEqDiff,reduceLT,reduceAdd,reduceMul,reduceLeDiff,ZS,ZT]; rfl
  case hd=>rfl
  case hr=>rfl
  case hz=>exact Xdr rfl rfl
 ·simp only [nsWp] at h1
  obtain ⟨b,h2⟩ : ∃ b,(k.nm == Xl2)=b:=⟨_,rfl⟩
  rw [h2]
  simp only [Xl2] at h2
  refine Xac (m:=11) (v:=.bool b) (a:=?ab) (H1:=?Hb) rfl t144 rfl ?hb ?hd ?hr ?hz
  case hb=>simp only [idx,I144,h1,h2,reduceSub,reduceIte,reduceEqDiff,reduceLT,reduceAdd,reduceMul,reduceLeDiff,ZS,ZT]; rfl
  case hd=>rfl
  case hr=>rfl
  case hz=>exact Xdr rfl rfl
def Xfx (s nm:List UInt8) (at_:Bool) (e:El):Bool:=e.sp == s && (e.nm == nm && (!at_ || (Xba nsR Xd3 e.ats).isSome))
noncomputable def Xfy:IC:=(Xra.c.loops).getD 0 .bad
theorem Xov (s nm:List UInt8) (at_:Bool) (m n:Nat) (hN:9223372036854775808≤N) (e:El) (he:Fits e)
  (hF:∀ x ∈ e.kids,∀ H,Xaw Tryz.prog cfg T N (n+1) 151 [.agg (eC x),.str s,.str nm,.bool at_] H=some (.ret (.tup [.agg (eC ((Xbq (Xfx s nm at_) m x.kids).getD zEl)),.bool (Xbq (Xfx s nm at_) m x.kids).isSome]),H)) (H:Mem):∀ (fuel k:Nat),k≤e.kids.length→e.kids.length-k<fuel →
  ∃ t M,Xa6 (fun a H=>evI Tryz.prog cfg (Xaw Tryz.prog cfg T N (n+1)) N Xfy a H) (some [1,2,3,4,8,10]) fuel ⟨62,[(1,.str s),(2,.str nm),(3,.bool at_),(4,.ptr H.length 0 0),(8,.ptr (H.length+1) 0 0),(10,.int .i64 k)],[]⟩ (H++[.row (eC e) 0 (25+1),.row [.str [],.str [],.str [],.nilS,.nilS] 0 (25+1)]) =
   (match Xbq (Xfx s nm at_) (m+1) (e.kids.drop k) with
   | some x=>some (.ret,⟨62,(9,.bool true)::t,[]⟩,H++(.row (eC e) 0 (25+1)::.row (eC x) 0 (25+1)::M))
   | none=>some (.exit 0,⟨62,t,[]⟩,H++[.row (eC e) 0 (25+1),.row [.str [],.str [],.str [],.nilS,.nilS] 0 (25+1)]))∧Xad t 8=.ptr (H.length+1) 0 0
 | 0,k,_,h=>by omega
 | fuel+1,k,hk,hf=>by
  have hall:=he.len
  rcases Nat.lt_or_ge k e.kids.length with hlt | hge
  ·obtain ⟨x,hx⟩:=Xbb hlt
   have hxm:x ∈ e.kids:=List.mem_of_mem_drop (i:=k) (by rw [hx]; exact List.mem_cons_self)
   have hget:(kC e.kids).drop (k*5)=eC x++kC (e.kids.drop (k+1)):=by rw [Xd1,hx]; rfl
   have hlen:k*5+5≤(kC e.kids).length:=by rw [Xen]; omega
   have hi:(k:Int)<(e.kids.length:Int):=by omega
   have hw:=Xav hlt hall
   have hn:=Xan k .i64
   have hg:=fun H=>Xhb Tryz.prog N n hN nsR Xd3 x (he.kid hxm).ats H
   have hD:=fun H=>hF x hxm H
   obtain ⟨t,M,ht,hl⟩:=Xov s nm at_ m n hN e he hF H fuel (k+1) (by omega) (by omega)
   rw [hx]
   have e1:Xbq (Xfx s nm at_) (m+1) (x::e.kids.drop (k+1))=if Xfx s nm at_ x=true then some x else match Xbq (Xfx s nm at_) m x.kids with
    | some y=>some y
    | none=>Xbq (Xfx s nm at_) (m+1) (e.kids.drop (k+1)):=by rw [Xbq] <;> rfl
   rw [e1]
   have hsk:Xfx s nm at_ x=(x.sp == s && (x.nm == nm && (!at_ || (Xba nsR Xd3 x.ats).isSome))):=rfl
   generalize (Xba nsR Xd3 x.ats).isSome=gs at *
   generalize (Xba nsR Xd3 x.ats).getD []=gv at *
   simp only [nsR,Xd3] at hg
   generalize Xfx s nm at_ x=sk at hsk ⊢
   cases h1:(x.sp == s)
   ·rw [h1,Bool.false_and] at hsk
    subst hsk
    rw [if_neg (by simp)]
    cases h9:Xbq (Xfx s nm _) m x.kids with
    | some y =>
     rw [h9] at hD
     simp only [Option.getD_some,Option.isSome_some] at hD
     exact ⟨_,_,Xah (by simp only [Xfy,Xra,IC.loops,hi,hlt,hlen,hget,hn,hw,hg,hD,h1,reduceSub,reduceIte,reduceEqDiff,reduceLT,reduceAdd,reduceMul,reduceLeDiff,ZS,ZT]; rfl),rfl⟩
    | none =>
     rw [h9] at hD
     simp only [Option.getD_none,Option.isSome_none] at hD
     refine ⟨t,M,?_,hl⟩
     refine Xap (by simp only [Xfy,Xra,IC.loops,hi,hlt,hlen,hget,hn,hw,hg,hD,h1,reduceSub,reduceIte,reduceEqDiff,reduceLT,reduceAdd,reduceMul,reduceLeDiff,ZS,ZT]; rfl) ?_
     simp only [Xay,reduceIte,reduceEqDiff,reduceAdd,reduceLT,ZV]
     exact ht
   rw [h1,Bool.true_and] at hsk
   cases h2:(x.nm == nm)
   ·rw [h2,Bool.false_and] at hsk
    subst hsk
    rw [if_neg (by simp)]
    cases h9:Xbq (Xfx s nm _) m x.kids with
    | some y =>
     rw [h9] at hD
     simp only [Option.getD_some,Option.isSome_some] at hD
     exact ⟨_,_,Xah (by simp only [Xfy,Xra,IC.loops,hi,hlt,hlen,hget,hn,hw,hg,hD,h1,h2,reduceSub,reduceIte,reduceEqDiff,reduceLT,reduceAdd,reduceMul,reduceLeDiff,ZS,ZT]; rfl),rfl⟩
    | none =>
     rw [h9] at hD
     simp only [Option.getD_none,Option.isSome_none] at hD
     refine ⟨t,M,?_,hl⟩
     refine Xap (by simp only [Xfy,Xra,IC.loops,hi,hlt,hlen,hget,hn,hw,hg,hD,h1,h2,reduceSub,reduceIte,reduceEqDiff,reduceLT,reduceAdd,reduceMul,reduceLeDiff,ZS,ZT]; rfl) ?_
     simp only [Xay,reduceIte,reduceEqDiff,reduceAdd,reduceLT,ZV]
     exact ht
   rw [h2,Bool.true_and] at hsk
   cases at_
   ·rw [Bool.not_false,Bool.true_or] at hsk
    subst hsk
    rw [if_pos rfl]
    exact ⟨_,_,Xah (by simp only [Xfy,Xra,IC.loops,hi,hlt,hlen,hget,hn,hw,hg,h1,h2,reduceSub,reduceIte,reduceEqDiff,reduceLT,reduceAdd,reduceMul,reduceLeDiff,ZS,ZT]; rfl),rfl⟩
   rw [Bool.not_true,Bool.false_or] at hsk
   cases gs
   ·skip
    subst hsk
    rw [if_neg (by simp)]
    cases h9:Xbq (Xfx s nm _) m x.kids with
    | some y =>
     rw [h9] at hD
     simp only [Option.getD_some,Option.isSome_some] at hD
     exact ⟨_,_,Xah (by simp only [Xfy,Xra,IC.loops,hi,hlt,hlen,hget,hn,hw,hg,hD,h1,h2,reduceSub,reduceIte,reduceEqDiff,reduceLT,reduceAdd,reduceMul,reduceLeDiff,ZS,ZT]; rfl),rfl⟩
    | none =>
     rw [h9] at hD
     simp only [Option.getD_none,Option.isSome_none] at hD
     refine ⟨t,M,?_,hl⟩
     refine Xap (by simp only [Xfy,Xra,IC.loops,hi,hlt,hlen,hget,hn,hw,hg,hD,h1,h2,reduceSub,reduceIte,reduceEqDiff,reduceLT,reduceAdd,reduceMul,reduceLeDiff,ZS,ZT]; rfl) ?_
     simp only [Xay,reduceIte,reduceEqDiff,reduceAdd,reduceLT,ZV]
     exact ht
   ·subst hsk
    rw [if_pos rfl]
    exact ⟨_,_,Xah (by simp only [Xfy,Xra,IC.loops,hi,hlt,hlen,hget,hn,hw,hg,h1,h2,reduceSub,reduceIte,reduceEqDiff,reduceLT,reduceAdd,reduceMul,reduceLeDiff,ZS,ZT]; rfl),rfl⟩
  ·have hk':k=e.kids.length:=by omega
   subst hk'
   simp only [List.drop_length,Xbq]
   exact ⟨_,[],Xae (by simp only [Xfy,Xra,IC.loops,Int.lt_irrefl,reduceSub,reduceIte,reduceEqDiff,reduceLT,reduceAdd,reduceMul,reduceLeDiff,ZS,ZT]; rfl),rfl⟩
theorem Xqo (s nm:List UInt8) (at_:Bool) (hN:9223372036854775808≤N):∀ (m:Nat) (e:El),dEl e≤m→Fits e→∀ (n:Nat) (H:Mem),
  Xaw Tryz.prog cfg T N (n+1+m) 151 [.agg (eC e),.str s,.str nm,.bool at_] H=some (.ret (.tup [.agg (eC ((Xbq (Xfx s nm at_) m e.kids).getD zEl)),.bool (Xbq (Xfx s nm at_) m e.kids).isSome]),H)
 | 0,e,h,_,_,_=>by cases e; simp [dEl] at h
 | m+1,e,h,he,n,H=>by
  have hF:∀ x ∈ e.kids,∀ H,Xaw Tryz.prog cfg T N (n+m+1) 151 [.agg (eC x),.str s,.str nm,.bool at_] H=some (.ret (.tup [.agg (eC ((Xbq (Xfx s nm at_) m x.kids).getD zEl)),.bool (Xbq (Xfx s nm at_) m x.kids).isSome]),H):=fun x hx H=>by
   rw [show n+m+1=n+1+m by omega]
   exact Xqo s nm at_ hN m x (by have:=Xik hx; omega) (he.kid hx) n H
  obtain ⟨t,M,ht,h8⟩:=Xov (N:=N) s nm at_ m (n+m) hN e he hF H N 0 (Nat.zero_le _) (by have:=he.len; omega)
  rw [List.drop_zero] at ht
  rw [show n+1+(m+1)=(n+m+1)+1 by omega]
  cases hf:Xbq (Xfx s nm at_) (m+1) e.kids with
  | some x =>
   rw [hf] at ht
   simp only [Option.getD_some,Option.isSome_some]
   refine Xac (m:=62) (v:=.tup [.agg (eC x),.bool true]) (a:=?a) (H1:=?H1) rfl t151 rfl ?hb ?hd ?hr ?hz
   case hb =>
    apply Xaa
    ·simp only [idx,Xra,reduceSub,reduceIte,reduceEqDiff,reduceLT,reduceAdd,reduceMul,reduceLeDiff,ZS,ZT]; rfl
    apply Xau
    apply Xaa
    ·simp only [reduceIte,reduceEqDiff,reduceLT,reduceAdd,reduceMul,reduceLeDiff,ZS]; rfl
    apply Xam
    apply Xaf
    exact ht
   case hd=>rfl
   case hr=>simp only [Xra,Xc6,Xbc,h8,reduceSub,reduceIte,reduceEqDiff,reduceLT,reduceAdd,reduceMul,reduceLeDiff,ZS,ZT]
   case hz=>simp only [Xao,Xdo,cfg,keep,Ze,if_false,frz,Xel,Xay,kC_low,Xa8,Zh,reduceIte,reduceEqDiff,reduceAdd,reduceLT,ZV]
  | none =>
   rw [hf] at ht
   simp only [Option.getD_none,Option.isSome_none]
   refine Xac (m:=62) (v:=.tup [.agg [.str [],.str [],.str [],.nilS,.nilS],.bool false]) (a:=?a2) (H1:=?H2) rfl t151 rfl ?hb ?hd ?hr ?hz
   case hb =>
    apply Xaa
    ·simp only [idx,Xra,reduceSub,reduceIte,reduceEqDiff,reduceLT,reduceAdd,reduceMul,reduceLeDiff,ZS,ZT]; rfl
    apply Xaa
    ·apply Xaa
     ·simp only [reduceIte,reduceEqDiff,reduceLT,reduceAdd,reduceMul,reduceLeDiff,ZS]; rfl
     apply Xab
     apply Xaf
     exact ht
    apply Xaa
    ·simp only [h8,reduceIte,reduceEqDiff,reduceLT,reduceAdd,reduceMul,reduceLeDiff,ZS]; rfl
    rfl
   case hd=>rfl
   case hr=>simp only [Xra,Xc6,Xbc,h8,reduceIte,reduceEqDiff,reduceLT,reduceAdd,reduceMul,reduceLeDiff,ZS]
   case hz =>
    simp only [Xao,cfg,keep,Ze,if_false,frz,Xel,Xay,kC_low,Xa8,Zh,reduceIte,reduceEqDiff,reduceAdd,reduceLT,ZV]
    rfl
end
def Xg4:List UInt8:=[114,80,114]
def Xdy:List UInt8:=[114,83,116,121,108,101]
def Xhf:List UInt8:=[67,111,100,101,84,101,120,116]
def tS:List UInt8:=[116]
def tabS:List UInt8:=[116,97,98]
def brS:List UInt8:=[98,114]
def crS:List UInt8:=[99,114]
def Xqy:List UInt8:=[100,114,97,119,105,110,103]
def Xf5:List UInt8:=[100,101,115,99,114]
def Xgm:List UInt8:=[116,105,116,108,101]
def rS:List UInt8:=[114]
def Xhd:List UInt8:=[115,109,97,114,116,84,97,103]
def insS:List UInt8:=[105,110,115]
def Xg1:List UInt8:=[104,121,112,101,114,108,105,110,107]
def idS:List UInt8:=[105,100]
def Xcj:List UInt8:=[116,111,111,108,116,105,112]
def pS:List UInt8:=[112]
def sdtS:List UInt8:=[115,100,116]
def Xd5:List UInt8:=[112,80,114]
def Xbu:List UInt8:=[112,83,116,121,108,101]
def Xb7:List UInt8:=[110,117,109,80,114]
def Xfd:List UInt8:=[110,117,109,73,100]
def Xj9:List UInt8:=[105,108,118,108]
def Xd6:List UInt8:=[115,100,116,80,114]
def Xrt:List UInt8:=[116,97,103]
def Xa5:List UInt8:=[115,100,116,67,111,110,116,101,110,116]
def Xep:List UInt8:=[98,111,100,121]
def Xmg:List UInt8:=[100,111,99,117,109,101,110,116]
def Xdd:List UInt8:=[104,116,116,112,58,47,47,115,99,104,101,109,97,115,46,111,112,101,110,120,109,108,102,111,114,109,97,116,115,46,111,114,103,47,111,102,102,105,99,101,68,111,99,117,109,101,110,116,47,50,48,48,54,47,114,101,108,97,116,105,111,110,115,104,105,112,115,47,104,121,112,101,114,108,105,110,107]
def Xbo:List UInt8:=[104,116,116,112,58,47,47,115,99,104,101,109,97,115,46,111,112,101,110,120,109,108,102,111,114,109,97,116,115,46,111,114,103,47,111,102,102,105,99,101,68,111,99,117,109,101,110,116,47,50,48,48,54,47,114,101,108,97,116,105,111,110,115,104,105,112,115,47,105,109,97,103,101]
def iS:List UInt8:=[105]
def bS:List UInt8:=[98]
structure Rl where
 id:List UInt8
 ty:List UInt8
 to:List UInt8
 ext:Bool
deriving Inhabited
def rlC (r:Rl):List AV:=[.str r.id,.str r.ty,.str r.to,.bool r.ext]
def Xg6 (l:List Rl):List AV:=l.flatMap rlC
structure Rn where
 kind:Int
 style:Int
 text:List UInt8
 url:List UInt8
 title:List UInt8
 lnk:Bool
 to:List UInt8
 about:List UInt8
 group:Int
deriving Inhabited
def rnC (r:Rn):List AV:=[.int .i64 r.kind,.int .i64 r.style,.str r.text,.str r.url,.str r.title,.bool r.lnk,.str r.to,.str r.about,.int .i64 r.group]
def Xat (l:List Rn):List AV:=l.flatMap rnC
inductive Bl where
 | mk (tag style:List UInt8) (num level:Int) (runs:List Rn) (kids:List Bl)
mutual
def blC:Bl→List AV
 | .mk tag style num level runs kids=>[.str tag,.str style,.int .i64 num,.int .i64 level,.lst runs.length (Xat runs),.lst kids.length (blsC kids)]
def blsC:List Bl→List AV
 | []=>[]
 | b::l=>blC b++blsC l
end
def ixL (id:List UInt8):List Rl→Nat→Option Nat
 | [],_=>none
 | r::l,i=>if (r.id == id)=true then some i else ixL id l (i+1)
theorem ixL_lt (id:List UInt8):∀ (l:List Rl) (i j:Nat),ixL id l i=some j→i≤j∧j<i+l.length
 | [],i,j,h=>by cases h
 | s::l,i,j,h=>by
  unfold ixL at h
  split at h
  ·injection h with h; subst h
   simp
  ·have:=ixL_lt id l (i+1) j h
   simp; omega
def Xdp (rels:List Rl) (id ty:List UInt8):Option (List UInt8):=match ixL id rels 0 with
 | some j=>if ((rels.getD j default).ty == ty && (rels.getD j default).ext)=true then some (rels.getD j default).to else none
 | none=>none
def Xiy:List UInt8→List El→List UInt8
 | s,[]=>s
 | s,k::ks=>if (k.nm == [])=true then Xiy (s++k.tx) ks else Xiy s ks
def Xj5 (kind style:Int):Rn:=⟨kind,style,[],[],[],false,[],[],0⟩
def Xng (rels:List Rl) (style:Int) (k b:El):Rn × Bool :=
 ({ Xj5 4 style with
   text:=Xc4 ((Xba [] Xf5 ((Xbq Xc8 (dEl k) k.kids).getD zEl).ats).getD []),
   url:=(Xdp rels ((Xba nsR Xd3 b.ats).getD []) Xbo).getD [],
   title:=Xc4 ((Xba [] Xgm ((Xbq Xc8 (dEl k) k.kids).getD zEl).ats).getD []) },(Xdp rels ((Xba nsR Xd3 b.ats).getD []) Xbo).isNone)
def pcD (rels:List Rl) (kind style:Int) (k:El):Option Rn × Bool :=
 if (k.sp == wNs)=true then (
  if (k.nm == tS)=true then (if (Xiy [] k.kids == [])=true then (none,false) else (some { Xj5 kind style with text:=Xc4 (Xiy [] k.kids) },false))
  else if (k.nm == tabS)=true then (some { Xj5 kind style with text:=[9] },false)
  else if (k.nm == brS || k.nm == crS)=true then (some (Xj5 3 0),false)
  else if (k.nm == Xqy)=true then (match Xbq Xfq (dEl k) k.kids with
   | none=>(none,false)
   | some b=>(some (Xng rels style k b).1,(Xng rels style k b).2))
  else (none,false))
 else (none,false)
def Xg0 (rels:List Rl) (kind style:Int):List El→List Rn × Bool
 | []=>([],false)
 | k::ks=>((pcD rels kind style k).1.toList++(Xg0 rels kind style ks).1,(pcD rels kind style k).2 || (Xg0 rels kind style ks).2)
def Xjb (e:El):Int:=if (Xbf (kidOf e Xg4) Xdy == Xhf)=true then 2 else 1
def Xix (sts:List St) (para:List UInt8) (e:El):Int:=Xt8 sts para (Xbf (kidOf e Xg4) Xdy) (Xg2 (kidOf e Xg4) iS) (Xg2 (kidOf e Xg4) bS)
def Xcm (rels:List Rl) (sts:List St) (para:List UInt8) (e:El):List Rn × Bool:=Xg0 rels (Xjb e) (Xix sts para e) e.kids
structure Lk where
 is:Bool
 to:List UInt8
 about:List UInt8
def Xia (h:Lk) (g:Nat) (r:Rn):Rn:={ r with lnk:=h.is,to:=h.to,about:=h.about,group:=if h.is=true then (g:Int)+1 else 0 }
def Xg7:Lk:=⟨false,[],[]⟩
def Xbm (rels:List Rl) (sts:List St) (para:List UInt8):Nat→Lk→Nat→List El→List Rn × Nat × Bool
 | 0,_,g,_=>([],g,false)
 | _+1,_,g,[]=>([],g,false)
 | m+1,h,g,k::ks =>
  let a:List Rn × Nat × Bool:=if (k.sp == wNs)=true then (
   if (k.nm == rS)=true then ((Xcm rels sts para k).1.map (Xia h g),g,(Xcm rels sts para k).2)
   else if (k.nm == Xhd || k.nm == insS)=true then Xbm rels sts para m h g k.kids
   else if (k.nm == Xg1 && !h.is)=true then (match Xba nsR idS k.ats with
    | none=>Xbm rels sts para m Xg7 g k.kids
    | some id =>
     let l:=Xbm rels sts para m ⟨true,(Xdp rels id Xdd).getD [],Xc4 (Xc2 k Xcj)⟩ g k.kids
     (l.1,if l.1.length=0 then l.2.1 else l.2.1+1,(Xdp rels id Xdd).isNone || l.2.2))
   else ([],g,false))
   else ([],g,false)
  let c:=Xbm rels sts para (m+1) h a.2.1 ks
  (a.1++c.1,c.2.1,a.2.2 || c.2.2)
def Xug (out:List Rn) (r:Rn):Bool:=match out.getLast? with
 | none=>false
 | some z=>(r.kind == 1 || r.kind == 2) && (z.kind == r.kind && (z.style == r.style && z.group == r.group))
def Xt1 (out:List Rn) (r:Rn):List Rn:=match out.getLast? with
 | none=>out
 | some z=>out.dropLast++[{ z with text:=z.text++r.text }]
def Xex:List Rn→List Rn→List Rn
 | out,[]=>out
 | out,r::l=>if Xug out r=true then Xex (Xt1 out r) l else Xex (out++[r]) l
def Xfa (rels:List Rl) (sts:List St) (m g:Nat) (e:El):Bl × Nat × Bool :=
 let p:=kidOf e Xd5
 let n:=kidOf p Xb7
 let num:=Xni (Xbf n Xfd)
 let l:=Xbm rels sts (Xbf p Xbu) m Xg7 g e.kids
 (.mk [] (Xbf p Xbu) num (if num>0 then Xni (Xbf n Xj9) else 0) (Xex [] l.1) [],l.2.1,l.2.2)
def Xby (rels:List Rl) (sts:List St):Nat→Nat→Nat→List El→List Bl × Nat × Nat
 | 0,_,g,_=>([],g,0)
 | _+1,_,g,[]=>([],g,0)
 | m+1,dp,g,k::ks =>
  if (k.sp == wNs && (k.nm == pS || k.nm == sdtS))=true then (
   if 64<dp then ([],g,19)
   else if (k.nm == pS)=true then (
    let b:=Xfa rels sts m g k
    if b.2.2=true then ([],b.2.1,15) else
     let c:=Xby rels sts (m+1) dp b.2.1 ks
     (b.1::c.1,c.2.1,c.2.2))
   else (
    let tag:=Xc4 (Xbf (kidOf k Xd6) Xrt)
    let b:=Xby rels sts m (dp+1) g (kidOf k Xa5).kids
    if b.2.2=0 then (
     let c:=Xby rels sts (m+1) dp b.2.1 ks
     ((if (tag == [])=true then b.1 else [.mk tag [] 0 0 [] b.1])++c.1,c.2.1,c.2.2))
    else ([],b.2.1,b.2.2)))
  else Xby rels sts (m+1) dp g ks
def Xvq (rels:List Rl) (sts:List St) (e:El):List Bl × Nat :=
 if (e.sp == wNs && (e.nm == Xmg && (Xbg wNs Xep e.kids).isSome))=true then (
  let c:=Xby rels sts (dEl e) 1 0 (kidOf e Xep).kids
  if c.2.2=0 then (c.1,0) else ([],c.2.2))
 else ([],3)
theorem rlC_len (r:Rl):(rlC r).length=4:=rfl
theorem Xhp (r:Rn):(rnC r).length=9:=rfl
theorem Xmb (b:Bl):(blC b).length=6:=by cases b; rfl
theorem Xpl (l:List Rl):(Xg6 l).length=l.length*4:=by
 induction l with
 | nil=>rfl
 | cons a l ih=>simp only [Xg6,List.flatMap_cons,Zg,Zf] at *; rw [ih,rlC_len]; omega
theorem Xa7 (l:List Rn):(Xat l).length=l.length*9:=by
 induction l with
 | nil=>rfl
 | cons a l ih=>simp only [Xat,List.flatMap_cons,Zg,Zf] at *; rw [ih,Xhp]; omega
theorem Xk7:∀ l:List Bl,(blsC l).length=l.length*6
 | []=>rfl
 | b::l=>by simp only [blsC,Zg,Zf,Xmb,Xk7 l]; omega
theorem Xlj (r:Rl) (l:List Rl):Xg6 (r::l)=rlC r++Xg6 l:=rfl
theorem Xgf (r:Rn) (l:List Rn):Xat (r::l)=rnC r++Xat l:=rfl
theorem Xct (a b:List Rn):Xat (a++b)=Xat a++Xat b:=List.flatMap_append
theorem Xvy:∀ a b:List Bl,blsC (a++b)=blsC a++blsC b
 | [],b=>rfl
 | x::a,b=>by simp only [Zp,blsC,Xvy a b,Zn]
theorem Xci (n:Nat):∀ l:List Rn,lowL n (Xat l)=true
 | []=>rfl
 | r::l=>by rw [Xgf,Xer,Xci n l]; rfl
theorem Xi0 (n:Nat):∀ l:List Rl,lowL n (Xg6 l)=true
 | []=>rfl
 | r::l=>by rw [Xlj,Xer,Xi0 n l]; rfl
mutual
theorem Xj3 (n:Nat):∀ b:Bl,lowL n (blC b)=true
 | .mk tag style num level runs kids=>by simp [blC,lowL,low,Xci,blsC_low n kids]
theorem blsC_low (n:Nat):∀ l:List Bl,lowL n (blsC l)=true
 | []=>rfl
 | b::l=>by simp [blsC,Xer,Xj3 n b,blsC_low n l]
end
theorem Xh6:∀ l:List Rn,(Xat l).all AV.one=true
 | []=>rfl
 | r::l=>by rw [Xgf,List.all_append,Xh6 l]; rfl
theorem Xql (b:Bl):(blC b).all AV.one=true:=by cases b; rfl
theorem Xpn:∀ l:List Bl,(blsC l).all AV.one=true
 | []=>rfl
 | b::l=>by rw [blsC,List.all_append,Xql,Xpn l]; rfl
theorem Xrq:∀ (l:List Rl) (k:Nat),(Xg6 l).drop (k*4)=Xg6 (l.drop k)
 | l,0=>by simp
 | [],k+1=>by simp [Xg6]
 | x::l,k+1=>by
  rw [Xlj,show (k+1)*4=4+k*4 by omega,← List.drop_drop,List.drop_left' (rlC_len x),Xrq l k]; rfl
theorem Xs1:∀ (l:List Rn) (k:Nat),(Xat l).drop (k*9)=Xat (l.drop k)
 | l,0=>by simp
 | [],k+1=>by simp [Xat]
 | x::l,k+1=>by
  rw [Xgf,show (k+1)*9=9+k*9 by omega,← List.drop_drop,List.drop_left' (Xhp x),Xs1 l k]; rfl
theorem Xsm:∀ (l:List Bl) (k:Nat),(blsC l).drop (k*6)=blsC (l.drop k)
 | l,0=>by simp
 | [],k+1=>by simp [blsC]
 | x::l,k+1=>by
  rw [blsC,show (k+1)*6=6+k*6 by omega,← List.drop_drop,List.drop_left' (Xmb x),Xsm l k]; rfl
theorem Xld (n0:Nat) (H:Mem) (k:Nat):∀ l:List Rn,Xel (frz n0 H (k+1)) (Xat l)=some (Xat l)
 | []=>rfl
 | x::l=>by
  rw [Xgf]
  exact Xpy _ _ _ _ _ rfl (Xld n0 H k l)
theorem Xpq (rels:List Rl) (sts:List St) (para:List UInt8):∀ (m:Nat) (h:Lk) (g:Nat) (l:List El),h.is=true→(Xbm rels sts para m h g l).2.1=g
 | 0,_,_,_,_=>by simp only [Xbm]
 | _+1,_,_,[],_=>by simp only [Xbm]
 | m+1,h,g,k::ks,hh=>by
  have e1:∀ a:List Rn × Nat × Bool,a.2.1=g→(Xbm rels sts para (m+1) h a.2.1 ks).2.1=g:=fun a ha=>by
   rw [ha]; exact Xpq rels sts para (m+1) h g ks hh
  rw [Xbm]
  dsimp only
  apply e1
  cases k.sp == wNs
  ·rfl
  cases k.nm == rS
  ·cases (k.nm == Xhd || k.nm == insS)
   ·rw [hh,Bool.not_true,Bool.and_false]; rfl
   ·exact Xpq rels sts para m h g k.kids hh
  ·rfl
section
variable {P:Program} {g:Cfg} {F:Xc5} {N:Nat} {x y c:IC} {a a':AAct} {H H':Mem} {v:AV} {id:Nat}
theorem Xbj (h:evI P g F N x a H=some (.pan v,a',H')):evI P g F N (.seq x y) a H=some (.pan v,a',H'):=by simp only [evI,h]
theorem Xcb (h:evI P g F N c a H=some (.pan v,a',H')):evI P g F N (.block id c) a H=some (.pan v,a',H'):=by simp only [evI,h]
theorem Xlm {body:AAct→Mem→Option (Out × AAct × Mem)} {lv:Option (List Tmp)} {n:Nat} (h:body a H=some (.pan v,a',H')):Xa6 body lv (n+1) a H=some (.pan v,a',H'):=by
 rw [Xdj,h]
end
section
variable {P:Program} {g:Cfg} {T:FuncId→Option IF} {N n f m:Nat} {i:IF} {args:List AV} {H H1 H2:Mem} {a:AAct} {v v':AV}
theorem Xdu (hl:g.lib f=none) (hT:T f=some i) (hm:max args.length i.n=m) (hb:evI P g (Xaw P g T N n) N i.c ⟨m,idx 0 args,[]⟩ H=some (.pan v,a,H1)) (hd:a.d=[]) (hz:Xao false H v H1=(v',H2)) :
  Xaw P g T N (n+1) f args H=some (.pan v',H2):=by
 simp only [Xaw,hl,hT,hm,hb,hd,List.isEmpty_nil,if_true,hz]
end
def Xbw (e:Int):AV:=.iface 71 (.agg [.int .i64 e])
theorem Xmo (e:Int) {H M:Mem} (h:Xce H M=true):Xao false H (Xbw e) M=(Xbw e,M.take H.length):=by
 have hf:frz H.length M 12 (Xbw e)=some (Xbw e):=rfl
 have hl:low H.length (Xbw e)=true:=rfl
 simp only [Xao,Ze,if_false,hf,hl,h,ZJ,if_true]
theorem Xuw (P:Program) (N d:Nat) (hd:1≤d) (e:Int) (H:Mem):Xaw P cfg T N d 27 [.bool true,.int .i64 e] H=some (.ret (.tup []),H):=by
 obtain ⟨n,rfl⟩ : ∃ k,d=k+1:=⟨d-1,by omega⟩
 refine Xvf (m:=9) (v:=.tup []) (a:=?aa) (H1:=H) rfl t27 rfl ?hb ?hd ?hr ?hz
 case hb=>simp only [idx,I27,reduceIte,reduceEqDiff,reduceLT,reduceAdd,reduceMul,reduceLeDiff,ZS]; rfl
 case hd=>rfl
 case hr=>rfl
 case hz=>exact Xaq rfl rfl
theorem Xuq (P:Program) (N d:Nat) (hd:1≤d) (e:Int) (H:Mem):Xaw P cfg T N d 27 [.bool false,.int .i64 e] H=some (.pan (Xbw e),H):=by
 obtain ⟨n,rfl⟩ : ∃ k,d=k+1:=⟨d-1,by omega⟩
 refine Xdu (m:=9) (v:=Xbw e) (a:=?aa) (H1:=H) rfl t27 rfl ?hb ?hd ?hz
 case hb=>simp only [idx,I27,reduceIte,reduceEqDiff,reduceLT,reduceAdd,reduceMul,reduceLeDiff,ZS]; rfl
 case hd=>rfl
 case hz=>exact Xaq rfl rfl
def RlV (H:Mem) (v:AV) (l:List Rl):Prop:=(∃ q st ty,v=.slc q 0 l.length 4 st∧H[q]? = some (.row (Xg6 l) st ty))∨v=.lst l.length (Xg6 l)
theorem RlV.app {H:Mem} {v:AV} {l:List Rl} (h:RlV H v l) (L:Mem):RlV (H++L) v l:=by
 rcases h with ⟨q,st,ty,h1,h2⟩ | h
 ·exact .inl ⟨q,st,ty,h1,by rw [List.getElem?_append_left (List.getElem?_eq_some_iff.1 h2).1]; exact h2⟩
 ·exact .inr h
theorem Xp9 {l:List Rl} {j:Nat} (h:j<l.length):∃ r,(Xg6 l).drop (j*4)=rlC (l.getD j default)++r:=by
 rw [Xrq,List.drop_eq_getElem_cons h]
 exact ⟨Xg6 (l.drop (j+1)),by rw [List.getD_eq_getElem?_getD,List.getElem?_eq_getElem h]; rfl⟩
theorem Xqs {cs:List AV} {o:Nat} {s:Rl} {r:List AV} (h:cs.drop o=rlC s++r):o+4≤cs.length∧(cs.drop o).take 4=rlC s∧(cs.drop o).take 1=[.str s.id]∧(cs.drop (o+1)).take 1=[.str s.ty]∧(cs.drop (o+2)).take 1=[.str s.to]∧(cs.drop (o+3)).take 1=[.bool s.ext]∧((cs.drop o).drop 1).take 1=[.str s.ty]∧((cs.drop o).drop 2).take 1=[.str s.to]∧((cs.drop o).drop 3).take 1=[.bool s.ext]:=by
 have hl:cs.length-o=4+r.length:=by rw [← List.length_drop,h]; simp [rlC]; omega
 refine ⟨by omega,by rw [h]; rfl,by rw [h]; rfl,?_,?_,?_,by rw [h]; rfl,by rw [h]; rfl,by rw [h]; rfl⟩
 ·rw [← List.drop_drop,h]; rfl
 ·rw [← List.drop_drop,h]; rfl
 ·rw [← List.drop_drop,h]; rfl
theorem ixL_at {id:List UInt8} {l:List Rl} {k:Nat} (h:k<l.length):ixL id (l.drop k) k=if ((l.getD k default).id == id)=true then some k else ixL id (l.drop (k+1)) (k+1):=by
 rw [List.drop_eq_getElem_cons h,List.getD_eq_getElem?_getD,List.getElem?_eq_getElem h]; rfl
theorem cloT_eq (P:Program) (N d:Nat) (hd:1≤d) (s:Rl) (id:List UInt8) (H:Mem) (p ty:Nat) (hp:H[p]? = some (.row [.str id] 0 ty)):Xaw P cfg T N d 146 [.agg (rlC s),.ptr p 0 0] H=some (.ret (.bool (s.id == id)),H):=by
 obtain ⟨n,rfl⟩ : ∃ k,d=k+1:=⟨d-1,by omega⟩
 have hlt:p<H.length:=(List.getElem?_eq_some_iff.1 hp).1
 have hp2:∀ L:Mem,(H++L)[p]? = some (.row [.str id] 0 ty):=fun L=>by rw [List.getElem?_append_left hlt]; exact hp
 refine Xac (m:=8) (v:=.bool (s.id == id)) (a:=?aa) (H1:=?Ha) rfl t146 rfl ?hb ?hd ?hr ?hz
 case hb=>simp only [idx,I146,rlC,hp2,reduceIte,reduceEqDiff,reduceLT,reduceAdd,reduceMul,reduceLeDiff,ZS]; rfl
 case hd=>rfl
 case hr=>rfl
 case hz=>exact Xa4 rfl rfl
noncomputable def Xoz:IC:=(I145.c.loops).getD 0 .bad
theorem Xsp (P:Program) (hcl:Xa1 P 146=true) (N n:Nat) (id:List UInt8) (H:Mem) (p ty:Nat) (v:AV) (l:List Rl) (hl:l.length≤4611686018427387904) (hp:H[p]? = some (.row [.str id] 0 ty)) (hv:RlV H v l):∀ (fuel k:Nat),k≤l.length→l.length-k<fuel →
  ∃ t,Xa6 (fun a H=>evI P cfg (Xaw P cfg T N (n+1)) N Xoz a H) (some [0,1,7,8]) fuel ⟨19,[(0,v),(1,.fn (.func 146) [.ptr p 0 0]),(7,.int .i64 l.length),(8,.int .i64 k)],[]⟩ H =
   (match ixL id (l.drop k) k with
   | some j=>some (.ret,⟨19,(4,.int .i64 j)::t,[]⟩,H)
   | none=>some (.exit 0,⟨19,t,[]⟩,H))
 | 0,k,_,h=>by omega
 | fuel+1,k,hk,hf=>by
  rcases Nat.lt_or_ge k l.length with hlt | hge
  ·obtain ⟨r,hr⟩:=Xp9 hlt
   obtain ⟨g1,g2,g3,g4,g5,g6,g7,g8,g9⟩:=Xqs hr
   have hi:(k:Int)<(l.length:Int):=by omega
   have hw:=Xav hlt (by omega)
   have hn:=Xan k .i64
   have hc:=cloT_eq P N (n+1) (by omega) (l.getD k default) id H p ty hp
   rw [ixL_at hlt]
   generalize l.getD k default=x at *
   have g2':4≤((Xg6 l).drop (k*4)).length:=by rw [List.length_drop]; omega
   have g3':0<((Xg6 l).drop (k*4)).length:=by omega
   simp only [rlC] at hc g2
   obtain ⟨t,ht⟩:=Xsp P hcl N n id H p ty v l hl hp hv fuel (k+1) (by omega) (by omega)
   rcases hv with ⟨q,st,ty2,rfl,hq⟩ | rfl
   ·cases h1:(x.id == id)
    ·rw [h1] at hc
     refine ⟨t,?_⟩
     simp only [Ze,if_false]
     refine Xap (H':=H) (by simp only [Xoz,I145,IC.loops,hi,hlt,hn,hw,hq,g1,g2,hcl,hc,reduceIte,reduceEqDiff,reduceLT,reduceAdd,reduceMul,reduceLeDiff,ZS]; rfl) ?_
     rw [Xbx]
     exact ht
    ·rw [h1] at hc
     simp only [if_true]
     exact ⟨_,Xah (by simp only [Xoz,I145,IC.loops,hi,hlt,hn,hw,hq,g1,g2,hcl,hc,reduceIte,reduceEqDiff,reduceLT,reduceAdd,reduceMul,reduceLeDiff,ZS]; rfl)⟩
   ·cases h1:(x.id == id)
    ·rw [h1] at hc
     refine ⟨t,?_⟩
     simp only [Ze,if_false]
     refine Xap (H':=H) (by simp only [Xoz,I145,IC.loops,hi,hlt,hn,hw,g1,g2,g2',g3',hcl,hc,reduceIte,reduceEqDiff,reduceLT,reduceAdd,reduceMul,reduceLeDiff,ZS]; rfl) ?_
     rw [Xbx]
     exact ht
    ·rw [h1] at hc
     simp only [if_true]
     exact ⟨_,Xah (by simp only [Xoz,I145,IC.loops,hi,hlt,hn,hw,g1,g2,g2',g3',hcl,hc,reduceIte,reduceEqDiff,reduceLT,reduceAdd,reduceMul,reduceLeDiff,ZS]; rfl)⟩
  ·have hk':k=l.length:=by omega
   subst hk'
   simp only [List.drop_length,ixL]
   rcases hv with ⟨q,st,ty2,rfl,hq⟩ | rfl
   all_goals exact ⟨_,Xae (by simp only [Xoz,I145,IC.loops,Int.lt_irrefl,reduceIte,reduceEqDiff,reduceLT,reduceAdd,reduceMul,reduceLeDiff,ZS]; rfl)⟩
theorem idxL_eq (P:Program) (hcl:Xa1 P 146=true) (N d:Nat) (hd:2≤d) (id:List UInt8) (H:Mem) (p ty:Nat) (v:AV) (l:List Rl) (hN:l.length<N) (hl:l.length≤4611686018427387904) (hp:H[p]? = some (.row [.str id] 0 ty)) (hv:RlV H v l) :
  Xaw P cfg T N d 145 [v,.fn (.func 146) [.ptr p 0 0]] H=some (.ret (.int .i64 (ixZ (ixL id l 0))),H):=by
 obtain ⟨n,rfl⟩ : ∃ k,d=k+2:=⟨d-2,by omega⟩
 obtain ⟨t,ht⟩:=Xsp P hcl N n id H p ty v l hl hp hv N 0 (Nat.zero_le _) (by omega)
 rw [List.drop_zero] at ht
 cases hx:ixL id l 0 with
 | some j =>
  rw [hx] at ht
  refine Xac (m:=19) (v:=.int .i64 (j:Nat)) (a:=?ab) (H1:=H) rfl t145 rfl ?hb ?hd ?hr ?hz
  case hb =>
   apply Xaa
   ·simp only [idx,I145,reduceIte,reduceEqDiff,reduceLT,reduceAdd,reduceMul,reduceLeDiff,ZS]; rfl
   apply Xau
   apply Xaa (a':=⟨19,[(8,.int .i64 0),(7,.int .i64 l.length),(6,v),(4,.int .i64 0),(0,v),(1,.fn (.func 146) [.ptr p 0 0])],[]⟩) (H':=H)
   ·rcases hv with ⟨q,st,ty2,rfl,hq⟩ | rfl <;> (simp only [reduceIte,reduceEqDiff,reduceLT,reduceAdd,reduceMul,reduceLeDiff,ZS]; try rfl)
   apply Xam
   apply Xaf
   exact ht
  case hd=>rfl
  case hr=>rfl
  case hz=>exact Xaq rfl rfl
 | none =>
  rw [hx] at ht
  refine Xac (m:=19) (v:=.int .i64 (-1)) (a:=?ac) (H1:=H) rfl t145 rfl ?hb ?hd ?hr ?hz
  case hb =>
   apply Xaa
   ·simp only [idx,I145,reduceIte,reduceEqDiff,reduceLT,reduceAdd,reduceMul,reduceLeDiff,ZS]; rfl
   apply Xaa
   ·apply Xaa (a':=⟨19,[(8,.int .i64 0),(7,.int .i64 l.length),(6,v),(4,.int .i64 0),(0,v),(1,.fn (.func 146) [.ptr p 0 0])],[]⟩) (H':=H)
    ·rcases hv with ⟨q,st,ty2,rfl,hq⟩ | rfl <;> (simp only [reduceIte,reduceEqDiff,reduceLT,reduceAdd,reduceMul,reduceLeDiff,ZS]; try rfl)
    apply Xab
    apply Xaf
    exact ht
   simp only [reduceIte,reduceEqDiff,reduceLT,reduceAdd,reduceMul,reduceLeDiff,ZS]; rfl
  case hd=>rfl
  case hr=>rfl
  case hz=>exact Xaq rfl rfl
abbrev Xcu (vr vs:AV) (g:Nat):Blk:=.row [vr,vs,.int .i64 (g:Nat)] 0 (77+1)
abbrev Xa0 (vr vs:AV) (g e:Nat):Blk:=.row [vr,vs,.int .i64 (g:Nat),.int .i64 (e:Nat)] 0 (82+1)
theorem tgt_eq (P:Program) (hcl:Xa1 P 146=true) (N d:Nat) (hd:3≤d) (id kind:List UInt8) (H:Mem) (px g:Nat) (vr vs:AV) (l:List Rl) (hN:l.length<N) (hl:l.length≤4611686018427387904) (hx:H[px]? = some (Xcu vr vs g)) (hv:RlV H vr l) :
  Xaw P cfg T N d 127 [.ptr px 0 0,.str id,.str kind] H=some ((match Xdp l id kind with | some to=>.ret (.str to) | none=>.pan (Xbw 15)),H):=by
 obtain ⟨n,rfl⟩ : ∃ k,d=k+3:=⟨d-3,by omega⟩
 have q1:=idxL_eq P hcl N (n+2) (by omega) id (H++[.row [.str id] 0 (9+1)]) H.length (9+1) vr l hN hl (Xfr _ _) (hv.app _)
 have hpl:px<H.length:=(List.getElem?_eq_some_iff.1 hx).1
 have hx2:∀ L:Mem,(H++L)[px]? = some (Xcu vr vs g):=fun L=>by rw [List.getElem?_append_left hpl]; exact hx
 have no:=fun H=>Xuq P N (n+2) (by omega) 15 H
 have ok:=fun H=>Xuw P N (n+2) (by omega) 15 H
 unfold Xdp
 cases hj:ixL id l 0 with
 | none =>
  rw [hj] at q1
  have c1:decide (ixZ none ≥ 0)=false:=rfl
  refine Xdu (m:=47) (v:=Xbw 15) (a:=?aa) (H1:=?Ha) rfl t127 rfl ?hb ?hd ?hz
  case hb=>simp only [idx,I127,q1,c1,hx2,no,reduceIte,reduceEqDiff,reduceLT,reduceAdd,reduceMul,reduceLeDiff,ZS]; rfl
  case hd=>rfl
  case hz=>exact Xa4 rfl rfl
 | some j =>
  rw [hj] at q1
  have hjl:=(ixL_lt id l 0 j hj).2
  rw [Nat.zero_add] at hjl
  obtain ⟨r,hr⟩:=Xp9 hjl
  obtain ⟨g1,g2,g3,g4,g5,g6,g7,g8,g9⟩:=Xqs hr
  have c1:decide ((j:Int) ≥ 0)=true:=decide_eq_true (by omega)
  have hz:ixZ (some j)=(j:Int):=rfl
  rw [hz] at q1
  have hn:=Xan j .i64
  have g2':4≤((Xg6 l).drop (j*4)).length:=by rw [List.length_drop]; omega
  have k1:j*4+1+1≤(Xg6 l).length:=by omega
  have k2:j*4+2+1≤(Xg6 l).length:=by omega
  have k3:j*4+3+1≤(Xg6 l).length:=by omega
  have m0:0<((Xg6 l).drop (j*4)).length:=by omega
  have m1:1<((Xg6 l).drop (j*4)).length:=by omega
  have m2:2<((Xg6 l).drop (j*4)).length:=by omega
  have m3:3<((Xg6 l).drop (j*4)).length:=by omega
  have o1:1≤((Xg6 l).length-(j*4)-1):=by omega
  dsimp only
  generalize l.getD j default=x at *
  have m1':1≤(((Xg6 l).drop (j*4)).drop 1).length:=by rw [List.length_drop]; omega
  have m2':1≤(((Xg6 l).drop (j*4)).drop 2).length:=by rw [List.length_drop]; omega
  have m3':1≤(((Xg6 l).drop (j*4)).drop 3).length:=by rw [List.length_drop]; omega
  rcases hv with ⟨q,st,ty2,rfl,hq⟩ | rfl
  ·have hql:q<H.length:=(List.getElem?_eq_some_iff.1 hq).1
   have hq2:∀ L:Mem,(H++L)[q]? = some (.row (Xg6 l) st ty2):=fun L=>by rw [List.getElem?_append_left hql]; exact hq
   cases h1:(x.ty == kind)
   ·simp only [ZE,Ze,if_false]
    refine Xdu (m:=47) (v:=Xbw 15) (a:=?ab) (H1:=?Hb) rfl t127 rfl ?hb ?hd ?hz
    case hb=>simp only [idx,I127,q1,c1,hx2,hq2,no,hn,hjl,k1,g4,h1,reduceIte,reduceEqDiff,reduceLT,reduceAdd,reduceMul,reduceLeDiff,ZS]; rfl
    case hd=>rfl
    case hz=>exact Xa4 rfl rfl
   cases h2:x.ext
   ·rw [h2] at g6
    simp only [ZD,Ze,if_false]
    refine Xdu (m:=47) (v:=Xbw 15) (a:=?ac) (H1:=?Hc) rfl t127 rfl ?hb ?hd ?hz
    case hb=>simp only [idx,I127,q1,c1,hx2,hq2,no,hn,hjl,k1,k3,g4,g6,h1,reduceIte,reduceEqDiff,reduceLT,reduceAdd,reduceMul,reduceLeDiff,ZS]; rfl
    case hd=>rfl
    case hz=>exact Xa4 rfl rfl
   ·rw [h2] at g6
    simp only [ZJ,if_true]
    refine Xac (m:=47) (v:=.str x.to) (a:=?ad) (H1:=?Hd) rfl t127 rfl ?hb ?hd ?hr ?hz
    case hb=>simp only [idx,I127,q1,c1,hx2,hq2,ok,hn,hjl,k1,k2,k3,g4,g5,g6,h1,reduceIte,reduceEqDiff,reduceLT,reduceAdd,reduceMul,reduceLeDiff,ZS]; rfl
    case hd=>rfl
    case hr=>rfl
    case hz=>exact Xa4 rfl rfl
  ·cases h1:(x.ty == kind)
   ·simp only [ZE,Ze,if_false]
    refine Xdu (m:=47) (v:=Xbw 15) (a:=?ae) (H1:=?He) rfl t127 rfl ?hb ?hd ?hz
    case hb=>simp only [idx,I127,q1,c1,hx2,no,hn,hjl,g1,m1,m1',g7,h1,reduceIte,reduceEqDiff,reduceLT,reduceAdd,reduceMul,reduceLeDiff,ZS]; rfl
    case hd=>rfl
    case hz=>exact Xa4 rfl rfl
   cases h2:x.ext
   ·rw [h2] at g9
    simp only [ZD,Ze,if_false]
    refine Xdu (m:=47) (v:=Xbw 15) (a:=?af) (H1:=?Hf) rfl t127 rfl ?hb ?hd ?hz
    case hb=>simp only [idx,I127,q1,c1,hx2,no,hn,hjl,g1,m1,m3,m1',m3',g7,g9,h1,reduceIte,reduceEqDiff,reduceLT,reduceAdd,reduceMul,reduceLeDiff,ZS]; rfl
    case hd=>rfl
    case hz=>exact Xa4 rfl rfl
   ·rw [h2] at g9
    simp only [ZJ,if_true]
    refine Xac (m:=47) (v:=.str x.to) (a:=?ag) (H1:=?Hg) rfl t127 rfl ?hb ?hd ?hr ?hz
    case hb=>simp only [idx,I127,q1,c1,hx2,ok,hn,hjl,g1,m1,m2,m3,m1',m2',m3',g7,g8,g9,h1,reduceIte,reduceEqDiff,reduceLT,reduceAdd,reduceMul,reduceLeDiff,ZS]; rfl
    case hd=>rfl
    case hr=>rfl
    case hz=>exact Xa4 rfl rfl
def Lim (e:El):Prop:=Fits e∧wEl e≤1048576
theorem wEl_mem {x:El}:∀ {l:List El},x ∈ l→wEl x≤wEls l
 | k::ks,h=>by
  simp only [wEls]
  rcases List.mem_cons.1 h with rfl | h
  ·omega
  ·have:=wEl_mem h; omega
theorem wEl_kid {e x:El} (h:x ∈ e.kids):wEl x+8≤wEl e:=by
 have:=wEl_mem h
 rw [Xb2 e]; omega
theorem wEl_z:wEl zEl=8:=rfl
theorem Xyd (e:El):8≤wEl e:=by rw [Xb2]; omega
theorem Lim.kid {e x:El} (h:Lim e) (hx:x ∈ e.kids):Lim x:=⟨h.1.kid hx,by have:=wEl_kid hx; have:=h.2; omega⟩
theorem Lim.z:Lim zEl:=⟨Fits.z,by rw [wEl_z]; omega⟩
theorem Lim.find {e:El} (h:Lim e) (s nm:List UInt8):Lim ((Xbg s nm e.kids).getD zEl):=by
 cases hf:Xbg s nm e.kids with
 | none=>exact .z
 | some x=>exact h.kid (Xgc hf)
theorem Lim.kidOf {e:El} (h:Lim e) (nm:List UInt8):Lim (kidOf e nm):=h.find _ _
theorem dEl_1 (e:El):1≤dEl e:=by cases e; simp only [dEl]; omega
theorem Xib (e:El):dEl e=dEls e.kids+1:=by cases e; rfl
theorem dEl_find (e:El) (s nm:List UInt8):dEl ((Xbg s nm e.kids).getD zEl)≤dEl e:=by
 cases hf:Xbg s nm e.kids with
 | none=>exact dEl_1 e
 | some x=>have:=Xik (Xgc hf); rw [Option.getD_some]; omega
theorem Xjn (e:El) (nm:List UInt8):dEl (kidOf e nm)≤dEl e:=dEl_find e _ _
theorem Xqk {p:El→Bool} {q:El→Prop} (hq:∀ e,q e→∀ x ∈ e.kids,q x):∀ (m:Nat) (l:List El) (y:El),(∀ x ∈ l,q x)→Xbq p m l=some y→q y
 | 0,_,_,_,h=>by simp only [Xbq] at h; cases h
 | _+1,[],_,_,h=>by simp only [Xbq] at h; cases h
 | m+1,k::ks,y,hl,h=>by
  rw [Xbq] at h
  split at h
  ·injection h with h; subst h; exact hl _ (by simp)
  ·split at h
   ·rename_i z hz
    injection h with h; subst h
    exact Xqk hq m k.kids z (hq k (hl k (by simp))) hz
   ·exact Xqk hq (m+1) ks y (fun x hx=>hl x (by simp [hx])) h
theorem Lim.deep {e:El} (h:Lim e) (p:El→Bool) (m:Nat):Lim ((Xbq p m e.kids).getD zEl):=by
 cases hd:Xbq p m e.kids with
 | none=>exact .z
 | some y=>exact Xqk (q:=Lim) (fun e he x hx=>he.kid hx) m e.kids y (fun x hx=>h.kid hx) hd
theorem Xls (s nm:List UInt8):∀ l:List (List UInt8 × List UInt8 × List UInt8),((Xba s nm l).getD []).length≤wAts l
 | []=>by simp [Xba]
 | a::l=>by
  have:=Xls s nm l
  simp only [Xba,wAts]
  split
  ·rw [Option.getD_some]; omega
  ·omega
theorem Lim.get {e:El} (h:Lim e) (s nm:List UInt8):((Xba s nm e.ats).getD []).length<1073741824:=by
 have h1:=Xls s nm e.ats
 have h2:=h.2
 rw [Xb2] at h2; omega
theorem Lim.attr {e:El} (h:Lim e) (nm:List UInt8):(Xc2 e nm).length<1073741824:=h.get _ _
theorem Lim.val {e:El} (h:Lim e) (nm:List UInt8):(Xbf e nm).length<1073741824:=(h.kidOf nm).attr _
theorem Xi6:∀ (l:List El) (s:List UInt8),(Xiy s l).length≤s.length+wEls l
 | [],s=>by simp [Xiy,wEls]
 | k::ks,s=>by
  have h1:=Xb2 k
  rw [Xiy]
  simp only [wEls]
  split
  ·have:=Xi6 ks (s++k.tx)
   rw [List.length_append] at this; omega
  ·have:=Xi6 ks s; omega
theorem Lim.kids {e:El} (h:Lim e):e.kids.length≤1048576:=by
 have h1:∀ l:List El,l.length≤wEls l:=fun l=>by
  induction l with
  | nil=>exact Nat.zero_le _
  | cons k ks ih=>have:=Xyd k; simp only [wEls,Zf]; omega
 have h2:=h1 e.kids
 have h3:=h.2
 rw [Xb2] at h3; omega
def LoH (H:Mem):Prop:=Xb6 H.length H=true
theorem Xcp (n:Nat) (H L:Mem):Xb6 n (H++L)=(Xb6 n H && Xb6 n L):=by unfold Xb6; rw [List.all_append]
theorem Xcl {n m:Nat} (h:n≤m) {H:Mem} (hH:Xb6 n H=true):Xb6 m H=true:=by
 unfold Xb6 at *
 exact List.all_eq_true.2 fun b hb=>Xej h (List.all_eq_true.1 hH b hb)
theorem LoH.app {H L:Mem} (h:LoH H) (hL:Xb6 (H++L).length L=true):LoH (H++L):=by
 unfold LoH
 rw [Xcp,hL,Bool.and_true]
 exact Xcl (by rw [List.length_append]; omega) h
theorem LoH.get {H:Mem} (h:LoH H) {p:Nat} {b:Blk} (hp:H[p]? = some b):Xcn H.length b=true :=
 List.all_eq_true.1 h b (List.mem_of_getElem? hp)
theorem Xb9 {n:Nat} {H:Mem} (h:Xb6 n H=true) {b:Blk} (hb:Xcn n b=true) (p:Nat):Xb6 n (H.set p b)=true:=by
 unfold Xb6 at *
 refine List.all_eq_true.2 fun x hx=>?_
 rcases List.mem_or_eq_of_mem_set hx with hx | rfl
 ·exact List.all_eq_true.1 h x hx
 ·exact hb
theorem LoH.set {H:Mem} (h:LoH H) {b:Blk} (hb:Xcn H.length b=true) (p:Nat):LoH (H.set p b):=by
 unfold LoH
 rw [List.length_set]
 exact Xb9 h hb p
theorem Xeb {H L:Mem} {v v':AV} {p:Nat} {b:Blk} (hH:LoH H) (hb:Xcn H.length b=true) (hf:frz H.length (H.set p b++L) 12 v=some v') (hl:low H.length v'=true):Xao false H v (H.set p b++L)=(v',H.set p b):=by
 have e1:(H.set p b++L).take H.length=H.set p b:=List.take_left' List.length_set
 have e2:Xce H (H.set p b++L)=true:=by
  unfold Xce
  rw [e1,Xb9 hH hb p,Bool.or_true]
 simp only [Xao,Ze,if_false,hf,hl,e2,ZJ,if_true,e1]
theorem Xhv {H L:Mem} {v v':AV} (hf:frz H.length (H++L) 12 v=some v') (hl:low H.length v'=true):Xao false H v (H++L)=(v',H):=by
 simp only [Xao,Ze,if_false,hf,hl,Xce,List.take_left,Xb0,Bool.true_or,ZJ,if_true]
def erN (e:Nat) (bad:Bool):Nat:=if e=0 then (if bad=true then 15 else 0) else e
theorem Xgi (e:Nat):erN e false=e:=by unfold erN; split <;> simp_all
theorem erN_or (e:Nat) (a b:Bool):erN (erN e a) b=erN e (a || b):=by
 unfold erN
 cases a <;> cases b <;> (split <;> simp_all)
theorem clo_t:Xa1 Tryz.prog 146=true:=by kernel_rfl
theorem clo_f:Xa1 Tryz.prog 122=true:=by kernel_rfl
theorem clo_1:Xa1 Tryz.prog 142=true:=by kernel_rfl
theorem clo_2:Xa1 Tryz.prog 143=true:=by kernel_rfl
theorem clo_p:Xa1 Tryz.prog 125=true:=by kernel_rfl
theorem clo_d:Xa1 Tryz.prog 144=true:=by kernel_rfl
section
variable {N:Nat} (hN:9223372036854775808≤N)
include hN
theorem img_eq (d:Nat) (k b:El) (hk:Lim k) (hb:Lim b) (hd:dEl k+8≤d) (style:Int) (H:Mem) (px g:Nat) (vr vs:AV) (l:List Rl) (hl:l.length≤4611686018427387904) (hx:H[px]? = some (Xcu vr vs g)) (hv:RlV H vr l) :
  Xaw Tryz.prog cfg T N d 126 [.ptr px 0 0,.agg (eC k),.agg (eC b),.int .i64 style] H=some ((if (Xng l style k b).2=true then .pan (Xbw 15) else .ret (.agg (rnC (Xng l style k b).1))),H):=by
 obtain ⟨n,rfl⟩ : ∃ n,d=n+8+dEl k:=⟨d-8-dEl k,by omega⟩
 have hpl:px<H.length:=(List.getElem?_eq_some_iff.1 hx).1
 have hx2:∀ L:Mem,(H++L)[px]? = some (Xcu vr vs g):=fun L=>by rw [List.getElem?_append_left hpl]; exact hx
 have hG:=fun H=>Xnx Tryz.prog N (n+6+dEl k) hN nsR Xd3 b hb.1.ats H
 have hD:=fun H=>Xur (N:=N) 144 clo_d 1 Xc8 Xxm hN (dEl k) k (Nat.le_refl _) hk.1 (n+6) H
 have hdp:=hk.deep Xc8 (dEl k)
 have e1:(Xng l style k b).2=(Xdp l ((Xba nsR Xd3 b.ats).getD []) Xbo).isNone:=rfl
 have e2:(Xng l style k b).1={ Xj5 4 style with
   text:=Xc4 ((Xba [] Xf5 ((Xbq Xc8 (dEl k) k.kids).getD zEl).ats).getD []),
   url:=(Xdp l ((Xba nsR Xd3 b.ats).getD []) Xbo).getD [],
   title:=Xc4 ((Xba [] Xgm ((Xbq Xc8 (dEl k) k.kids).getD zEl).ats).getD []) }:=rfl
 rw [e1,e2]
 generalize (Xbq Xc8 (dEl k) k.kids).getD zEl=p at *
 generalize (Xbq Xc8 (dEl k) k.kids).isSome=ps at *
 have h1:=fun H=>Xnx Tryz.prog N (n+6+dEl k) hN [] Xf5 p hdp.1.ats H
 have h2:=fun H=>Xnx Tryz.prog N (n+6+dEl k) hN [] Xgm p hdp.1.ats H
 have u1:=fun H=>Xgk (N:=N) (n+1+dEl k) ((Xba [] Xf5 p.ats).getD []) (hdp.get _ _) (by omega) H
 have u2:=fun H=>Xgk (N:=N) (n+1+dEl k) ((Xba [] Xgm p.ats).getD []) (hdp.get _ _) (by omega) H
 have ht:=fun L=>tgt_eq Tryz.prog clo_t N (n+7+dEl k) (by omega) ((Xba nsR Xd3 b.ats).getD []) Xbo (H++L) px g vr vs l (by omega) hl (hx2 L) (hv.app L)
 rw [show n+6+dEl k+1=n+7+dEl k by omega] at hG h1 h2
 rw [show n+6+1+dEl k=n+7+dEl k by omega] at hD
 rw [show n+1+dEl k+6=n+7+dEl k by omega] at u1 u2
 rw [show n+8+dEl k=n+7+dEl k+1 by omega]
 generalize n+7+dEl k=m at *
 generalize (Xba nsR Xd3 b.ats).isSome=gs at *
 generalize (Xba nsR Xd3 b.ats).getD []=gid at *
 generalize (Xba [] Xf5 p.ats).isSome=ds at *
 generalize (Xba [] Xgm p.ats).isSome=ts at *
 generalize (Xba [] Xf5 p.ats).getD []=dv at *
 generalize (Xba [] Xgm p.ats).getD []=tv at *
 simp only [nsR,Xd3] at hG
 simp only [Xf5] at h1
 simp only [Xgm] at h2
 simp only [Xbo] at ht
 have er:Xdp l gid Xbo=Xdp l gid [104,116,116,112,58,47,47,115,99,104,101,109,97,115,46,111,112,101,110,120,109,108,102,111,114,109,97,116,115,46,111,114,103,47,111,102,102,105,99,101,68,111,99,117,109,101,110,116,47,50,48,48,54,47,114,101,108,97,116,105,111,110,115,104,105,112,115,47,105,109,97,103,101]:=rfl
 rw [er]
 cases hr:Xdp l gid [104,116,116,112,58,47,47,115,99,104,101,109,97,115,46,111,112,101,110,120,109,108,102,111,114,109,97,116,115,46,111,114,103,47,111,102,102,105,99,101,68,111,99,117,109,101,110,116,47,50,48,48,54,47,114,101,108,97,116,105,111,110,115,104,105,112,115,47,105,109,97,103,101] with
 | none =>
  rw [hr] at ht
  simp only [Option.isNone_none,if_true]
  refine Xdu (m:=46) (v:=Xbw 15) (a:=?aa) (H1:=?Ha) rfl t126 rfl ?hb ?hd ?hz
  case hb=>simp only [idx,I126,hG,hD,h1,h2,u1,u2,ht,reduceSub,reduceIte,reduceEqDiff,reduceLT,reduceAdd,reduceMul,reduceLeDiff,ZS,ZT]; rfl
  case hd=>rfl
  case hz=>exact Xa4 rfl rfl
 | some to =>
  rw [hr] at ht
  simp only [Option.isNone_some,Ze,if_false,Option.getD_some]
  refine Xac (m:=46) (v:=.agg (rnC { Xj5 4 style with text:=Xc4 dv,url:=to,title:=Xc4 tv })) (a:=?ab) (H1:=?Hb) rfl t126 rfl ?hb ?hd ?hr ?hz
  case hb=>simp only [idx,I126,hG,hD,h1,h2,u1,u2,ht,reduceSub,reduceIte,reduceEqDiff,reduceLT,reduceAdd,reduceMul,reduceLeDiff,ZS,ZT]; rfl
  case hd=>rfl
  case hr=>simp only [I126,Xc6,Xbc,reduceSub,reduceIte,reduceEqDiff,reduceLT,reduceAdd,reduceMul,reduceLeDiff,ZS,ZT]; rfl
  case hz=>exact Xhv rfl rfl
end
end Go.Proofs.YtmhhddhbdbcmbaaGreatDoor.Ev
