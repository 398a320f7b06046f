/- Parts of one proof. -/
import Derived.Test.YtmhhddhbdbcmbaaGreatDoorMdg
set_option linter.all false
namespace Go.Proofs.YtmhhddhbdbcmbaaGreatDoor.Ev
open Nat (reduceEqDiff reduceLT reduceAdd reduceMul reduceLeDiff reduceSub)
open Go.Proofs.YtmhhddhbdbcmbaaGreatDoor.Ic
set_option maxRecDepth 100000
set_option maxHeartbeats 4000000
noncomputable def Xic:IC:=(Xrc.c.loops).getD 0 .bad
def Xxe (l:List Rl) (id ty:List UInt8) (k:Nat):Option (List UInt8):=match ixL id (l.drop k) k with
 | some j=>if ((l.getD j default).ty == ty && (l.getD j default).ext)=true then some (l.getD j default).to else none
 | none=>none
theorem Xvn (P:Program) (F:Xc5) (N:Nat) (id kind:List UInt8) (H:Mem) (px g e:Nat) (vr vs:AV) (l:List Rl) (hl:l.length≤4611686018427387904) (hx:H[px]? = some (Xa0 vr vs g e)) (hv:RlV H vr l):∀ (fuel k:Nat),k≤l.length→l.length-k<fuel →
  ∃ ou t L,Xa6 (fun a H=>evI P cfg F N Xic a H) (some [0,1,2,7]) fuel ⟨53,[(0,.ptr px 0 0),(1,.str id),(2,.str kind),(7,.int .i64 k)],[]⟩ H=some (ou,⟨53,t,[]⟩,H++L)∧Xad t 0=.ptr px 0 0 ∧
   (match Xxe l id kind k with
   | some to=>ou=.ret∧Xad t 6=.str to
   | none=>ou=.exit 0)
 | 0,k,_,h=>by omega
 | fuel+1,k,hk,hf=>by
  have hpl:px<H.length:=(List.getElem?_eq_some_iff.1 hx).1
  have hx2:∀ L:Mem,(H++L)[px]? = some (Xa0 vr vs g e):=fun L=>by rw [List.getElem?_append_left hpl]; exact hx
  rcases Nat.lt_or_ge k l.length with hlt | hge
  ·obtain ⟨r,hr⟩:=Xp9 hlt
   obtain ⟨g1,g2,g3,g4,g5,g6,g7,g8,g9⟩:=Xqs hr
   have hi:(k:Int)<(l.length:Int):=by omega
   have hw:=Xav hlt (by omega)
   have hn:=Xan k .i64
   unfold Xxe
   rw [ixL_at hlt]
   have g2':4≤((Xg6 l).drop (k*4)).length:=by rw [List.length_drop]; omega
   have g3':0<((Xg6 l).drop (k*4)).length:=by omega
   obtain ⟨ou,t,L,ht,h0,hQ⟩:=Xvn P F N id kind H px g e vr vs l hl hx hv fuel (k+1) (by omega) (by omega)
   unfold Xxe at hQ
   generalize hX:l.getD k default=x at *
   simp only [rlC] at g2
   cases h1:(x.id == id)
   ·simp only [Ze,if_false]
    refine ⟨ou,t,L,?_,h0,hQ⟩
    rcases hv with ⟨q,st,ty2,rfl,hq⟩ | rfl
    ·refine Xap (by simp only [Xic,Xrc,IC.loops,hi,hlt,hn,hw,hx,hx2,hq,g1,g2,h1,reduceIte,reduceEqDiff,reduceLT,reduceAdd,reduceMul,reduceLeDiff,ZS]; rfl) ?_
     simp only [reduceIte,reduceEqDiff,reduceAdd,reduceLT,ZV]
     simp only [decide_eq_true hpl,ZJ,if_true]
     exact ht
    ·refine Xap (by simp only [Xic,Xrc,IC.loops,hi,hlt,hn,hw,hx,hx2,g1,g2,g2',g3',h1,reduceIte,reduceEqDiff,reduceLT,reduceAdd,reduceMul,reduceLeDiff,ZS]; rfl) ?_
     simp only [reduceIte,reduceEqDiff,reduceAdd,reduceLT,ZV]
     simp only [decide_eq_true hpl,ZJ,if_true]
     exact ht
   ·simp only [if_true,hX]
    cases h2:(x.ty == kind)
    ·simp only [ZE,Ze,if_false]
     rcases hv with ⟨q,st,ty2,rfl,hq⟩ | rfl
     ·exact ⟨_,_,_,Xae (by simp only [Xic,Xrc,IC.loops,hi,hlt,hn,hw,hx,hx2,hq,g1,g2,h1,h2,reduceIte,reduceEqDiff,reduceLT,reduceAdd,reduceMul,reduceLeDiff,ZS]; rfl),rfl,rfl⟩
     ·exact ⟨_,_,_,Xae (by simp only [Xic,Xrc,IC.loops,hi,hlt,hn,hw,hx,hx2,g1,g2,g2',g3',h1,h2,reduceIte,reduceEqDiff,reduceLT,reduceAdd,reduceMul,reduceLeDiff,ZS]; rfl),rfl,rfl⟩
    cases h3:x.ext
    ·simp only [ZD,Ze,if_false]
     rw [h3] at g2
     rcases hv with ⟨q,st,ty2,rfl,hq⟩ | rfl
     ·exact ⟨_,_,_,Xae (by simp only [Xic,Xrc,IC.loops,hi,hlt,hn,hw,hx,hx2,hq,g1,g2,h1,h2,reduceIte,reduceEqDiff,reduceLT,reduceAdd,reduceMul,reduceLeDiff,ZS]; rfl),rfl,rfl⟩
     ·exact ⟨_,_,_,Xae (by simp only [Xic,Xrc,IC.loops,hi,hlt,hn,hw,hx,hx2,g1,g2,g2',g3',h1,h2,reduceIte,reduceEqDiff,reduceLT,reduceAdd,reduceMul,reduceLeDiff,ZS]; rfl),rfl,rfl⟩
    ·simp only [ZJ,if_true]
     rw [h3] at g2
     rcases hv with ⟨q,st,ty2,rfl,hq⟩ | rfl
     ·exact ⟨_,_,_,Xah (by simp only [Xic,Xrc,IC.loops,hi,hlt,hn,hw,hx,hx2,hq,g1,g2,h1,h2,reduceIte,reduceEqDiff,reduceLT,reduceAdd,reduceMul,reduceLeDiff,ZS]; rfl),rfl,rfl,rfl⟩
     ·exact ⟨_,_,_,Xah (by simp only [Xic,Xrc,IC.loops,hi,hlt,hn,hw,hx,hx2,g1,g2,g2',g3',h1,h2,reduceIte,reduceEqDiff,reduceLT,reduceAdd,reduceMul,reduceLeDiff,ZS]; rfl),rfl,rfl,rfl⟩
  ·have hk':k=l.length:=by omega
   subst hk'
   unfold Xxe
   simp only [List.drop_length,ixL]
   rcases hv with ⟨q,st,ty2,rfl,hq⟩ | rfl
   all_goals exact ⟨_,_,[],Xae (by rw [List.append_nil]; simp only [Xic,Xrc,IC.loops,Int.lt_irrefl,hx,hx2,reduceIte,reduceEqDiff,reduceLT,reduceAdd,reduceMul,reduceLeDiff,ZS]; rfl),rfl,rfl⟩
theorem Xec {H:Mem} {p:Nat} {b:Blk} (h:H[p]? = some b):H.set p b=H:=by
 obtain ⟨hlt,e⟩:=List.getElem?_eq_some_iff.1 h
 rw [← e]; exact List.set_getElem_self hlt
theorem Xsg {H:Mem} (hH:LoH H) {px g e:Nat} {vr vs:AV} (hx:H[px]? = some (Xa0 vr vs g e)) (g' e':Nat):Xcn H.length (Xa0 vr vs g' e')=true:=by
 have:=hH.get hx
 simp only [Xcn,lowL,low,ZI] at this ⊢
 exact this
theorem Xes {H:Mem} (hH:LoH H) {px g:Nat} {vr vs:AV} (hx:H[px]? = some (Xcu vr vs g)) (g':Nat):Xcn H.length (Xcu vr vs g')=true:=by
 have:=hH.get hx
 simp only [Xcn,lowL,low,ZI] at this ⊢
 exact this
theorem rel_eq (P:Program) (N d:Nat) (hd:1≤d) (id kind:List UInt8) (H:Mem) (hH:LoH H) (px g e:Nat) (vr vs:AV) (l:List Rl) (hN:l.length<N) (hl:l.length≤4611686018427387904) (hx:H[px]? = some (Xa0 vr vs g e)) (hv:RlV H vr l) :
  Xaw P cfg T N d 134 [.ptr px 0 0,.str id,.str kind] H=some (.ret (.str ((Xdp l id kind).getD [])),H.set px (Xa0 vr vs g (erN e (Xdp l id kind).isNone))):=by
 obtain ⟨n,rfl⟩ : ∃ k,d=k+1:=⟨d-1,by omega⟩
 have hpl:px<H.length:=(List.getElem?_eq_some_iff.1 hx).1
 have hx2:∀ L:Mem,(H++L)[px]? = some (Xa0 vr vs g e):=fun L=>by rw [List.getElem?_append_left hpl]; exact hx
 obtain ⟨ou,t,L,ht,h0,hQ⟩:=Xvn P (Xaw P cfg T N n) N id kind H px g e vr vs l hl hx hv N 0 (Nat.zero_le _) (by omega)
 have e1:Xxe l id kind 0=Xdp l id kind:=by unfold Xxe Xdp; rw [List.drop_zero]; rfl
 rw [e1] at hQ
 have hset:∀ (L:Mem) (b:Blk),(H++L).set px b=H.set px b++L:=fun L b=>List.set_append_left px b hpl
 cases hr:Xdp l id kind with
 | some to =>
  rw [hr] at hQ
  obtain ⟨rfl,h6⟩:=hQ
  simp only [Option.isNone_some,Xgi,Option.getD_some]
  rw [Xec hx]
  refine Xac (m:=53) (v:=.str to) (a:=?aa) (H1:=?Ha) rfl t134 rfl ?hb ?hd ?hr ?hz
  case hb =>
   apply Xaa
   ·simp only [idx,Xrc,reduceIte,reduceEqDiff,reduceLT,reduceAdd,reduceMul,reduceLeDiff,ZS]; rfl
   apply Xau
   apply Xaa
   ·simp only [reduceIte,reduceEqDiff,reduceLT,reduceAdd,reduceMul,reduceLeDiff,ZS]; rfl
   apply Xam
   apply Xaf
   exact ht
  case hd=>rfl
  case hr=>simp only [Xrc,Xc6,Xbc,h6,reduceIte,reduceEqDiff,reduceLT,reduceAdd,reduceMul,reduceLeDiff,ZS]
  case hz=>exact Xa4 rfl rfl
 | none =>
  rw [hr] at hQ
  have hQ:ou=.exit 0:=hQ
  subst hQ
  simp only [Option.isNone_none,Option.getD_none]
  cases he:((e:Int) == 0)
  ·have he0:e≠0:=by rintro rfl; simp at he
   have e2:erN e true=e:=by unfold erN; rw [if_neg he0]
   rw [e2,Xec hx]
   refine Xac (m:=53) (v:=.str []) (a:=?ab) (H1:=?Hb) rfl t134 rfl ?hb ?hd ?hr ?hz
   case hb =>
    apply Xaa
    ·simp only [idx,Xrc,reduceIte,reduceEqDiff,reduceLT,reduceAdd,reduceMul,reduceLeDiff,ZS]; rfl
    apply Xaa
    ·apply Xaa
     ·simp only [reduceIte,reduceEqDiff,reduceLT,reduceAdd,reduceMul,reduceLeDiff,ZS]; rfl
     apply Xab
     apply Xaf
     exact ht
    simp only [h0,hx2,he,reduceIte,reduceEqDiff,reduceLT,reduceAdd,reduceMul,reduceLeDiff,ZS]; rfl
   case hd=>rfl
   case hr=>rfl
   case hz=>exact Xa4 rfl rfl
  ·have he0:e=0:=by have:=eq_of_beq he; omega
   have e2:erN e true=15:=by unfold erN; rw [if_pos he0]; rfl
   rw [e2]
   refine Xac (m:=53) (v:=.str []) (a:=?ac) (H1:=H.set px (Xa0 vr vs g 15)++L) rfl t134 rfl ?hb ?hd ?hr ?hz
   case hb =>
    apply Xaa
    ·simp only [idx,Xrc,reduceIte,reduceEqDiff,reduceLT,reduceAdd,reduceMul,reduceLeDiff,ZS]; rfl
    apply Xaa
    ·apply Xaa
     ·simp only [reduceIte,reduceEqDiff,reduceLT,reduceAdd,reduceMul,reduceLeDiff,ZS]; rfl
     apply Xab
     apply Xaf
     exact ht
    simp only [h0,hx2,he,hset,reduceIte,reduceEqDiff,reduceLT,reduceAdd,reduceMul,reduceLeDiff,ZS]; rfl
   case hd=>rfl
   case hr=>rfl
   case hz=>exact Xeb hH (Xsg hH hx _ _) rfl rfl
theorem seek_blip:Xfx nsA Xpx true=Xfq:=by
 funext e
 simp only [Xfx,Xfq,ZG,Bool.false_or]
theorem Xxn:Xfx nsWp Xl2 false=Xc8:=by
 funext e
 simp only [Xfx,Xc8,ZF,Bool.true_or,ZI]
theorem Xgx {H:Mem} {p:Nat} {b:Blk} (L:Mem):(H.set p b++L)[H.length]? = L[0]?:=by
 have:=Xfr (H.set p b) L
 rw [List.length_set] at this; exact this
theorem Xkt {H:Mem} {p:Nat} {b:Blk} (L:Mem) (k:Nat):(H.set p b++L)[H.length+k]? = L[k]?:=by
 have:=Xff (H.set p b) L k
 rw [List.length_set] at this; exact this
theorem setS_0 {H:Mem} {p:Nat} {b:Blk} (L:Mem) (c:Blk):(H.set p b++L).set H.length c=H.set p b++L.set 0 c:=by
 have:=setE_0 (H.set p b) L c
 rw [List.length_set] at this; exact this
theorem Xtl {H:Mem} {p:Nat} {b:Blk} (L:Mem) (k:Nat) (c:Blk):(H.set p b++L).set (H.length+k) c=H.set p b++L.set k c:=by
 have:=Xmd (H.set p b) L k c
 rw [List.length_set] at this; exact this
section
variable {N:Nat} (hN:9223372036854775808≤N)
include hN
theorem rimg_eq (d:Nat) (k:El) (hk:Lim k) (hd:dEl k+6≤d) (H:Mem) (hH:LoH H) (px g e:Nat) (vr vs:AV) (l:List Rl) (hl:l.length≤4611686018427387904) (hx:H[px]? = some (Xa0 vr vs g e)) (hv:RlV H vr l) :
  Xaw Tryz.prog cfg T N d 133 [.ptr px 0 0,.agg (eC k)] H=(match Xbq Xfq (dEl k) k.kids with
   | none=>some (.ret (.tup [.agg (rnC (Xj5 0 0)),.bool false]),H)
   | some b=>some (.ret (.tup [.agg (rnC (Xng l 0 k b).1),.bool true]),H.set px (Xa0 vr vs g (erN e (Xng l 0 k b).2)))):=by
 obtain ⟨n,rfl⟩ : ∃ n,d=n+6+dEl k:=⟨d-6-dEl k,by omega⟩
 have hpl:px<H.length:=(List.getElem?_eq_some_iff.1 hx).1
 have hx2:∀ L:Mem,(H++L)[px]? = some (Xa0 vr vs g e):=fun L=>by rw [List.getElem?_append_left hpl]; exact hx
 have hB:=fun H=>Xqo (N:=N) nsA Xpx true hN (dEl k) k (Nat.le_refl _) hk.1 (n+4) H
 have hD:=fun H=>Xqo (N:=N) nsWp Xl2 false hN (dEl k) k (Nat.le_refl _) hk.1 (n+4) H
 rw [seek_blip] at hB
 rw [Xxn] at hD
 have hbl:=hk.deep Xfq (dEl k)
 have hdp:=hk.deep Xc8 (dEl k)
 cases hf:Xbq Xfq (dEl k) k.kids with
 | none =>
  rw [hf] at hB
  simp only [Option.getD_none,Option.isSome_none] at hB
  rw [show n+4+1+dEl k=n+5+dEl k by omega] at hB
  rw [show n+6+dEl k=n+5+dEl k+1 by omega]
  simp only [nsA,Xpx] at hB
  generalize n+5+dEl k=m at *
  refine Xac (m:=56) (v:=.tup [.agg (rnC (Xj5 0 0)),.bool false]) (a:=?aa) (H1:=?Ha) rfl t133 rfl ?hb ?hd ?hr ?hz
  case hb=>simp only [idx,I133,hB,reduceSub,reduceIte,reduceEqDiff,reduceLT,reduceAdd,reduceMul,reduceLeDiff,ZS,ZT]; rfl
  case hd=>rfl
  case hr=>simp only [I133,Xc6,Xbc,reduceSub,reduceIte,reduceEqDiff,reduceLT,reduceAdd,reduceMul,reduceLeDiff,ZS,ZT]; rfl
  case hz=>exact Xhv rfl rfl
 | some b =>
  rw [hf] at hB hbl
  simp only [Option.getD_some,Option.isSome_some] at hB hbl
  dsimp only
  have e1:(Xng l 0 k b).2=(Xdp l ((Xba nsR Xd3 b.ats).getD []) Xbo).isNone:=rfl
  have e2:(Xng l 0 k b).1={ Xj5 4 0 with
    text:=Xc4 ((Xba [] Xf5 ((Xbq Xc8 (dEl k) k.kids).getD zEl).ats).getD []),
    url:=(Xdp l ((Xba nsR Xd3 b.ats).getD []) Xbo).getD [],
    title:=Xc4 ((Xba [] Xgm ((Xbq Xc8 (dEl k) k.kids).getD zEl).ats).getD []) }:=rfl
  rw [e1,e2]
  have hG:=fun H=>Xhb Tryz.prog N (n+4+dEl k) hN nsR Xd3 b hbl.1.ats H
  generalize (Xbq Xc8 (dEl k) k.kids).getD zEl=p at *
  generalize (Xbq Xc8 (dEl k) k.kids).isSome=ps at *
  have h1:=fun H=>Xhb Tryz.prog N (n+4+dEl k) hN [] Xf5 p hdp.1.ats H
  have h2:=fun H=>Xhb Tryz.prog N (n+4+dEl k) hN [] Xgm p hdp.1.ats H
  have u1:=fun H=>Xfi (N:=N) (n+2+dEl k) ((Xba [] Xf5 p.ats).getD []) (hdp.get _ _) (by omega) H
  have u2:=fun H=>Xfi (N:=N) (n+2+dEl k) ((Xba [] Xgm p.ats).getD []) (hdp.get _ _) (by omega) H
  have ht:=fun L hL=>rel_eq Tryz.prog N (n+5+dEl k) (by omega) ((Xba nsR Xd3 b.ats).getD []) Xbo (H++L) (hH.app hL) px g e vr vs l (by omega) hl (hx2 L) (hv.app L)
  have hset:∀ (L:Mem) (b:Blk),(H++L).set px b=H.set px b++L:=fun L b=>List.set_append_left px b hpl
  simp only [hset] at ht
  rw [show n+4+dEl k+1=n+5+dEl k by omega] at hG h1 h2
  rw [show n+4+1+dEl k=n+5+dEl k by omega] at hD hB
  rw [show n+2+dEl k+3=n+5+dEl k by omega] at u1 u2
  rw [show n+6+dEl k=n+5+dEl k+1 by omega]
  generalize n+5+dEl k=m at *
  generalize (Xba nsR Xd3 b.ats).isSome=gs at *
  generalize (Xba nsR Xd3 b.ats).getD []=gid at *
  generalize (Xba [] Xf5 p.ats).isSome=ds at *
  generalize (Xba [] Xgm p.ats).isSome=ts at *
  generalize (Xba [] Xf5 p.ats).getD []=dv at *
  generalize (Xba [] Xgm p.ats).getD []=tv at *
  have hf1:frz H.length (H.set px (Xa0 vr vs g (erN e (Xdp l gid Xbo).isNone))++[.row (eC k) 0 (25+1),.row (rnC { Xj5 4 0 with text:=Xc4 dv,url:=(Xdp l gid Xbo).getD [],title:=Xc4 tv }) 0 (43+1),.row (eC b) 0 (25+1),.row (rnC { Xj5 4 0 with text:=Xc4 dv,url:=(Xdp l gid Xbo).getD [],title:=Xc4 tv }) 0 (43+1),.row (eC p) 0 (25+1)]) 12 (.tup [.agg (rnC { Xj5 4 0 with text:=Xc4 dv,url:=(Xdp l gid Xbo).getD [],title:=Xc4 tv }),.bool true])=some (.tup [.agg (rnC { Xj5 4 0 with text:=Xc4 dv,url:=(Xdp l gid Xbo).getD [],title:=Xc4 tv }),.bool true]):=rfl
  have hfin:=Xeb hH (Xsg hH hx g (erN e (Xdp l gid Xbo).isNone)) hf1 rfl
  simp only [nsR,Xd3] at hG
  simp only [nsA,Xpx] at hB
  simp only [nsWp,Xl2] at hD
  simp only [Xf5] at h1
  simp only [Xgm] at h2
  obtain ⟨ro,hro⟩ : ∃ ro,Xdp l gid Xbo=ro:=⟨_,rfl⟩
  simp only [hro] at ht hfin ⊢
  simp only [Xbo] at ht
  obtain ⟨Hs,H1e⟩ : ∃ Hs,H.set px (Xa0 vr vs g (erN e ro.isNone))=Hs:=⟨_,rfl⟩
  simp only [H1e] at ht hfin ⊢
  have hlen:Hs.length=H.length:=by rw [← H1e]; exact List.length_set
  have s0:∀ L:Mem,(Hs++L)[H.length]? = L[0]?:=fun L=>by rw [← H1e]; exact Xgx L
  have sk:∀ (L:Mem) (k:Nat),(Hs++L)[H.length+k]? = L[k]?:=fun L k=>by rw [← H1e]; exact Xkt L k
  have t0:∀ (L:Mem) (c:Blk),(Hs++L).set H.length c=Hs++L.set 0 c:=fun L c=>by rw [← H1e]; exact setS_0 L c
  have tk:∀ (L:Mem) (k:Nat) (c:Blk),(Hs++L).set (H.length+k) c=Hs++L.set k c:=fun L k c=>by rw [← H1e]; exact Xtl L k c
  have hlo:Xb6 (H++[Blk.row (eC k) 0 (25+1),.row [.int .i64 0,.int .i64 0,.str [],.str [],.str [],.bool false,.str [],.str [],.int .i64 0] 0 (43+1),.row (eC b) 0 (25+1)]).length [Blk.row (eC k) 0 (25+1),.row [.int .i64 0,.int .i64 0,.str [],.str [],.str [],.bool false,.str [],.str [],.int .i64 0] 0 (43+1),.row (eC b) 0 (25+1)]=true:=by
   simp [Xb6,Xcn,lowL,low,Xay]
  have ht:=ht _ hlo
  refine Xac (m:=56) (v:=.tup [.agg (rnC { Xj5 4 0 with text:=Xc4 dv,url:=ro.getD [],title:=Xc4 tv }),.bool true]) (a:=?ab) (H1:=?Hb) rfl t133 rfl ?hb ?hd ?hr ?hz
  case hb =>
   simp only [idx,I133,hB,hG,hD,h1,h2,u1,u2,ht,hlen,s0,sk,t0,tk,reduceSub,reduceIte,reduceEqDiff,reduceLT,reduceAdd,reduceMul,reduceLeDiff,ZS,ZT]; rfl
  case hd=>rfl
  case hr=>simp only [I133,Xc6,Xbc,sk,reduceSub,reduceIte,reduceEqDiff,reduceLT,reduceAdd,reduceMul,reduceLeDiff,ZS,ZT]; rfl
  case hz=>exact hfin
end
theorem Xbr.low {n0 sz ty n:Nat} {cs:List AV} {v:AV} {M:Mem} (h:Xbr n0 sz ty n cs v M):low M.length v=true:=by
 rcases h with ⟨_,_,rfl⟩ | ⟨q,st,rfl,_,h3⟩
 ·rfl
 ·exact decide_eq_true (List.getElem?_eq_some_iff.1 h3).1
theorem Xfn {n0 sz e n cnt:Nat} {cs new:List AV} {v:AV} {M:Mem} (h:Xbr n0 sz (e+1) n cs v M) (hcs:cs.length=n*sz) (hc:cnt≠0) (hn:n+cnt≤1073741824) (hM:n0≤M.length) :
  ∃ v' M',Xgu M e sz cnt new v=some (v',M')∧Xbr n0 sz (e+1) (n+cnt) (cs++new) v' M'∧M.length≤M'.length∧(∀ p,p<n0→M'[p]? = M[p]?)∧M'.take n0=M.take n0:=by
 rcases h with ⟨rfl,rfl,rfl⟩ | ⟨q,st,rfl,h2,h3⟩
 ·refine ⟨.slc M.length 0 cnt sz 0,M++[.row new 0 (e+1)],?_,?_,by simp,fun p hp=>List.getElem?_append_left (by omega),List.take_append_of_le_length hM⟩
  ·have h34:cnt≤2 ^ 34:=by omega
   simp only [Xgu,hc,if_false,h34,if_true]
  ·rw [Nat.zero_add,List.nil_append]
   exact .inr ⟨M.length,0,rfl,hM,by simp⟩
 ·have hq:=(List.getElem?_eq_some_iff.1 h3).1
  refine ⟨.slc q 0 (n+cnt) sz (st+1),M.set q (.row (cs++new) (st+1) (e+1)),?_,.inr ⟨q,st+1,rfl,h2,by rw [List.getElem?_set_self hq]⟩,by simp,fun p hp=>List.getElem?_set_ne (by omega),List.take_set_of_le (by omega)⟩
  have h34:n+cnt≤2 ^ 34:=by omega
  simp only [Xgu,h3,hcs,h34,true_and,and_self,if_true]
theorem Xdl {H M' M'':Mem} {n0 m sz ty n:Nat} {cs:List AV} {v:AV} (hst:Xak H M') (hg:Xbr n0 sz ty n cs v M') (hle:H.length≤m) (hM:M''=M'∨(M''=M'.take m∧low m v=true)):Xak H M''∧Xbr n0 sz ty n cs v M'':=by
 rcases hM with rfl | ⟨rfl,hl⟩
 ·exact ⟨hst,hg⟩
 ·refine ⟨hst.take hle,?_⟩
  rcases hg with hg | ⟨q,st,rfl,h2,h3⟩
  ·exact .inl hg
  ·have hq:q<m:=of_decide_eq_true hl
   exact .inr ⟨q,st,rfl,h2,by rw [List.getElem?_take_of_lt hq]; exact h3⟩
theorem Xak.refl (H:Mem):Xak H H:=List.take_length
theorem Xak.trans {A B C:Mem} (h:Xak A B) (h2:Xak B C):Xak A C:=by
 unfold Xak at *
 have hl:A.length≤B.length:=Xak.len h
 have h3:(C.take B.length).take A.length=B.take A.length:=by rw [h2]
 rw [List.take_take,Nat.min_eq_left hl] at h3
 rw [h3,h]
theorem Xak.of_take {A B C:Mem} (h:Xak A B) {n:Nat} (hn:A.length≤n) (he:C.take n=B.take n):Xak A C:=by
 unfold Xak at *
 have:(C.take n).take A.length=(B.take n).take A.length:=by rw [he]
 rw [List.take_take,List.take_take,Nat.min_eq_left hn] at this
 rw [this,h]
theorem Xak.getA {H M:Mem} (h:Xak H M) {p:Nat} {b:Blk} (hp:H[p]? = some b) (L:Mem):(M++L)[p]? = some b:=by
 have hpl:=(List.getElem?_eq_some_iff.1 hp).1
 rw [(h.app L).get hpl]; exact hp
theorem Xak.get0 {H M:Mem} (h:Xak H M) {p:Nat} {b:Blk} (hp:H[p]? = some b):M[p]? = some b:=by
 have:=h.getA hp []
 rw [List.append_nil] at this; exact this
theorem RlV.starts {H M:Mem} {v:AV} {l:List Rl} (h:RlV H v l) (hst:Xak H M):RlV M v l:=by
 rcases h with ⟨q,st,ty,h1,h2⟩ | h
 ·exact .inl ⟨q,st,ty,h1,hst.get0 h2⟩
 ·exact .inr h
theorem encR_ne (r:Nat):Xj8 r≠[]:=by
 unfold Xj8 Xf0
 split
 ·simp
 ·split <;> simp
theorem unsp_nil (s:List UInt8):(Xc4 s == [])=(s == []):=by
 cases s with
 | nil=>rfl
 | cons c r =>
  have:Xc4 (c::r)≠[]:=by
   unfold Xc4
   rw [List.length_cons,Xh2]
   split
   ·exact fun h=>encR_ne _ (List.append_eq_nil_iff.1 h).1
   ·simp
  rw [beq_false_of_ne this]; rfl
def rnT (kind style:Int) (s:List UInt8):List AV:=[.int .i64 kind,.int .i64 style,.str s,.str [],.str [],.bool false,.str [],.str [],.int .i64 0]
theorem rnT_eq (kind style:Int) (s:List UInt8):rnC { Xj5 kind style with text:=s }=rnT kind style s:=rfl
theorem rnT_eq0 (kind style:Int):rnC (Xj5 kind style)=rnT kind style []:=rfl
theorem Xd9 {W:Mem} {p:Nat} {b:Blk} (h:W[p]? = some b) (L:Mem) (c:Blk):(W++L).set p c=W.set p c++L:=List.set_append_left p c (List.getElem?_eq_some_iff.1 h).1
theorem Xax {W:Mem} {p:Nat} {b:Blk} (h:W[p]? = some b) (L:Mem):(W++L)[p]? = some b:=by
 rw [List.getElem?_append_left (List.getElem?_eq_some_iff.1 h).1]; exact h
noncomputable def Xgy:IC:=(Xon.c.loops).getD 0 .bad
noncomputable def Xv0:IC:=(Xon.c.loops).getD 1 .bad
def TxEnd (kind style:Int) (tx:List UInt8) (n:Nat) (kids:AV) (t0 t9 t10 t38 t39 t40:AV) (M W:Mem) (p:Nat):Out × AAct × Mem→Prop
 | (o,a,W')=>o=.exit 3∧a=⟨104,[(56,.bool false),(0,t0),(9,t9),(10,t10),(13,.ptr p 0 0),(38,t38),(39,t39),(40,t40),(53,kids),(54,.int .i64 n),(55,.int .i64 n)],[]⟩∧Xak M W'∧W.length≤W'.length∧W'[p]? = some (.row (rnT kind style tx) 0 (43+1))∧(∀ q,q≠p→q<W.length→W'[q]? = W[q]?)
theorem tx_loop (P:Program) (F:Xc5) (N:Nat) (kind style:Int) (kids:List El) (hkl:kids.length≤1073741824) (t0 t9 t10 t38 t39 t40:AV) (M:Mem) (p:Nat) (hp:M.length≤p):∀ (fuel j:Nat) (s:List UInt8) (W:Mem),j≤kids.length→kids.length-j<fuel→s.length+wEls (kids.drop j)≤1073741824→Xak M W→W[p]? = some (.row (rnT kind style s) 0 (43+1)) →
  ∃ r,Xa6 (fun a H=>evI P cfg F N Xv0 a H) (some [0,9,10,13,38,39,40,53,54,55]) fuel ⟨104,[(0,t0),(9,t9),(10,t10),(13,.ptr p 0 0),(38,t38),(39,t39),(40,t40),(53,.lst kids.length (kC kids)),(54,.int .i64 kids.length),(55,.int .i64 j)],[]⟩ W=some r∧TxEnd kind style (Xiy s (kids.drop j)) kids.length (.lst kids.length (kC kids)) t0 t9 t10 t38 t39 t40 M W p r
 | 0,j,_,_,_,h,_,_,_=>by omega
 | fuel+1,j,s,W,hj,hf,hs,hst,hW=>by
  rcases Nat.lt_or_ge j kids.length with hlt | hge
  ·obtain ⟨x,hx⟩:=Xbb hlt
   have hget:(kC kids).drop (j*5)=eC x++kC (kids.drop (j+1)):=by rw [Xd1,hx]; rfl
   have hlen:j*5+5≤(kC kids).length:=by rw [Xen]; omega
   have hi:(j:Int)<(kids.length:Int):=by omega
   have hw:=Xav hlt (by omega)
   have hn:=Xan j .i64
   have hpl:=(List.getElem?_eq_some_iff.1 hW).1
   have hW2:=fun L=>Xax hW L
   have hWs:=fun L c=>Xd9 hW L c
   rw [hx] at hs ⊢
   simp only [wEls] at hs
   have htx:x.tx.length≤wEl x:=by rw [Xb2]; omega
   have h40:s.length+x.tx.length≤2 ^ 40:=by omega
   have ih:=tx_loop P F N kind style kids hkl t0 t9 t10 t38 t39 t40 M p hp fuel (j+1)
   rw [show Xiy s (x::kids.drop (j+1))=if (x.nm == [])=true then Xiy (s++x.tx) (kids.drop (j+1)) else Xiy s (kids.drop (j+1)) by rw [Xiy]]
   simp only [rnT] at hW2 hWs
   cases h1:(x.nm == [])
   ·simp only [Ze,if_false]
    refine Xbv (H':=W++[.row (eC x) 0 (25+1)]) (by simp only [Xv0,Xon,IC.loops,hi,hlt,hlen,hget,hn,hw,h1,reduceSub,reduceIte,reduceEqDiff,reduceLT,reduceAdd,reduceMul,reduceLeDiff,ZS,ZT]; rfl) ?_
    simp only [AAct.keepT,Zv,Zz,Xad,reduceIte,reduceEqDiff]
    rintro M' (rfl | ⟨rfl,_⟩)
    ·obtain ⟨⟨o,a,W'⟩,e0,e1,e2,e3,e4,e5,e6⟩:=ih s (W++[.row (eC x) 0 (25+1)]) (by omega) (by omega) (by omega) (hst.app _) (Xax hW _)
     exact ⟨_,e0,e1,e2,e3,by rw [List.length_append] at e4; omega,e5,fun q hq hl=>by rw [e6 q hq (by rw [List.length_append]; omega),List.getElem?_append_left hl]⟩
    ·rw [List.take_left]
     exact ih s W (by omega) (by omega) (by omega) hst hW
   ·simp only [if_true]
    refine Xbv (H':=W.set p (.row (rnT kind style (s++x.tx)) 0 (43+1))++[.row (eC x) 0 (25+1)]) (by simp only [Xv0,Xon,IC.loops,hi,hlt,hlen,hget,hn,hw,h1,hW2,hWs,h40,reduceSub,reduceIte,reduceEqDiff,reduceLT,reduceAdd,reduceMul,reduceLeDiff,ZS,ZT]; rfl) ?_
    have hset:(W.set p (.row (rnT kind style (s++x.tx)) 0 (43+1)))[p]? = some (.row (rnT kind style (s++x.tx)) 0 (43+1)):=List.getElem?_set_self hpl
    have hst2:Xak M (W.set p (.row (rnT kind style (s++x.tx)) 0 (43+1))):=hst.set hp _
    simp only [AAct.keepT,Zv,Zz,Xad,reduceIte,reduceEqDiff]
    rintro M' (rfl | ⟨rfl,_⟩)
    ·obtain ⟨⟨o,a,W'⟩,e0,e1,e2,e3,e4,e5,e6⟩:=ih (s++x.tx) _ (by omega) (by omega) (by rw [List.length_append]; omega) (hst2.app [.row (eC x) 0 (25+1)]) (Xax hset _)
     refine ⟨_,e0,e1,e2,e3,by rw [List.length_append,List.length_set] at e4; omega,e5,fun q hq hl=>?_⟩
     rw [e6 q hq (by rw [List.length_append,List.length_set]; omega),List.getElem?_append_left (by rw [List.length_set]; exact hl),List.getElem?_set_ne (fun e=>hq e.symm)]
    ·rw [List.take_left' List.length_set]
     obtain ⟨⟨o,a,W'⟩,e0,e1,e2,e3,e4,e5,e6⟩:=ih (s++x.tx) _ (by omega) (by omega) (by rw [List.length_append]; omega) hst2 hset
     refine ⟨_,e0,e1,e2,e3,by rw [List.length_set] at e4; omega,e5,fun q hq hl=>?_⟩
     rw [e6 q hq (by rw [List.length_set]; omega),List.getElem?_set_ne (fun e=>hq e.symm)]
  ·have hk':j=kids.length:=by omega
   subst hk'
   simp only [List.drop_length,Xiy]
   exact ⟨_,Xae (by simp only [Xv0,Xon,IC.loops,Int.lt_irrefl,reduceIte,reduceEqDiff,reduceLT,reduceAdd,reduceMul,reduceLeDiff,ZS]),rfl,rfl,hst,Nat.le_refl _,hW,fun _ _ _=>rfl⟩
theorem Xmx {P:Program} {g:Cfg} {F:Xc5} {N:Nat} {c:IC} {a a':AAct} {H H':Mem} {id id':Nat} (h:evI P g F N c a H=some (.exit id',a',H')) (hne:id'≠id):evI P g F N (.block id c) a H=some (.exit id',a',H'):=by
 simp only [evI,h,hne,if_false]
noncomputable def Xfj:IC:=IC.inn ((Xgy.nb 2).hd)
noncomputable def Xqt:IC:=(Xfj.nb 3).hd
def PcEnd (res:Option Rn × Bool) (t0 t9 t10 t38 t39 t40:AV) (M W:Mem) (p:Nat):Out × AAct × Mem→Prop
 | (o,a,W')=>(res.2=true∧o=.pan (Xbw 15)∧a.d=[]∧∃ L,W'=M++L) ∨
  (res.2=false∧a.n=104∧a.d=[]∧Xad a.t 0=t0∧Xad a.t 9=t9∧Xad a.t 10=t10∧Xad a.t 38=t38∧Xad a.t 39=t39∧Xad a.t 40=t40∧Xak M W' ∧
   ((res.1=none∧o=.exit 1)∨∃ r,res.1=some r∧o=.normal∧Xad a.t 13=.ptr p 0 0∧W'[p]? = some (.row (rnC r) 0 (43+1))))
section
variable {N:Nat} (hN:9223372036854775808≤N)
include hN
theorem pc_mid (m:Nat) (x:El) (hx:Lim x) (hm:dEl x+8≤m) (hsp:(x.sp == wNs)=true) (rels:List Rl) (hl:rels.length≤4611686018427387904) (kind style:Int) (M:Mem) (px p9 g:Nat) (vr vs t10 t38 t39 t40:AV) (hpx:M[px]? = some (Xcu vr vs g)) (hv:RlV M vr rels) (hp9:M[p9]? = some (.row (rnT kind style []) 0 (43+1)))
  (t:List (Nat × AV)) (l0:Xad t 0=.ptr px 0 0) (l9:Xad t 9=.ptr p9 0 0) (l10:Xad t 10=t10) (l12:Xad t 12=.ptr M.length 0 0) (l13:Xad t 13=.ptr (M.length+1) 0 0) (l38:Xad t 38=t38) (l39:Xad t 39=t39) (l40:Xad t 40=t40) :
  ∃ r,evI Tryz.prog cfg (Xaw Tryz.prog cfg T N m) N Xqt ⟨104,t,[]⟩ (M++[.row (eC x) 0 (25+1),.row (rnT kind style []) 0 (43+1)])=some r∧PcEnd (pcD rels kind style x) (.ptr px 0 0) (.ptr p9 0 0) t10 t38 t39 t40 M (M++[.row (eC x) 0 (25+1),.row (rnT kind style []) 0 (43+1)]) (M.length+1) r:=by
 have hx2:∀ L:Mem,(M++L)[px]? = some (Xcu vr vs g):=fun L=>Xax hpx L
 have hp92:∀ L:Mem,(M++L)[p9]? = some (.row (rnT kind style []) 0 (43+1)):=fun L=>Xax hp9 L
 have hsM:∀ L:Mem,Xak M (M++L):=fun L=>List.take_left
 have hpc:pcD rels kind style x=if (x.nm == tS)=true then (if (Xiy [] x.kids == [])=true then (none,false) else (some { Xj5 kind style with text:=Xc4 (Xiy [] x.kids) },false))
  else if (x.nm == tabS)=true then (some { Xj5 kind style with text:=[9] },false)
  else if (x.nm == brS || x.nm == crS)=true then (some (Xj5 3 0),false)
  else if (x.nm == Xqy)=true then (match Xbq Xfq (dEl x) x.kids with
   | none=>(none,false)
   | some b=>(some (Xng rels style x b).1,(Xng rels style x b).2))
  else (none,false):=by unfold pcD; rw [if_pos hsp]; rfl
 rw [hpc]
 cases h1:(x.nm == tS)
 rotate_left
 ·simp only [tS] at h1
  simp only [if_true]
  have hk:=hx.kids
  have hw:wEls x.kids≤1048576:=by have:=hx.2; rw [Xb2] at this; omega
  obtain ⟨⟨o,a,W⟩,hr,rfl,rfl,hst,hle,hW,_⟩:=tx_loop Tryz.prog (Xaw Tryz.prog cfg T N m) N kind style x.kids (by omega) (.ptr px 0 0) (.ptr p9 0 0) t10 t38 t39 t40 M (M.length+1) (by omega) N 0 [] (M++[.row (eC x) 0 (25+1),.row (rnT kind style []) 0 (43+1)]) (Nat.zero_le _) (by omega) (by rw [List.drop_zero]; simp; omega) (hsM _) (Xff _ _ _)
  rw [List.drop_zero] at hW
  have htl:=Xi6 x.kids []
  rw [List.length_nil] at htl
  obtain ⟨m',rfl⟩ : ∃ m',m=m'+6:=⟨m-6,by omega⟩
  have u1:=fun H=>Xgk (N:=N) m' (Xiy [] x.kids) (by omega) (by omega) H
  have hun:=unsp_nil (Xiy [] x.kids)
  generalize Xiy [] x.kids=s at *
  have hW2:=fun L=>Xax hW L
  have hWs:=fun L c=>Xd9 hW L c
  have hpl:=(List.getElem?_eq_some_iff.1 hW).1
  have hWg:∀ c,(W.set (M.length+1) c)[M.length+1]? = some c:=fun c=>List.getElem?_set_self hpl
  have hstS:∀ c,Xak M (W.set (M.length+1) c):=fun c=>hst.set (by omega) c
  have hWs0:W[M.length+1]? = some (.row (rnT kind style s) 0 (43+1)):=hW
  simp only [rnT] at hW2 hWs hWs0
  generalize hus:Xc4 s=us at *
  cases h2:(us == [])
  ·rw [h2] at hun
   rw [← hun]
   simp only [Ze,if_false]
   refine ⟨(.normal,?aa,W.set (M.length+1) (.row (rnT kind style us) 0 (43+1))),?ma,.inr ⟨rfl,?a1,?a2,?a3,?a4,?a5,?a6,?a7,?a8,hstS _,.inr ⟨_,rfl,rfl,?a9,hWg _⟩⟩⟩
   case ma =>
    apply Xaa
    ·simp only [l12,h1,reduceSub,reduceIte,reduceEqDiff,reduceLT,reduceAdd,reduceMul,reduceLeDiff,ZS,ZT]; rfl
    apply Xbh
    apply Xaa
    ·simp only [h1,reduceIte,reduceEqDiff,reduceLT,reduceAdd,reduceMul,reduceLeDiff,ZS]; rfl
    apply Xde (by rfl)
    apply Xaa
    ·apply Xaa
     ·simp only [l12,reduceSub,reduceIte,reduceEqDiff,reduceLT,reduceAdd,reduceMul,reduceLeDiff,ZS,ZT]; rfl
     apply Xab
     apply Xaf
     simp only [AAct.keepT,Zv,Zz,Xad,reduceIte,reduceEqDiff,l0,l9,l10,l13,l38,l39,l40]
     exact hr
    simp only [hWs0,hWg,u1,h2,rnT,reduceIte,reduceEqDiff,reduceLT,reduceAdd,reduceMul,reduceLeDiff,ZS]; rfl
   all_goals rfl
  ·rw [h2] at hun
   rw [← hun]
   simp only [if_true]
   refine ⟨(.exit 1,?ba,W.set (M.length+1) (.row (rnT kind style us) 0 (43+1))),?mb,.inr ⟨rfl,?b1,?b2,?b3,?b4,?b5,?b6,?b7,?b8,hstS _,.inl ⟨rfl,rfl⟩⟩⟩
   case mb =>
    apply Xaa
    ·simp only [l12,h1,reduceSub,reduceIte,reduceEqDiff,reduceLT,reduceAdd,reduceMul,reduceLeDiff,ZS,ZT]; rfl
    apply Xmx (hne:=by decide)
    apply Xaa
    ·simp only [h1,reduceIte,reduceEqDiff,reduceLT,reduceAdd,reduceMul,reduceLeDiff,ZS]; rfl
    apply Xde (by rfl)
    apply Xaa
    ·apply Xaa
     ·simp only [l12,reduceSub,reduceIte,reduceEqDiff,reduceLT,reduceAdd,reduceMul,reduceLeDiff,ZS,ZT]; rfl
     apply Xab
     apply Xaf
     simp only [AAct.keepT,Zv,Zz,Xad,reduceIte,reduceEqDiff,l0,l9,l10,l13,l38,l39,l40]
     exact hr
    simp only [hWs0,hWg,u1,h2,rnT,reduceIte,reduceEqDiff,reduceLT,reduceAdd,reduceMul,reduceLeDiff,ZS]; rfl
   all_goals rfl
 simp only [tS] at h1
 simp only [Ze,if_false]
 cases h2:(x.nm == tabS)
 rotate_left
 ·simp only [tabS] at h2
  simp only [if_true]
  refine ⟨(.normal,?ca,M++?cM),?mc,.inr ⟨rfl,?c1,?c2,?c3,?c4,?c5,?c6,?c7,?c8,hsM _,.inr ⟨_,rfl,rfl,?c9,?c10⟩⟩⟩
  case mc=>simp only [Xqt,Xfj,Xgy,Xon,IC.loops,IC.nb,IC.hd,IC.inn,l12,l13,h1,h2,rnT,reduceSub,reduceIte,reduceEqDiff,reduceLT,reduceAdd,reduceMul,reduceLeDiff,ZS,ZT]; rfl
  case c3=>exact l0
  case c4=>exact l9
  case c5=>exact l10
  case c6=>exact l38
  case c7=>exact l39
  case c8=>exact l40
  case c9=>exact l13
  case c10=>exact Xff _ _ _
  all_goals rfl
 simp only [tabS] at h2
 simp only [Ze,if_false]
 cases h3:(x.nm == brS)
 rotate_left
 ·simp only [brS] at h3
  simp only [Bool.true_or,if_true]
  refine ⟨(.normal,?da,M++?dM),?md,.inr ⟨rfl,?d1,?d2,?d3,?d4,?d5,?d6,?d7,?d8,hsM _,.inr ⟨_,rfl,rfl,?d9,?d10⟩⟩⟩
  case md=>simp only [Xqt,Xfj,Xgy,Xon,IC.loops,IC.nb,IC.hd,IC.inn,l12,l13,h1,h2,h3,rnT,reduceSub,reduceIte,reduceEqDiff,reduceLT,reduceAdd,reduceMul,reduceLeDiff,ZS,ZT]; rfl
  case d3=>exact l0
  case d4=>exact l9
  case d5=>exact l10
  case d6=>exact l38
  case d7=>exact l39
  case d8=>exact l40
  case d9=>exact l13
  case d10=>exact Xff _ _ _
  all_goals rfl
 simp only [brS] at h3
 cases h4:(x.nm == crS)
 rotate_left
 ·simp only [crS] at h4
  simp only [Bool.or_true,if_true]
  refine ⟨(.normal,?ea,M++?eM),?me,.inr ⟨rfl,?e1,?e2,?e3,?e4,?e5,?e6,?e7,?e8,hsM _,.inr ⟨_,rfl,rfl,?e9,?e10⟩⟩⟩
  case me=>simp only [Xqt,Xfj,Xgy,Xon,IC.loops,IC.nb,IC.hd,IC.inn,l12,l13,h1,h2,h3,h4,rnT,reduceSub,reduceIte,reduceEqDiff,reduceLT,reduceAdd,reduceMul,reduceLeDiff,ZS,ZT]; rfl
  case e3=>exact l0
  case e4=>exact l9
  case e5=>exact l10
  case e6=>exact l38
  case e7=>exact l39
  case e8=>exact l40
  case e9=>exact l13
  case e10=>exact Xff _ _ _
  all_goals rfl
 simp only [crS] at h4
 simp only [Bool.or_self,Ze,if_false]
 cases h5:(x.nm == Xqy)
 ·simp only [Xqy] at h5
  simp only [Ze,if_false]
  refine ⟨(.exit 1,?fa,M++?fM),?mf,.inr ⟨rfl,?f1,?f2,?f3,?f4,?f5,?f6,?f7,?f8,hsM _,.inl ⟨rfl,rfl⟩⟩⟩
  case mf=>simp only [Xqt,Xfj,Xgy,Xon,IC.loops,IC.nb,IC.hd,IC.inn,l12,l13,h1,h2,h3,h4,h5,rnT,reduceSub,reduceIte,reduceEqDiff,reduceLT,reduceAdd,reduceMul,reduceLeDiff,ZS,ZT]; rfl
  case f3=>exact l0
  case f4=>exact l9
  case f5=>exact l10
  case f6=>exact l38
  case f7=>exact l39
  case f8=>exact l40
  all_goals rfl
 simp only [Xqy] at h5
 simp only [if_true]
 obtain ⟨m',rfl⟩ : ∃ m',m=m'+2+dEl x:=⟨m-2-dEl x,by omega⟩
 have hD:=fun H=>Xur (N:=N) 125 clo_p 2 Xfq (says_blip hN) hN (dEl x) x (Nat.le_refl _) hx.1 m' H
 have hbl:=hx.deep Xfq (dEl x)
 cases hf:Xbq Xfq (dEl x) x.kids with
 | none =>
  rw [hf] at hD
  simp only [Option.getD_none,Option.isSome_none] at hD
  generalize m'+2+dEl x=mm at *
  refine ⟨(.exit 1,?ga,M++?gM),?mg,.inr ⟨rfl,?g1,?g2,?g3,?g4,?g5,?g6,?g7,?g8,hsM _,.inl ⟨rfl,rfl⟩⟩⟩
  case mg=>simp only [Xqt,Xfj,Xgy,Xon,IC.loops,IC.nb,IC.hd,IC.inn,l12,l13,h1,h2,h3,h4,h5,hD,rnT,reduceSub,reduceIte,reduceEqDiff,reduceLT,reduceAdd,reduceMul,reduceLeDiff,ZS,ZT]; rfl
  case g3=>exact l0
  case g4=>exact l9
  case g5=>exact l10
  case g6=>exact l38
  case g7=>exact l39
  case g8=>exact l40
  all_goals rfl
 | some b =>
  rw [hf] at hD hbl
  simp only [Option.getD_some,Option.isSome_some] at hD hbl
  have hI:=fun L=>img_eq (N:=N) hN (m'+2+dEl x) x b hx hbl hm style (M++L) px g vr vs rels hl (hx2 L) (hv.app L)
  dsimp only
  generalize m'+2+dEl x=mm at *
  generalize (Xng rels style x b).2=ib at *
  generalize (Xng rels style x b).1=ir at *
  cases ib
  ·simp only [Ze,if_false,rnC] at hI
   refine ⟨(.normal,?ha,M++?hM),?mh,.inr ⟨rfl,?h1,?h2,?h3,?h4,?h5,?h6,?h7,?h8,hsM _,.inr ⟨_,rfl,rfl,?h9,?h10⟩⟩⟩
   case mh=>simp only [Xqt,Xfj,Xgy,Xon,IC.loops,IC.nb,IC.hd,IC.inn,l0,l9,l12,l13,h1,h2,h3,h4,h5,hD,hI,hp92,rnT,reduceSub,reduceIte,reduceEqDiff,reduceLT,reduceAdd,reduceMul,reduceLeDiff,ZS,ZT]; rfl
   case h3=>exact l0
   case h4=>exact l9
   case h5=>exact l10
   case h6=>exact l38
   case h7=>exact l39
   case h8=>exact l40
   case h9=>exact l13
   case h10=>exact Xff _ _ _
   all_goals rfl
  ·simp only [if_true] at hI
   refine ⟨(.pan (Xbw 15),?ia,M++?iM),?mi,.inl ⟨rfl,rfl,?i1,_,rfl⟩⟩
   case mi=>simp only [Xqt,Xfj,Xgy,Xon,IC.loops,IC.nb,IC.hd,IC.inn,l0,l9,l12,l13,h1,h2,h3,h4,h5,hD,hI,hp92,rnT,reduceSub,reduceIte,reduceEqDiff,reduceLT,reduceAdd,reduceMul,reduceLeDiff,ZS,ZT]; rfl
   case i1=>rfl
end
noncomputable def tailPc:IC:=Xfj.nb 4
theorem pc_pre (F:Xc5) (N:Nat) (x:El) (kids:List El) (k:Nat) (hlt:k<kids.length) (hget:(kC kids).drop (k*5)=eC x++kC (kids.drop (k+1))) (hsp:(x.sp == wNs)=true) (kind style:Int) (M:Mem) (px p9:Nat) (v:AV) (hp9:M[p9]? = some (.row (rnT kind style []) 0 (43+1))) (t0:List (Nat × AV)) (l0:Xad t0 0=.ptr px 0 0) (l9:Xad t0 9=.ptr p9 0 0) (l10:Xad t0 10=v) (l38:Xad t0 38=.lst kids.length (kC kids)) (l39:Xad t0 39=.int .i64 kids.length) (l40:Xad t0 40=.int .i64 k) :
  ∃ t,Xad t 0=.ptr px 0 0∧Xad t 9=.ptr p9 0 0∧Xad t 10=v∧Xad t 12=.ptr M.length 0 0∧Xad t 13=.ptr (M.length+1) 0 0∧Xad t 38=.lst kids.length (kC kids)∧Xad t 39=.int .i64 kids.length∧Xad t 40=.int .i64 k ∧
   evI Tryz.prog cfg F N Xfj ⟨104,t0,[]⟩ M=evI Tryz.prog cfg F N (Xfj.nb 3) ⟨104,t,[]⟩ (M++[.row (eC x) 0 (25+1),.row (rnT kind style []) 0 (43+1)]):=by
 have hlen:k*5+5≤(kC kids).length:=by rw [Xen]; omega
 have hn:=Xan k .i64
 have hp92:∀ L:Mem,(M++L)[p9]? = some (.row (rnT kind style []) 0 (43+1)):=fun L=>Xax hp9 L
 simp only [wNs] at hsp
 simp only [rnT] at hp92 ⊢
 refine ⟨?ta,?a0,?a9,?a10,?a12,?a13,?a38,?a39,?a40,?am⟩
 case am =>
  apply Xaa
  ·simp only [l38,l40,hlt,hlen,hget,hn,reduceSub,reduceIte,reduceEqDiff,reduceLT,reduceAdd,reduceMul,reduceLeDiff,ZS,ZT]; rfl
  apply Xaa
  ·simp only [l9,hp92,reduceSub,reduceIte,reduceEqDiff,reduceLT,reduceAdd,reduceMul,reduceLeDiff,ZS,ZT]; rfl
  apply Xaa
  ·simp only [hsp,reduceSub,reduceIte,reduceEqDiff,reduceLT,reduceAdd,reduceMul,reduceLeDiff,ZS,ZT]; rfl
  rfl
 case a0=>exact l0
 case a9=>exact l9
 case a10=>exact l10
 case a38=>exact l38
 case a39=>exact l39
 case a40=>exact l40
 all_goals rfl
theorem pc_out (F:Xc5) (N:Nat) (x:El) (kids:List El) (k:Nat) (hlt:k<kids.length) (hget:(kC kids).drop (k*5)=eC x++kC (kids.drop (k+1))) (hsp:(x.sp == wNs)=false) (kind style:Int) (M:Mem) (px p9:Nat) (v:AV) (hp9:M[p9]? = some (.row (rnT kind style []) 0 (43+1))) (t0:List (Nat × AV)) (l0:Xad t0 0=.ptr px 0 0) (l9:Xad t0 9=.ptr p9 0 0) (l10:Xad t0 10=v) (l38:Xad t0 38=.lst kids.length (kC kids)) (l39:Xad t0 39=.int .i64 kids.length) (l40:Xad t0 40=.int .i64 k) :
  ∃ t,Xad t 0=.ptr px 0 0∧Xad t 9=.ptr p9 0 0∧Xad t 10=v∧Xad t 38=.lst kids.length (kC kids)∧Xad t 39=.int .i64 kids.length∧Xad t 40=.int .i64 k ∧
   evI Tryz.prog cfg F N Xfj ⟨104,t0,[]⟩ M=some (.exit 1,⟨104,t,[]⟩,M++[.row (eC x) 0 (25+1),.row (rnT kind style []) 0 (43+1)]):=by
 have hlen:k*5+5≤(kC kids).length:=by rw [Xen]; omega
 have hn:=Xan k .i64
 have hp92:∀ L:Mem,(M++L)[p9]? = some (.row (rnT kind style []) 0 (43+1)):=fun L=>Xax hp9 L
 simp only [wNs] at hsp
 simp only [rnT] at hp92 ⊢
 refine ⟨?ta,?a0,?a9,?a10,?a38,?a39,?a40,?am⟩
 case am =>
  apply Xaa
  ·simp only [l38,l40,hlt,hlen,hget,hn,reduceSub,reduceIte,reduceEqDiff,reduceLT,reduceAdd,reduceMul,reduceLeDiff,ZS,ZT]; rfl
  apply Xaa
  ·simp only [l9,hp92,reduceSub,reduceIte,reduceEqDiff,reduceLT,reduceAdd,reduceMul,reduceLeDiff,ZS,ZT]; rfl
  apply Xbd
  simp only [hsp,reduceSub,reduceIte,reduceEqDiff,reduceLT,reduceAdd,reduceMul,reduceLeDiff,ZS,ZT]; rfl
 case a0=>exact l0
 case a9=>exact l9
 case a10=>exact l10
 case a38=>exact l38
 case a39=>exact l39
 case a40=>exact l40
theorem pc_tail (F:Xc5) (N:Nat) (W:Mem) (p n n0:Nat) (r:Rn) (cs:List AV) (v t0' t9 t38 t39 t40:AV) (hW:W[p]? = some (.row (rnC r) 0 (43+1))) (hg:Xbr n0 9 (43+1) n cs v W) (hcs:cs.length=n*9) (hn:n+1≤1073741824) (hW0:n0≤W.length) (t:List (Nat × AV)) (l0:Xad t 0=t0') (l9:Xad t 9=t9) (l10:Xad t 10=v) (l13:Xad t 13=.ptr p 0 0) (l38:Xad t 38=t38) (l39:Xad t 39=t39) (l40:Xad t 40=t40) :
  ∃ t' v' W',evI Tryz.prog cfg F N tailPc ⟨104,t,[]⟩ W=some (.normal,⟨104,t',[]⟩,W')∧Xad t' 0=t0'∧Xad t' 9=t9∧Xad t' 10=v'∧Xad t' 38=t38∧Xad t' 39=t39∧Xad t' 40=t40∧Xbr n0 9 (43+1) (n+1) (cs++rnC r) v' W'∧W.length≤W'.length∧W'.take n0=W.take n0:=by
 obtain ⟨v',W',ha,h1,h2,_,h3⟩:=Xfn (sz:=9) (cnt:=1) (e:=43) (new:=rnC r) (hg.app [.row (rnC r) 0 (43+1)]) hcs (by decide) hn (by rw [List.length_append]; omega)
 rw [List.take_append_of_le_length hW0] at h3
 rw [List.length_append] at h2
 have hW2:=fun L=>Xax hW L
 generalize hgc:cs++rnC r=cs' at *
 simp only [rnC] at ha hW
 refine ⟨?ta,v',W',?am,?a0,?a9,?a10,?a38,?a39,?a40,h1,by omega,h3⟩
 case am=>simp only [tailPc,Xfj,Xgy,Xon,IC.loops,IC.nb,IC.hd,IC.inn,l10,l13,hW,Xfu,Xcd,ha,reduceIte,reduceEqDiff,reduceLT,reduceAdd,reduceMul,reduceLeDiff,ZS]; rfl
 case a0=>exact l0
 case a9=>exact l9
 case a10=>rfl
 case a38=>exact l38
 case a39=>exact l39
 case a40=>exact l40
def PcsEnd (B:Mem) (l:List Rn) (bad:Bool):Out × AAct × Mem→Prop
 | (o,a,M')=>Xak B M'∧a.d=[]∧((bad=true∧o=.pan (Xbw 15))∨(bad=false∧o=.exit 0∧a.n=104∧Xbr B.length 9 (43+1) l.length (Xat l) (Xad a.t 10) M'))
section
variable {N:Nat} (hN:9223372036854775808≤N)
include hN
theorem Xwr (m:Nat) (kids:List El) (hx:∀ x ∈ kids,Lim x) (hm:∀ x ∈ kids,dEl x+8≤m) (hkl:kids.length≤1073741824) (rels:List Rl) (hl:rels.length≤4611686018427387904) (kind style:Int) (B:Mem) (px p9 g:Nat) (vr vs:AV) (hpx:B[px]? = some (Xcu vr vs g)) (hv:RlV B vr rels) (hp9:B[p9]? = some (.row (rnT kind style []) 0 (43+1))):∀ (fuel k:Nat) (acc:List Rn) (v:AV) (M:Mem),k≤kids.length→kids.length-k<fuel→acc.length≤k→Xak B M→Xbr B.length 9 (43+1) acc.length (Xat acc) v M →
  ∃ r,Xa6 (fun a H=>evI Tryz.prog cfg (Xaw Tryz.prog cfg T N m) N Xgy a H) (some [0,9,10,38,39,40]) fuel ⟨104,[(0,.ptr px 0 0),(9,.ptr p9 0 0),(10,v),(38,.lst kids.length (kC kids)),(39,.int .i64 kids.length),(40,.int .i64 k)],[]⟩ M=some r∧PcsEnd B (acc++(Xg0 rels kind style (kids.drop k)).1) (Xg0 rels kind style (kids.drop k)).2 r
 | 0,k,_,_,_,_,h,_,_,_=>by omega
 | fuel+1,k,acc,v,M,hk,hf,ha,hst,hg=>by
  rcases Nat.lt_or_ge k kids.length with hlt | hge
  ·obtain ⟨x,hxx⟩:=Xbb hlt
   have hxm:x ∈ kids:=List.mem_of_mem_drop (i:=k) (by rw [hxx]; exact List.mem_cons_self)
   have hget:(kC kids).drop (k*5)=eC x++kC (kids.drop (k+1)):=by rw [Xd1,hxx]; rfl
   have hi:(k:Int)<(kids.length:Int):=by omega
   have hw:=Xav hlt (by omega)
   have hpxM:=hst.get0 hpx
   have hp9M:=hst.get0 hp9
   have hvM:=hv.starts hst
   have hBM:B.length≤M.length:=Xak.len hst
   have hsp9:p9<M.length:=(List.getElem?_eq_some_iff.1 hp9M).1
   have hspx:px<M.length:=(List.getElem?_eq_some_iff.1 hpxM).1
   have ih:=Xwr m kids hx hm hkl rels hl kind style B px p9 g vr vs hpx hv hp9 fuel (k+1)
   have hcs:=Xa7 acc
   rw [hxx]
   have e1:(Xg0 rels kind style (x::kids.drop (k+1))).1=(pcD rels kind style x).1.toList++(Xg0 rels kind style (kids.drop (k+1))).1:=rfl
   have e2:(Xg0 rels kind style (x::kids.drop (k+1))).2=((pcD rels kind style x).2 || (Xg0 rels kind style (kids.drop (k+1))).2):=rfl
   rw [e1,e2]
   -- a round that leaves the list as it is
   have skip:∀ (a':AAct) (W:Mem),evI Tryz.prog cfg (Xaw Tryz.prog cfg T N m) N Xfj ⟨104,(41,.bool true)::[(0,.ptr px 0 0),(9,.ptr p9 0 0),(10,v),(38,.lst kids.length (kC kids)),(39,.int .i64 kids.length),(40,.int .i64 k)],[]⟩ M=some (.exit 1,a',W)→a'.n=104→a'.d=[]→Xad a'.t 0=.ptr px 0 0→Xad a'.t 9=.ptr p9 0 0→Xad a'.t 10=v→Xad a'.t 38=.lst kids.length (kC kids)→Xad a'.t 39=.int .i64 kids.length→Xad a'.t 40=.int .i64 k→Xak M W →
     ∃ r,Xa6 (fun a H=>evI Tryz.prog cfg (Xaw Tryz.prog cfg T N m) N Xgy a H) (some [0,9,10,38,39,40]) (fuel+1) ⟨104,[(0,.ptr px 0 0),(9,.ptr p9 0 0),(10,v),(38,.lst kids.length (kC kids)),(39,.int .i64 kids.length),(40,.int .i64 k)],[]⟩ M=some r∧PcsEnd B (acc++(Xg0 rels kind style (kids.drop (k+1))).1) (Xg0 rels kind style (kids.drop (k+1))).2 r:=by
    rintro ⟨an,t,ad⟩ W hr rfl rfl m0 m9 m10 m38 m39 m40 hMW
    have hgW:Xbr B.length 9 (43+1) acc.length (Xat acc) v W:=by
     rcases hg with hg | ⟨q,st,h1,h2,h3⟩
     ·exact .inl hg
     ·exact .inr ⟨q,st,h1,h2,hMW.get0 h3⟩
    refine Xbv (a':=?aa) (H':=W) ?hb ?hn
    case hb =>
     apply Xaa
     ·simp only [hi,reduceIte,reduceEqDiff,reduceLT,reduceAdd,reduceMul,reduceLeDiff,ZS]; rfl
     apply Xaa
     ·simp only [reduceIte,reduceEqDiff,reduceLT,reduceAdd,reduceMul,reduceLeDiff,ZS]; rfl
     apply Xaa
     ·apply Xab
      exact hr
     simp only [m40,hw,reduceIte,reduceEqDiff,reduceLT,reduceAdd,reduceMul,reduceLeDiff,ZS]; rfl
    case hn =>
     simp only [AAct.keepT,Zv,Zz,Xad,reduceIte,reduceEqDiff,m0,m9,m10,m38,m39,m40]
     intro M' hM'
     have hM2:M'=W∨(M'=W.take M.length∧low M.length v=true):=by
      rcases hM' with h | ⟨h,h2⟩
      ·exact .inl h
      ·exact .inr ⟨h,hg.low⟩
     obtain ⟨k1,k2⟩:=Xdl (hst.trans hMW) hgW hBM hM2
     exact ih acc v M' (by omega) (by omega) (by omega) k1 k2
   cases hsp:(x.sp == wNs)
   ·have e3:pcD rels kind style x=(none,false):=by unfold pcD; rw [hsp]; rfl
    rw [e3]
    obtain ⟨t,m0,m9,m10,m38,m39,m40,hr⟩:=pc_out (Xaw Tryz.prog cfg T N m) N x kids k hlt hget hsp kind style M px p9 v hp9M [(41,.bool true),(0,.ptr px 0 0),(9,.ptr p9 0 0),(10,v),(38,.lst kids.length (kC kids)),(39,.int .i64 kids.length),(40,.int .i64 k)] rfl rfl rfl rfl rfl rfl
    exact skip _ _ hr rfl rfl m0 m9 m10 m38 m39 m40 List.take_left
   obtain ⟨t,m0,m9,m10,m12,m13,m38,m39,m40,hpre⟩:=pc_pre (Xaw Tryz.prog cfg T N m) N x kids k hlt hget hsp kind style M px p9 v hp9M [(41,.bool true),(0,.ptr px 0 0),(9,.ptr p9 0 0),(10,v),(38,.lst kids.length (kC kids)),(39,.int .i64 kids.length),(40,.int .i64 k)] rfl rfl rfl rfl rfl rfl
   obtain ⟨⟨o,a,W⟩,hmid,hP⟩:=pc_mid (N:=N) hN m x (hx x hxm) (hm x hxm) hsp rels hl kind style M px p9 g vr vs v (.lst kids.length (kC kids)) (.int .i64 kids.length) (.int .i64 k) hpxM hvM hp9M t m0 m9 m10 m12 m13 m38 m39 m40
   have hnb:Xfj.nb 3=.seq Xqt tailPc:=rfl
   rw [hnb] at hpre
   rcases hP with ⟨hbad,rfl,hd,L,rfl⟩ | ⟨hok,n1,n2,n3,n4,n5,n6,n7,n8,hMW,hP⟩
   ·rw [hbad]
    refine ⟨_,Xlm (v:=Xbw 15) (a':=a) (H':=M++L) ?hb,?_⟩
    case hb =>
     apply Xaa
     ·simp only [hi,reduceIte,reduceEqDiff,reduceLT,reduceAdd,reduceMul,reduceLeDiff,ZS]; rfl
     apply Xaa
     ·simp only [reduceIte,reduceEqDiff,reduceLT,reduceAdd,reduceMul,reduceLeDiff,ZS]; rfl
     apply Xbj
     apply Xcb
     exact hpre.trans (Xbj hmid)
    exact ⟨hst.app _,hd,.inl ⟨by rw [Bool.true_or],rfl⟩⟩
   ·rw [hok,Bool.false_or]
    rcases hP with ⟨hno,rfl⟩ | ⟨r,hyes,rfl,n9,hW⟩
    ·rw [hno]
     exact skip a W (hpre.trans (Xbd hmid)) n1 n2 n3 n4 n5 n6 n7 n8 hMW
    ·rw [hyes]
     obtain ⟨an,at',ad⟩:=a
     simp only at n1 n2 n3 n4 n5 n6 n7 n8 n9
     subst n1 n2
     have hgW:Xbr B.length 9 (43+1) acc.length (Xat acc) v W:=by
      rcases hg with hg | ⟨q,st,h1,h2,h3⟩
      ·exact .inl hg
      ·exact .inr ⟨q,st,h1,h2,hMW.get0 h3⟩
     have hBW:B.length≤W.length:=Xak.len (hst.trans hMW)
     obtain ⟨t',v',W',htl,k0,k9,k10,k38,k39,k40,kg,kle,ktk⟩:=pc_tail (Xaw Tryz.prog cfg T N m) N W (M.length+1) acc.length B.length r (Xat acc) v (.ptr px 0 0) (.ptr p9 0 0) (.lst kids.length (kC kids)) (.int .i64 kids.length) (.int .i64 k) hW hgW hcs (by omega) hBW at' n3 n4 n5 n9 n6 n7 n8
     have hst':Xak B W':=(hst.trans hMW).of_take (Nat.le_refl _) ktk
     have e5:acc++([r]++(Xg0 rels kind style (kids.drop (k+1))).1)=(acc++[r])++(Xg0 rels kind style (kids.drop (k+1))).1:=by simp
     rw [show (some r).toList=[r] from rfl,e5]
     have e6:Xat acc++rnC r=Xat (acc++[r]):=by rw [Xct]; simp [Xat]
     have e7:acc.length+1=(acc++[r]).length:=by simp
     rw [e6,e7] at kg
     refine Xbv (a':=?ab) (H':=W') ?hb2 ?hn2
     case hb2 =>
      apply Xaa
      ·simp only [hi,reduceIte,reduceEqDiff,reduceLT,reduceAdd,reduceMul,reduceLeDiff,ZS]; rfl
      apply Xaa
      ·simp only [reduceIte,reduceEqDiff,reduceLT,reduceAdd,reduceMul,reduceLeDiff,ZS]; rfl
      apply Xaa
      ·apply Xbh
       exact hpre.trans (Xaa hmid htl)
      simp only [k40,hw,reduceIte,reduceEqDiff,reduceLT,reduceAdd,reduceMul,reduceLeDiff,ZS]; rfl
     case hn2 =>
      simp only [AAct.keepT,Zv,Zz,Xad,reduceIte,reduceEqDiff,k0,k9,k10,k38,k39,k40]
      intro M' hM'
      have hM2:M'=W'∨(M'=W'.take M.length∧low M.length v'=true):=by
       rcases hM' with h | ⟨h,h2⟩
       ·exact .inl h
       ·refine .inr ⟨h,?_⟩
        unfold Xto at h2
        have:=List.all_eq_true.1 h2 (10,v') (by simp)
        exact this
      obtain ⟨k1,k2⟩:=Xdl hst' kg hBM hM2
      exact ih (acc++[r]) v' M' (by omega) (by omega) (by simp; omega) k1 k2
  ·have hk':k=kids.length:=by omega
   subst hk'
   simp only [List.drop_length,Xg0,Zs]
   refine ⟨_,Xae (by simp only [Xgy,Xon,IC.loops,Int.lt_irrefl,reduceIte,reduceEqDiff,reduceLT,reduceAdd,reduceMul,reduceLeDiff,ZS]; rfl),hst,rfl,.inr ⟨rfl,rfl,rfl,?_⟩⟩
   exact hg
end
end Go.Proofs.YtmhhddhbdbcmbaaGreatDoor.Ev
