/- Parts of one proof. -/
import Derived.Test.YtmhhddhbdbcmbaaGreatDoorMea
set_option linter.all false
namespace Go.Proofs.YtmhhddhbdbcmbaaGreatDoor.Ev
open Nat (reduceEqDiff reduceLT reduceAdd reduceMul reduceLeDiff reduceSub)
open Go.Proofs.YtmhhddhbdbcmbaaGreatDoor.Ic
set_option maxRecDepth 100000
set_option maxHeartbeats 4000000
theorem ru_pre (F:Xc5) (N:Nat) (x:El) (kids:List El) (k:Nat) (hlt:k<kids.length) (hget:(kC kids).drop (k*5)=eC x++kC (kids.drop (k+1))) (M:Mem) (t0' t2 t7 v:AV) (t0:List (Nat × AV)) (l0:Xad t0 0=t0') (l2:Xad t0 2=t2) (l7:Xad t0 7=t7) (l9:Xad t0 9=v) (l14:Xad t0 14=.lst kids.length (kC kids)) (l15:Xad t0 15=.int .i64 kids.length) (l16:Xad t0 16=.int .i64 k) :
  ∃ t,Xad t 0=t0'∧Xad t 2=t2∧Xad t 7=t7∧Xad t 9=v∧Xad t 11=.ptr M.length 0 0∧Xad t 14=.lst kids.length (kC kids)∧Xad t 15=.int .i64 kids.length∧Xad t 16=.int .i64 k ∧
   evI Tryz.prog cfg F N Xsd ⟨77,t0,[]⟩ M=(if (x.sp == wNs)=true then evI Tryz.prog cfg F N midRu ⟨77,t,[]⟩ (M++[.row (eC x) 0 (25+1)]) else some (.exit 1,⟨77,t,[]⟩,M++[.row (eC x) 0 (25+1)])):=by
 have hlen:k*5+5≤(kC kids).length:=by rw [Xen]; omega
 have hn:=Xan k .i64
 unfold wNs
 cases hsp:(x.sp == [104,116,116,112,58,47,47,115,99,104,101,109,97,115,46,111,112,101,110,120,109,108,102,111,114,109,97,116,115,46,111,114,103,47,119,111,114,100,112,114,111,99,101,115,115,105,110,103,109,108,47,50,48,48,54,47,109,97,105,110])
 ·refine ⟨?ta,?a0,?a2,?a7,?a9,?a11,?a14,?a15,?a16,?am⟩
  case am =>
   rw [if_neg (by simp)]
   apply Xaa
   ·simp only [l14,l16,hlt,hlen,hget,hn,reduceSub,reduceIte,reduceEqDiff,reduceLT,reduceAdd,reduceMul,reduceLeDiff,ZS,ZT]; rfl
   apply Xbd
   simp only [hsp,reduceSub,reduceIte,reduceEqDiff,reduceLT,reduceAdd,reduceMul,reduceLeDiff,ZS,ZT]; rfl
  case a0=>exact l0
  case a2=>exact l2
  case a7=>exact l7
  case a9=>exact l9
  case a14=>exact l14
  case a15=>exact l15
  case a16=>exact l16
  all_goals rfl
 ·refine ⟨?tb,?b0,?b2,?b7,?b9,?b11,?b14,?b15,?b16,?bm⟩
  case bm =>
   rw [if_pos rfl]
   apply Xaa
   ·simp only [l14,l16,hlt,hlen,hget,hn,reduceSub,reduceIte,reduceEqDiff,reduceLT,reduceAdd,reduceMul,reduceLeDiff,ZS,ZT]; rfl
   apply Xaa
   ·simp only [hsp,reduceSub,reduceIte,reduceEqDiff,reduceLT,reduceAdd,reduceMul,reduceLeDiff,ZS,ZT]; rfl
   rfl
  case b0=>exact l0
  case b2=>exact l2
  case b7=>exact l7
  case b9=>exact l9
  case b14=>exact l14
  case b15=>exact l15
  case b16=>exact l16
  all_goals rfl
def RusEnd (H L:Mem) (px:Nat) (vr vs:AV) (R:List Rn × Nat × Bool) (acc:List Rn):Out × AAct × Mem→Prop
 | (o,a,M')=>a.d=[]∧((R.2.2=true∧o=.pan (Xbw 15)∧∃ g',Xak (H.set px (Xcu vr vs g')++L) M')∨(R.2.2=false∧o=.exit 0∧a.n=77∧Xdm H px vr vs R.2.1 L (acc++R.1) (Xad a.t 9) M'))
section
variable {N:Nat} (hN:9223372036854775808≤N)
include hN
theorem ru_loop (rels:List Rl) (sts:List St) (para:List UInt8) (d m px:Nat) (vr vs:AV) (hl:rels.length≤4611686018427387904) (hs:sts.length≤4611686018427387904) (hR:Xol rels sts para N (d+1) m px vr vs) (hR2:Xol rels sts para N d m px vr vs) (hd:9≤d) (kids:List El) (hxl:∀ x ∈ kids,Lim x) (hm:dEls kids<m+1) (hdm:m+8≤d+1) (hkl:wEls kids≤1048576) (h:Lk) (g0 gz:Nat)
  (H L:Mem) (hpx:H[px]? = some (Xcu vr vs gz)) (hlow:∀ g,Xcn H.length (Xcu vr vs g)=true) (hv:RlV H vr rels) (hvs:SlC H vs sts) (hL:L[0]? = some (.row (lkC h g0) 0 (43+1))):∀ (fuel k g:Nat) (acc:List Rn) (v:AV) (M:Mem),k≤kids.length→kids.length-k<fuel→(h.is=true→g=g0)→g+wEls (kids.drop k)≤1099511627776→acc.length+wEls (kids.drop k)≤1048576→Xdm H px vr vs g L acc v M →
  ∃ r,Xa6 (fun a H=>evI Tryz.prog cfg (Xaw Tryz.prog cfg T N (d+1)) N Xob a H) (some [0,2,7,9,14,15,16]) fuel ⟨77,[(0,.ptr px 0 0),(2,.str para),(7,.ptr H.length 0 0),(9,v),(14,.lst kids.length (kC kids)),(15,.int .i64 kids.length),(16,.int .i64 k)],[]⟩ M=some r∧RusEnd H L px vr vs (Xbm rels sts para (m+1) h g (kids.drop k)) acc r
 | 0,k,_,_,_,_,_,h,_,_,_,_=>by omega
 | fuel+1,k,g,acc,v,M,hk,hf,hh,hg,ha,hS=>by
  rcases Nat.lt_or_ge k kids.length with hlt | hge
  ·obtain ⟨x,hxx⟩:=Xbb hlt
   have hxm:x ∈ kids:=List.mem_of_mem_drop (i:=k) (by rw [hxx]; exact List.mem_cons_self)
   have hget:(kC kids).drop (k*5)=eC x++kC (kids.drop (k+1)):=by rw [Xd1,hxx]; rfl
   have hkl2:=Xmf kids
   have hi:(k:Int)<(kids.length:Int):=by omega
   have hw:=Xav hlt (by omega)
   have hpl:px<H.length:=(List.getElem?_eq_some_iff.1 hpx).1
   have hML:=hS.len
   have hdx:=Xjz hxm
   have hde:=Xib x
   rw [hxx] at hg ha ⊢
   simp only [wEls] at hg ha
   have ih:=ru_loop rels sts para d m px vr vs hl hs hR hR2 hd kids hxl hm hdm hkl h g0 gz H L hpx hlow hv hvs hL fuel (k+1)
   have hol:=oneD_len rels sts para m h g x
   have hoi:=oneD_is rels sts para m h g x
   rw [Xf6]
   obtain ⟨t,k0,k2,k7,k9,k11,k14,k15,k16,hpre⟩:=ru_pre (Xaw Tryz.prog cfg T N (d+1)) N x kids k hlt hget M (.ptr px 0 0) (.str para) (.ptr H.length 0 0) v [(17,.bool true),(0,.ptr px 0 0),(2,.str para),(7,.ptr H.length 0 0),(9,v),(14,.lst kids.length (kC kids)),(15,.int .i64 kids.length),(16,.int .i64 k)] rfl rfl rfl rfl rfl rfl rfl
   have one:∃ r,evI Tryz.prog cfg (Xaw Tryz.prog cfg T N (d+1)) N (.block 1 Xsd) ⟨77,[(17,.bool true),(0,.ptr px 0 0),(2,.str para),(7,.ptr H.length 0 0),(9,v),(14,.lst kids.length (kC kids)),(15,.int .i64 kids.length),(16,.int .i64 k)],[]⟩ M=some r∧RuEnd H L px vr vs (Xh9 rels sts para m h g x) acc (.ptr px 0 0) (.str para) (.lst kids.length (kC kids)) (.int .i64 kids.length) (.int .i64 k) M r:=by
    cases hsp:(x.sp == wNs)
    ·rw [hsp,if_neg (by simp)] at hpre
     have e3:Xh9 rels sts para m h g x=([],g,false):=by unfold Xh9; rw [hsp]; rfl
     rw [e3]
     refine ⟨_,Xab hpre,rfl,.inr ⟨rfl,rfl,rfl,k0,k2,k7,k14,k15,k16,?_,by simp⟩⟩
     simp only [k9,Zs]
     exact hS.app (by simp [Xb6,Xcn,Xay])
    ·rw [hsp,if_pos rfl] at hpre
     obtain ⟨⟨o,a,M'⟩,hr,hd0,hQ⟩:=ru_mid (N:=N) hN rels sts para d m px vr vs hl hs hR hR2 hd x (hxl x hxm) (by omega) (by omega) hsp h g0 g gz hh (by omega) H L M hpx hlow hv hvs hL acc (by omega) v hS (.lst kids.length (kC kids)) (.int .i64 kids.length) (.int .i64 k) t k0 k2 k7 k9 k11 k14 k15 k16
     rcases hQ with ⟨hb,rfl,hQ⟩ | ⟨hb,rfl,hQ⟩
     ·exact ⟨_,Xcb (hpre.trans hr),hd0,.inl ⟨hb,rfl,hQ⟩⟩
     ·exact ⟨_,Xbh (hpre.trans hr),hd0,.inr ⟨hb,rfl,hQ⟩⟩
   obtain ⟨⟨o,⟨an,at',ad⟩,M'⟩,hr,hd0,hQ⟩:=one
   simp only at hd0
   subst hd0
   generalize Xh9 rels sts para m h g x=R at *
   have hb2:Xob.nb 2=.seq (.block 1 Xsd) (Xob.nb 3):=rfl
   rcases hQ with ⟨hb,rfl,hQ⟩ | ⟨hb,rfl,hn,m0,m2,m7,m14,m15,m16,hS',hle⟩
   ·rw [hb]
    refine ⟨_,Xlm (v:=Xbw 15) (a':=⟨an,at',[]⟩) (H':=M') ?hb,rfl,.inl ⟨by rw [Bool.true_or],rfl,hQ⟩⟩
    case hb =>
     apply Xaa
     ·simp only [hi,reduceIte,reduceEqDiff,reduceLT,reduceAdd,reduceMul,reduceLeDiff,ZS]; rfl
     apply Xaa
     ·simp only [reduceIte,reduceEqDiff,reduceLT,reduceAdd,reduceMul,reduceLeDiff,ZS]; rfl
     apply Xbj
     exact hr
   ·rw [hb,Bool.false_or]
    simp only at hn m0 m2 m7 m14 m15 m16 hS'
    subst hn
    generalize hv':Xad at' 9=v' at *
    refine Xbv (a':=?aa) (H':=M') ?hb ?hn
    case hb =>
     apply Xaa
     ·simp only [hi,reduceIte,reduceEqDiff,reduceLT,reduceAdd,reduceMul,reduceLeDiff,ZS]; rfl
     apply Xaa
     ·simp only [reduceIte,reduceEqDiff,reduceLT,reduceAdd,reduceMul,reduceLeDiff,ZS]; rfl
     apply Xaa
     ·exact hr
     simp only [m16,hw,reduceIte,reduceEqDiff,reduceLT,reduceAdd,reduceMul,reduceLeDiff,ZS]; rfl
    case hn =>
     simp only [AAct.keepT,Zv,Zz,Xad,reduceIte,reduceEqDiff,m0,m2,m7,m14,m15,m16,hv']
     intro M'' hM''
     have hM2:M''=M'∨(M''=M'.take M.length∧low M.length v'=true):=by
      rcases hM'' with h | ⟨h,h2⟩
      ·exact .inl h
      ·refine .inr ⟨h,?_⟩
       unfold Xto at h2
       exact List.all_eq_true.1 h2 (9,v') (by simp)
     have hS'':=hS'.cut hML hM2
     obtain ⟨r,e1,e2⟩:=ih R.2.1 (acc++R.1) v' M'' (by omega) (by omega) (fun h5=>by rw [hoi h5]; exact hh h5) (by omega) (by rw [List.length_append]; omega) hS''
     refine ⟨r,e1,?_⟩
     obtain ⟨o,a,M3⟩:=r
     obtain ⟨f1,f2⟩:=e2
     refine ⟨f1,?_⟩
     rw [List.append_assoc] at f2
     exact f2
  ·have hk':k=kids.length:=by omega
   subst hk'
   rw [List.drop_length]
   have e5:Xbm rels sts para (m+1) h g []=([],g,false):=by simp only [Xbm]
   rw [e5]
   refine ⟨_,Xae (by simp only [Xob,I72,IC.loops,Int.lt_irrefl,reduceIte,reduceEqDiff,reduceLT,reduceAdd,reduceMul,reduceLeDiff,ZS]; rfl),rfl,.inr ⟨rfl,rfl,rfl,?_⟩⟩
   rw [List.append_nil]
   exact hS
theorem Xqe (rels:List Rl) (sts:List St) (para:List UInt8) (px:Nat) (vr vs:AV) (hl:rels.length≤4611686018427387904) (hs:sts.length≤4611686018427387904):∀ (m d:Nat),2*m+9≤d→Xol rels sts para N d m px vr vs
 | 0,d,hd=>fun kids _ hm=>by omega
 | m+1,d,hd=>by
  obtain ⟨n,rfl⟩ : ∃ n,d=n+2:=⟨d-2,by omega⟩
  have hR:=Xqe rels sts para px vr vs hl hs m (n+1) (by omega)
  have hR2:=Xqe rels sts para px vr vs hl hs m n (by omega)
  intro kids hx hm hw h g hg H hH hpx hv hvs
  have hlow:=fun g'=>Xes hH hpx g'
  have hB:Xdm H px vr vs g [.row (lkC h g) 0 (43+1)] [] .nilS (H++[.row (lkC h g) 0 (43+1)]):=by
   refine ⟨?_,?_,.inl ⟨rfl,rfl,rfl⟩⟩
   ·rw [Xec hpx]; exact Xak.refl _
   ·rw [Xcp,hH]; simp [Xb6,Xcn,lkC,lowL,low]
  have hkl2:=Xmf kids
  obtain ⟨⟨o,⟨an,at',ad⟩,M'⟩,hr,hd0,hQ⟩:=ru_loop (N:=N) hN rels sts para n m px vr vs hl hs hR hR2 (by omega) kids hx hm (by omega) hw h g g H [.row (lkC h g) 0 (43+1)] hpx hlow hv hvs rfl N 0 g [] .nilS _ (Nat.zero_le _) (by omega) (fun _=>rfl) (by rw [List.drop_zero]; omega) (by rw [List.drop_zero]; simp; omega) hB
  simp only at hd0
  subst hd0
  rw [List.drop_zero] at hQ
  generalize Xbm rels sts para (m+1) h g kids=R at *
  have hlen:∀ g',(H.set px (Xcu vr vs g')).length=H.length:=fun g'=>List.length_set
  rcases hQ with ⟨hb,rfl,g',hst⟩ | ⟨hb,rfl,hn,hst,hlo,hgr⟩
  ·have hst2:=hst.pre
   have htk:M'.take H.length=H.set px (Xcu vr vs g'):=by
    unfold Xak at hst2
    rw [hlen] at hst2; exact hst2
   refine ⟨(.pan (Xbw 15),H.set px (Xcu vr vs g')),?_,.inl ⟨hb,rfl,g',rfl⟩⟩
   refine Xdu (m:=77) (v:=Xbw 15) (a:=⟨an,at',[]⟩) (H1:=M') rfl t72 rfl ?hb rfl ?hz
   case hb =>
    apply Xaa
    ·simp only [idx,I72,lkC,reduceIte,reduceEqDiff,reduceLT,reduceAdd,reduceMul,reduceLeDiff,ZS]; rfl
    apply Xaa
    ·simp only [reduceIte,reduceEqDiff,reduceLT,reduceAdd,reduceMul,reduceLeDiff,ZS]; rfl
    apply Xbj
    apply Xaa
    ·simp only [reduceIte,reduceEqDiff,reduceLT,reduceAdd,reduceMul,reduceLeDiff,ZS]; rfl
    apply Xcb
    apply Xaf
    exact hr
   case hz =>
    rw [Xmo 15 (by unfold Xce; rw [htk,Xb9 hH (hlow g'),Bool.or_true]),htk]
  ·have hst2:=hst.pre
   have htk:M'.take H.length=H.set px (Xcu vr vs R.2.1):=by
    unfold Xak at hst2
    rw [hlen] at hst2; exact hst2
   simp only at hn hgr
   subst hn
   rw [List.nil_append] at hgr
   refine ⟨(.ret (.lst R.1.length (Xat R.1)),H.set px (Xcu vr vs R.2.1)),?_,.inr ⟨hb,rfl,rfl⟩⟩
   refine Xac (m:=77) (v:=Xad at' 9) (a:=?ra) (H1:=M') rfl t72 rfl ?hb2 ?hd2 ?hr2 ?hz2
   case hb2 =>
    apply Xaa
    ·simp only [idx,I72,lkC,reduceIte,reduceEqDiff,reduceLT,reduceAdd,reduceMul,reduceLeDiff,ZS]; rfl
    apply Xaa
    ·simp only [reduceIte,reduceEqDiff,reduceLT,reduceAdd,reduceMul,reduceLeDiff,ZS]; rfl
    apply Xaa
    ·apply Xaa
     ·simp only [reduceIte,reduceEqDiff,reduceLT,reduceAdd,reduceMul,reduceLeDiff,ZS]; rfl
     apply Xab
     apply Xaf
     exact hr
    apply Xaa
    ·simp only [reduceIte,reduceEqDiff,reduceLT,reduceAdd,reduceMul,reduceLeDiff,ZS]; rfl
    rfl
   case hd2=>rfl
   case hr2=>simp only [I72,Xc6,Xbc,Xad,reduceIte,reduceEqDiff,Zh]
   case hz2 =>
    have hf:frz H.length M' 12 (Xad at' 9)=some (.lst R.1.length (Xat R.1)):=by
     rcases hgr with ⟨h1,h2,h3⟩ | ⟨q,st,h3,h1,h2⟩
     ·rw [h3,h2,h1]; rfl
     ·rw [h3,Xp6 (by omega) h2 (by rw [Xa7]; omega) (cs':=Xat R.1) ?_]
      rw [List.drop_zero,List.take_of_length_le (by rw [Xa7]; omega)]
      exact Xld _ _ _ _
    have hl2:low H.length (.lst R.1.length (Xat R.1))=true:=by simp [low,Xci]
    simp only [Xao,Ze,if_false,cfg,keep,hf,hl2,Xce,htk,Xb9 hH (hlow R.2.1),Bool.or_true,ZJ,if_true]
end
theorem Xji (n:Nat):∀ l:List St,lowL n (Xdb l)=true
 | []=>rfl
 | x::l=>by
  have:=Xji n l
  simp only [Xdb,List.flatMap_cons] at *
  rw [Xer,this]; rfl
def vR (rels:List Rl):AV:=.lst rels.length (Xg6 rels)
def vS (sts:List St):AV:=.lst sts.length (Xdb sts)
theorem low_vR (n:Nat) (rels:List Rl):low n (vR rels)=true:=by simp [vR,low,Xi0]
theorem low_vS (n:Nat) (sts:List St):low n (vS sts)=true:=by simp [vS,low,Xji]
theorem Xeu (n:Nat) (rels:List Rl) (sts:List St) (g e:Nat):Xcn n (Xa0 (vR rels) (vS sts) g e)=true:=by
 simp only [Xcn,lowL,low_vR,low_vS,low,ZJ]
def lkR (h:Lk):List AV:=[.bool h.is,.str h.to,.str h.about]
def Xj6 (rels:List Rl) (sts:List St) (para:List UInt8) (N d m px:Nat):Prop:=∀ (e:El),Lim e→dEls e.kids<m→∀ (h:Lk) (g er:Nat),g+wEl e≤1099511627776→∀ (H:Mem),LoH H→H[px]? = some (Xa0 (vR rels) (vS sts) g er) →
 Xaw Tryz.prog cfg T N d 80 [.ptr px 0 0,.agg (eC e),.str para,.agg (lkR h)] H=some (.ret (.lst (Xbm rels sts para m h g e.kids).1.length (Xat (Xbm rels sts para m h g e.kids).1)),H.set px (Xa0 (vR rels) (vS sts) (Xbm rels sts para m h g e.kids).2.1 (erN er (Xbm rels sts para m h g e.kids).2.2)))
section
variable {N:Nat} (hN:9223372036854775808≤N)
include hN
theorem rhyp_eq (rels:List Rl) (sts:List St) (para:List UInt8) (d m px:Nat) (hl:rels.length≤4611686018427387904) (hR:Xj6 rels sts para N d m px) (hd:9≤d) (k:El) (hk:Lim k) (hm:dEls k.kids<m) (g er:Nat) (hg:g+wEl k≤1099511627776) (H:Mem) (hH:LoH H) (hx:H[px]? = some (Xa0 (vR rels) (vS sts) g er)) :
  Xaw Tryz.prog cfg T N (d+1) 109 [.ptr px 0 0,.agg (eC k),.str para] H=some (.ret (.lst (Xpw rels sts para m g k).1.length (Xat (Xpw rels sts para m g k).1)),H.set px (Xa0 (vR rels) (vS sts) (Xpw rels sts para m g k).2.1 (erN er (Xpw rels sts para m g k).2.2))):=by
 obtain ⟨n,rfl⟩ : ∃ n,d=n+9:=⟨d-9,by omega⟩
 have hpl:px<H.length:=(List.getElem?_eq_some_iff.1 hx).1
 have hx2:∀ L:Mem,(H++L)[px]? = some (Xa0 (vR rels) (vS sts) g er):=fun L=>Xax hx L
 have hset:∀ (L:Mem) (b:Blk),(H++L).set px b=H.set px b++L:=fun L b=>Xd9 hx L b
 have hG:=fun H=>Xhb Tryz.prog N (n+8) hN nsR idS k hk.1.ats H
 have hlo:LoH (H++[Blk.row (eC k) 0 (25+1)]):=hH.app (by simp [Xb6,Xcn,Xay])
 unfold Xpw
 cases hf:Xba nsR idS k.ats with
 | none =>
  rw [hf] at hG
  simp only [Option.getD_none,Option.isSome_none,nsR,idS] at hG
  have hr:=hR k hk hm Xg7 g er (by omega) (H++[.row (eC k) 0 (25+1)]) hlo (hx2 _)
  have e0:lkR Xg7=[.bool false,.str [],.str []]:=rfl
  rw [e0] at hr
  dsimp only
  generalize Xbm rels sts para m Xg7 g k.kids=R at *
  simp only [hset] at hr
  refine Xac (m:=50) (v:=.lst R.1.length (Xat R.1)) (a:=?ab) (H1:=?Hb) rfl t109 rfl ?hb2 ?hd2 ?hr2 ?hz2
  case hb2=>simp only [idx,I109,hG,hr,reduceSub,reduceIte,reduceEqDiff,reduceLT,reduceAdd,reduceMul,reduceLeDiff,ZS,ZT]; rfl
  case hd2=>rfl
  case hr2=>rfl
  case hz2=>exact Xeb hH (Xeu _ _ _ _ _) (Xhu _ _ _) (by simp [low,Xci])
 | some id =>
  rw [hf] at hG
  simp only [Option.getD_some,Option.isSome_some,nsR,idS] at hG
  have hA:=fun H=>Xhb Tryz.prog N (n+8) hN wNs Xcj k hk.1.ats H
  rw [show (Xba wNs Xcj k.ats).getD []=Xc2 k Xcj from rfl] at hA
  have u1:=fun H=>Xfi (N:=N) (n+6) (Xc2 k Xcj) (hk.attr _) (by omega) H
  have ht:=rel_eq Tryz.prog N (n+9) (by omega) id Xdd (H++[.row (eC k) 0 (25+1)]) hlo px g er (vR rels) (vS sts) rels (by omega) hl (hx2 _) (.inr rfl)
  dsimp only
  generalize (Xba wNs Xcj k.ats).isSome=ts at *
  generalize hab:Xc4 (Xc2 k Xcj)=ab at *
  generalize Xc2 k Xcj=av at *
  obtain ⟨ro,hro⟩ : ∃ ro,Xdp rels id Xdd=ro:=⟨_,rfl⟩
  simp only [hro] at ht ⊢
  simp only [Xdd] at ht
  rw [hset] at ht
  obtain ⟨e1,he1⟩ : ∃ e1,erN er ro.isNone=e1:=⟨_,rfl⟩
  rw [he1] at ht
  have hxS:∀ (g' e':Nat) (L:Mem),(H.set px (Xa0 (vR rels) (vS sts) g' e')++L)[px]? = some (Xa0 (vR rels) (vS sts) g' e'):=fun g' e' L=>Xax (List.getElem?_set_self hpl) L
  have hsS:∀ (b:Blk) (L:Mem) (c:Blk),(H.set px b++L).set px c=H.set px c++L:=fun b L c=>by
   rw [List.set_append_left _ _ (by rw [List.length_set]; exact hpl),List.set_set]
  have s0:∀ (b:Blk) (L:Mem),(H.set px b++L)[H.length]? = L[0]?:=fun b L=>Xgx L
  have hlo1:LoH (H.set px (Xa0 (vR rels) (vS sts) g e1)++[Blk.row (eC k) 0 (25+1)]):=(hH.set (Xeu _ _ _ _ _) px).app (by simp [Xb6,Xcn,Xay])
  have hr:=hR k hk hm ⟨true,ro.getD [],ab⟩ g e1 (by omega) (H.set px (Xa0 (vR rels) (vS sts) g e1)++[.row (eC k) 0 (25+1)]) hlo1 (hxS _ _ _)
  have hle:=(Xcx rels sts para m ⟨true,ro.getD [],ab⟩ g k.kids).2
  have hw:wEls k.kids+8≤wEl k:=by rw [Xb2]; omega
  simp only [wNs,Xcj] at hA
  simp only [lkR] at hr
  generalize Xbm rels sts para m ⟨true,ro.getD [],ab⟩ g k.kids=R at *
  simp only [hsS] at hr
  have he2:erN e1 R.2.2=erN er (ro.isNone || R.2.2):=by rw [← he1,erN_or]
  rw [he2] at hr
  have w2:IntKind.wrap .i64 ((R.2.1:Int)+1)=((R.2.1+1:Nat):Int):=by rw [Xbs] <;> omega
  cases hz:decide ((R.1.length:Int)>0)
  ·have hz0:R.1.length=0:=by have:=of_decide_eq_false hz; omega
   rw [if_pos hz0]
   refine Xac (m:=50) (v:=.lst R.1.length (Xat R.1)) (a:=?ae) (H1:=?He) rfl t109 rfl ?hb5 ?hd5 ?hr5 ?hz5
   case hb5=>simp only [idx,I109,hG,ht,hA,u1,s0,hr,hz,eqvL_refl,reduceSub,reduceIte,reduceEqDiff,reduceLT,reduceAdd,reduceMul,reduceLeDiff,ZU,ZS,ZT]; rfl
   case hd5=>rfl
   case hr5=>rfl
   case hz5=>exact Xeb hH (Xeu _ _ _ _ _) (Xhu _ _ _) (by simp [low,Xci])
  ·have hz0:R.1.length≠0:=by have:=of_decide_eq_true hz; omega
   rw [if_neg hz0]
   refine Xac (m:=50) (v:=.lst R.1.length (Xat R.1)) (a:=?af) (H1:=?Hf) rfl t109 rfl ?hb6 ?hd6 ?hr6 ?hz6
   case hb6=>simp only [idx,I109,hG,ht,hA,u1,s0,w2,hr,hz,eqvL_refl,hxS,hsS,reduceSub,reduceIte,reduceEqDiff,reduceLT,reduceAdd,reduceMul,reduceLeDiff,ZU,ZS,ZT]; rfl
   case hd6=>rfl
   case hr6=>rfl
   case hz6=>exact Xeb hH (Xeu _ _ _ _ _) (Xhu _ _ _) (by simp [low,Xci])
end
noncomputable def Xnc:IC:=(I80.c.loops).getD 0 .bad
noncomputable def Xir:IC:=(I80.c.loops).getD 1 .bad
noncomputable def Xm6:IC:=IC.inn ((Xnc.nb 1).hd)
noncomputable def Xme:IC:=Xm6.nb 2
def Xfk (H:Mem) (px:Nat) (b:Blk) (L:Mem) (acc:List Rn) (v:AV) (M:Mem):Prop:=Xak (H.set px b++L) M∧Xb6 H.length M=true∧Xbr (H.length+L.length) 9 (43+1) acc.length (Xat acc) v M
theorem Xfk.len {H:Mem} {px:Nat} {b:Blk} {v:AV} {L M:Mem} {acc:List Rn} (h:Xfk H px b L acc v M):H.length+L.length≤M.length:=Xfe h.1
theorem Xfk.app {H:Mem} {px:Nat} {b:Blk} {v:AV} {L M:Mem} {acc:List Rn} (h:Xfk H px b L acc v M) {R:Mem} (hR:Xb6 H.length R=true):Xfk H px b L acc v (M++R) :=
 ⟨h.1.app _,by rw [Xcp,h.2.1,hR]; rfl,h.2.2.app _⟩
theorem Xfk.cut {H:Mem} {px:Nat} {b:Blk} {v:AV} {L M' M'':Mem} {acc:List Rn} {m:Nat} (h:Xfk H px b L acc v M') (hm:H.length+L.length≤m) (hM:M''=M'∨(M''=M'.take m∧low m v=true)):Xfk H px b L acc v M'':=by
 obtain ⟨k1,k2⟩:=Xdl h.1 h.2.2 (by rw [List.length_append,List.length_set]; exact hm) hM
 refine ⟨k1,?_,k2⟩
 rcases hM with rfl | ⟨rfl,_⟩
 ·exact h.2.1
 ·exact Xhi h.2.1
theorem Xfk.px {H:Mem} {px:Nat} {b:Blk} {v:AV} {L M:Mem} {acc:List Rn} (h:Xfk H px b L acc v M) (hpl:px<H.length) (b':Blk) (hb:Xcn H.length b'=true):Xfk H px b' L acc v (M.set px b') :=
 ⟨Xek hpl h.1,Xb9 h.2.1 hb px,Xqm h.2.2 (by omega) _⟩
theorem Xfk.addN {H:Mem} {px:Nat} {b:Blk} {v:AV} {L M:Mem} {acc l:List Rn} (h:Xfk H px b L acc v M) (hn:acc.length+l.length≤1073741824):∃ v' M',Xgu M 43 9 l.length (Xat l) v=some (v',M')∧Xfk H px b L (acc++l) v' M'∧M.length≤M'.length:=by
 obtain ⟨v',M',ha,h1,h2,h3,h4⟩:=Xtq (n:=0) h.2.2 hn h.len h.2.1
 exact ⟨v',M',ha,⟨h.1.of_take (by rw [List.length_append,List.length_set]; exact Nat.le_refl _) h3,h4,h1⟩,h2⟩
theorem Xf4 (A X B:List AV) (o:Nat) (x:AV) (ho:o<X.length):Xd4 (A++(X++B)) (A.length+o) [x]=A++(X.set o x++B):=by
 unfold Xd4
 have e1:(A++(X++B)).take (A.length+o)=A++X.take o:=by
  rw [List.take_append,List.take_of_length_le (by omega),Nat.add_sub_cancel_left,List.take_append_of_le_length (by omega)]
 have e2:(A++(X++B)).drop (A.length+o+1)=X.drop (o+1)++B:=by
  rw [show A.length+o+1=A.length+(o+1) by omega,List.drop_append,List.drop_eq_nil_of_le (by omega),List.nil_append,Nat.add_sub_cancel_left,List.drop_append_of_le_length (by omega)]
 rw [show [x].length=1 from rfl,e1,e2,List.set_eq_take_append_cons_drop,if_pos ho]
 simp
def Xvu (ps:List Rn) (h:Lk) (g j:Nat):List AV:=Xat ((ps.take j).map (Xia h g)++ps.drop j)
theorem Xv2 (ps:List Rn) (h:Lk) (g j:Nat) (hj:j≤ps.length):(Xvu ps h g j).length=ps.length*9:=by
 unfold Xvu
 rw [Xa7,List.length_append,List.length_map,List.length_take,List.length_drop]
 congr 1; omega
theorem Xwq (F:Xc5) (N:Nat) (ps:List Rn) (hps:ps.length≤1048576) (hz:∀ r ∈ ps,r.group=0) (h:Lk) (px p7 q g er st ty ty7:Nat) (bx:List AV) (hqx:px≠q) (hq7:p7≠q) (rels:List Rl) (sts:List St) (hgl:g≤1099511627776) (t0 t2 t5 t9 t10:AV) (h0:t0=.ptr px 0 0):∀ (fuel j:Nat) (W:Mem),j≤ps.length→ps.length-j<fuel→W[q]? = some (.row (Xvu ps h g j) st ty)→W[px]? = some (Xa0 (vR rels) (vS sts) g er)→W[p7]? = some (.row (lkR h) 0 ty7) →
  ∃ t,Xa6 (fun a H=>evI Tryz.prog cfg F N Xir a H) (some [0,2,5,7,9,10,12,13]) fuel ⟨107,[(0,t0),(2,t2),(5,t5),(7,.ptr p7 0 0),(9,t9),(10,t10),(12,.slc q 0 ps.length 9 st),(13,.int .i64 j)],[]⟩ W=some (.exit 3,⟨107,t,[]⟩,W.set q (.row (Xvu ps h g ps.length) st ty))∧Xad t 0=t0∧Xad t 2=t2∧Xad t 5=t5∧Xad t 7=.ptr p7 0 0∧Xad t 9=t9∧Xad t 10=t10∧Xad t 12=.slc q 0 ps.length 9 st
 | 0,j,_,_,h,_,_,_=>by omega
 | fuel+1,j,W,hj,hf,hW,hx,h7=>by
  rcases Nat.lt_or_ge j ps.length with hlt | hge
  ·subst h0
   have hi:(j:Int)<(ps.length:Int):=by omega
   have hw:=Xav hlt (by omega)
   have hn:=Xan j .i64
   have hql:=(List.getElem?_eq_some_iff.1 hW).1
   have hl0:=Xv2 ps h g j hj
   have hl1:=Xv2 ps h g (j+1) hlt
   have hA:(Xat ((ps.take j).map (Xia h g))).length=j*9:=by
    rw [Xa7,List.length_map,List.length_take]; congr 1; omega
   obtain ⟨r,hr⟩ : ∃ r,ps.drop j=r::ps.drop (j+1)∧ps.take (j+1)=ps.take j++[r]:=⟨ps[j],List.drop_eq_getElem_cons hlt,by rw [List.take_add_one,List.getElem?_eq_getElem hlt]; rfl⟩
   have e0:Xvu ps h g j=Xat ((ps.take j).map (Xia h g))++(rnC r++Xat (ps.drop (j+1))):=by
    unfold Xvu; rw [Xct,hr.1,Xgf]
   have e4:Xvu ps h g (j+1)=Xat ((ps.take j).map (Xia h g))++(rnC (Xia h g r)++Xat (ps.drop (j+1))):=by
    unfold Xvu; rw [Xct,hr.2,List.map_append,Xct,List.append_assoc]; rfl
   generalize Xat ((ps.take j).map (Xia h g))=A at *
   generalize Xat (ps.drop (j+1))=B at *
   have s1:=Xf4 A (rnC r) B 5 (.bool h.is) (by rw [Xhp]; omega)
   have s2:=Xf4 A ((rnC r).set 5 (.bool h.is)) B 6 (.str h.to) (by rw [List.length_set,Xhp]; omega)
   have s3:=Xf4 A (((rnC r).set 5 (.bool h.is)).set 6 (.str h.to)) B 7 (.str h.about) (by rw [List.length_set,List.length_set,Xhp]; omega)
   have s4:=Xf4 A ((((rnC r).set 5 (.bool h.is)).set 6 (.str h.to)).set 7 (.str h.about)) B 8 (.int .i64 ((g:Int)+1)) (by rw [List.length_set,List.length_set,List.length_set,Xhp]; omega)
   have hrz:r.group=0:=hz r (List.mem_of_mem_drop (i:=j) (by rw [hr.1]; exact List.mem_cons_self))
   have e5:rnC (Xia h g r)=if h.is=true then ((((rnC r).set 5 (.bool h.is)).set 6 (.str h.to)).set 7 (.str h.about)).set 8 (.int .i64 ((g:Int)+1)) else (((rnC r).set 5 (.bool h.is)).set 6 (.str h.to)).set 7 (.str h.about):=by
    unfold Xia rnC
    cases hi2:h.is
    ·simp only [Ze,if_false,hrz]; rfl
    ·rfl
   obtain ⟨c0,hc0⟩ : ∃ c,c=A++(rnC r++B):=⟨_,rfl⟩
   obtain ⟨c1,hc1⟩ : ∃ c,c=A++((rnC r).set 5 (.bool h.is)++B):=⟨_,rfl⟩
   obtain ⟨c2,hc2⟩ : ∃ c,c=A++(((rnC r).set 5 (.bool h.is)).set 6 (.str h.to)++B):=⟨_,rfl⟩
   obtain ⟨c3,hc3⟩ : ∃ c,c=A++((((rnC r).set 5 (.bool h.is)).set 6 (.str h.to)).set 7 (.str h.about)++B):=⟨_,rfl⟩
   obtain ⟨c4,hc4⟩ : ∃ c,c=A++(((((rnC r).set 5 (.bool h.is)).set 6 (.str h.to)).set 7 (.str h.about)).set 8 (.int .i64 ((g:Int)+1))++B):=⟨_,rfl⟩
   have hcl:∀ X:List AV,X.length=9→j*9+9≤(A++(X++B)).length:=fun X hX=>by rw [List.length_append,List.length_append,hA,hX]; omega
   have q0:j*9+9≤c0.length:=by rw [hc0]; exact hcl _ rfl
   have q1:j*9+9≤c1.length:=by rw [hc1]; exact hcl _ rfl
   have q2:j*9+9≤c2.length:=by rw [hc2]; exact hcl _ rfl
   have q3:j*9+9≤c3.length:=by rw [hc3]; exact hcl _ rfl
   have p0:j*9+6≤c0.length:=by omega
   have p1:j*9+7≤c1.length:=by omega
   have p2:j*9+8≤c2.length:=by omega
   rw [hA] at s1 s2 s3 s4
   rw [← hc0,← hc1] at s1
   rw [← hc1,← hc2] at s2
   rw [← hc2,← hc3] at s3
   rw [← hc3,← hc4] at s4
   simp only [Xd4,Zf,Zk,Zp,Zr,ZK,reduceAdd] at s1 s2 s3 s4
   rw [e0,← hc0] at hW
   have hg1:∀ c:Blk,(W.set q c)[q]? = some c:=fun c=>List.getElem?_set_self hql
   have hgx:∀ c:Blk,(W.set q c)[px]? = some (Xa0 (vR rels) (vS sts) g er):=fun c=>by rw [List.getElem?_set_ne (fun e=>hqx e.symm)]; exact hx
   have hg7:∀ c:Blk,(W.set q c)[p7]? = some (.row (lkR h) 0 ty7):=fun c=>by rw [List.getElem?_set_ne (fun e=>hq7 e.symm)]; exact h7
   have w1:IntKind.wrap .i64 ((g:Int)+1)=(g:Int)+1:=Xbs (by omega) (by omega)
   have ih:=Xwq F N ps hps hz h px p7 q g er st ty ty7 bx hqx hq7 rels sts hgl (.ptr px 0 0) t2 t5 t9 t10 rfl fuel (j+1)
   have last:∀ c,Xvu ps h g (j+1)=c→∃ t,Xa6 (fun a H=>evI Tryz.prog cfg F N Xir a H) (some [0,2,5,7,9,10,12,13]) fuel ⟨107,[(0,.ptr px 0 0),(2,t2),(5,t5),(7,.ptr p7 0 0),(9,t9),(10,t10),(12,.slc q 0 ps.length 9 st),(13,.int .i64 (j+1:Nat))],[]⟩ (W.set q (.row c st ty))=some (.exit 3,⟨107,t,[]⟩,W.set q (.row (Xvu ps h g ps.length) st ty))∧Xad t 0=.ptr px 0 0∧Xad t 2=t2∧Xad t 5=t5∧Xad t 7=.ptr p7 0 0∧Xad t 9=t9∧Xad t 10=t10∧Xad t 12=.slc q 0 ps.length 9 st:=fun c hc=>by
    obtain ⟨t,ht,hQ⟩:=ih (W.set q (.row c st ty)) (by omega) (by omega) (by rw [hg1,hc]) (hgx _) (hg7 _)
    rw [List.set_set] at ht
    exact ⟨t,ht,hQ⟩
   have h7a:W[p7]? = some (.row [.bool h.is,.str h.to,.str h.about] 0 ty7):=h7
   have hg7a:∀ c:Blk,(W.set q c)[p7]? = some (.row [.bool h.is,.str h.to,.str h.about] 0 ty7):=hg7
   have re_len:∀ (a:AAct) (c:Blk),(Xbk (some [0,2,5,7,9,10,12,13]) W a (W.set q c)).2=W.set q c∧(Xbk (some [0,2,5,7,9,10,12,13]) W a (W.set q c)).1=a.keepT [0,2,5,7,9,10,12,13]:=fun a c=>by
    simp only [Xbk]
    split
    ·exact ⟨by rw [List.take_of_length_le (by rw [List.length_set]; exact Nat.le_refl _)],rfl⟩
    ·exact ⟨rfl,rfl⟩
   cases hi2:h.is
   ·rw [hi2] at h7a hg7a s1 e5
    simp only [Ze,if_false] at e5
    obtain ⟨t,ht,hQ⟩:=last c3 (by rw [e4,e5,hc3,hi2])
    refine ⟨t,?_,hQ⟩
    refine Xap (by simp only [Xir,I80,IC.loops,hi,hlt,hn,hw,hW,hg1,h7a,hg7a,s1,s2,s3,p0,p1,p2,List.set_set,eqvL_refl,reduceIte,reduceEqDiff,reduceLT,reduceAdd,reduceMul,reduceLeDiff,ZU,ZS]; rfl) ?_
    rw [(re_len _ _).1,(re_len _ _).2]
    exact ht
   ·rw [hi2] at h7a hg7a s1 e5
    simp only [if_true] at e5
    obtain ⟨t,ht,hQ⟩:=last c4 (by rw [e4,e5,hc4,hi2])
    refine ⟨t,?_,hQ⟩
    refine Xap (by simp only [Xir,I80,IC.loops,hi,hlt,hn,hw,hW,hg1,h7a,hg7a,hgx,w1,s1,s2,s3,s4,p0,p1,p2,q3,List.set_set,eqvL_refl,reduceIte,reduceEqDiff,reduceLT,reduceAdd,reduceMul,reduceLeDiff,ZU,ZS]; rfl) ?_
    rw [(re_len _ _).1,(re_len _ _).2]
    exact ht
  ·have hk':j=ps.length:=by omega
   subst hk'
   refine ⟨_,Xae (by rw [Xec hW]; simp only [Xir,I80,IC.loops,Int.lt_irrefl,reduceIte,reduceEqDiff,reduceLT,reduceAdd,reduceMul,reduceLeDiff,ZS]; rfl),rfl,rfl,rfl,rfl,rfl,rfl,rfl⟩
theorem Xss (rels:List Rl) (kind style:Int):∀ l:List El,∀ r ∈ (Xg0 rels kind style l).1,r.group=0
 | [],r,h=>by simp [Xg0] at h
 | k::ks,r,h=>by
  simp only [Xg0,List.mem_append] at h
  rcases h with h | h
  ·have h2:(pcD rels kind style k).1=some r:=by
    cases ho:(pcD rels kind style k).1 with
    | none=>rw [ho] at h; simp at h
    | some y=>rw [ho] at h; simp at h; rw [h]
   unfold pcD at h2
   split at h2
   ·split at h2
    ·split at h2
     ·cases h2
     ·injection h2 with h2; rw [← h2]; rfl
    ·split at h2
     ·injection h2 with h2; rw [← h2]; rfl
     ·split at h2
      ·injection h2 with h2; rw [← h2]; rfl
      ·split at h2
       ·split at h2
        ·cases h2
        ·injection h2 with h2; rw [← h2]; rfl
       ·cases h2
   ·cases h2
  ·exact Xss rels kind style ks r h
theorem rri_all (F:Xc5) (N:Nat) (hN:1048577<N) (ps:List Rn) (hps:ps.length≤1048576) (hz:∀ r ∈ ps,r.group=0) (h:Lk) (px p7 g er n1 ty7 lb:Nat) (rels:List Rl) (sts:List St) (hgl:g≤1099511627776) (t0 t2 t5 t9 t10 vp:AV) (h0:t0=.ptr px 0 0) (W:Mem) (hp1:px<n1) (hp2:p7<n1) (hG:Xbr n1 9 (43+1) ps.length (Xat ps) vp W) (hx:W[px]? = some (Xa0 (vR rels) (vS sts) g er)) (h7:W[p7]? = some (.row (lkR h) 0 ty7)) (hlo:Xb6 lb W=true) :
  ∃ t W2,Xa6 (fun a H=>evI Tryz.prog cfg F N Xir a H) (some [0,2,5,7,9,10,12,13]) N ⟨107,[(0,t0),(2,t2),(5,t5),(7,.ptr p7 0 0),(9,t9),(10,t10),(12,vp),(13,.int .i64 0)],[]⟩ W=some (.exit 3,⟨107,t,[]⟩,W2)∧Xad t 0=t0∧Xad t 2=t2∧Xad t 5=t5∧Xad t 7=.ptr p7 0 0∧Xad t 9=t9∧Xad t 10=t10∧Xad t 12=vp∧Xfu W2 9 vp=some (ps.length,Xat (ps.map (Xia h g)))∧W2.take n1=W.take n1∧Xb6 lb W2=true∧W2.length=W.length:=by
 rcases hG with ⟨hn,hc,rfl⟩ | ⟨q,st,rfl,hq,hW⟩
 ·have hp:ps=[]:=List.eq_nil_of_length_eq_zero hn
  subst hp
  obtain ⟨M,rfl⟩ : ∃ M,N=M+1:=⟨N-1,by omega⟩
  exact ⟨_,W,Xae (by simp only [Xir,I80,IC.loops,Int.lt_irrefl,reduceIte,reduceEqDiff,reduceLT,reduceAdd,reduceMul,reduceLeDiff,ZS]; rfl),rfl,rfl,rfl,rfl,rfl,rfl,rfl,rfl,rfl,hlo,rfl⟩
 ·have e0:Xvu ps h g 0=Xat ps:=by unfold Xvu; rw [List.take_zero,List.drop_zero]; rfl
  have e1:Xvu ps h g ps.length=Xat (ps.map (Xia h g)):=by unfold Xvu; rw [List.take_length,List.drop_length,List.append_nil]
  obtain ⟨t,ht,hQ⟩:=Xwq F N ps hps hz h px p7 q g er st (43+1) ty7 [] (by omega) (by omega) rels sts hgl t0 t2 t5 t9 t10 h0 N 0 W (Nat.zero_le _) (by omega) (by rw [e0]; exact hW) hx h7
  rw [e1] at ht
  have hql:=(List.getElem?_eq_some_iff.1 hW).1
  have hl:=Xa7 (ps.map (Xia h g))
  rw [List.length_map] at hl
  refine ⟨t,_,ht,hQ.1,hQ.2.1,hQ.2.2.1,hQ.2.2.2.1,hQ.2.2.2.2.1,hQ.2.2.2.2.2.1,hQ.2.2.2.2.2.2,?_,List.take_set_of_le hq,Xb9 hlo (show Xcn lb (.row (Xat (ps.map (Xia h g))) st (43+1))=true from Xci _ _) q,List.length_set⟩
  have hg1:(W.set q (.row (Xat (ps.map (Xia h g))) st (43+1)))[q]? = some (.row (Xat (ps.map (Xia h g))) st (43+1)):=List.getElem?_set_self hql
  have htk:(Xat (ps.map (Xia h g))).take (ps.length*9)=Xat (ps.map (Xia h g)):=List.take_of_length_le (by omega)
  simp only [Xfu,Xcd,hg1,hl,ZL,ZQ,and_self,if_true,Zu,htk]
noncomputable def Xwx:IC:=(IC.els ((IC.inn Xme).nb 1)).nb 1
theorem rr_name (F:Xc5) (N:Nat) (x:El) (M:Mem) (v t0' t2 t5 t7 t10:AV) (h1:(x.nm == rS)=false) (t:List (Nat × AV)) (l0:Xad t 0=t0') (l2:Xad t 2=t2) (l5:Xad t 5=t5) (l7:Xad t 7=t7) (l9:Xad t 9=v) (l10:Xad t 10=t10) (l11:Xad t 11=.ptr M.length 0 0) :
  ∃ t',Xad t' 0=t0'∧Xad t' 2=t2∧Xad t' 5=t5∧Xad t' 7=t7∧Xad t' 9=v∧Xad t' 10=t10∧Xad t' 11=.ptr M.length 0 0∧Xad t' 75=.bool (x.nm == Xhd || x.nm == insS)∧evI Tryz.prog cfg F N Xme ⟨107,t,[]⟩ (M++[.row (eC x) 0 (25+1)])=evI Tryz.prog cfg F N (.block 2 Xwx) ⟨107,t',[]⟩ (M++[.row (eC x) 0 (25+1)]):=by
 simp only [rS] at h1
 unfold Xhd insS
 cases h2:(x.nm == [115,109,97,114,116,84,97,103])
 ·rw [Bool.false_or]
  obtain ⟨b,h3⟩ : ∃ b,(x.nm == [105,110,115])=b:=⟨_,rfl⟩
  rw [h3]
  refine ⟨?ta,?a0,?a2,?a5,?a7,?a9,?a10,?a11,?a75,?am⟩
  case am =>
   apply Xb8
   ·simp only [l11,h1,reduceSub,reduceIte,reduceEqDiff,reduceLT,reduceAdd,reduceMul,reduceLeDiff,ZS,ZT]; rfl
   apply Xdw (by rfl)
   apply Xb8
   ·simp only [l11,h2,h3,reduceSub,reduceIte,reduceEqDiff,reduceLT,reduceAdd,reduceMul,reduceLeDiff,ZS,ZT]; rfl
   rfl
  case a0=>exact l0
  case a2=>exact l2
  case a5=>exact l5
  case a7=>exact l7
  case a9=>exact l9
  case a10=>exact l10
  case a11=>exact l11
  all_goals rfl
 ·rw [Bool.true_or]
  refine ⟨?tb,?b0,?b2,?b5,?b7,?b9,?b10,?b11,?b75,?bm⟩
  case bm =>
   apply Xb8
   ·simp only [l11,h1,reduceSub,reduceIte,reduceEqDiff,reduceLT,reduceAdd,reduceMul,reduceLeDiff,ZS,ZT]; rfl
   apply Xdw (by rfl)
   apply Xb8
   ·simp only [l11,h2,reduceSub,reduceIte,reduceEqDiff,reduceLT,reduceAdd,reduceMul,reduceLeDiff,ZS,ZT]; rfl
   rfl
  case b0=>exact l0
  case b2=>exact l2
  case b5=>exact l5
  case b7=>exact l7
  case b9=>exact l9
  case b10=>exact l10
  case b11=>exact l11
  all_goals rfl
def RRuEnd (H L:Mem) (px:Nat) (rels:List Rl) (sts:List St) (R:List Rn × Nat × Bool) (er:Nat) (acc:List Rn) (t0 t2 t5 t7 t10:AV) (M:Mem):Out × AAct × Mem→Prop
 | (o,a,M')=>o=.normal∧a.n=107∧a.d=[]∧Xad a.t 0=t0∧Xad a.t 2=t2∧Xad a.t 5=t5∧Xad a.t 7=t7∧Xad a.t 10=t10∧Xfk H px (Xa0 (vR rels) (vS sts) R.2.1 (erN er R.2.2)) L (acc++R.1) (Xad a.t 9) M'∧M.length≤M'.length
section
variable {N:Nat} (hN:9223372036854775808≤N)
include hN
theorem rr_mid (rels:List Rl) (sts:List St) (para:List UInt8) (d m px:Nat) (hl:rels.length≤4611686018427387904) (hs:sts.length≤4611686018427387904) (hR:Xj6 rels sts para N (d+1) m px) (hR2:Xj6 rels sts para N d m px) (hd:9≤d) (x:El) (hxl:Lim x) (hm:dEls x.kids<m) (hdx:dEl x+8≤d+1) (hsp:(x.sp == wNs)=true) (h:Lk) (g er:Nat) (hg:g+wEl x≤1099511627776)
  (H L M:Mem) (hpl:px<H.length) (b7:Blk) (hL:L=[b7,.row (lkR h) 0 (145+1)]) (acc:List Rn) (hac:acc.length≤1048576) (v:AV) (hS:Xfk H px (Xa0 (vR rels) (vS sts) g er) L acc v M) (t10:AV)
  (t:List (Nat × AV)) (l0:Xad t 0=.ptr px 0 0) (l2:Xad t 2=.str para) (l5:Xad t 5=.ptr H.length 0 0) (l7:Xad t 7=.ptr (H.length+1) 0 0) (l9:Xad t 9=v) (l10:Xad t 10=t10) (l11:Xad t 11=.ptr M.length 0 0) :
  ∃ r,evI Tryz.prog cfg (Xaw Tryz.prog cfg T N (d+1)) N Xme ⟨107,t,[]⟩ (M++[.row (eC x) 0 (25+1)])=some r∧RRuEnd H L px rels sts (Xh9 rels sts para m h g x) er acc (.ptr px 0 0) (.str para) (.ptr H.length 0 0) (.ptr (H.length+1) 0 0) t10 M r:=by
 have hML:=hS.len
 have hL2:L.length=2:=by rw [hL]; rfl
 have hxM:M[px]? = some (Xa0 (vR rels) (vS sts) g er):=hS.1.get0 (Xax (List.getElem?_set_self hpl) L)
 have hLk:L[1]? = some (.row (lkR h) 0 (145+1)):=by rw [hL]; rfl
 have hlk:M[H.length+1]? = some (.row (lkR h) 0 (145+1)):=hS.1.get0 (by rw [Xkt]; exact hLk)
 have hlk2:∀ R:Mem,(M++R)[H.length+1]? = some (.row (lkR h) 0 (145+1)):=fun R=>Xax hlk R
 have hlow:∀ g e,Xcn H.length (Xa0 (vR rels) (vS sts) g e)=true:=fun g e=>Xeu _ _ _ _ _
 have hloE:Xb6 H.length [Blk.row (eC x) 0 (25+1)]=true:=by simp [Xb6,Xcn,Xay]
 have hLoM:LoH (M++[Blk.row (eC x) 0 (25+1)]):=LoH.app (Xcl (by omega) hS.2.1) (Xcl (by rw [List.length_append]; omega) hloE)
 have hS1:=hS.app hloE
 have hsetM:∀ (R:Mem) (c:Blk),(M++R).set px c=M.set px c++R:=fun R c=>Xd9 hxM R c
 have hwx:=Xb2 x
 have hw2:=hxl.2
 have hp:Xh9 rels sts para m h g x=(if (x.nm == rS)=true then ((Xcm rels sts para x).1.map (Xia h g),g,(Xcm rels sts para x).2)
   else if (x.nm == Xhd || x.nm == insS)=true then Xbm rels sts para m h g x.kids
   else if (x.nm == Xg1 && !h.is)=true then Xpw rels sts para m g x
   else ([],g,false)):=by unfold Xh9; rw [if_pos hsp]
 rw [hp]
 have fin:∀ (R:List Rn × Nat × Bool),R.1.length≤1048576→∃ v' M',Xgu (M.set px (Xa0 (vR rels) (vS sts) R.2.1 (erN er R.2.2))++[.row (eC x) 0 (25+1)]) 43 9 R.1.length (Xat R.1) v=some (v',M')∧Xfk H px (Xa0 (vR rels) (vS sts) R.2.1 (erN er R.2.2)) L (acc++R.1) v' M'∧M.length≤M'.length:=fun R hRl=>by
  have k1:=(hS.px hpl _ (hlow R.2.1 (erN er R.2.2))).app hloE
  obtain ⟨v',M',e1,e2,e3⟩:=k1.addN (l:=R.1) (by omega)
  rw [List.length_append,List.length_set] at e3
  exact ⟨v',M',e1,e2,by omega⟩
 cases h1:(x.nm == rS)
 rotate_left
 ·simp only [rS] at h1
  simp only [if_true]
  obtain ⟨vp,W,hP,hWs,hWl,hWg⟩:=Xx1 (N:=N) hN H.length (d+1) x hxl hdx para (M++[.row (eC x) 0 (25+1)]) (by rw [List.length_append]; omega) hS1.2.1 px g er (vR rels) (vS sts) rels sts hl hs (Xax hxM _) (.inr rfl) (fun L=>.inr (.inr rfl)) hlow
  have hpl2:=Xin rels sts para x
  have hpz:∀ r ∈ (Xcm rels sts para x).1,r.group=0:=Xss _ _ _ _
  generalize Xcm rels sts para x=ps at *
  obtain ⟨ps,bad⟩:=ps
  simp only at hpl2 hpz hWs hWg ⊢
  rw [hsetM] at hWs
  obtain ⟨e1,he1⟩ : ∃ e1,erN er bad=e1:=⟨_,rfl⟩
  rw [he1] at hWs
  have hn1:(M++[Blk.row (eC x) 0 (25+1)]).length=M.length+1:=by simp
  rw [hn1] at hWg
  have hbase:(M.set px (Xa0 (vR rels) (vS sts) g e1)++[Blk.row (eC x) 0 (25+1)]).length=M.length+1:=by simp
  have hWx:W[px]? = some (Xa0 (vR rels) (vS sts) g e1):=hWs.get0 (Xax (List.getElem?_set_self (by omega)) _)
  have hW7:W[H.length+1]? = some (.row (lkR h) 0 (145+1)):=hWs.get0 (Xax (by rw [List.getElem?_set_ne (by omega)]; exact hlk) _)
  obtain ⟨t',W2,hr,k0,k2,k5,k7,k9,k10,k12,ksrc,ktk,klo,klen⟩:=rri_all (Xaw Tryz.prog cfg T N (d+1)) N (by omega) ps (by omega) hpz h px (H.length+1) g e1 (M.length+1) (145+1) H.length rels sts (by omega) (.ptr px 0 0) (.str para) (.ptr H.length 0 0) v t10 vp rfl W (by omega) (by omega) hWg hWx hW7 hWl
  have hW2s:Xak (M.set px (Xa0 (vR rels) (vS sts) g e1)++[Blk.row (eC x) 0 (25+1)]) W2:=hWs.of_take (by rw [hbase]; exact Nat.le_refl _) ktk
  have hSW:Xfk H px (Xa0 (vR rels) (vS sts) g e1) L acc v W2:=by
   have k1:=(hS.px hpl _ (hlow g e1)).app hloE
   refine ⟨k1.1.trans hW2s,klo,?_⟩
   rcases k1.2.2 with hh | ⟨q,st,b1,b2,b3⟩
   ·exact .inl hh
   ·exact .inr ⟨q,st,b1,b2,hW2s.get0 b3⟩
  obtain ⟨v',M',ha,hS',hle⟩:=hSW.addN (l:=ps.map (Xia h g)) (by rw [List.length_map]; omega)
  rw [List.length_map] at ha
  have hWlen:M.length+1≤W2.length:=by
   have:=Xak.len hW2s
   rw [hbase] at this; exact this
  have hro:=Xh6 (ps.map (Xia h g))
  refine ⟨(.normal,?aa,M'),?ma,rfl,?a1,?a2,?a3,?a4,?a5,?a6,?a7,?a8,by omega⟩
  case ma =>
   apply Xbh
   apply Xaa
   ·simp only [l11,h1,reduceSub,reduceIte,reduceEqDiff,reduceLT,reduceAdd,reduceMul,reduceLeDiff,ZS,ZT]; rfl
   apply Xde (by rfl)
   apply Xaa
   ·simp only [l0,l2,l11,hP,reduceSub,reduceIte,reduceEqDiff,reduceLT,reduceAdd,reduceMul,reduceLeDiff,ZS,ZT]; rfl
   apply Xaa
   ·apply Xaa
    ·simp only [reduceIte,reduceEqDiff,reduceLT,reduceAdd,reduceMul,reduceLeDiff,ZS]; rfl
    apply Xab
    apply Xaf
    simp only [AAct.keepT,Zv,Zz,Xad,reduceIte,reduceEqDiff,l0,l2,l5,l7,l9,l10]
    exact hr
   simp only [k9,k12,ksrc,hro,ha,reduceIte,reduceEqDiff,reduceLT,reduceAdd,reduceMul,reduceLeDiff,ZS]; rfl
  case a3=>exact k0
  case a4=>exact k2
  case a5=>exact k5
  case a6=>exact k7
  case a7=>exact k10
  case a8 =>
   show Xfk H px (Xa0 (vR rels) (vS sts) g (erN er bad)) L (acc++ps.map (Xia h g)) v' M'
   rw [he1]; exact hS'
  all_goals rfl
 simp only [rS] at h1
 simp only [Ze,if_false]
 obtain ⟨t',k0,k2,k5,k7,k9,k10,k11,k75,hpre⟩:=rr_name (Xaw Tryz.prog cfg T N (d+1)) N x M v (.ptr px 0 0) (.str para) (.ptr H.length 0 0) (.ptr (H.length+1) 0 0) t10 (by unfold rS; exact h1) t l0 l2 l5 l7 l9 l10 l11
 cases h2:(x.nm == Xhd || x.nm == insS)
 rotate_left
 ·rw [h2] at k75
  simp only [if_true]
  have hr:=hR x hxl hm h g er (by omega) (M++[.row (eC x) 0 (25+1)]) hLoM (Xax hxM _)
  have hRl:=(Xcx rels sts para m h g x.kids).1
  generalize Xbm rels sts para m h g x.kids=R at *
  simp only [hsetM,lkR] at hr
  obtain ⟨v',M',ha,hS',hle⟩:=fin R (by omega)
  have hrl:=Xa7 R.1
  have hro:=Xh6 R.1
  simp only [lkR] at hlk2
  refine ⟨(.normal,?ra,M'),hpre.trans (Xbh (Xde k75 ?mr)),rfl,?r2,?r3,?r4,?r5,?r6,?r7,?r8,?r9,hle⟩
  case mr=>simp only [k0,k2,k7,k9,k11,hlk2,hr,Xfu,Xcd,hrl,hro,ha,reduceSub,reduceIte,reduceEqDiff,reduceLT,reduceAdd,reduceMul,reduceLeDiff,ZS,ZT]; rfl
  case r4=>exact k0
  case r5=>exact k2
  case r6=>exact k5
  case r7=>exact k7
  case r8=>exact k10
  case r9=>exact hS'
  all_goals rfl
 rw [h2] at k75
 simp only [Ze,if_false]
 have none_:∀ a:AAct,evI Tryz.prog cfg (Xaw Tryz.prog cfg T N (d+1)) N (IC.els Xwx) ⟨107,t',[]⟩ (M++[.row (eC x) 0 (25+1)])=some (.normal,a,M++[.row (eC x) 0 (25+1)])→a.n=107→a.d=[]→Xad a.t 0=.ptr px 0 0→Xad a.t 2=.str para→Xad a.t 5=.ptr H.length 0 0→Xad a.t 7=.ptr (H.length+1) 0 0→Xad a.t 10=t10→Xad a.t 9=v →
   ∃ r,evI Tryz.prog cfg (Xaw Tryz.prog cfg T N (d+1)) N Xme ⟨107,t,[]⟩ (M++[.row (eC x) 0 (25+1)])=some r∧RRuEnd H L px rels sts ([],g,false) er acc (.ptr px 0 0) (.str para) (.ptr H.length 0 0) (.ptr (H.length+1) 0 0) t10 M r:=fun a h1 h2 h3 h4 h5 h6 h7 h8 h9 =>
  ⟨_,hpre.trans (Xbh (Xe1 k75 h1)),rfl,h2,h3,h4,h5,h6,h7,h8,by simp only [Xgi,Zs,h9]; exact hS1,by simp⟩
 cases h3:(x.nm == Xg1)
 ·simp only [Xg1] at h3
  simp only [ZE,Ze,if_false]
  refine none_ ?sa ?ms ?s1 ?s2 ?s3 ?s4 ?s5 ?s6 ?s7 ?s8
  case ms=>simp only [Xwx,IC.els,Xme,Xm6,Xnc,I80,IC.loops,IC.nb,IC.hd,IC.inn,k11,h3,reduceSub,reduceIte,reduceEqDiff,reduceLT,reduceAdd,reduceMul,reduceLeDiff,ZS,ZT]; rfl
  case s3=>exact k0
  case s4=>exact k2
  case s5=>exact k5
  case s6=>exact k7
  case s7=>exact k10
  case s8=>exact k9
  all_goals rfl
 simp only [Xg1] at h3
 simp only [ZH]
 cases h4:h.is
 ·simp only [ZF,if_true]
  have hr:=rhyp_eq (N:=N) hN rels sts para d m px hl hR2 hd x hxl hm g er hg (M++[.row (eC x) 0 (25+1)]) hLoM (Xax hxM _)
  have hRl:(Xpw rels sts para m g x).1.length≤wEl x:=by
   have:=(oneD_len rels sts para m Xg7 g x).1
   have h5:Xh9 rels sts para m Xg7 g x=Xpw rels sts para m g x:=by
    unfold Xh9
    rw [if_pos hsp,if_neg (by unfold rS; rw [h1]; simp),if_neg (by rw [h2]; simp),if_pos (by unfold Xg1 Xg7; rw [h3]; rfl)]
   rw [h5] at this; exact this
  generalize Xpw rels sts para m g x=R at *
  simp only [hsetM] at hr
  obtain ⟨v',M',ha,hS',hle⟩:=fin R (by omega)
  have hrl:=Xa7 R.1
  have hro:=Xh6 R.1
  simp only [lkR,h4] at hlk2
  refine ⟨(.normal,?va,M'),hpre.trans (Xbh (Xe1 k75 ?mv)),rfl,?v2,?v3,?v4,?v5,?v6,?v7,?v8,?v9,hle⟩
  case mv=>simp only [k0,k2,k7,k9,k11,h3,hlk2,hr,Xfu,Xcd,hrl,hro,ha,reduceSub,reduceIte,reduceEqDiff,reduceLT,reduceAdd,reduceMul,reduceLeDiff,ZS,ZT]; rfl
  case v4=>exact k0
  case v5=>exact k2
  case v6=>exact k5
  case v7=>exact k7
  case v8=>exact k10
  case v9=>exact hS'
  all_goals rfl
 ·simp only [lkR,h4] at hlk2
  simp only [ZG,Ze,if_false]
  refine none_ ?wa ?mw ?w1 ?w2 ?w3 ?w4 ?w5 ?w6 ?w7 ?w8
  case mw=>simp only [Xwx,IC.els,Xme,Xm6,Xnc,I80,IC.loops,IC.nb,IC.hd,IC.inn,k7,k11,h3,hlk2,reduceSub,reduceIte,reduceEqDiff,reduceLT,reduceAdd,reduceMul,reduceLeDiff,ZS,ZT]; rfl
  case w3=>exact k0
  case w4=>exact k2
  case w5=>exact k5
  case w6=>exact k7
  case w7=>exact k10
  case w8=>exact k9
  all_goals rfl
end
theorem rr_pre (F:Xc5) (N:Nat) (x ee:El) (k:Nat) (hlt:k<ee.kids.length) (hget:(kC ee.kids).drop (k*5)=eC x++kC (ee.kids.drop (k+1))) (M:Mem) (p5:Nat) (t0' t2 t7 v:AV) (hp5:M[p5]? = some (.row (eC ee) 0 (25+1))) (t0:List (Nat × AV)) (l0:Xad t0 0=t0') (l2:Xad t0 2=t2) (l5:Xad t0 5=.ptr p5 0 0) (l7:Xad t0 7=t7) (l9:Xad t0 9=v) (l10:Xad t0 10=.int .i64 k) :
  ∃ t,Xad t 0=t0'∧Xad t 2=t2∧Xad t 5=.ptr p5 0 0∧Xad t 7=t7∧Xad t 9=v∧Xad t 10=.int .i64 k∧Xad t 11=.ptr M.length 0 0 ∧
   evI Tryz.prog cfg F N Xm6 ⟨107,t0,[]⟩ M=(if (x.sp == wNs)=true then evI Tryz.prog cfg F N Xme ⟨107,t,[]⟩ (M++[.row (eC x) 0 (25+1)]) else some (.exit 1,⟨107,t,[]⟩,M++[.row (eC x) 0 (25+1)])):=by
 have hlen:k*5+5≤(kC ee.kids).length:=by rw [Xen]; omega
 have hn:=Xan k .i64
 have hp52:∀ L:Mem,(M++L)[p5]? = some (.row (eC ee) 0 (25+1)):=fun L=>Xax hp5 L
 unfold wNs
 cases hsp:(x.sp == [104,116,116,112,58,47,47,115,99,104,101,109,97,115,46,111,112,101,110,120,109,108,102,111,114,109,97,116,115,46,111,114,103,47,119,111,114,100,112,114,111,99,101,115,115,105,110,103,109,108,47,50,48,48,54,47,109,97,105,110])
 ·refine ⟨?ta,?a0,?a2,?a5,?a7,?a9,?a10,?a11,?am⟩
  case am =>
   rw [if_neg (by simp)]
   apply Xaa
   ·simp only [l5,l10,hp5,hp52,hlt,hlen,hget,hn,reduceSub,reduceIte,reduceEqDiff,reduceLT,reduceAdd,reduceMul,reduceLeDiff,ZS,ZT]; rfl
   apply Xbd
   simp only [hsp,reduceSub,reduceIte,reduceEqDiff,reduceLT,reduceAdd,reduceMul,reduceLeDiff,ZS,ZT]; rfl
  case a0=>exact l0
  case a2=>exact l2
  case a5=>exact l5
  case a7=>exact l7
  case a9=>exact l9
  case a10=>exact l10
  all_goals rfl
 ·refine ⟨?tb,?b0,?b2,?b5,?b7,?b9,?b10,?b11,?bm⟩
  case bm =>
   rw [if_pos rfl]
   apply Xaa
   ·simp only [l5,l10,hp5,hp52,hlt,hlen,hget,hn,reduceSub,reduceIte,reduceEqDiff,reduceLT,reduceAdd,reduceMul,reduceLeDiff,ZS,ZT]; rfl
   apply Xaa
   ·simp only [hsp,reduceSub,reduceIte,reduceEqDiff,reduceLT,reduceAdd,reduceMul,reduceLeDiff,ZS,ZT]; rfl
   rfl
  case b0=>exact l0
  case b2=>exact l2
  case b5=>exact l5
  case b7=>exact l7
  case b9=>exact l9
  case b10=>exact l10
  all_goals rfl
def RRusEnd (H L:Mem) (px:Nat) (rels:List Rl) (sts:List St) (R:List Rn × Nat × Bool) (er:Nat) (acc:List Rn):Out × AAct × Mem→Prop
 | (o,a,M')=>o=.exit 0∧a.n=107∧a.d=[]∧Xfk H px (Xa0 (vR rels) (vS sts) R.2.1 (erN er R.2.2)) L (acc++R.1) (Xad a.t 9) M'
section
variable {N:Nat} (hN:9223372036854775808≤N)
include hN
theorem rr_loop (rels:List Rl) (sts:List St) (para:List UInt8) (d m px:Nat) (hl:rels.length≤4611686018427387904) (hs:sts.length≤4611686018427387904) (hR:Xj6 rels sts para N (d+1) m px) (hR2:Xj6 rels sts para N d m px) (hd:9≤d) (ee:El) (hxl:Lim ee) (hm:dEls ee.kids<m+1) (hdm:m+8≤d+1) (h:Lk)
  (H L:Mem) (hpl:px<H.length) (hL:L=[.row (eC ee) 0 (25+1),.row (lkR h) 0 (145+1)]):∀ (fuel k g er:Nat) (acc:List Rn) (v:AV) (M:Mem),k≤ee.kids.length→ee.kids.length-k<fuel→g+wEls (ee.kids.drop k)≤1099511627776→acc.length+wEls (ee.kids.drop k)≤1048576→Xfk H px (Xa0 (vR rels) (vS sts) g er) L acc v M →
  ∃ r,Xa6 (fun a H=>evI Tryz.prog cfg (Xaw Tryz.prog cfg T N (d+1)) N Xnc a H) (some [0,2,5,7,9,10]) fuel ⟨107,[(0,.ptr px 0 0),(2,.str para),(5,.ptr H.length 0 0),(7,.ptr (H.length+1) 0 0),(9,v),(10,.int .i64 k)],[]⟩ M=some r∧RRusEnd H L px rels sts (Xbm rels sts para (m+1) h g (ee.kids.drop k)) er acc r
 | 0,k,_,_,_,_,_,_,h,_,_,_=>by omega
 | fuel+1,k,g,er,acc,v,M,hk,hf,hg,ha,hS=>by
  have hL0:L[0]? = some (.row (eC ee) 0 (25+1)):=by rw [hL]; rfl
  have hp5:M[H.length]? = some (.row (eC ee) 0 (25+1)):=hS.1.get0 (by rw [Xgx]; exact hL0)
  rcases Nat.lt_or_ge k ee.kids.length with hlt | hge
  ·obtain ⟨x,hxx⟩:=Xbb hlt
   have hxm:x ∈ ee.kids:=List.mem_of_mem_drop (i:=k) (by rw [hxx]; exact List.mem_cons_self)
   have hget:(kC ee.kids).drop (k*5)=eC x++kC (ee.kids.drop (k+1)):=by rw [Xd1,hxx]; rfl
   have hkl2:=hxl.kids
   have hi:(k:Int)<(ee.kids.length:Int):=by omega
   have hw:=Xav hlt (by omega)
   have hML:=hS.len
   have hdx:=Xjz hxm
   have hde:=Xib x
   rw [hxx] at hg ha ⊢
   simp only [wEls] at hg ha
   have ih:=rr_loop rels sts para d m px hl hs hR hR2 hd ee hxl hm hdm h H L hpl hL fuel (k+1)
   have hol:=oneD_len rels sts para m h g x
   rw [Xf6]
   obtain ⟨t,k0,k2,k5,k7,k9,k10,k11,hpre⟩:=rr_pre (Xaw Tryz.prog cfg T N (d+1)) N x ee k hlt hget M H.length (.ptr px 0 0) (.str para) (.ptr (H.length+1) 0 0) v hp5 [(18,.bool true),(17,.int .i64 ee.kids.length),(16,.lst ee.kids.length (kC ee.kids)),(15,.ptr H.length 4 0),(14,.int .i64 k),(0,.ptr px 0 0),(2,.str para),(5,.ptr H.length 0 0),(7,.ptr (H.length+1) 0 0),(9,v),(10,.int .i64 k)] rfl rfl rfl rfl rfl rfl
   have one:∃ r,evI Tryz.prog cfg (Xaw Tryz.prog cfg T N (d+1)) N (.block 1 Xm6) ⟨107,[(18,.bool true),(17,.int .i64 ee.kids.length),(16,.lst ee.kids.length (kC ee.kids)),(15,.ptr H.length 4 0),(14,.int .i64 k),(0,.ptr px 0 0),(2,.str para),(5,.ptr H.length 0 0),(7,.ptr (H.length+1) 0 0),(9,v),(10,.int .i64 k)],[]⟩ M=some r∧RRuEnd H L px rels sts (Xh9 rels sts para m h g x) er acc (.ptr px 0 0) (.str para) (.ptr H.length 0 0) (.ptr (H.length+1) 0 0) (.int .i64 k) M r:=by
    cases hsp:(x.sp == wNs)
    ·rw [hsp,if_neg (by simp)] at hpre
     have e3:Xh9 rels sts para m h g x=([],g,false):=by unfold Xh9; rw [hsp]; rfl
     rw [e3]
     refine ⟨_,Xab hpre,rfl,rfl,rfl,k0,k2,k5,k7,k10,?_,by simp⟩
     simp only [k9,Zs,Xgi]
     exact hS.app (by simp [Xb6,Xcn,Xay])
    ·rw [hsp,if_pos rfl] at hpre
     obtain ⟨⟨o,a,M'⟩,hr,rfl,hQ⟩:=rr_mid (N:=N) hN rels sts para d m px hl hs hR hR2 hd x (hxl.kid hxm) (by omega) (by omega) hsp h g er (by omega) H L M hpl _ hL acc (by omega) v hS (.int .i64 k) t k0 k2 k5 k7 k9 k10 k11
     exact ⟨_,Xbh (hpre.trans hr),rfl,hQ⟩
   obtain ⟨⟨o,⟨an,at',ad⟩,M'⟩,hr,rfl,hn,hd0,m0,m2,m5,m7,m10,hS',hle⟩:=one
   simp only at hn hd0 m0 m2 m5 m7 m10 hS'
   subst hn hd0
   generalize Xh9 rels sts para m h g x=R at *
   generalize hv':Xad at' 9=v' at *
   refine Xbv (a':=?aa) (H':=M') ?hb ?hn
   case hb =>
    apply Xaa
    ·simp only [hi,hp5,reduceSub,reduceIte,reduceEqDiff,reduceLT,reduceAdd,reduceMul,reduceLeDiff,ZS,ZT]; rfl
    apply Xaa
    ·exact hr
    simp only [m10,hw,reduceIte,reduceEqDiff,reduceLT,reduceAdd,reduceMul,reduceLeDiff,ZS]; rfl
   case hn =>
    simp only [AAct.keepT,Zv,Zz,Xad,reduceIte,reduceEqDiff,m0,m2,m5,m7,m10,hv']
    intro M'' hM''
    have hM2:M''=M'∨(M''=M'.take M.length∧low M.length v'=true):=by
     rcases hM'' with h | ⟨h,h2⟩
     ·exact .inl h
     ·refine .inr ⟨h,?_⟩
      unfold Xto at h2
      exact List.all_eq_true.1 h2 (9,v') (by simp)
    have hS'':=hS'.cut hML hM2
    obtain ⟨r,e1,e2⟩:=ih R.2.1 (erN er R.2.2) (acc++R.1) v' M'' (by omega) (by omega) (by omega) (by rw [List.length_append]; omega) hS''
    refine ⟨r,e1,?_⟩
    obtain ⟨o,a,M3⟩:=r
    obtain ⟨f1,f2,f3,f4⟩:=e2
    refine ⟨f1,f2,f3,?_⟩
    rw [erN_or,List.append_assoc] at f4
    exact f4
  ·have hk':k=ee.kids.length:=by omega
   subst hk'
   rw [List.drop_length]
   have e5:Xbm rels sts para (m+1) h g []=([],g,false):=by simp only [Xbm]
   rw [e5]
   refine ⟨_,Xae (by simp only [Xnc,I80,IC.loops,Int.lt_irrefl,hp5,reduceSub,reduceIte,reduceEqDiff,reduceLT,reduceAdd,reduceMul,reduceLeDiff,ZS,ZT]; rfl),rfl,rfl,rfl,?_⟩
   rw [List.append_nil,Xgi]
   exact hS
theorem Xll (rels:List Rl) (sts:List St) (para:List UInt8) (px:Nat) (hl:rels.length≤4611686018427387904) (hs:sts.length≤4611686018427387904):∀ (m d:Nat),2*m+9≤d→Xj6 rels sts para N d m px
 | 0,d,hd=>fun kids _ hm=>by omega
 | m+1,d,hd=>by
  obtain ⟨n,rfl⟩ : ∃ n,d=n+2:=⟨d-2,by omega⟩
  have hR:=Xll rels sts para px hl hs m (n+1) (by omega)
  have hR2:=Xll rels sts para px hl hs m n (by omega)
  intro ee hx hm h g er hg H hH hpx
  have hpl:px<H.length:=(List.getElem?_eq_some_iff.1 hpx).1
  have hlow:=fun g' e'=>Xeu H.length rels sts g' e'
  have hB:Xfk H px (Xa0 (vR rels) (vS sts) g er) [.row (eC ee) 0 (25+1),.row (lkR h) 0 (145+1)] [] .nilS (H++[.row (eC ee) 0 (25+1),.row (lkR h) 0 (145+1)]):=by
   refine ⟨?_,?_,.inl ⟨rfl,rfl,rfl⟩⟩
   ·rw [Xec hpx]; exact Xak.refl _
   ·rw [Xcp,hH]; simp [Xb6,Xcn,lkR,lowL,low,Xay]
  have hkl2:=hx.kids
  have hw2:=hx.2
  have hwe:=Xb2 ee
  obtain ⟨⟨o,⟨an,at',ad⟩,M'⟩,hr,rfl,hn,hd0,hst,hlo,hgr⟩:=rr_loop (N:=N) hN rels sts para n m px hl hs hR hR2 (by omega) ee hx (by omega) (by omega) h H [.row (eC ee) 0 (25+1),.row (lkR h) 0 (145+1)] hpl rfl N 0 g er [] .nilS _ (Nat.zero_le _) (by omega) (by rw [List.drop_zero]; omega) (by rw [List.drop_zero]; simp; omega) hB
  simp only at hd0 hn
  subst hd0 hn
  rw [List.drop_zero] at hst hgr
  generalize Xbm rels sts para (m+1) h g ee.kids=R at *
  have hst2:=hst.pre
  have htk:M'.take H.length=H.set px (Xa0 (vR rels) (vS sts) R.2.1 (erN er R.2.2)):=by
   unfold Xak at hst2
   rw [List.length_set] at hst2; exact hst2
  rw [List.nil_append] at hgr
  refine Xac (m:=107) (v:=Xad at' 9) (a:=?ra) (H1:=M') rfl t80 rfl ?hb2 ?hd2 ?hr2 ?hz2
  case hb2 =>
   apply Xaa
   ·simp only [idx,I80,lkR,reduceIte,reduceEqDiff,reduceLT,reduceAdd,reduceMul,reduceLeDiff,ZS]; rfl
   apply Xaa
   ·simp only [reduceIte,reduceEqDiff,reduceLT,reduceAdd,reduceMul,reduceLeDiff,ZS]; rfl
   apply Xaa
   ·apply Xaa
    ·simp only [reduceIte,reduceEqDiff,reduceLT,reduceAdd,reduceMul,reduceLeDiff,ZS]; rfl
    apply Xab
    apply Xaf
    exact hr
   apply Xaa
   ·simp only [reduceIte,reduceEqDiff,reduceLT,reduceAdd,reduceMul,reduceLeDiff,ZS]; rfl
   rfl
  case hd2=>rfl
  case hr2=>simp only [I80,Xc6,Xbc,Xad,reduceIte,reduceEqDiff,Zh]
  case hz2 =>
   have hf:frz H.length M' 12 (Xad at' 9)=some (.lst R.1.length (Xat R.1)):=by
    rcases hgr with ⟨h1,h2,h3⟩ | ⟨q,st,h3,h1,h2⟩
    ·rw [h3,h2,h1]; rfl
    ·rw [h3,Xp6 (by omega) h2 (by rw [Xa7]; omega) (cs':=Xat R.1) ?_]
     rw [List.drop_zero,List.take_of_length_le (by rw [Xa7]; omega)]
     exact Xld _ _ _ _
   have hl2:low H.length (.lst R.1.length (Xat R.1))=true:=by simp [low,Xci]
   simp only [Xao,Ze,if_false,cfg,keep,hf,hl2,Xce,htk,Xb9 hH (hlow R.2.1 (erN er R.2.2)),Bool.or_true,ZJ,if_true]
end
def tw:List Rn→Nat
 | []=>0
 | r::l=>r.text.length+tw l
theorem Xof (init:List Rn) (z r:Rn):Xug (init++[z]) r=((r.kind == 1 || r.kind == 2) && (z.kind == r.kind && (z.style == r.style && z.group == r.group))):=by
 unfold Xug; rw [List.getLast?_concat]
theorem Xn1 (init:List Rn) (z r:Rn):Xt1 (init++[z]) r=init++[{ z with text:=z.text++r.text }]:=by
 unfold Xt1; rw [List.getLast?_concat]; simp only [List.dropLast_concat]
theorem Xte (r:Rn):Xug [] r=false:=rfl
theorem Xjx (out:List Rn) (r:Rn) (l:List Rn):Xex out (r::l)=if Xug out r=true then Xex (Xt1 out r) l else Xex (out++[r]) l:=by rw [Xex]
theorem Xl4 (out:List Rn):Xex out []=out:=by rw [Xex]
def Xnu (z r:Rn):Bool:=z.kind == r.kind && (decide (r.kind≤2) && (z.style == r.style && z.group == r.group))
theorem joinR_eq (z r:Rn) (h:1≤r.kind):((r.kind == 1 || r.kind == 2) && (z.kind == r.kind && (z.style == r.style && z.group == r.group)))=Xnu z r:=by
 unfold Xnu
 have:(r.kind == 1 || r.kind == 2)=decide (r.kind≤2):=by
  by_cases h1:r.kind=1
  ·rw [h1]; rfl
  ·by_cases h2:r.kind=2
   ·rw [h2]; rfl
   ·rw [beq_false_of_ne h1,beq_false_of_ne h2,decide_eq_false (by omega)]; rfl
 rw [this]
 cases decide (r.kind≤2) <;> cases (z.kind == r.kind) <;> rfl
theorem Xs7 (rels:List Rl) (kind style:Int) (hk:1≤kind):∀ l:List El,∀ r ∈ (Xg0 rels kind style l).1,1≤r.kind
 | [],r,h=>by simp [Xg0] at h
 | k::ks,r,h=>by
  simp only [Xg0,List.mem_append] at h
  rcases h with h | h
  ·have h2:(pcD rels kind style k).1=some r:=by
    cases ho:(pcD rels kind style k).1 with
    | none=>rw [ho] at h; simp at h
    | some y=>rw [ho] at h; simp at h; rw [h]
   unfold pcD at h2
   split at h2
   ·split at h2
    ·split at h2
     ·cases h2
     ·injection h2 with h2; rw [← h2]; exact hk
    ·split at h2
     ·injection h2 with h2; rw [← h2]; exact hk
     ·split at h2
      ·injection h2 with h2; rw [← h2]; exact (by decide:(1:Int)≤3)
      ·split at h2
       ·split at h2
        ·cases h2
        ·injection h2 with h2; rw [← h2]; exact (by decide:(1:Int)≤4)
       ·cases h2
   ·cases h2
  ·exact Xs7 rels kind style hk ks r h
theorem kindOf_le (e:El):1≤Xjb e:=by unfold Xjb; split <;> decide
mutual
theorem Xf1 (rels:List Rl) (sts:List St) (para:List UInt8):∀ (m:Nat) (h:Lk) (g:Nat) (l:List El),∀ r ∈ (Xbm rels sts para m h g l).1,1≤r.kind
 | 0,_,_,_,r,hr=>by simp [Xbm] at hr
 | _+1,_,_,[],r,hr=>by simp [Xbm] at hr
 | m+1,h,g,k::ks,r,hr=>by
  rw [Xf6] at hr
  simp only [List.mem_append] at hr
  rcases hr with hr | hr
  ·exact oneD_kind rels sts para m h g k r hr
  ·exact Xf1 rels sts para (m+1) h _ ks r hr
termination_by m _ _ l=>(m,l.length,0)
theorem oneD_kind (rels:List Rl) (sts:List St) (para:List UInt8) (m:Nat) (h:Lk) (g:Nat) (k:El):∀ r ∈ (Xh9 rels sts para m h g k).1,1≤r.kind:=by
 intro r hr
 unfold Xh9 at hr
 split at hr
 ·split at hr
  ·simp only [List.mem_map] at hr
   obtain ⟨a,ha,rfl⟩:=hr
   exact Xs7 rels _ _ (kindOf_le k) _ a ha
  ·split at hr
   ·exact Xf1 rels sts para m h g k.kids r hr
   ·split at hr
    ·unfold Xpw at hr
     split at hr
     ·exact Xf1 rels sts para m Xg7 g k.kids r hr
     ·exact Xf1 rels sts para m _ g k.kids r hr
    ·simp at hr
 ·simp at hr
termination_by (m+1,0,1)
end
def Tx (l:List Rn):Prop:=∀ r ∈ l,r.text.length≤1048576
theorem Xlz:∀ (n:Nat) (s:List UInt8),(Xkv n s).length≤s.length
 | 0,_=>Nat.zero_le _
 | _+1,[]=>Nat.le_refl _
 | n+1,c::r=>by
  rw [Xh2]
  split
  ·rename_i h
   have h1:=Xlz n ((c::r).drop 7)
   have h7:7≤(c::r).length:=by
    unfold Xg3 at h
    simp only [Bool.and_eq_true] at h
    exact of_decide_eq_true h.1
   have h2:∀ x,(Xj8 x).length≤3:=fun x=>by
    unfold Xj8 Xf0
    split
    ·simp
    ·split <;> simp
   have h3:=h2 (Xoa (Xnh (((c::r).drop 2).take 4)))
   rw [List.length_append]
   rw [List.length_drop] at h1
   omega
  ·have:=Xlz n r
   simp only [Zf]; omega
theorem Xvz (s:List UInt8):(Xc4 s).length≤s.length:=Xlz _ _
theorem Lim.get2 {e:El} (h:Lim e) (s nm:List UInt8):((Xba s nm e.ats).getD []).length≤1048576:=by
 have h1:=Xls s nm e.ats
 have h2:=h.2
 rw [Xb2] at h2; omega
theorem pcsD_tx (rels:List Rl) (kind style:Int):∀ l:List El,(∀ x ∈ l,Lim x)→Tx (Xg0 rels kind style l).1
 | [],_,r,h=>by simp [Xg0] at h
 | k::ks,hl,r,h=>by
  simp only [Xg0,List.mem_append] at h
  rcases h with h | h
  ·have h2:(pcD rels kind style k).1=some r:=by
    cases ho:(pcD rels kind style k).1 with
    | none=>rw [ho] at h; simp at h
    | some y=>rw [ho] at h; simp at h; rw [h]
   have hk:=hl k (by simp)
   unfold pcD at h2
   split at h2
   ·split at h2
    ·split at h2
     ·cases h2
     ·injection h2 with h2
      rw [← h2]
      have h3:=Xvz (Xiy [] k.kids)
      have h4:=Xi6 k.kids []
      have h5:=hk.2
      rw [Xb2] at h5
      rw [List.length_nil] at h4
      show (Xc4 (Xiy [] k.kids)).length≤1048576
      omega
    ·split at h2
     ·injection h2 with h2; rw [← h2]; exact (by decide:[(9:UInt8)].length≤1048576)
     ·split at h2
      ·injection h2 with h2; rw [← h2]; exact (by decide:([]:List UInt8).length≤1048576)
      ·split at h2
       ·split at h2
        ·cases h2
        ·injection h2 with h2
         rw [← h2]
         exact Nat.le_trans (Xvz _) ((hk.deep _ _).get2 _ _)
       ·cases h2
   ·cases h2
  ·exact pcsD_tx rels kind style ks (fun x hx=>hl x (by simp [hx])) r h
mutual
theorem Xh7 (rels:List Rl) (sts:List St) (para:List UInt8):∀ (m:Nat) (h:Lk) (g:Nat) (l:List El),(∀ x ∈ l,Lim x)→Tx (Xbm rels sts para m h g l).1
 | 0,_,_,_,_,r,hr=>by simp [Xbm] at hr
 | _+1,_,_,[],_,r,hr=>by simp [Xbm] at hr
 | m+1,h,g,k::ks,hl,r,hr=>by
  rw [Xf6] at hr
  simp only [List.mem_append] at hr
  rcases hr with hr | hr
  ·exact oneD_tx rels sts para m h g k (hl k (by simp)) r hr
  ·exact Xh7 rels sts para (m+1) h _ ks (fun x hx=>hl x (by simp [hx])) r hr
termination_by m _ _ l=>(m,l.length,0)
theorem oneD_tx (rels:List Rl) (sts:List St) (para:List UInt8) (m:Nat) (h:Lk) (g:Nat) (k:El) (hk:Lim k):Tx (Xh9 rels sts para m h g k).1:=by
 intro r hr
 unfold Xh9 at hr
 split at hr
 ·split at hr
  ·simp only [List.mem_map] at hr
   obtain ⟨a,ha,rfl⟩:=hr
   exact pcsD_tx rels _ _ _ (fun x hx=>hk.kid hx) a ha
  ·split at hr
   ·exact Xh7 rels sts para m h g k.kids (fun x hx=>hk.kid hx) r hr
   ·split at hr
    ·unfold Xpw at hr
     split at hr
     ·exact Xh7 rels sts para m Xg7 g k.kids (fun x hx=>hk.kid hx) r hr
     ·exact Xh7 rels sts para m _ g k.kids (fun x hx=>hk.kid hx) r hr
    ·simp at hr
 ·simp at hr
termination_by (m+1,0,1)
end
theorem tw_le:∀ l:List Rn,Tx l→tw l≤l.length*1048576
 | [],_=>Nat.le_refl _
 | r::l,h=>by
  have h1:=tw_le l (fun x hx=>h x (by simp [hx]))
  have h2:=h r (by simp)
  simp only [tw,Zf]
  omega
theorem Xnd:∀ (l out:List Rn),(Xex out l).length≤out.length+l.length
 | [],out=>by rw [Xl4]; simp
 | r::l,out=>by
  rw [Xjx]
  split
  ·have h1:=Xnd l (Xt1 out r)
   have h2:(Xt1 out r).length≤out.length:=by
    unfold Xt1
    split
    ·exact Nat.le_refl _
    ·rename_i z hz
     rw [List.length_append,List.length_dropLast]
     cases out with
     | nil=>cases hz
     | cons a b=>simp
   simp only [Zf]; omega
  ·have h1:=Xnd l (out++[r])
   rw [List.length_append] at h1
   simp only [Zf,Zk] at *; omega
end Go.Proofs.YtmhhddhbdbcmbaaGreatDoor.Ev
