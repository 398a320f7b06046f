/- Parts of one proof. -/
import Derived.Test.YtmhhddhbdbcmbaaGreatDoorMeb
import Derived.Test.YtmhhddhbdbcmbaaGreatDoorMdd
set_option linter.all false
namespace Go.Proofs.YtmhhddhbdbcmbaaGreatDoor.Ev
open Nat (reduceEqDiff reduceLT reduceAdd reduceMul reduceLeDiff reduceSub)
open Go.Proofs.YtmhhddhbdbcmbaaGreatDoor.Ic
set_option maxRecDepth 100000
set_option maxHeartbeats 4000000
noncomputable def Xeo:IC:=(I71.c.loops).getD 0 .bad
noncomputable def Xei:IC:=IC.inn ((Xeo.nb 2).hd)
noncomputable def Xf9:IC:=(((Xei.nb 1).hd).nb 1).hd
noncomputable def Xox:IC:=((Xei.nb 1).hd).nb 2
noncomputable def Xwv:IC:=Xei.nb 2
theorem Xoh (init:List Rn) (z:Rn):∃ A:List AV,A.length=init.length*9∧Xat (init++[z])=A++rnC z:=⟨Xat init,Xa7 init,by rw [Xct]; simp [Xat]⟩
theorem Xg9 (A X:List AV) (o:Nat) (x:AV) (h:X[o]? = some x):((A++X).drop (A.length+o)).take 1=[x]:=by
 rw [List.drop_append,List.drop_eq_nil_of_le (by omega),List.nil_append,Nat.add_sub_cancel_left]
 obtain ⟨hlt,e⟩:=List.getElem?_eq_some_iff.1 h
 rw [List.drop_eq_getElem_cons hlt,e]; rfl
theorem j_nil (F:Xc5) (N:Nat) (r:Rn) (M:Mem) (t0:List (Nat × AV)) (t3 t7 t8 t9:AV) (l3:Xad t0 3=t3) (l5:Xad t0 5=.ptr M.length 0 0) (l6:Xad t0 6=.int .i64 (-1)) (l7:Xad t0 7=t7) (l8:Xad t0 8=t8) (l9:Xad t0 9=t9) :
  ∃ t,Xad t 3=t3∧Xad t 5=.ptr M.length 0 0∧Xad t 6=.int .i64 (-1)∧Xad t 7=t7∧Xad t 8=t8∧Xad t 9=t9∧Xad t 57=.bool false∧evI Tryz.prog cfg F N Xf9 ⟨74,t0,[]⟩ (M++[.row (rnC r) 0 (43+1)])=some (.normal,⟨74,t,[]⟩,M++[.row (rnC r) 0 (43+1)]):=by
 have c1:decide ((-1:Int) ≥ 0)=false:=rfl
 refine ⟨?ta,?a3,?a5,?a6,?a7,?a8,?a9,?a57,?am⟩
 case am=>simp only [Xf9,Xei,Xeo,I71,IC.loops,IC.nb,IC.hd,IC.inn,l6,c1,reduceIte,reduceEqDiff,reduceLT,reduceAdd,reduceMul,reduceLeDiff,ZU,ZS]; rfl
 case a3=>exact l3
 case a5=>exact l5
 case a6=>exact l6
 case a7=>exact l7
 case a8=>exact l8
 case a9=>exact l9
 case a57=>rfl
theorem j_snoc (F:Xc5) (N:Nat) (init:List Rn) (z r:Rn) (M:Mem) (q st ty:Nat) (hq:M[q]? = some (.row (Xat (init++[z])) st ty)) (t0:List (Nat × AV)) (t7 t8 t9:AV) (l3:Xad t0 3=.slc q 0 (init.length+1) 9 st) (l5:Xad t0 5=.ptr M.length 0 0) (l6:Xad t0 6=.int .i64 (init.length:Nat)) (l7:Xad t0 7=t7) (l8:Xad t0 8=t8) (l9:Xad t0 9=t9) :
  ∃ t,Xad t 3=.slc q 0 (init.length+1) 9 st∧Xad t 5=.ptr M.length 0 0∧Xad t 6=.int .i64 (init.length:Nat)∧Xad t 7=t7∧Xad t 8=t8∧Xad t 9=t9∧Xad t 57=.bool (Xug (init++[z]) r)∧evI Tryz.prog cfg F N Xf9 ⟨74,t0,[]⟩ (M++[.row (rnC r) 0 (43+1)])=some (.normal,⟨74,t,[]⟩,M++[.row (rnC r) 0 (43+1)]):=by
 obtain ⟨A,hA,hc⟩:=Xoh init z
 rw [Xof]
 rw [hc] at hq
 have c1:decide ((init.length:Int) ≥ 0)=true:=decide_eq_true (by omega)
 have hn:=Xan init.length .i64
 have hlt:init.length<init.length+1:=by omega
 have hq2:=fun L=>Xax hq L
 have k0:=Xg9 A (rnC z) 0 _ rfl
 have k1:=Xg9 A (rnC z) 1 _ rfl
 have k8:=Xg9 A (rnC z) 8 _ rfl
 have hl:(A++rnC z).length=init.length*9+9:=by rw [List.length_append,hA]; rfl
 rw [hA] at k0 k1 k8
 rw [Nat.add_zero] at k0
 generalize A++rnC z=cs at *
 have p0:init.length*9+1≤cs.length:=by omega
 have p1:init.length*9+2≤cs.length:=by omega
 have p8:init.length*9+9≤cs.length:=by omega
 simp only [rnC] at *
 have run:∀ b:Bool,(∃ t,evI Tryz.prog cfg F N Xf9 ⟨74,t0,[]⟩ (M++[.row [.int .i64 r.kind,.int .i64 r.style,.str r.text,.str r.url,.str r.title,.bool r.lnk,.str r.to,.str r.about,.int .i64 r.group] 0 (43+1)])=some (.normal,⟨74,t,[]⟩,M++[.row [.int .i64 r.kind,.int .i64 r.style,.str r.text,.str r.url,.str r.title,.bool r.lnk,.str r.to,.str r.about,.int .i64 r.group] 0 (43+1)])∧Xad t 57=.bool b∧∀ i,i<10→Xad t i=Xad t0 i)→((r.kind == 1 || r.kind == 2) && (z.kind == r.kind && (z.style == r.style && z.group == r.group)))=b →
   ∃ t,Xad t 3=.slc q 0 (init.length+1) 9 st∧Xad t 5=.ptr M.length 0 0∧Xad t 6=.int .i64 (init.length:Nat)∧Xad t 7=t7∧Xad t 8=t8∧Xad t 9=t9∧Xad t 57=.bool ((r.kind == 1 || r.kind == 2) && (z.kind == r.kind && (z.style == r.style && z.group == r.group)))∧evI Tryz.prog cfg F N Xf9 ⟨74,t0,[]⟩ (M++[.row [.int .i64 r.kind,.int .i64 r.style,.str r.text,.str r.url,.str r.title,.bool r.lnk,.str r.to,.str r.about,.int .i64 r.group] 0 (43+1)])=some (.normal,⟨74,t,[]⟩,M++[.row [.int .i64 r.kind,.int .i64 r.style,.str r.text,.str r.url,.str r.title,.bool r.lnk,.str r.to,.str r.about,.int .i64 r.group] 0 (43+1)]):=by
  rintro b ⟨t,h1,h2,h3⟩ hb
  rw [hb]
  exact ⟨t,by rw [h3 3 (by omega),l3],by rw [h3 5 (by omega),l5],by rw [h3 6 (by omega),l6],by rw [h3 7 (by omega),l7],by rw [h3 8 (by omega),l8],by rw [h3 9 (by omega),l9],h2,h1⟩
 have bo:∀ b:Bool,b=false∨b=true:=fun b=>by cases b <;> simp
 rcases bo (r.kind == 1) with b1 | b1
 ·rcases bo (r.kind == 2) with b2 | b2
  ·refine run false ⟨?t1,?m1,?f1,?g1⟩ (by rw [b1,b2]; simp)
   case m1=>simp only [Xf9,Xei,Xeo,I71,IC.loops,IC.nb,IC.hd,IC.inn,l3,l5,l6,c1,b1,b2,reduceIte,reduceEqDiff,reduceLT,reduceAdd,reduceMul,reduceLeDiff,ZU,ZS]; rfl
   case f1=>rfl
   case g1=>exact fun i h=>by rcases i with _ | _ | _ | _ | _ | _ | _ | _ | _ | _ | i <;> first | rfl | omega
  ·rcases bo (z.kind == r.kind) with b3 | b3
   ·refine run false ⟨?t2,?m2,?f2,?g2⟩ (by rw [b1,b2,b3]; simp)
    case m2=>simp only [Xf9,Xei,Xeo,I71,IC.loops,IC.nb,IC.hd,IC.inn,l3,l5,l6,c1,b1,b2,b3,hn,hlt,hq2,k0,p0,reduceIte,reduceEqDiff,reduceLT,reduceAdd,reduceMul,reduceLeDiff,ZU,ZS]; rfl
    case f2=>rfl
    case g2=>exact fun i h=>by rcases i with _ | _ | _ | _ | _ | _ | _ | _ | _ | _ | i <;> first | rfl | omega
   ·rcases bo (z.style == r.style) with b4 | b4
    ·refine run false ⟨?t3,?m3,?f3,?g3⟩ (by rw [b1,b2,b3,b4]; simp)
     case m3=>simp only [Xf9,Xei,Xeo,I71,IC.loops,IC.nb,IC.hd,IC.inn,l3,l5,l6,c1,b1,b2,b3,b4,hn,hlt,hq2,k0,p0,k1,p1,reduceIte,reduceEqDiff,reduceLT,reduceAdd,reduceMul,reduceLeDiff,ZU,ZS]; rfl
     case f3=>rfl
     case g3=>exact fun i h=>by rcases i with _ | _ | _ | _ | _ | _ | _ | _ | _ | _ | i <;> first | rfl | omega
    ·refine run (z.group == r.group) ⟨?t4,?m4,?f4,?g4⟩ (by rw [b1,b2,b3,b4]; simp)
     case m4=>simp only [Xf9,Xei,Xeo,I71,IC.loops,IC.nb,IC.hd,IC.inn,l3,l5,l6,c1,b1,b2,b3,b4,hn,hlt,hq2,k0,p0,k1,p1,k8,p8,reduceIte,reduceEqDiff,reduceLT,reduceAdd,reduceMul,reduceLeDiff,ZU,ZS]; rfl
     case f4=>rfl
     case g4=>exact fun i h=>by rcases i with _ | _ | _ | _ | _ | _ | _ | _ | _ | _ | i <;> first | rfl | omega
 ·rcases bo (z.kind == r.kind) with b3 | b3
  ·refine run false ⟨?t5,?m5,?f5,?g5⟩ (by rw [b1,b3]; simp)
   case m5=>simp only [Xf9,Xei,Xeo,I71,IC.loops,IC.nb,IC.hd,IC.inn,l3,l5,l6,c1,b1,b3,hn,hlt,hq2,k0,p0,reduceIte,reduceEqDiff,reduceLT,reduceAdd,reduceMul,reduceLeDiff,ZU,ZS]; rfl
   case f5=>rfl
   case g5=>exact fun i h=>by rcases i with _ | _ | _ | _ | _ | _ | _ | _ | _ | _ | i <;> first | rfl | omega
  ·rcases bo (z.style == r.style) with b4 | b4
   ·refine run false ⟨?t6,?m6,?f6,?g6⟩ (by rw [b1,b3,b4]; simp)
    case m6=>simp only [Xf9,Xei,Xeo,I71,IC.loops,IC.nb,IC.hd,IC.inn,l3,l5,l6,c1,b1,b3,b4,hn,hlt,hq2,k0,p0,k1,p1,reduceIte,reduceEqDiff,reduceLT,reduceAdd,reduceMul,reduceLeDiff,ZU,ZS]; rfl
    case f6=>rfl
    case g6=>exact fun i h=>by rcases i with _ | _ | _ | _ | _ | _ | _ | _ | _ | _ | i <;> first | rfl | omega
   ·refine run (z.group == r.group) ⟨?t7,?m7,?f7,?g7⟩ (by rw [b1,b3,b4]; simp)
    case m7=>simp only [Xf9,Xei,Xeo,I71,IC.loops,IC.nb,IC.hd,IC.inn,l3,l5,l6,c1,b1,b3,b4,hn,hlt,hq2,k0,p0,k1,p1,k8,p8,reduceIte,reduceEqDiff,reduceLT,reduceAdd,reduceMul,reduceLeDiff,ZU,ZS]; rfl
    case f7=>rfl
    case g7=>exact fun i h=>by rcases i with _ | _ | _ | _ | _ | _ | _ | _ | _ | _ | i <;> first | rfl | omega
theorem Xfm {P:Program} {g:Cfg} {F:Xc5} {N:Nat} {x y z:IC} {a a':AAct} {H H':Mem} {r:Option (Out × AAct × Mem)} (h:evI P g F N x a H=some (.normal,a',H')) (h2:evI P g F N (.seq y z) a' H'=r):evI P g F N (.seq (.seq x y) z) a H=r:=by
 rw [← h2]; simp only [evI,h]
theorem j_join (F:Xc5) (N:Nat) (init:List Rn) (z r:Rn) (M:Mem) (q st ty:Nat) (hq:M[q]? = some (.row (Xat (init++[z])) st ty)) (hw:z.text.length+r.text.length≤2 ^ 40) (t:List (Nat × AV)) (t7 t8 t9:AV) (l3:Xad t 3=.slc q 0 (init.length+1) 9 st) (l5:Xad t 5=.ptr M.length 0 0) (l6:Xad t 6=.int .i64 (init.length:Nat)) (l7:Xad t 7=t7) (l8:Xad t 8=t8) (l9:Xad t 9=t9) (l57:Xad t 57=.bool true) :
  ∃ t',Xad t' 3=.slc q 0 (init.length+1) 9 st∧Xad t' 7=t7∧Xad t' 8=t8∧Xad t' 9=t9∧evI Tryz.prog cfg F N Xox ⟨74,t,[]⟩ (M++[.row (rnC r) 0 (43+1)])=some (.exit 1,⟨74,t',[]⟩,M.set q (.row (Xat (init++[{ z with text:=z.text++r.text }])) st ty)++[.row (rnC r) 0 (43+1)]):=by
 have hA:=Xa7 init
 have hc:Xat (init++[z])=Xat init++(rnC z++[]):=by rw [Xct]; simp [Xat]
 have hc2:Xat (init++[{ z with text:=z.text++r.text }])=Xat init++((rnC z).set 2 (.str (z.text++r.text))++[]):=by rw [Xct]; simp [Xat,rnC]
 have hs:=Xf4 (Xat init) (rnC z) [] 2 (.str (z.text++r.text)) (by rw [Xhp]; omega)
 have k2:=Xg9 (Xat init) (rnC z++[]) 2 (.str z.text) rfl
 rw [← hc,← hc2] at hs
 rw [← hc] at k2
 have hl:(Xat (init++[z])).length=init.length*9+9:=by rw [Xa7,List.length_append]; simp; omega
 rw [hA] at hs k2
 generalize Xat (init++[z])=c0 at *
 generalize Xat (init++[{ z with text:=z.text++r.text }])=c1 at *
 have hn:=Xan init.length .i64
 have hlt:init.length<init.length+1:=by omega
 have hq2:=fun L=>Xax hq L
 have hqs:=fun L c=>Xd9 hq L c
 have p2:init.length*9+3≤c0.length:=by omega
 simp only [Xd4,Zf,Zk,Zp,Zr,ZK,reduceAdd] at hs
 simp only [rnC] at *
 refine ⟨?ta,?a3,?a7,?a8,?a9,?am⟩
 case am=>simp only [Xox,Xei,Xeo,I71,IC.loops,IC.nb,IC.hd,IC.inn,l3,l5,l6,l57,hn,hlt,hq2,hqs,k2,p2,hw,hs,reduceIte,reduceEqDiff,reduceLT,reduceAdd,reduceMul,reduceLeDiff,ZU,ZS]; rfl
 case a3=>exact l3
 case a7=>exact l7
 case a8=>exact l8
 case a9=>exact l9
theorem j_app (F:Xc5) (N:Nat) (r:Rn) (M:Mem) (n0:Nat) (acc:List Rn) (v:AV) (hg:Xbr n0 9 (43+1) acc.length (Xat acc) v M) (hn:acc.length<1073741824) (hM:n0≤M.length) (t:List (Nat × AV)) (t7 t8 t9:AV) (l3:Xad t 3=v) (l5:Xad t 5=.ptr M.length 0 0) (l7:Xad t 7=t7) (l8:Xad t 8=t8) (l9:Xad t 9=t9) :
  ∃ t' v' M',Xad t' 3=v'∧Xad t' 7=t7∧Xad t' 8=t8∧Xad t' 9=t9∧evI Tryz.prog cfg F N Xwv ⟨74,t,[]⟩ (M++[.row (rnC r) 0 (43+1)])=some (.normal,⟨74,t',[]⟩,M')∧Xbr n0 9 (43+1) (acc++[r]).length (Xat (acc++[r])) v' M'∧M.length≤M'.length∧M'.take n0=M.take n0:=by
 obtain ⟨v',M',ha,h1,h2,_,h4⟩:=Xfn (sz:=9) (cnt:=1) (e:=43) (new:=rnC r) (hg.app [.row (rnC r) 0 (43+1),.row (rnC r) 0 (43+1)]) (Xa7 acc) (by decide) (by omega) (by rw [List.length_append]; omega)
 have e6:Xat acc++rnC r=Xat (acc++[r]):=by rw [Xct]; simp [Xat]
 have e7:acc.length+1=(acc++[r]).length:=by simp
 rw [e6,e7] at h1
 rw [List.take_append_of_le_length hM] at h4
 rw [List.length_append] at h2
 simp only [rnC] at ha ⊢
 refine ⟨?ta,v',M',?a3,?a7,?a8,?a9,?am,h1,by omega,h4⟩
 case am=>simp only [Xwv,Xei,Xeo,I71,IC.loops,IC.nb,IC.hd,IC.inn,l3,l5,Xfu,Xcd,ha,reduceIte,reduceEqDiff,reduceLT,reduceAdd,reduceMul,reduceLeDiff,ZS]; rfl
 case a3=>rfl
 case a7=>exact l7
 case a8=>exact l8
 case a9=>exact l9
def Xxl (H:Mem) (n n0:Nat) (out:List Rn):Out × AAct × Mem→Prop
 | (o,a,M')=>o=.exit 0∧a.n=n∧a.d=[]∧Xak H M'∧Xbr n0 9 (43+1) out.length (Xat out) (Xad a.t 3) M'
theorem jn_loop (F:Xc5) (N:Nat) (l:List Rn) (hl:l.length≤1048576) (H:Mem):∀ (fuel k:Nat) (acc:List Rn) (v:AV) (M:Mem),k≤l.length→l.length-k<fuel→acc.length≤k→tw (l.drop k)≤2 ^ 40→(∀ z ∈ acc,z.text.length+tw (l.drop k)≤2 ^ 40)→Xak H M→Xbr H.length 9 (43+1) acc.length (Xat acc) v M →
  ∃ r,Xa6 (fun a H=>evI Tryz.prog cfg F N Xeo a H) (some [3,7,8,9]) fuel ⟨74,[(3,v),(7,.lst l.length (Xat l)),(8,.int .i64 l.length),(9,.int .i64 k)],[]⟩ M=some r∧Xxl H 74 H.length (Xex acc (l.drop k)) r
 | 0,k,_,_,_,_,h,_,_,_,_,_=>by omega
 | fuel+1,k,acc,v,M,hk,hf,ha,htw,hz,hst,hg=>by
  rcases Nat.lt_or_ge k l.length with hlt | hge
  ·have hc:=Xht hlt
   have hlen:k*9+9≤(Xat l).length:=by rw [Xa7]; omega
   have hl9:9≤(Xat l).length-k*9:=by omega
   have hl0:0<(Xat l).length-k*9:=by omega
   have hi:(k:Int)<(l.length:Int):=by omega
   have hw:=Xav hlt (by omega)
   have hn:=Xan k .i64
   have hdr:l.drop k=l.getD k default::l.drop (k+1):=by
    rw [List.drop_eq_getElem_cons hlt,List.getD_eq_getElem?_getD,List.getElem?_eq_getElem hlt]; rfl
   have h9:((Xat l).drop (k*9)).take 9=rnC (l.getD k default):=by rw [hc]; rfl
   rw [hdr] at htw hz ⊢
   generalize l.getD k default=r at *
   simp only [tw] at htw hz
   rw [Xjx]
   have hHM:H.length≤M.length:=Xak.len hst
   have ih:=jn_loop F N l hl H fuel (k+1)
   -- the round's end
   have next:∀ (acc':List Rn) (v':AV) (t':List (Nat × AV)) (M':Mem),evI Tryz.prog cfg F N (.block 1 Xei) ⟨74,[(10,.bool true),(3,v),(7,.lst l.length (Xat l)),(8,.int .i64 l.length),(9,.int .i64 k)],[]⟩ M=some (.normal,⟨74,t',[]⟩,M')→Xad t' 3=v'→Xad t' 7=.lst l.length (Xat l)→Xad t' 8=.int .i64 l.length→Xad t' 9=.int .i64 k→acc'.length≤k+1→(∀ z ∈ acc',z.text.length+tw (l.drop (k+1))≤2 ^ 40)→Xak H M'→Xbr H.length 9 (43+1) acc'.length (Xat acc') v' M' →
     ∃ r,Xa6 (fun a H=>evI Tryz.prog cfg F N Xeo a H) (some [3,7,8,9]) (fuel+1) ⟨74,[(3,v),(7,.lst l.length (Xat l)),(8,.int .i64 l.length),(9,.int .i64 k)],[]⟩ M=some r∧Xxl H 74 H.length (Xex acc' (l.drop (k+1))) r:=by
    intro acc' v' t' M' hr m3 m7 m8 m9 hal hz' hst' hg'
    refine Xbv (a':=?aa) (H':=M') ?hb ?hn
    case hb =>
     apply Xaa
     ·simp only [hi,reduceIte,reduceEqDiff,reduceLT,reduceAdd,reduceMul,reduceLeDiff,ZS]; rfl
     apply Xaa
     ·simp only [reduceIte,reduceEqDiff,reduceLT,reduceAdd,reduceMul,reduceLeDiff,ZS]; rfl
     apply Xaa
     ·exact hr
     simp only [m9,hw,reduceIte,reduceEqDiff,reduceLT,reduceAdd,reduceMul,reduceLeDiff,ZS]; rfl
    case hn =>
     simp only [AAct.keepT,Zv,Zz,Xad,reduceIte,reduceEqDiff,m3,m7,m8]
     intro M'' hM''
     have hM2:M''=M'∨(M''=M'.take M.length∧low M.length v'=true):=by
      rcases hM'' with h | ⟨h,h2⟩
      ·exact .inl h
      ·refine .inr ⟨h,?_⟩
       unfold Xto at h2
       exact List.all_eq_true.1 h2 (3,v') (by simp)
     obtain ⟨k1,k2⟩:=Xdl hst' hg' hHM hM2
     exact ih acc' v' M'' (by omega) (by omega) hal (by omega) hz' k1 k2
   -- appended
   have push:∀ (t:List (Nat × AV)),Xad t 3=v→Xad t 5=.ptr M.length 0 0→Xad t 7=.lst l.length (Xat l)→Xad t 8=.int .i64 l.length→Xad t 9=.int .i64 k→Xad t 57=.bool false→evI Tryz.prog cfg F N Xei ⟨74,[(10,.bool true),(3,v),(7,.lst l.length (Xat l)),(8,.int .i64 l.length),(9,.int .i64 k)],[]⟩ M=evI Tryz.prog cfg F N (.seq Xox Xwv) ⟨74,t,[]⟩ (M++[.row (rnC r) 0 (43+1)]) →
     ∃ r',Xa6 (fun a H=>evI Tryz.prog cfg F N Xeo a H) (some [3,7,8,9]) (fuel+1) ⟨74,[(3,v),(7,.lst l.length (Xat l)),(8,.int .i64 l.length),(9,.int .i64 k)],[]⟩ M=some r'∧Xxl H 74 H.length (Xex (acc++[r]) (l.drop (k+1))) r':=by
    intro t m3 m5 m7 m8 m9 m57 hpre
    obtain ⟨t',v',M',n3,n7,n8,n9,hta,hg',hle,htk⟩:=j_app F N r M H.length acc v hg (by omega) hHM t (.lst l.length (Xat l)) (.int .i64 l.length) (.int .i64 k) m3 m5 m7 m8 m9
    have hcd:evI Tryz.prog cfg F N Xox ⟨74,t,[]⟩ (M++[.row (rnC r) 0 (43+1)])=some (.normal,⟨74,t,[]⟩,M++[.row (rnC r) 0 (43+1)]):=by
     simp only [Xox,Xei,Xeo,I71,IC.loops,IC.nb,IC.hd,IC.inn,m57,reduceIte,reduceEqDiff,reduceLT,reduceAdd,reduceMul,reduceLeDiff,ZS]
    refine next (acc++[r]) v' t' M' (Xbh (hpre.trans (Xaa hcd hta))) n3 n7 n8 n9 (by simp; omega) ?_ (hst.of_take (Nat.le_refl _) htk) hg'
    intro z hz2
    rcases List.mem_append.1 hz2 with h | h
    ·have:=hz z h; omega
    ·have:z=r:=by simpa using h
     rw [this]; omega
   -- Xcw of the test
   have pre:∃ t,Xad t 3=v∧Xad t 5=.ptr M.length 0 0∧Xad t 6=.int .i64 ((acc.length:Int)-1)∧Xad t 7=.lst l.length (Xat l)∧Xad t 8=.int .i64 l.length∧Xad t 9=.int .i64 k∧evI Tryz.prog cfg F N Xei ⟨74,[(10,.bool true),(3,v),(7,.lst l.length (Xat l)),(8,.int .i64 l.length),(9,.int .i64 k)],[]⟩ M=evI Tryz.prog cfg F N (.seq (.seq Xf9 Xox) Xwv) ⟨74,t,[]⟩ (M++[.row (rnC r) 0 (43+1)]):=by
    have w1:IntKind.wrap .i64 ((acc.length:Int)-1)=(acc.length:Int)-1:=Xbs (by omega) (by omega)
    have w0:IntKind.wrap .i64 ((0:Int)-1)=(0:Int)-1:=by decide
    simp only [rnC] at h9 ⊢
    rcases hg with ⟨h1,h2,rfl⟩ | ⟨q,st,rfl,h2,h3⟩
    ·rw [h1]
     refine ⟨?ta,?a3,?a5,?a6,?a7,?a8,?a9,?am⟩
     case am =>
      apply Xaa
      ·simp only [hi,hlt,hlen,hl9,hl0,h9,hn,reduceSub,reduceIte,reduceEqDiff,reduceLT,reduceAdd,reduceMul,reduceLeDiff,ZS,ZT]; rfl
      apply Xfm
      ·simp only [w0,reduceIte,reduceEqDiff,reduceLT,reduceAdd,reduceMul,reduceLeDiff,ZS]; rfl
      rfl
     all_goals rfl
    ·refine ⟨?tb,?b3,?b5,?b6,?b7,?b8,?b9,?bm⟩
     case bm =>
      apply Xaa
      ·simp only [hi,hlt,hlen,hl9,hl0,h9,hn,reduceSub,reduceIte,reduceEqDiff,reduceLT,reduceAdd,reduceMul,reduceLeDiff,ZS,ZT]; rfl
      apply Xfm
      ·simp only [w1,reduceIte,reduceEqDiff,reduceLT,reduceAdd,reduceMul,reduceLeDiff,ZS]; rfl
      rfl
     all_goals rfl
   obtain ⟨t,m3,m5,m6,m7,m8,m9,hpre⟩:=pre
   rcases List.eq_nil_or_concat acc with rfl | ⟨init,z,rfl⟩
   ·obtain ⟨t',n3,n5,n6,n7,n8,n9,n57,hte⟩:=j_nil F N r M t v (.lst l.length (Xat l)) (.int .i64 l.length) (.int .i64 k) m3 m5 m6 m7 m8 m9
    rw [Xte,if_neg (by simp)]
    exact push t' n3 n5 n7 n8 n9 n57 (hpre.trans (Xfm hte rfl))
   ·rw [List.concat_eq_append] at *
    rcases hg with ⟨h1,_,_⟩ | ⟨q,st,rfl,h2,h3⟩
    ·simp at h1
    have hil:(init++[z]).length=init.length+1:=by simp
    rw [hil] at m3 m6 push next hpre ⊢
    have e6:(((init.length+1:Nat):Int)-1)=(init.length:Nat):=by omega
    rw [e6] at m6
    obtain ⟨t',n3,n5,n6,n7,n8,n9,n57,hte⟩:=j_snoc F N init z r M q st (43+1) h3 t (.lst l.length (Xat l)) (.int .i64 l.length) (.int .i64 k) m3 m5 m6 m7 m8 m9
    cases hj:Xug (init++[z]) r
    ·rw [hj] at n57
     simp only [Ze,if_false]
     exact push t' n3 n5 n7 n8 n9 n57 (hpre.trans (Xfm hte rfl))
    ·rw [hj] at n57
     simp only [if_true]
     have hzz:=hz z (by simp)
     obtain ⟨t2,o3,o7,o8,o9,hjo⟩:=j_join F N init z r M q st (43+1) h3 (by omega) t' (.lst l.length (Xat l)) (.int .i64 l.length) (.int .i64 k) n3 n5 n6 n7 n8 n9 n57
     rw [Xn1]
     have hql:=(List.getElem?_eq_some_iff.1 h3).1
     have e9:(init++[{ z with text:=z.text++r.text }]).length=init.length+1:=by simp
     refine next (init++[{ z with text:=z.text++r.text }]) _ t2 _ (Xab (hpre.trans (Xfm hte (Xbd hjo)))) o3 o7 o8 o9 (by rw [e9]; omega) ?_ ((hst.set h2 _).app _) ?_
     ·intro y hy
      rcases List.mem_append.1 hy with h | h
      ·have:=hz y (by simp [h]); omega
      ·have hy2:y={ z with text:=z.text++r.text }:=by simpa using h
       rw [hy2]
       show (z.text++r.text).length+_≤_
       rw [List.length_append]; omega
     ·rw [e9]
      exact .inr ⟨q,st,rfl,h2,Xax (List.getElem?_set_self hql) _⟩
  ·have hk':k=l.length:=by omega
   subst hk'
   rw [List.drop_length,Xl4]
   refine ⟨_,Xae (by simp only [Xeo,I71,IC.loops,Int.lt_irrefl,reduceIte,reduceEqDiff,reduceLT,reduceAdd,reduceMul,reduceLeDiff,ZS]; rfl),rfl,rfl,rfl,hst,?_⟩
   exact hg
theorem joined_eq (N d:Nat) (hd:1≤d) (l:List Rn) (hl:l.length≤1048576) (hN:1048577<N) (hx:Tx l) (H:Mem) :
  Xaw Tryz.prog cfg T N d 71 [.lst l.length (Xat l)] H=some (.ret (.lst (Xex [] l).length (Xat (Xex [] l))),H):=by
 obtain ⟨n,rfl⟩ : ∃ k,d=k+1:=⟨d-1,by omega⟩
 have htw:=tw_le l hx
 obtain ⟨⟨o,⟨an,at',ad⟩,M'⟩,hr,rfl,hn,hd0,hst,hg⟩:=jn_loop (Xaw Tryz.prog cfg T N n) N l hl H N 0 [] .nilS H (Nat.zero_le _) (by omega) (Nat.le_refl _) (by rw [List.drop_zero]; omega) (by simp) (Xak.refl _) (.inl ⟨rfl,rfl,rfl⟩)
 simp only at hn hd0 hg
 subst hn hd0
 rw [List.drop_zero] at hg
 refine Xac (m:=74) (v:=Xad at' 3) (a:=?ra) (H1:=M') rfl t71 rfl ?hb ?hd ?hr ?hz
 case hb =>
  apply Xaa
  ·simp only [idx,I71,reduceIte,reduceEqDiff,reduceLT,reduceAdd,reduceMul,reduceLeDiff,ZS]; rfl
  apply Xaa
  ·simp only [reduceIte,reduceEqDiff,reduceLT,reduceAdd,reduceMul,reduceLeDiff,ZS]; rfl
  apply Xaa
  ·apply Xaa
   ·simp only [reduceIte,reduceEqDiff,reduceLT,reduceAdd,reduceMul,reduceLeDiff,ZS]; rfl
   apply Xab
   apply Xaf
   exact hr
  apply Xaa
  ·simp only [reduceIte,reduceEqDiff,reduceLT,reduceAdd,reduceMul,reduceLeDiff,ZS]; rfl
  rfl
 case hd=>rfl
 case hr=>simp only [I71,Xc6,Xbc,Xad,reduceIte,reduceEqDiff,Zh]
 case hz=>exact Xpu hst (Nat.le_refl _) hg
noncomputable def Xd8:IC:=(I79.c.loops).getD 0 .bad
noncomputable def Xdx:IC:=IC.inn ((Xd8.nb 1).hd)
noncomputable def Xft:IC:=(((Xdx.nb 1).hd)).hd
noncomputable def Xjr:IC:=((Xdx.nb 1).hd).nb 1
noncomputable def Xqj:IC:=Xdx.nb 2
theorem Xfw {cs X B:List AV} {n o:Nat} {x:AV} (h:cs.drop n=X++B) (hx:X[o]? = some x):((cs.drop n).drop o).take 1=[x]:=by
 obtain ⟨hlt,e⟩:=List.getElem?_eq_some_iff.1 hx
 rw [h,List.drop_append_of_le_length (by omega),List.drop_eq_getElem_cons hlt,e]; rfl
theorem rj_nil (F:Xc5) (N:Nat) (M:Mem) (t0:List (Nat × AV)) (t0' t3 t4:AV) (l0:Xad t0 0=t0') (l3:Xad t0 3=t3) (l4:Xad t0 4=t4) (l5:Xad t0 5=.int .i64 (-1)) :
  ∃ t,Xad t 0=t0'∧Xad t 3=t3∧Xad t 4=t4∧Xad t 5=.int .i64 (-1)∧Xad t 63=.bool false∧evI Tryz.prog cfg F N Xft ⟨87,t0,[]⟩ M=some (.normal,⟨87,t,[]⟩,M):=by
 have c1:decide ((-1:Int) ≥ 0)=false:=rfl
 refine ⟨?ta,?a0,?a3,?a4,?a5,?a63,?am⟩
 case am=>simp only [Xft,Xdx,Xd8,I79,IC.loops,IC.nb,IC.hd,IC.inn,l5,c1,reduceIte,reduceEqDiff,reduceLT,reduceAdd,reduceMul,reduceLeDiff,ZU,ZS]; rfl
 case a0=>exact l0
 case a3=>exact l3
 case a4=>exact l4
 case a5=>exact l5
 case a63=>rfl
theorem rj_snoc (F:Xc5) (N:Nat) (init l:List Rn) (z:Rn) (k:Nat) (hkl:k<l.length) (M:Mem) (q st ty:Nat) (hq:M[q]? = some (.row (Xat (init++[z])) st ty)) (t0:List (Nat × AV)) (l0:Xad t0 0=.lst l.length (Xat l)) (l3:Xad t0 3=.slc q 0 (init.length+1) 9 st) (l4:Xad t0 4=.int .i64 k) (l5:Xad t0 5=.int .i64 (init.length:Nat)) :
  ∃ t,Xad t 0=.lst l.length (Xat l)∧Xad t 3=.slc q 0 (init.length+1) 9 st∧Xad t 4=.int .i64 k∧Xad t 5=.int .i64 (init.length:Nat)∧Xad t 63=.bool (Xnu z (l.getD k default))∧evI Tryz.prog cfg F N Xft ⟨87,t0,[]⟩ M=some (.normal,⟨87,t,[]⟩,M):=by
 obtain ⟨A,hA,hc⟩:=Xoh init z
 rw [hc] at hq
 have hrc:=Xht hkl
 generalize l.getD k default=r at *
 have c1:decide ((init.length:Int) ≥ 0)=true:=decide_eq_true (by omega)
 have hn:=Xan init.length .i64
 have hnk:=Xan k .i64
 have hlt:init.length<init.length+1:=by omega
 have k0:=Xg9 A (rnC z) 0 _ rfl
 have k1:=Xg9 A (rnC z) 1 _ rfl
 have k8:=Xg9 A (rnC z) 8 _ rfl
 have d0:=Xfw (o:=0) hrc rfl
 have d1:=Xfw (o:=1) hrc rfl
 have d8:=Xfw (o:=8) hrc rfl
 have hlen:k*9+9≤(Xat l).length:=by rw [Xa7]; omega
 have q0:0<(Xat l).length-k*9:=by omega
 have q1:1<(Xat l).length-k*9:=by omega
 have q8:8<(Xat l).length-k*9:=by omega
 have r0:1≤(Xat l).length-k*9:=by omega
 have r1:1≤(Xat l).length-k*9-1:=by omega
 have r8:1≤(Xat l).length-k*9-8:=by omega
 rw [List.drop_zero] at d0
 have hl:(A++rnC z).length=init.length*9+9:=by rw [List.length_append,hA]; rfl
 rw [hA] at k0 k1 k8
 rw [Nat.add_zero] at k0
 generalize A++rnC z=cs at *
 have p0:init.length*9+1≤cs.length:=by omega
 have p1:init.length*9+2≤cs.length:=by omega
 have p8:init.length*9+9≤cs.length:=by omega
 have run:∀ b:Bool,(∃ t,evI Tryz.prog cfg F N Xft ⟨87,t0,[]⟩ M=some (.normal,⟨87,t,[]⟩,M)∧Xad t 63=.bool b∧∀ i,i<6→Xad t i=Xad t0 i)→Xnu z r=b →
   ∃ t,Xad t 0=.lst l.length (Xat l)∧Xad t 3=.slc q 0 (init.length+1) 9 st∧Xad t 4=.int .i64 k∧Xad t 5=.int .i64 (init.length:Nat)∧Xad t 63=.bool (Xnu z r)∧evI Tryz.prog cfg F N Xft ⟨87,t0,[]⟩ M=some (.normal,⟨87,t,[]⟩,M):=by
  rintro b ⟨t,h1,h2,h3⟩ hb
  rw [hb]
  exact ⟨t,by rw [h3 0 (by omega),l0],by rw [h3 3 (by omega),l3],by rw [h3 4 (by omega),l4],by rw [h3 5 (by omega),l5],h2,h1⟩
 have bo:∀ b:Bool,b=false∨b=true:=fun b=>by cases b <;> simp
 rcases bo (z.kind == r.kind) with b1 | b1
 ·refine run false ⟨?t1,?m1,?f1,?g1⟩ (by unfold Xnu; rw [b1]; simp)
  case m1=>simp only [Xft,Xdx,Xd8,I79,IC.loops,IC.nb,IC.hd,IC.inn,l0,l3,l4,l5,c1,b1,hn,hlt,hnk,hkl,hlen,hq,k0,p0,d0,q0,r0,reduceSub,reduceIte,reduceEqDiff,reduceLT,reduceAdd,reduceMul,reduceLeDiff,ZU,ZS,ZT]; rfl
  case f1=>rfl
  case g1=>exact fun i h=>by rcases i with _ | _ | _ | _ | _ | _ | i <;> first | rfl | omega
 ·rcases bo (decide (r.kind≤2)) with b2 | b2
  ·refine run false ⟨?t2,?m2,?f2,?g2⟩ (by unfold Xnu; rw [b1,b2]; simp)
   case m2=>simp only [Xft,Xdx,Xd8,I79,IC.loops,IC.nb,IC.hd,IC.inn,l0,l3,l4,l5,c1,b1,b2,hn,hlt,hnk,hkl,hlen,hq,k0,p0,d0,q0,r0,reduceSub,reduceIte,reduceEqDiff,reduceLT,reduceAdd,reduceMul,reduceLeDiff,ZU,ZS,ZT]; rfl
   case f2=>rfl
   case g2=>exact fun i h=>by rcases i with _ | _ | _ | _ | _ | _ | i <;> first | rfl | omega
  ·rcases bo (z.style == r.style) with b3 | b3
   ·refine run false ⟨?t3,?m3,?f3,?g3⟩ (by unfold Xnu; rw [b1,b2,b3]; simp)
    case m3=>simp only [Xft,Xdx,Xd8,I79,IC.loops,IC.nb,IC.hd,IC.inn,l0,l3,l4,l5,c1,b1,b2,b3,hn,hlt,hnk,hkl,hlen,hq,k0,p0,d0,q0,r0,k1,p1,d1,q1,r1,reduceSub,reduceIte,reduceEqDiff,reduceLT,reduceAdd,reduceMul,reduceLeDiff,ZU,ZS,ZT]; rfl
    case f3=>rfl
    case g3=>exact fun i h=>by rcases i with _ | _ | _ | _ | _ | _ | i <;> first | rfl | omega
   ·refine run (z.group == r.group) ⟨?t4,?m4,?f4,?g4⟩ (by unfold Xnu; rw [b1,b2,b3]; simp)
    case m4=>simp only [Xft,Xdx,Xd8,I79,IC.loops,IC.nb,IC.hd,IC.inn,l0,l3,l4,l5,c1,b1,b2,b3,hn,hlt,hnk,hkl,hlen,hq,k0,p0,d0,q0,r0,k1,p1,d1,q1,r1,k8,p8,d8,q8,r8,reduceSub,reduceIte,reduceEqDiff,reduceLT,reduceAdd,reduceMul,reduceLeDiff,ZU,ZS,ZT]; rfl
    case f4=>rfl
    case g4=>exact fun i h=>by rcases i with _ | _ | _ | _ | _ | _ | i <;> first | rfl | omega
theorem rj_join (F:Xc5) (N:Nat) (init l:List Rn) (z:Rn) (k:Nat) (hkl:k<l.length) (M:Mem) (q st ty:Nat) (hq:M[q]? = some (.row (Xat (init++[z])) st ty)) (hw:z.text.length+(l.getD k default).text.length≤2 ^ 40) (t:List (Nat × AV)) (l0:Xad t 0=.lst l.length (Xat l)) (l3:Xad t 3=.slc q 0 (init.length+1) 9 st) (l4:Xad t 4=.int .i64 k) (l5:Xad t 5=.int .i64 (init.length:Nat)) (l63:Xad t 63=.bool true) :
  ∃ t',Xad t' 0=.lst l.length (Xat l)∧Xad t' 3=.slc q 0 (init.length+1) 9 st∧Xad t' 4=.int .i64 k∧evI Tryz.prog cfg F N Xjr ⟨87,t,[]⟩ M=some (.exit 1,⟨87,t',[]⟩,M.set q (.row (Xat (init++[{ z with text:=z.text++(l.getD k default).text }])) st ty)):=by
 have hrc:=Xht hkl
 generalize l.getD k default=r at *
 have hA:=Xa7 init
 have hc:Xat (init++[z])=Xat init++(rnC z++[]):=by rw [Xct]; simp [Xat]
 have hc2:Xat (init++[{ z with text:=z.text++r.text }])=Xat init++((rnC z).set 2 (.str (z.text++r.text))++[]):=by rw [Xct]; simp [Xat,rnC]
 have hs:=Xf4 (Xat init) (rnC z) [] 2 (.str (z.text++r.text)) (by rw [Xhp]; omega)
 have k2:=Xg9 (Xat init) (rnC z++[]) 2 (.str z.text) rfl
 rw [← hc,← hc2] at hs
 rw [← hc] at k2
 have hl:(Xat (init++[z])).length=init.length*9+9:=by rw [Xa7,List.length_append]; simp; omega
 rw [hA] at hs k2
 generalize Xat (init++[z])=c0 at *
 generalize Xat (init++[{ z with text:=z.text++r.text }])=c1 at *
 have hn:=Xan init.length .i64
 have hnk:=Xan k .i64
 have hlt:init.length<init.length+1:=by omega
 have d2:=Xfw (o:=2) hrc rfl
 have hlen:k*9+9≤(Xat l).length:=by rw [Xa7]; omega
 have q2:2<(Xat l).length-k*9:=by omega
 have r2:1≤(Xat l).length-k*9-2:=by omega
 have p2:init.length*9+3≤c0.length:=by omega
 simp only [Xd4,Zf,Zk,Zp,Zr,ZK,reduceAdd] at hs
 refine ⟨?ta,?a0,?a3,?a4,?am⟩
 case am=>simp only [Xjr,Xdx,Xd8,I79,IC.loops,IC.nb,IC.hd,IC.inn,l0,l3,l4,l5,l63,hn,hnk,hlt,hkl,hlen,hq,k2,p2,d2,q2,r2,hw,hs,reduceSub,reduceIte,reduceEqDiff,reduceLT,reduceAdd,reduceMul,reduceLeDiff,ZU,ZS,ZT]; rfl
 case a0=>exact l0
 case a3=>exact l3
 case a4=>exact l4
theorem rj_app (F:Xc5) (N:Nat) (l:List Rn) (k:Nat) (hkl:k<l.length) (M:Mem) (n0:Nat) (acc:List Rn) (v:AV) (hg:Xbr n0 9 (43+1) acc.length (Xat acc) v M) (hn:acc.length<1073741824) (hM:n0≤M.length) (t:List (Nat × AV)) (l0:Xad t 0=.lst l.length (Xat l)) (l3:Xad t 3=v) (l4:Xad t 4=.int .i64 k) :
  ∃ t' v' M',Xad t' 0=.lst l.length (Xat l)∧Xad t' 3=v'∧Xad t' 4=.int .i64 k∧evI Tryz.prog cfg F N Xqj ⟨87,t,[]⟩ M=some (.normal,⟨87,t',[]⟩,M')∧Xbr n0 9 (43+1) (acc++[l.getD k default]).length (Xat (acc++[l.getD k default])) v' M'∧M.length≤M'.length∧M'.take n0=M.take n0:=by
 have hrc:=Xht hkl
 have h9:((Xat l).drop (k*9)).take 9=rnC (l.getD k default):=by rw [hrc]; rfl
 generalize l.getD k default=r at *
 obtain ⟨v',M',ha,h1,h2,_,h4⟩:=Xfn (sz:=9) (cnt:=1) (e:=43) (new:=rnC r) (hg.app [.row (rnC r) 0 (43+1)]) (Xa7 acc) (by decide) (by omega) (by rw [List.length_append]; omega)
 have e6:Xat acc++rnC r=Xat (acc++[r]):=by rw [Xct]; simp [Xat]
 have e7:acc.length+1=(acc++[r]).length:=by simp
 rw [e6,e7] at h1
 rw [List.take_append_of_le_length hM] at h4
 rw [List.length_append] at h2
 have hnk:=Xan k .i64
 have hlen:k*9+9≤(Xat l).length:=by rw [Xa7]; omega
 have hl9:9≤(Xat l).length-k*9:=by omega
 simp only [rnC] at ha h9
 refine ⟨?ta,v',M',?a0,?a3,?a4,?am,h1,by omega,h4⟩
 case am=>simp only [Xqj,Xdx,Xd8,I79,IC.loops,IC.nb,IC.hd,IC.inn,l0,l3,l4,hnk,hkl,hlen,hl9,h9,Xfu,Xcd,ha,reduceSub,reduceIte,reduceEqDiff,reduceLT,reduceAdd,reduceMul,reduceLeDiff,ZS,ZT]; rfl
 case a0=>exact l0
 case a3=>rfl
 case a4=>exact l4
theorem Xvw (F:Xc5) (N:Nat) (l:List Rn) (hl:l.length≤1048576) (hkd:∀ r ∈ l,1≤r.kind) (H:Mem):∀ (fuel k:Nat) (acc:List Rn) (v:AV) (M:Mem),k≤l.length→l.length-k<fuel→acc.length≤k→tw (l.drop k)≤2 ^ 40→(∀ z ∈ acc,z.text.length+tw (l.drop k)≤2 ^ 40)→Xak H M→Xbr H.length 9 (43+1) acc.length (Xat acc) v M →
  ∃ r,Xa6 (fun a H=>evI Tryz.prog cfg F N Xd8 a H) (some [0,3,4]) fuel ⟨87,[(0,.lst l.length (Xat l)),(3,v),(4,.int .i64 k)],[]⟩ M=some r∧Xxl H 87 H.length (Xex acc (l.drop k)) r
 | 0,k,_,_,_,_,h,_,_,_,_,_=>by omega
 | fuel+1,k,acc,v,M,hk,hf,ha,htw,hz,hst,hg=>by
  rcases Nat.lt_or_ge k l.length with hlt | hge
  ·have hi:(k:Int)<(l.length:Int):=by omega
   have hw:=Xav hlt (by omega)
   have hdr:l.drop k=l.getD k default::l.drop (k+1):=by
    rw [List.drop_eq_getElem_cons hlt,List.getD_eq_getElem?_getD,List.getElem?_eq_getElem hlt]; rfl
   have hrk:1≤(l.getD k default).kind:=hkd _ (List.mem_of_mem_drop (i:=k) (by rw [hdr]; exact List.mem_cons_self))
   rw [hdr] at htw hz ⊢
   simp only [tw] at htw hz
   rw [Xjx]
   have hHM:H.length≤M.length:=Xak.len hst
   have ih:=Xvw F N l hl hkd H fuel (k+1)
   have next:∀ (acc':List Rn) (v':AV) (t':List (Nat × AV)) (M':Mem),evI Tryz.prog cfg F N (.block 1 Xdx) ⟨87,[(9,.bool true),(8,.int .i64 l.length),(7,.lst l.length (Xat l)),(6,.int .i64 k),(0,.lst l.length (Xat l)),(3,v),(4,.int .i64 k)],[]⟩ M=some (.normal,⟨87,t',[]⟩,M')→Xad t' 0=.lst l.length (Xat l)→Xad t' 3=v'→Xad t' 4=.int .i64 k→acc'.length≤k+1→(∀ z ∈ acc',z.text.length+tw (l.drop (k+1))≤2 ^ 40)→Xak H M'→Xbr H.length 9 (43+1) acc'.length (Xat acc') v' M' →
     ∃ r,Xa6 (fun a H=>evI Tryz.prog cfg F N Xd8 a H) (some [0,3,4]) (fuel+1) ⟨87,[(0,.lst l.length (Xat l)),(3,v),(4,.int .i64 k)],[]⟩ M=some r∧Xxl H 87 H.length (Xex acc' (l.drop (k+1))) r:=by
    intro acc' v' t' M' hr m0 m3 m4 hal hz' hst' hg'
    refine Xbv (a':=?aa) (H':=M') ?hb ?hn
    case hb =>
     apply Xaa
     ·simp only [hi,reduceIte,reduceEqDiff,reduceLT,reduceAdd,reduceMul,reduceLeDiff,ZS]; rfl
     apply Xaa
     ·exact hr
     simp only [m4,hw,reduceIte,reduceEqDiff,reduceLT,reduceAdd,reduceMul,reduceLeDiff,ZS]; rfl
    case hn =>
     simp only [AAct.keepT,Zv,Zz,Xad,reduceIte,reduceEqDiff,m0,m3]
     intro M'' hM''
     have hM2:M''=M'∨(M''=M'.take M.length∧low M.length v'=true):=by
      rcases hM'' with h | ⟨h,h2⟩
      ·exact .inl h
      ·refine .inr ⟨h,?_⟩
       unfold Xto at h2
       exact List.all_eq_true.1 h2 (3,v') (by simp)
     obtain ⟨k1,k2⟩:=Xdl hst' hg' hHM hM2
     exact ih acc' v' M'' (by omega) (by omega) hal (by omega) hz' k1 k2
   have push:∀ (t:List (Nat × AV)),Xad t 0=.lst l.length (Xat l)→Xad t 3=v→Xad t 4=.int .i64 k→Xad t 63=.bool false→evI Tryz.prog cfg F N Xdx ⟨87,[(9,.bool true),(8,.int .i64 l.length),(7,.lst l.length (Xat l)),(6,.int .i64 k),(0,.lst l.length (Xat l)),(3,v),(4,.int .i64 k)],[]⟩ M=evI Tryz.prog cfg F N (.seq Xjr Xqj) ⟨87,t,[]⟩ M →
     ∃ r',Xa6 (fun a H=>evI Tryz.prog cfg F N Xd8 a H) (some [0,3,4]) (fuel+1) ⟨87,[(0,.lst l.length (Xat l)),(3,v),(4,.int .i64 k)],[]⟩ M=some r'∧Xxl H 87 H.length (Xex (acc++[l.getD k default]) (l.drop (k+1))) r':=by
    intro t m0 m3 m4 m63 hpre
    obtain ⟨t',v',M',n0,n3,n4,hta,hg',hle,htk⟩:=rj_app F N l k hlt M H.length acc v hg (by omega) hHM t m0 m3 m4
    have hcd:evI Tryz.prog cfg F N Xjr ⟨87,t,[]⟩ M=some (.normal,⟨87,t,[]⟩,M):=by
     simp only [Xjr,Xdx,Xd8,I79,IC.loops,IC.nb,IC.hd,IC.inn,m63,reduceIte,reduceEqDiff,reduceLT,reduceAdd,reduceMul,reduceLeDiff,ZS]
    refine next (acc++[l.getD k default]) v' t' M' (Xbh (hpre.trans (Xaa hcd hta))) n0 n3 n4 (by simp; omega) ?_ (hst.of_take (Nat.le_refl _) htk) hg'
    intro z hz2
    rcases List.mem_append.1 hz2 with h | h
    ·have:=hz z h; omega
    ·have:z=l.getD k default:=by simpa using h
     rw [this]; omega
   have pre:∃ t,Xad t 0=.lst l.length (Xat l)∧Xad t 3=v∧Xad t 4=.int .i64 k∧Xad t 5=.int .i64 ((acc.length:Int)-1)∧evI Tryz.prog cfg F N Xdx ⟨87,[(9,.bool true),(8,.int .i64 l.length),(7,.lst l.length (Xat l)),(6,.int .i64 k),(0,.lst l.length (Xat l)),(3,v),(4,.int .i64 k)],[]⟩ M=evI Tryz.prog cfg F N (.seq (.seq Xft Xjr) Xqj) ⟨87,t,[]⟩ M:=by
    have w1:IntKind.wrap .i64 ((acc.length:Int)-1)=(acc.length:Int)-1:=Xbs (by omega) (by omega)
    have w0:IntKind.wrap .i64 ((0:Int)-1)=(0:Int)-1:=by decide
    rcases hg with ⟨h1,h2,rfl⟩ | ⟨q,st,rfl,h2,h3⟩
    ·rw [h1]
     refine ⟨?ta,?a0,?a3,?a4,?a5,?am⟩
     case am =>
      apply Xaa
      ·simp only [w0,reduceIte,reduceEqDiff,reduceLT,reduceAdd,reduceMul,reduceLeDiff,ZS]; rfl
      rfl
     all_goals rfl
    ·refine ⟨?tb,?b0,?b3,?b4,?b5,?bm⟩
     case bm =>
      apply Xaa
      ·simp only [w1,reduceIte,reduceEqDiff,reduceLT,reduceAdd,reduceMul,reduceLeDiff,ZS]; rfl
      rfl
     all_goals rfl
   obtain ⟨t,m0,m3,m4,m5,hpre⟩:=pre
   rcases List.eq_nil_or_concat acc with rfl | ⟨init,z,rfl⟩
   ·obtain ⟨t',n0,n3,n4,n5,n63,hte⟩:=rj_nil F N M t (.lst l.length (Xat l)) v (.int .i64 k) m0 m3 m4 m5
    rw [Xte,if_neg (by simp)]
    exact push t' n0 n3 n4 n63 (hpre.trans (Xfm hte rfl))
   ·rw [List.concat_eq_append] at *
    rcases hg with ⟨h1,_,_⟩ | ⟨q,st,rfl,h2,h3⟩
    ·simp at h1
    have hil:(init++[z]).length=init.length+1:=by simp
    rw [hil] at m3 m5 push next hpre ⊢
    have e6:(((init.length+1:Nat):Int)-1)=(init.length:Nat):=by omega
    rw [e6] at m5
    obtain ⟨t',n0,n3,n4,n5,n63,hte⟩:=rj_snoc F N init l z k hlt M q st (43+1) h3 t m0 m3 m4 m5
    rw [Xof,joinR_eq _ _ hrk]
    cases hj:Xnu z (l.getD k default)
    ·rw [hj] at n63
     simp only [Ze,if_false]
     exact push t' n0 n3 n4 n63 (hpre.trans (Xfm hte rfl))
    ·rw [hj] at n63
     simp only [if_true]
     have hzz:=hz z (by simp)
     obtain ⟨t2,o0,o3,o4,hjo⟩:=rj_join F N init l z k hlt M q st (43+1) h3 (by omega) t' n0 n3 n4 n5 n63
     rw [Xn1]
     have hql:=(List.getElem?_eq_some_iff.1 h3).1
     generalize l.getD k default=r at *
     have e9:(init++[{ z with text:=z.text++r.text }]).length=init.length+1:=by simp
     refine next (init++[{ z with text:=z.text++r.text }]) _ t2 _ (Xab (hpre.trans (Xfm hte (Xbd hjo)))) o0 o3 o4 (by rw [e9]; omega) ?_ (hst.set h2 _) ?_
     ·intro y hy
      rcases List.mem_append.1 hy with h | h
      ·have:=hz y (by simp [h]); omega
      ·have hy2:y={ z with text:=z.text++r.text }:=by simpa using h
       rw [hy2]
       show (z.text++r.text).length+_≤_
       rw [List.length_append]; omega
     ·rw [e9]
      exact .inr ⟨q,st,rfl,h2,List.getElem?_set_self hql⟩
  ·have hk':k=l.length:=by omega
   subst hk'
   rw [List.drop_length,Xl4]
   refine ⟨_,Xae (by simp only [Xd8,I79,IC.loops,Int.lt_irrefl,reduceIte,reduceEqDiff,reduceLT,reduceAdd,reduceMul,reduceLeDiff,ZS]; rfl),rfl,rfl,rfl,hst,?_⟩
   exact hg
theorem Xxk (N d:Nat) (hd:1≤d) (l:List Rn) (hl:l.length≤1048576) (hN:1048577<N) (hx:Tx l) (hkd:∀ r ∈ l,1≤r.kind) (H:Mem) :
  Xaw Tryz.prog cfg T N d 79 [.lst l.length (Xat l)] H=some (.ret (.lst (Xex [] l).length (Xat (Xex [] l))),H):=by
 obtain ⟨n,rfl⟩ : ∃ k,d=k+1:=⟨d-1,by omega⟩
 have htw:=tw_le l hx
 obtain ⟨⟨o,⟨an,at',ad⟩,M'⟩,hr,rfl,hn,hd0,hst,hg⟩:=Xvw (Xaw Tryz.prog cfg T N n) N l hl hkd H N 0 [] .nilS H (Nat.zero_le _) (by omega) (Nat.le_refl _) (by rw [List.drop_zero]; omega) (by simp) (Xak.refl _) (.inl ⟨rfl,rfl,rfl⟩)
 simp only at hn hd0 hg
 subst hn hd0
 rw [List.drop_zero] at hg
 refine Xac (m:=87) (v:=Xad at' 3) (a:=?ra) (H1:=M') rfl t79 rfl ?hb ?hd ?hr ?hz
 case hb =>
  apply Xaa
  ·simp only [idx,I79,reduceIte,reduceEqDiff,reduceLT,reduceAdd,reduceMul,reduceLeDiff,ZS]; rfl
  apply Xaa
  ·simp only [reduceIte,reduceEqDiff,reduceLT,reduceAdd,reduceMul,reduceLeDiff,ZS]; rfl
  apply Xaa
  ·apply Xaa
   ·simp only [reduceIte,reduceEqDiff,reduceLT,reduceAdd,reduceMul,reduceLeDiff,ZS]; rfl
   apply Xab
   apply Xaf
   exact hr
  apply Xaa
  ·simp only [reduceIte,reduceEqDiff,reduceLT,reduceAdd,reduceMul,reduceLeDiff,ZS]; rfl
  rfl
 case hd=>rfl
 case hr=>simp only [I79,Xc6,Xbc,Xad,reduceIte,reduceEqDiff,Zh]
 case hz=>exact Xpu hst (Nat.le_refl _) hg
noncomputable def Xi2:IC:=(I78.c.loops).getD 0 .bad
theorem Xsq (P:Program) (F:Xc5) (N:Nat) (s:List UInt8) (h9:s.length≤9) (H:Mem):∀ (fuel k:Nat),k≤s.length→s.length-k<fuel→(s.take k).all Xnb=true →
  ∃ t,Xa6 (fun a H=>evI P cfg F N Xi2 a H) (some [0,3,4]) fuel ⟨38,[(0,.str s),(3,.int .i64 (Xnn (s.take k))),(4,.int .i64 k)],[]⟩ H =
   (if (s.drop k).all Xnb then some (.exit 0,⟨38,t,[]⟩,H) else some (.ret,⟨38,(2,.int .i64 (-1))::t,[]⟩,H))∧((s.drop k).all Xnb=true→Xad t 3=.int .i64 (Xnn s))
 | 0,k,_,h,_=>by omega
 | fuel+1,k,hk,hf,ha=>by
  rcases Nat.lt_or_ge k s.length with hlt | hge
  ·obtain ⟨c,hx⟩:=Xbb hlt
   have hc:s[k]? = some c:=by
    have:(s.drop k)[0]? = some c:=by rw [hx]; rfl
    simpa using this
   have hi:(k:Int)<(s.length:Int):=by omega
   have hw:=Xav hlt (show s.length≤9223372036854775807 by omega)
   have hn:=Xan k .i64
   have ht1:s.take (k+1)=s.take k++[c]:=by rw [List.take_add_one,hc]; rfl
   have hr:=Xh3 k (s.take k) (by simp; omega) ha
   have hp:=pow_le8 k (by omega)
   have hcl:c.toNat<256:=c.toNat_lt
   rw [hx,List.all_cons]
   cases h1:decide ((c.toNat:Int)<48)
   ·cases h2:decide ((c.toNat:Int)>57)
    ·have hd:Xnb c=true:=by
      simp only [decide_eq_false_iff_not] at h1 h2
      simp only [Xnb,Bool.and_eq_true,decide_eq_true_eq]; omega
     obtain ⟨t,ht,hl⟩:=Xsq P F N s h9 H fuel (k+1) (by omega) (by omega) (by rw [ht1,List.all_append,ha]; simp [hd])
     have w1:IntKind.wrap .i64 (Xnn (s.take k)*10)=Xnn (s.take k)*10:=by rw [Xbs] <;> omega
     have w2:IntKind.wrap .i64 (c.toNat:Int)=(c.toNat:Int):=by rw [Xbs] <;> omega
     have w3:IntKind.wrap .i64 (Xnn (s.take k)*10+(c.toNat:Int))=Xnn (s.take k)*10+(c.toNat:Int):=by rw [Xbs] <;> omega
     have w4:IntKind.wrap .i64 (Xnn (s.take k)*10+(c.toNat:Int)-48)=Xnn (s.take (k+1)):=by rw [ht1,Xs0,Xbs] <;> omega
     refine ⟨t,?_,?_⟩
     ·rw [hd,Bool.true_and]
      refine Xap (by simp only [Xi2,I78,IC.loops,hi,hc,hn,hw,h1,h2,w1,w2,w3,w4,reduceIte,reduceEqDiff,reduceLT,reduceAdd,reduceMul,reduceLeDiff,ZS]; rfl) ?_
      simp only [reduceIte,reduceEqDiff,reduceAdd,reduceLT,ZV]
      exact ht
     ·intro h; rw [hd,Bool.true_and] at h; exact hl h
    ·have hd:Xnb c=false:=by
      simp only [decide_eq_true_eq] at h2
      simp only [Xnb,Bool.and_eq_false_iff,decide_eq_false_iff_not]; omega
     simp only [hd,ZE,Ze,if_false]
     exact ⟨_,Xah (by simp only [Xi2,I78,IC.loops,hi,hc,hn,h1,h2,reduceIte,reduceEqDiff,reduceLT,reduceAdd,reduceMul,reduceLeDiff,ZS]; rfl),fun h=>absurd h (by simp)⟩
   ·have hd:Xnb c=false:=by
     simp only [decide_eq_true_eq] at h1
     simp only [Xnb,Bool.and_eq_false_iff,decide_eq_false_iff_not]; omega
    simp only [hd,ZE,Ze,if_false]
    exact ⟨_,Xah (by simp only [Xi2,I78,IC.loops,hi,hc,hn,h1,reduceIte,reduceEqDiff,reduceLT,reduceAdd,reduceMul,reduceLeDiff,ZS]; rfl),fun h=>absurd h (by simp)⟩
  ·have hk':k=s.length:=by omega
   subst hk'
   simp only [List.drop_length,Zy,if_true,List.take_length]
   exact ⟨_,Xae (by simp only [Xi2,I78,IC.loops,Int.lt_irrefl,reduceIte,reduceEqDiff,reduceLT,reduceAdd,reduceMul,reduceLeDiff,ZS]; rfl),fun _=>rfl⟩
theorem Xo5 (P:Program) (N n:Nat) (hN:9223372036854775808≤N) (s:List UInt8) (H:Mem) :
  Xaw P cfg T N (n+1) 78 [.str s] H=some (.ret (.int .i64 (Xiz s)),H):=by
 cases h1:decide ((s.length:Int)<1)
 ·cases h2:decide ((s.length:Int)>9)
  ·have h1':¬ (s.length:Int)<1:=by simpa using h1
   have h2':¬ (s.length:Int)>9:=by simpa using h2
   obtain ⟨t,ht,hl⟩:=Xsq P (Xaw P cfg T N n) N s (by omega) H N 0 (Nat.zero_le _) (by omega) rfl
   rw [List.drop_zero] at ht hl
   cases ha:s.all Xnb with
   | true =>
    rw [ha,if_pos rfl] at ht
    have hv:Xiz s=Xnn s:=by rw [Xiz,if_pos ⟨by omega,by omega,ha⟩]
    have h3:=hl ha
    refine Xac (m:=38) (v:=.int .i64 (Xiz s)) (a:=?a) (H1:=?H1) rfl t78 rfl ?hb ?hd ?hr ?hz
    case hb =>
     apply Xaa
     ·simp only [idx,I78,reduceIte,reduceEqDiff,reduceLT,reduceAdd,reduceMul,reduceLeDiff,ZS]; rfl
     apply Xaa
     ·simp only [h1,h2,reduceIte,reduceEqDiff,reduceLT,reduceAdd,reduceMul,reduceLeDiff,ZS]; rfl
     apply Xaa
     ·simp only [reduceIte,reduceEqDiff,reduceLT,reduceAdd,reduceMul,reduceLeDiff,ZS]; rfl
     apply Xaa
     ·apply Xaa
      ·simp only [reduceIte,reduceEqDiff,reduceLT,reduceAdd,reduceMul,reduceLeDiff,ZS]; rfl
      apply Xab
      apply Xaf
      exact ht
     apply Xaa
     ·simp only [h3,reduceIte,reduceEqDiff,reduceLT,reduceAdd,reduceMul,reduceLeDiff,ZS]; rfl
     rfl
    case hd=>rfl
    case hr=>simp only [I78,Xc6,Xbc,hv,reduceIte,reduceEqDiff,reduceLT,reduceAdd,reduceMul,reduceLeDiff,ZS]
    case hz=>simp only [Xao,cfg,keep,Ze,if_false,frz,Xel,Xay,kC_low,Xa8,Zh,reduceIte,reduceEqDiff,reduceAdd,reduceLT,ZV]
   | false =>
    rw [ha,if_neg (by simp)] at ht
    have hv:Xiz s = -1:=by rw [Xiz,if_neg (by simp [ha])]
    refine Xac (m:=38) (v:=.int .i64 (Xiz s)) (a:=?a2) (H1:=?H2) rfl t78 rfl ?hb ?hd ?hr ?hz
    case hb =>
     apply Xaa
     ·simp only [idx,I78,reduceIte,reduceEqDiff,reduceLT,reduceAdd,reduceMul,reduceLeDiff,ZS]; rfl
     apply Xaa
     ·simp only [h1,h2,reduceIte,reduceEqDiff,reduceLT,reduceAdd,reduceMul,reduceLeDiff,ZS]; rfl
     apply Xaa
     ·simp only [reduceIte,reduceEqDiff,reduceLT,reduceAdd,reduceMul,reduceLeDiff,ZS]; rfl
     apply Xau
     apply Xaa
     ·simp only [reduceIte,reduceEqDiff,reduceLT,reduceAdd,reduceMul,reduceLeDiff,ZS]; rfl
     apply Xam
     apply Xaf
     exact ht
    case hd=>rfl
    case hr=>simp only [I78,Xc6,Xbc,hv,reduceIte,reduceEqDiff,reduceLT,reduceAdd,reduceMul,reduceLeDiff,ZS]
    case hz=>simp only [Xao,cfg,keep,Ze,if_false,frz,Xel,Xay,kC_low,Xa8,Zh,reduceIte,reduceEqDiff,reduceAdd,reduceLT,ZV]
  ·have h2':(s.length:Int)>9:=by simpa using h2
   have hv:Xiz s = -1:=by rw [Xiz,if_neg (by omega)]
   refine Xac (m:=38) (v:=.int .i64 (Xiz s)) (a:=?a3) (H1:=?H3) rfl t78 rfl ?hb ?hd ?hr ?hz
   case hb=>simp only [idx,I78,h1,h2,reduceIte,reduceEqDiff,reduceLT,reduceAdd,reduceMul,reduceLeDiff,ZS]; rfl
   case hd=>rfl
   case hr=>simp only [I78,Xc6,Xbc,hv,reduceIte,reduceEqDiff,reduceLT,reduceAdd,reduceMul,reduceLeDiff,ZS]
   case hz=>simp only [Xao,cfg,keep,Ze,if_false,frz,Xel,Xay,kC_low,Xa8,Zh,reduceIte,reduceEqDiff,reduceAdd,reduceLT,ZV]
 ·have h1':(s.length:Int)<1:=by simpa using h1
  have hv:Xiz s = -1:=by rw [Xiz,if_neg (by omega)]
  refine Xac (m:=38) (v:=.int .i64 (Xiz s)) (a:=?a4) (H1:=?H4) rfl t78 rfl ?hb ?hd ?hr ?hz
  case hb=>simp only [idx,I78,h1,reduceIte,reduceEqDiff,reduceLT,reduceAdd,reduceMul,reduceLeDiff,ZS]; rfl
  case hd=>rfl
  case hr=>simp only [I78,Xc6,Xbc,hv,reduceIte,reduceEqDiff,reduceLT,reduceAdd,reduceMul,reduceLeDiff,ZS]
  case hz=>simp only [Xao,cfg,keep,Ze,if_false,frz,Xel,Xay,kC_low,Xa8,Zh,reduceIte,reduceEqDiff,reduceAdd,reduceLT,ZV]
theorem Xsb (P:Program) (N n:Nat) (s:List UInt8) (hs:s.length≤9223372036854775807) (H:Mem) :
  Xaw P cfg T N (n+1) 43 [.str s] H=some (.ret (.tup [.int .i64 (Xni s),.bool (Xnq s)]),H):=by
 have hl:cfg.lib 43=some Xv8:=rfl
 simp only [Xaw,hl,Xv8,if_pos hs,Zh]
theorem known_eq (P:Program) (N n:Nat) (H:Mem):Xaw P cfg T N (n+1) 13 [] H=some (.ret (.bool true),H):=by
 have hl:cfg.lib 13=some Xp1:=rfl
 simp only [Xaw,hl,Xp1,Zh]
end Go.Proofs.YtmhhddhbdbcmbaaGreatDoor.Ev
