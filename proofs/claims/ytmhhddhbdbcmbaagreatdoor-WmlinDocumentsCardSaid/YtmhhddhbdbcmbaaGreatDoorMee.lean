/- Parts of one proof. -/
import Derived.Test.YtmhhddhbdbcmbaaGreatDoorMed
set_option linter.all false
namespace Go.Proofs.YtmhhddhbdbcmbaaGreatDoor.Ev
open Nat (reduceEqDiff reduceLT reduceAdd reduceMul reduceLeDiff reduceSub)
open Go.Proofs.YtmhhddhbdbcmbaaGreatDoor.Ic
set_option maxRecDepth 100000
set_option maxHeartbeats 4000000
noncomputable def Xm7:IC:=(I30.c.loops).getD 0 .bad
noncomputable def Xln:IC:=IC.inn ((Xm7.nb 1).hd)
noncomputable def Xwb:IC:=Xln.nb 2
theorem rbk_pre (F:Xc5) (N:Nat) (x ee:El) (k:Nat) (hlt:k<ee.kids.length) (hget:(kC ee.kids).drop (k*5)=eC x++kC (ee.kids.drop (k+1))) (M:Mem) (p4:Nat) (hp4:M[p4]? = some (.row (eC ee) 0 (25+1))) (t0' t2 v:AV) (t0:List (Nat × AV)) (l0:Xad t0 0=t0') (l2:Xad t0 2=t2) (l4:Xad t0 4=.ptr p4 0 0) (l7:Xad t0 7=v) (l8:Xad t0 8=.int .i64 k) :
  ∃ t,Xad t 0=t0'∧Xad t 2=t2∧Xad t 4=.ptr p4 0 0∧Xad t 7=v∧Xad t 8=.int .i64 k∧Xad t 9=.ptr M.length 0 0 ∧
   evI Tryz.prog cfg F N Xln ⟨92,t0,[]⟩ M=(if (x.sp == wNs && (x.nm == pS || x.nm == sdtS))=true then evI Tryz.prog cfg F N Xwb ⟨92,t,[]⟩ (M++[.row (eC x) 0 (25+1)]) else some (.exit 1,⟨92,t,[]⟩,M++[.row (eC x) 0 (25+1)])):=by
 have hlen:k*5+5≤(kC ee.kids).length:=by rw [Xen]; omega
 have hn:=Xan k .i64
 have hp42:=fun L=>Xax hp4 L
 unfold wNs pS sdtS
 have go:∀ b:Bool,(x.sp == [104,116,116,112,58,47,47,115,99,104,101,109,97,115,46,111,112,101,110,120,109,108,102,111,114,109,97,116,115,46,111,114,103,47,119,111,114,100,112,114,111,99,101,115,115,105,110,103,109,108,47,50,48,48,54,47,109,97,105,110] && (x.nm == [112] || x.nm == [115,100,116]))=b→(∃ t,evI Tryz.prog cfg F N Xln ⟨92,t0,[]⟩ M=(if b=true then evI Tryz.prog cfg F N Xwb ⟨92,t,[]⟩ (M++[.row (eC x) 0 (25+1)]) else some (.exit 1,⟨92,t,[]⟩,M++[.row (eC x) 0 (25+1)]))∧(∀ i,i<9→Xad t i=Xad t0 i)∧Xad t 9=.ptr M.length 0 0) →
   ∃ t,Xad t 0=t0'∧Xad t 2=t2∧Xad t 4=.ptr p4 0 0∧Xad t 7=v∧Xad t 8=.int .i64 k∧Xad t 9=.ptr M.length 0 0 ∧
   evI Tryz.prog cfg F N Xln ⟨92,t0,[]⟩ M=(if (x.sp == [104,116,116,112,58,47,47,115,99,104,101,109,97,115,46,111,112,101,110,120,109,108,102,111,114,109,97,116,115,46,111,114,103,47,119,111,114,100,112,114,111,99,101,115,115,105,110,103,109,108,47,50,48,48,54,47,109,97,105,110] && (x.nm == [112] || x.nm == [115,100,116]))=true then evI Tryz.prog cfg F N Xwb ⟨92,t,[]⟩ (M++[.row (eC x) 0 (25+1)]) else some (.exit 1,⟨92,t,[]⟩,M++[.row (eC x) 0 (25+1)])):=by
  rintro b hb ⟨t,h1,h2,h9⟩
  rw [hb]
  exact ⟨t,by rw [h2 0 (by omega),l0],by rw [h2 2 (by omega),l2],by rw [h2 4 (by omega),l4],by rw [h2 7 (by omega),l7],by rw [h2 8 (by omega),l8],h9,h1⟩
 have bo:∀ b:Bool,b=false∨b=true:=fun b=>by cases b <;> simp
 rcases bo (x.sp == [104,116,116,112,58,47,47,115,99,104,101,109,97,115,46,111,112,101,110,120,109,108,102,111,114,109,97,116,115,46,111,114,103,47,119,111,114,100,112,114,111,99,101,115,115,105,110,103,109,108,47,50,48,48,54,47,109,97,105,110]) with h1 | h1
 ·refine go false (by rw [h1]; rfl) ⟨?ta,?ma,?ga,?na⟩
  case ma =>
   rw [if_neg (by simp)]
   apply Xaa
   ·simp only [l4,l8,hp4,hp42,hlt,hlen,hget,hn,reduceSub,reduceIte,reduceEqDiff,reduceLT,reduceAdd,reduceMul,reduceLeDiff,ZS,ZT]; rfl
   apply Xbd
   simp only [h1,reduceSub,reduceIte,reduceEqDiff,reduceLT,reduceAdd,reduceMul,reduceLeDiff,ZS,ZT]; rfl
  case ga=>exact fun i h=>by rcases i with _ | _ | _ | _ | _ | _ | _ | _ | _ | i <;> first | rfl | omega
  case na=>rfl
 rcases bo (x.nm == [112]) with h2 | h2
 ·rcases bo (x.nm == [115,100,116]) with h3 | h3
  ·refine go false (by rw [h1,h2,h3]; rfl) ⟨?tb,?mb,?gb,?nb⟩
   case mb =>
    rw [if_neg (by simp)]
    apply Xaa
    ·simp only [l4,l8,hp4,hp42,hlt,hlen,hget,hn,reduceSub,reduceIte,reduceEqDiff,reduceLT,reduceAdd,reduceMul,reduceLeDiff,ZS,ZT]; rfl
    apply Xbd
    simp only [h1,h2,h3,reduceSub,reduceIte,reduceEqDiff,reduceLT,reduceAdd,reduceMul,reduceLeDiff,ZS,ZT]; rfl
   case gb=>exact fun i h=>by rcases i with _ | _ | _ | _ | _ | _ | _ | _ | _ | i <;> first | rfl | omega
   case nb=>rfl
  ·refine go true (by rw [h1,h2,h3]; rfl) ⟨?tc,?mc,?gc,?nc⟩
   case mc =>
    rw [if_pos rfl]
    apply Xaa
    ·simp only [l4,l8,hp4,hp42,hlt,hlen,hget,hn,reduceSub,reduceIte,reduceEqDiff,reduceLT,reduceAdd,reduceMul,reduceLeDiff,ZS,ZT]; rfl
    apply Xaa
    ·simp only [h1,h2,h3,reduceSub,reduceIte,reduceEqDiff,reduceLT,reduceAdd,reduceMul,reduceLeDiff,ZS,ZT]; rfl
    rfl
   case gc=>exact fun i h=>by rcases i with _ | _ | _ | _ | _ | _ | _ | _ | _ | i <;> first | rfl | omega
   case nc=>rfl
 ·refine go true (by rw [h1,h2]; rfl) ⟨?td,?md,?gd,?nd⟩
  case md =>
   rw [if_pos rfl]
   apply Xaa
   ·simp only [l4,l8,hp4,hp42,hlt,hlen,hget,hn,reduceSub,reduceIte,reduceEqDiff,reduceLT,reduceAdd,reduceMul,reduceLeDiff,ZS,ZT]; rfl
   apply Xaa
   ·simp only [h1,h2,reduceSub,reduceIte,reduceEqDiff,reduceLT,reduceAdd,reduceMul,reduceLeDiff,ZS,ZT]; rfl
   rfl
  case gd=>exact fun i h=>by rcases i with _ | _ | _ | _ | _ | _ | _ | _ | _ | i <;> first | rfl | omega
  case nd=>rfl
def Xui (rels:List Rl) (sts:List St) (N d m px:Nat):Prop:=∀ (e:El),Lim e→dEls e.kids<m→∀ (dp g:Nat),dp≤65→g+wEl e≤1099511627776→∀ (H:Mem),LoH H→H[px]? = some (Xa0 (vR rels) (vS sts) g 0) →
 ∃ (l':List Bl) (g':Nat),Xaw Tryz.prog cfg T N d 30 [.ptr px 0 0,.agg (eC e),.int .i64 dp] H=some (.ret (.lst l'.length (blsC l')),H.set px (Xa0 (vR rels) (vS sts) g' (Xby rels sts m dp g e.kids).2.2))∧l'.length≤wEls e.kids∧((Xby rels sts m dp g e.kids).2.2=0→l'=(Xby rels sts m dp g e.kids).1∧g'=(Xby rels sts m dp g e.kids).2.1)
def RBkEnd (H L:Mem) (px:Nat) (rels:List Rl) (sts:List St) (w:Nat) (R:List Bl × Nat × Nat) (acc:List Bl) (t0 t2 t4 t8:AV) (M:Mem):Out × AAct × Mem→Prop
 | (o,a,M')=>a.d=[]∧a.n=92∧((o=.ret∧R.2.2≠0∧Xad a.t 6=.nilS∧∃ g',Xak (H.set px (Xa0 (vR rels) (vS sts) g' R.2.2)++L) M') ∨
  ((o=.normal∨o=.exit 1)∧Xad a.t 0=t0∧Xad a.t 2=t2∧Xad a.t 4=t4∧Xad a.t 8=t8∧M.length≤M'.length∧∃ l' g',Xew H px (Xa0 (vR rels) (vS sts) g' R.2.2) L l' (Xad a.t 7) M'∧l'.length≤acc.length+w∧(R.2.2=0→l'=acc++R.1∧g'=R.2.1)))
section
variable {N:Nat} (hN:9223372036854775808≤N)
include hN
theorem rbk_mid (rels:List Rl) (sts:List St) (d m px:Nat) (hl:rels.length≤4611686018427387904) (hs:sts.length≤4611686018427387904) (hR:Xui rels sts N d m px) (hd:2*m+10≤d) (x:El) (hxl:Lim x) (hm:dEls x.kids<m) (hsp:(x.sp == wNs && (x.nm == pS || x.nm == sdtS))=true) (dp g:Nat) (hdp:dp≤65) (hg:g+wEl x≤1099511627776)
  (H L M:Mem) (hpl:px<H.length) (acc:List Bl) (hac:acc.length≤1048576) (v:AV) (hS:Xew H px (Xa0 (vR rels) (vS sts) g 0) L acc v M) (t4 t8:AV)
  (t:List (Nat × AV)) (l0:Xad t 0=.ptr px 0 0) (l2:Xad t 2=.int .i64 dp) (l4:Xad t 4=t4) (l7:Xad t 7=v) (l8:Xad t 8=t8) (l9:Xad t 9=.ptr M.length 0 0) :
  ∃ r,evI Tryz.prog cfg (Xaw Tryz.prog cfg T N d) N Xwb ⟨92,t,[]⟩ (M++[.row (eC x) 0 (25+1)])=some r∧RBkEnd H L px rels sts (wEl x) (Xka rels sts m dp g x) acc (.ptr px 0 0) (.int .i64 dp) t4 t8 M r:=by
 have hML:=hS.len
 have hxM:M[px]? = some (Xa0 (vR rels) (vS sts) g 0):=hS.1.get0 (Xax (List.getElem?_set_self hpl) L)
 have hxM2:=fun R=>Xax hxM R
 have hlow:∀ g e,Xcn H.length (Xa0 (vR rels) (vS sts) g e)=true:=fun g e=>Xeu _ _ _ _ _
 have hloE:Xb6 H.length [Blk.row (eC x) 0 (25+1)]=true:=by simp [Xb6,Xcn,Xay]
 have hLoM:LoH (M++[Blk.row (eC x) 0 (25+1)]):=LoH.app (Xcl (by omega) hS.2.1) (Xcl (by rw [List.length_append]; omega) hloE)
 have hsetM:∀ (R:Mem) (c:Blk),(M++R).set px c=M.set px c++R:=fun R c=>Xd9 hxM R c
 have hwx:=Xb2 x
 have hw2:=hxl.2
 have h8:=Xyd x
 obtain ⟨n,rfl⟩ : ∃ n,d=n+10:=⟨d-10,by omega⟩
 have hp:Xka rels sts m dp g x=(if 64<dp then ([],g,19)
   else if (x.nm == pS)=true then (
    if (Xfa rels sts m g x).2.2=true then ([],(Xfa rels sts m g x).2.1,15) else ([(Xfa rels sts m g x).1],(Xfa rels sts m g x).2.1,0))
   else (
    if (Xby rels sts m (dp+1) g (kidOf x Xa5).kids).2.2=0 then ((if (Xc4 (Xbf (kidOf x Xd6) Xrt) == [])=true then (Xby rels sts m (dp+1) g (kidOf x Xa5).kids).1 else [.mk (Xc4 (Xbf (kidOf x Xd6) Xrt)) [] 0 0 [] (Xby rels sts m (dp+1) g (kidOf x Xa5).kids).1]),(Xby rels sts m (dp+1) g (kidOf x Xa5).kids).2.1,0)
    else ([],(Xby rels sts m (dp+1) g (kidOf x Xa5).kids).2.1,(Xby rels sts m (dp+1) g (kidOf x Xa5).kids).2.2))):=by unfold Xka; rw [if_pos hsp]
 rw [hp]
 have hMl:∀ b,(M.set px b).length=M.length:=fun b=>List.length_set
 have s0:∀ (b:Blk) (L:Mem),(M.set px b++L)[M.length]? = L[0]?:=fun b L=>Xgx L
 have sk:∀ (b:Blk) (L:Mem) (k:Nat),(M.set px b++L)[M.length+k]? = L[k]?:=fun b L k=>Xkt L k
 have tk0:∀ (b:Blk) (L:Mem) (c:Blk),(M.set px b++L).set M.length c=M.set px b++L.set 0 c:=fun b L c=>setS_0 L c
 have tk:∀ (b:Blk) (L:Mem) (k:Nat) (c:Blk),(M.set px b++L).set (M.length+k) c=M.set px b++L.set k c:=fun b L k c=>Xtl L k c
 rcases Nat.lt_or_ge 64 dp with h64 | h64
 ·rw [if_pos h64]
  have c1:decide ((dp:Int)>64)=true:=decide_eq_true (by omega)
  refine ⟨(.ret,?aa,M.set px (Xa0 (vR rels) (vS sts) g 19)++[.row (eC x) 0 (25+1)]),?ma,?a1,?a2,.inl ⟨rfl,(by decide:(19:Nat)≠0),?a3,g,(Xek hpl hS.1).app _⟩⟩
  case ma =>
   apply Xau
   simp only [l0,l2,c1,hxM2,hsetM,reduceIte,reduceEqDiff,reduceLT,reduceAdd,reduceMul,reduceLeDiff,ZS]; rfl
  all_goals rfl
 rw [if_neg (by omega)]
 have c1:decide ((dp:Int)>64)=false:=decide_eq_false (by omega)
 cases h1:(x.nm == pS)
 rotate_left
 ·simp only [pS] at h1
  simp only [if_true]
  have hr:=rpara_eq (N:=N) hN rels sts (n+10) m px hl hs hd x hxl hm g 0 hg (M++[.row (eC x) 0 (25+1)]) hLoM (Xax hxM _)
  generalize Xfa rels sts m g x=R at *
  simp only [hsetM] at hr
  have k1:=(hS.px hpl _ (hlow R.2.1 (erN 0 R.2.2))).app (R:=[.row (eC x) 0 (25+1),.row (blC R.1) 0 (46+1)]) (by simp [Xb6,Xcn,Xay,Xj3])
  obtain ⟨v',M',ha,hS',hle⟩:=k1.add (Xkm.one R.1) (by simp; omega)
  rw [List.length_append,List.length_set] at hle
  have hb6:=Xmb R.1
  have hb6':6≤(blC R.1).length:=by omega
  have hbt:(blC R.1).take 6=blC R.1:=List.take_of_length_le (by omega)
  have hb1:=Xql R.1
  have hbd:(blC R.1).drop 6=[]:=List.drop_eq_nil_of_le (by omega)
  rw [show [R.1].length=1 from rfl] at ha
  have e5:(if R.2.2=true then (([],R.2.1,15):List Bl × Nat × Nat) else ([R.1],R.2.1,0)).2.2=erN 0 R.2.2:=by
   unfold erN; cases R.2.2 <;> rfl
  refine ⟨(.exit 1,?qa,M'),?mq,?q1,?q2,.inr ⟨.inr rfl,?q3,?q4,?q5,?q6,by omega,acc++[R.1],R.2.1,?q7,by simp; omega,?q8⟩⟩
  case mq =>
   apply Xaa
   ·simp only [l2,c1,reduceIte,reduceEqDiff,reduceLT,reduceAdd,reduceMul,reduceLeDiff,ZS]; rfl
   apply Xbd
   simp only [l0,l7,l9,h1,hr,hb6,hb6',hbt,hbd,hb1,hMl,s0,sk,Xfu,Xcd,ha,reduceSub,reduceIte,reduceEqDiff,reduceLT,reduceAdd,reduceMul,reduceLeDiff,ZS,ZT]; rfl
  case q3=>exact l0
  case q4=>exact l2
  case q5=>exact l4
  case q6=>exact l8
  case q7=>rw [e5]; exact hS'
  case q8 =>
   cases hb:R.2.2
   ·simp
   ·simp
  all_goals rfl
 ·simp only [pS] at h1
  simp only [Ze,if_false]
  have hK:=fun H=>Xfl Tryz.prog N (n+8) hN Xd6 x hxl.1 H
  have hV:=fun H=>Xmy Tryz.prog N (n+7) hN Xrt (kidOf x Xd6) (hxl.kidOf _).1 H
  have hC:=fun H=>Xfl Tryz.prog N (n+8) hN Xa5 x hxl.1 H
  have u1:=fun H=>Xfi (N:=N) (n+7) (Xbf (kidOf x Xd6) Xrt) (hxl.kidOf _ |>.val _) (by omega) H
  have hcl:=hxl.kidOf Xa5
  have hcd:=Xjn x Xa5
  have hcw:=Xfc x Xa5
  generalize (Xbg wNs Xd6 x.kids).isSome=f1 at *
  generalize (Xbg wNs Xa5 x.kids).isSome=f2 at *
  generalize kidOf x Xd6=pr at *
  generalize kidOf x Xa5=co at *
  generalize hut:Xc4 (Xbf pr Xrt)=tag at *
  generalize Xbf pr Xrt=tv at *
  have hde:=Xib x
  have hdc:=Xib co
  have hwc:=Xb2 co
  have hloE3:Xb6 H.length [Blk.row (eC x) 0 (25+1),.row (eC pr) 0 (25+1),.row (eC co) 0 (25+1)]=true:=by simp [Xb6,Xcn,Xay]
  have hLoM3:LoH (M++[Blk.row (eC x) 0 (25+1),.row (eC pr) 0 (25+1),.row (eC co) 0 (25+1)]):=LoH.app (Xcl (by omega) hS.2.1) (Xcl (by rw [List.length_append]; omega) hloE3)
  obtain ⟨l',g',hr,hll,hlq⟩:=hR co hcl (by omega) (dp+1) g (by omega) (by omega) _ hLoM3 (Xax hxM _)
  generalize Xby rels sts m (dp+1) g co.kids=R at *
  have w1:IntKind.wrap .i64 ((dp:Int)+1)=((dp+1:Nat):Int):=by rw [Xbs] <;> omega
  simp only [Xd6] at hK
  simp only [Xrt] at hV
  simp only [Xa5] at hC
  simp only [hsetM] at hr
  have e5:(if R.2.2=0 then ((if (tag == [])=true then R.1 else [.mk tag [] 0 0 [] R.1],R.2.1,0):List Bl × Nat × Nat) else ([],R.2.1,R.2.2)).2.2=R.2.2:=by
   split
   ·rename_i h; rw [h]
   ·rfl
  cases ht:(tag == [])
  ·rw [ht] at e5
   simp only [Ze,if_false] at e5 ⊢
   have k1:=(hS.px hpl _ (hlow g' R.2.2)).app (R:=[.row (eC x) 0 (25+1),.row (eC pr) 0 (25+1),.row (eC co) 0 (25+1),.row [.str tag,.str [],.int .i64 0,.int .i64 0,.nilS,.lst l'.length (blsC l')] 0 (46+1)]) (by simp [Xb6,Xcn,Xay,lowL,low,blsC_low])
   obtain ⟨v',M',ha,hS',hle⟩:=k1.add (Xkm.tag tag l') (by simp; omega)
   rw [List.length_append,List.length_set] at hle
   rw [show [Bl.mk tag [] 0 0 [] l'].length=1 from rfl] at ha
   refine ⟨(.normal,?sa,M'),?ms,?s1,?s2,.inr ⟨.inl rfl,?s3,?s4,?s5,?s6,by omega,acc++[.mk tag [] 0 0 [] l'],g',?s7,by simp; omega,?s8⟩⟩
   case ms =>
    apply Xaa
    ·simp only [l2,c1,reduceIte,reduceEqDiff,reduceLT,reduceAdd,reduceMul,reduceLeDiff,ZS]; rfl
    apply Xaa
    ·simp only [l9,h1,reduceSub,reduceIte,reduceEqDiff,reduceLT,reduceAdd,reduceMul,reduceLeDiff,ZS,ZT]; rfl
    apply Xaa
    ·simp only [l9,hK,reduceSub,reduceIte,reduceEqDiff,reduceLT,reduceAdd,reduceMul,reduceLeDiff,ZS,ZT]; rfl
    apply Xaa
    ·simp only [l9,hC,reduceSub,reduceIte,reduceEqDiff,reduceLT,reduceAdd,reduceMul,reduceLeDiff,ZS,ZT]; rfl
    apply Xaa
    ·simp only [hV,u1,reduceSub,reduceIte,reduceEqDiff,reduceLT,reduceAdd,reduceMul,reduceLeDiff,ZS,ZT]; rfl
    apply Xaa
    ·simp only [l0,l2,w1,hr,reduceSub,reduceIte,reduceEqDiff,reduceLT,reduceAdd,reduceMul,reduceLeDiff,ZS,ZT]; rfl
    simp only [l7,ht,hMl,s0,sk,Xfu,Xcd,ha,reduceSub,reduceIte,reduceEqDiff,reduceLT,reduceAdd,reduceMul,reduceLeDiff,ZS,ZT]; rfl
   case s3=>exact l0
   case s4=>exact l2
   case s5=>exact l4
   case s6=>exact l8
   case s7=>rw [e5]; exact hS'
   case s8 =>
    rw [e5]
    intro h
    obtain ⟨h5,h6⟩:=hlq h
    rw [if_pos h,h5]
    exact ⟨rfl,h6⟩
   all_goals rfl
  ·rw [ht] at e5
   simp only [if_true] at e5 ⊢
   have k1:=(hS.px hpl _ (hlow g' R.2.2)).app hloE3
   obtain ⟨v',M',ha,hS',hle⟩:=k1.add (Xkm.all l') (by omega)
   rw [List.length_append,List.length_set] at hle
   have hbl:=Xk7 l'
   have hbo:=Xpn l'
   refine ⟨(.normal,?ua,M'),?mu,?u1,?u2,.inr ⟨.inl rfl,?u3,?u4,?u5,?u6,by omega,acc++l',g',?u7,by rw [List.length_append]; omega,?u8⟩⟩
   case mu =>
    apply Xaa
    ·simp only [l2,c1,reduceIte,reduceEqDiff,reduceLT,reduceAdd,reduceMul,reduceLeDiff,ZS]; rfl
    apply Xaa
    ·simp only [l9,h1,reduceSub,reduceIte,reduceEqDiff,reduceLT,reduceAdd,reduceMul,reduceLeDiff,ZS,ZT]; rfl
    apply Xaa
    ·simp only [l9,hK,reduceSub,reduceIte,reduceEqDiff,reduceLT,reduceAdd,reduceMul,reduceLeDiff,ZS,ZT]; rfl
    apply Xaa
    ·simp only [l9,hC,reduceSub,reduceIte,reduceEqDiff,reduceLT,reduceAdd,reduceMul,reduceLeDiff,ZS,ZT]; rfl
    apply Xaa
    ·simp only [hV,u1,reduceSub,reduceIte,reduceEqDiff,reduceLT,reduceAdd,reduceMul,reduceLeDiff,ZS,ZT]; rfl
    apply Xaa
    ·simp only [l0,l2,w1,hr,reduceSub,reduceIte,reduceEqDiff,reduceLT,reduceAdd,reduceMul,reduceLeDiff,ZS,ZT]; rfl
    simp only [l7,ht,Xfu,Xcd,hbl,hbo,ha,reduceSub,reduceIte,reduceEqDiff,reduceLT,reduceAdd,reduceMul,reduceLeDiff,ZS,ZT]; rfl
   case u3=>exact l0
   case u4=>exact l2
   case u5=>exact l4
   case u6=>exact l8
   case u7=>rw [e5]; exact hS'
   case u8 =>
    rw [e5]
    intro h
    obtain ⟨h5,h6⟩:=hlq h
    rw [if_pos h,h5]
    exact ⟨rfl,h6⟩
   all_goals rfl
end
def RBksEnd (H L:Mem) (px:Nat) (rels:List Rl) (sts:List St) (w:Nat) (R:List Bl × Nat × Nat) (acc:List Bl):Out × AAct × Mem→Prop
 | (o,a,M')=>a.d=[]∧a.n=92∧((o=.ret∧R.2.2≠0∧Xad a.t 6=.nilS∧∃ g',Xak (H.set px (Xa0 (vR rels) (vS sts) g' R.2.2)++L) M') ∨
  (o=.exit 0∧∃ l' g',Xew H px (Xa0 (vR rels) (vS sts) g' R.2.2) L l' (Xad a.t 7) M'∧l'.length≤acc.length+w∧(R.2.2=0→l'=acc++R.1∧g'=R.2.1)))
section
variable {N:Nat} (hN:9223372036854775808≤N)
include hN
theorem Xvo (rels:List Rl) (sts:List St) (d m px:Nat) (hl:rels.length≤4611686018427387904) (hs:sts.length≤4611686018427387904) (hR:Xui rels sts N d m px) (hd:2*m+10≤d) (ee:El) (hxl:Lim ee) (hm:dEls ee.kids<m+1) (dp:Nat) (hdp:dp≤65)
  (H L:Mem) (hpl:px<H.length) (hL:L[0]? = some (.row (eC ee) 0 (25+1))):∀ (fuel k g:Nat) (acc:List Bl) (v:AV) (M:Mem),k≤ee.kids.length→ee.kids.length-k<fuel→g+wEls (ee.kids.drop k)≤1099511627776→acc.length+wEls (ee.kids.drop k)≤1048576→Xew H px (Xa0 (vR rels) (vS sts) g 0) L acc v M →
  ∃ r,Xa6 (fun a H=>evI Tryz.prog cfg (Xaw Tryz.prog cfg T N d) N Xm7 a H) (some [0,2,4,7,8]) fuel ⟨92,[(0,.ptr px 0 0),(2,.int .i64 dp),(4,.ptr H.length 0 0),(7,v),(8,.int .i64 k)],[]⟩ M=some r∧RBksEnd H L px rels sts (wEls (ee.kids.drop k)) (Xby rels sts (m+1) dp g (ee.kids.drop k)) acc r
 | 0,k,_,_,_,_,_,h,_,_,_=>by omega
 | fuel+1,k,g,acc,v,M,hk,hf,hg,ha,hS=>by
  have hp4:M[H.length]? = some (.row (eC ee) 0 (25+1)):=hS.1.get0 (by rw [Xgx]; exact hL)
  have hxM:M[px]? = some (Xa0 (vR rels) (vS sts) g 0):=hS.1.get0 (Xax (List.getElem?_set_self hpl) L)
  rcases Nat.lt_or_ge k ee.kids.length with hlt | hge
  ·obtain ⟨x,hxx⟩:=Xbb hlt
   have hxm:x ∈ ee.kids:=List.mem_of_mem_drop (i:=k) (by rw [hxx]; exact List.mem_cons_self)
   have hget:(kC ee.kids).drop (k*5)=eC x++kC (ee.kids.drop (k+1)):=by rw [Xd1,hxx]; rfl
   have hkl2:=hxl.kids
   have hi:(k:Int)<(ee.kids.length:Int):=by omega
   have hw:=Xav hlt (by omega)
   have hML:=hS.len
   have hdx:=Xjz hxm
   have hde:=Xib x
   have hl0:=Xmf (ee.kids.drop (k+1))
   rw [List.length_drop] at hl0
   rw [hxx] at hg ha ⊢
   simp only [wEls] at hg ha ⊢
   have ih:=Xvo rels sts d m px hl hs hR hd ee hxl hm dp hdp H L hpl hL fuel (k+1)
   have hol:=oneB_len rels sts m dp g x
   rw [Xhy]
   obtain ⟨t,k0,k2,k4,k7,k8,k9,hpre⟩:=rbk_pre (Xaw Tryz.prog cfg T N d) N x ee k hlt hget M H.length hp4 (.ptr px 0 0) (.int .i64 dp) v [(27,.bool true),(26,.bool true),(25,.int .i64 0),(24,.ptr px 3 0),(23,.ptr px 0 0),(22,.ptr px 0 0),(21,.bool true),(20,.bool true),(19,.int .i64 ee.kids.length),(18,.lst ee.kids.length (kC ee.kids)),(17,.ptr H.length 4 0),(16,.int .i64 k),(0,.ptr px 0 0),(2,.int .i64 dp),(4,.ptr H.length 0 0),(7,v),(8,.int .i64 k)] rfl rfl rfl rfl rfl
   have one:∃ r,evI Tryz.prog cfg (Xaw Tryz.prog cfg T N d) N Xln ⟨92,[(27,.bool true),(26,.bool true),(25,.int .i64 0),(24,.ptr px 3 0),(23,.ptr px 0 0),(22,.ptr px 0 0),(21,.bool true),(20,.bool true),(19,.int .i64 ee.kids.length),(18,.lst ee.kids.length (kC ee.kids)),(17,.ptr H.length 4 0),(16,.int .i64 k),(0,.ptr px 0 0),(2,.int .i64 dp),(4,.ptr H.length 0 0),(7,v),(8,.int .i64 k)],[]⟩ M=some r∧RBkEnd H L px rels sts (wEl x) (Xka rels sts m dp g x) acc (.ptr px 0 0) (.int .i64 dp) (.ptr H.length 0 0) (.int .i64 k) M r:=by
    cases hsp:(x.sp == wNs && (x.nm == pS || x.nm == sdtS))
    ·rw [hsp,if_neg (by simp)] at hpre
     have e3:Xka rels sts m dp g x=([],g,0):=by unfold Xka; rw [hsp]; rfl
     rw [e3]
     refine ⟨_,hpre,rfl,rfl,.inr ⟨.inr rfl,k0,k2,k4,k8,by simp,acc,g,?_,by omega,fun _=>⟨by simp,rfl⟩⟩⟩
     simp only [k7]
     exact hS.app (by simp [Xb6,Xcn,Xay])
    ·rw [hsp,if_pos rfl] at hpre
     obtain ⟨r,hr,hQ⟩:=rbk_mid (N:=N) hN rels sts d m px hl hs hR hd x (hxl.kid hxm) (by omega) hsp dp g hdp (by omega) H L M hpl acc (by omega) v hS (.ptr H.length 0 0) (.int .i64 k) t k0 k2 k4 k7 k8 k9
     exact ⟨r,hpre.trans hr,hQ⟩
   obtain ⟨⟨o,⟨an,at',ad⟩,M'⟩,hr,hd0,hn,hQ⟩:=one
   simp only at hd0 hn
   subst hd0 hn
   generalize Xka rels sts m dp g x=R at *
   rcases hQ with ⟨rfl,hb,h6,hQ⟩ | ⟨ho,m0,m2,m4,m8,hle,l',g',hS',hll,hlq⟩
   ·rw [if_neg hb]
    refine ⟨_,Xah (a':=⟨92,at',[]⟩) (H':=M') ?hb,rfl,rfl,.inl ⟨rfl,hb,h6,hQ⟩⟩
    case hb =>
     apply Xaa
     ·simp only [hi,hp4,hxM,reduceSub,reduceIte,reduceEqDiff,reduceLT,reduceAdd,reduceMul,reduceLeDiff,ZS,ZT]; rfl
     apply Xau
     apply Xam
     exact hr
   ·simp only at m0 m2 m4 m8 hS'
    generalize hv':Xad at' 7=v' at *
    refine Xbv (a':=?aa) (H':=M') ?hb ?hn
    case hb =>
     apply Xaa
     ·simp only [hi,hp4,hxM,reduceSub,reduceIte,reduceEqDiff,reduceLT,reduceAdd,reduceMul,reduceLeDiff,ZS,ZT]; rfl
     apply Xaa
     ·exact Xkq hr ho
     simp only [m8,hw,reduceIte,reduceEqDiff,reduceLT,reduceAdd,reduceMul,reduceLeDiff,ZS]; rfl
    case hn =>
     simp only [AAct.keepT,Zv,Zz,Xad,reduceIte,reduceEqDiff,m0,m2,m4,hv']
     intro M'' hM''
     have hM2:M''=M'∨(M''=M'.take M.length∧low M.length v'=true):=by
      rcases hM'' with h | ⟨h,h2⟩
      ·exact .inl h
      ·refine .inr ⟨h,?_⟩
       unfold Xto at h2
       exact List.all_eq_true.1 h2 (7,v') (by simp)
     have hS'':=hS'.cut hML hM2
     by_cases hb:R.2.2=0
     ·rw [if_pos hb]
      obtain ⟨rfl,rfl⟩:=hlq hb
      rw [hb] at hS''
      obtain ⟨r,e1,e2⟩:=ih R.2.1 (acc++R.1) v' M'' (by omega) (by omega) (by omega) (by rw [List.length_append]; omega) hS''
      refine ⟨r,e1,?_⟩
      obtain ⟨o,a,M3⟩:=r
      obtain ⟨f1,f2,f3⟩:=e2
      refine ⟨f1,f2,?_⟩
      rcases f3 with f3 | ⟨f4,l2,g2,f5,f6,f7⟩
      ·exact .inl f3
      ·refine .inr ⟨f4,l2,g2,f5,by omega,fun h=>?_⟩
       obtain ⟨f8,f9⟩:=f7 h
       exact ⟨by rw [f8,List.append_assoc],f9⟩
     ·rw [if_neg hb]
      obtain ⟨f,rfl⟩ : ∃ f,fuel=f+1:=⟨fuel-1,by omega⟩
      have hp4':M''[H.length]? = some (.row (eC ee) 0 (25+1)):=hS''.1.get0 (by rw [Xgx]; exact hL)
      have hxM':M''[px]? = some (Xa0 (vR rels) (vS sts) g' R.2.2):=hS''.1.get0 (Xax (List.getElem?_set_self hpl) L)
      have hbi:((R.2.2:Int) == 0)=false:=by
       refine beq_false_of_ne fun h=>hb ?_
       omega
      rcases Nat.lt_or_ge (k+1) ee.kids.length with h2 | h2
      ·have hi2:decide (((k+1:Nat):Int)<(ee.kids.length:Int))=true:=decide_eq_true (by omega)
       refine ⟨_,Xae (by simp only [Xm7,I30,IC.loops,hi2,hp4',hxM',hbi,reduceSub,reduceIte,reduceEqDiff,reduceLT,reduceAdd,reduceMul,reduceLeDiff,ZS,ZT]; rfl),rfl,rfl,.inr ⟨rfl,l',g',?_,by omega,fun h=>absurd h hb⟩⟩
       exact hS''
      ·have hi2:decide (((k+1:Nat):Int)<(ee.kids.length:Int))=false:=decide_eq_false (by omega)
       refine ⟨_,Xae (by simp only [Xm7,I30,IC.loops,hi2,hp4',reduceSub,reduceIte,reduceEqDiff,reduceLT,reduceAdd,reduceMul,reduceLeDiff,ZS,ZT]; rfl),rfl,rfl,.inr ⟨rfl,l',g',?_,by omega,fun h=>absurd h hb⟩⟩
       exact hS''
  ·have hk':k=ee.kids.length:=by omega
   subst hk'
   rw [List.drop_length,Xtm]
   refine ⟨_,Xae (by simp only [Xm7,I30,IC.loops,Int.lt_irrefl,hp4,reduceSub,reduceIte,reduceEqDiff,reduceLT,reduceAdd,reduceMul,reduceLeDiff,ZS,ZT]; rfl),rfl,rfl,.inr ⟨rfl,acc,g,?_,by omega,fun _=>⟨by simp,rfl⟩⟩⟩
   exact hS
theorem Xrf (rels:List Rl) (sts:List St) (px:Nat) (hl:rels.length≤4611686018427387904) (hs:sts.length≤4611686018427387904):∀ (m d:Nat),2*m+11≤d→Xui rels sts N d m px
 | 0,d,hd=>fun e _ hm=>by omega
 | m+1,d,hd=>by
  obtain ⟨n,rfl⟩ : ∃ n,d=n+1:=⟨d-1,by omega⟩
  have hR:=Xrf rels sts px hl hs m n (by omega)
  intro ee hx hm dp g hdp hg H hH hpx
  have hpl:px<H.length:=(List.getElem?_eq_some_iff.1 hpx).1
  have hlow:=fun g' e'=>Xeu H.length rels sts g' e'
  have hB:Xew H px (Xa0 (vR rels) (vS sts) g 0) [.row (eC ee) 0 (25+1)] [] .nilS (H++[.row (eC ee) 0 (25+1)]):=by
   refine ⟨?_,?_,[],Xkm.nil,.inl ⟨rfl,rfl,rfl⟩⟩
   ·rw [Xec hpx]; exact Xak.refl _
   ·rw [Xcp,hH]; simp [Xb6,Xcn,Xay]
  have hkl2:=hx.kids
  have hw2:=hx.2
  have hwe:=Xb2 ee
  obtain ⟨⟨o,⟨an,at',ad⟩,M'⟩,hr,hd0,hn,hQ⟩:=Xvo (N:=N) hN rels sts n m px hl hs hR (by omega) ee hx (by omega) dp hdp H [.row (eC ee) 0 (25+1)] hpl rfl N 0 g [] .nilS _ (Nat.zero_le _) (by omega) (by rw [List.drop_zero]; omega) (by rw [List.drop_zero]; simp; omega) hB
  simp only at hd0 hn
  subst hd0 hn
  rw [List.drop_zero] at hQ
  generalize Xby rels sts (m+1) dp g ee.kids=R at *
  rcases hQ with ⟨rfl,hb,h6,g',hst⟩ | ⟨rfl,l',g',⟨hst,hlo,cs,hp,hgr⟩,hll,hlq⟩
  ·have hst2:=hst.pre
   have htk:M'.take H.length=H.set px (Xa0 (vR rels) (vS sts) g' R.2.2):=by
    unfold Xak at hst2
    rw [List.length_set] at hst2; exact hst2
   refine ⟨[],g',?_,Nat.zero_le _,fun h=>absurd h hb⟩
   refine Xac (m:=92) (v:=.nilS) (a:=⟨92,at',[]⟩) (H1:=M') rfl t30 rfl ?hb rfl ?hr ?hz
   case hb =>
    apply Xaa
    ·simp only [idx,I30,reduceIte,reduceEqDiff,reduceLT,reduceAdd,reduceMul,reduceLeDiff,ZS]; rfl
    apply Xaa
    ·simp only [reduceIte,reduceEqDiff,reduceLT,reduceAdd,reduceMul,reduceLeDiff,ZS]; rfl
    apply Xau
    apply Xaa
    ·simp only [reduceIte,reduceEqDiff,reduceLT,reduceAdd,reduceMul,reduceLeDiff,ZS]; rfl
    apply Xam
    apply Xaf
    exact hr
   case hr=>simp only [I30,Xc6,Xbc,h6,Zh]
   case hz =>
    have hf:frz H.length M' 12 .nilS=some (.lst 0 []):=rfl
    have hl2:low H.length (.lst 0 [])=true:=rfl
    simp only [Xao,Ze,if_false,cfg,keep,hf,hl2,Xce,htk,Xb9 hH (hlow g' R.2.2),Bool.or_true,ZJ,if_true]
    rfl
  ·have hst2:=hst.pre
   have htk:M'.take H.length=H.set px (Xa0 (vR rels) (vS sts) g' R.2.2):=by
    unfold Xak at hst2
    rw [List.length_set] at hst2; exact hst2
   simp only [Zr,Zk,ZL] at hgr hlq hll
   refine ⟨l',g',?_,hll,hlq⟩
   refine Xac (m:=92) (v:=Xad at' 7) (a:=?ra) (H1:=M') rfl t30 rfl ?hb2 ?hd2 ?hr2 ?hz2
   case hb2 =>
    apply Xaa
    ·simp only [idx,I30,reduceIte,reduceEqDiff,reduceLT,reduceAdd,reduceMul,reduceLeDiff,ZS]; rfl
    apply Xaa
    ·simp only [reduceIte,reduceEqDiff,reduceLT,reduceAdd,reduceMul,reduceLeDiff,ZS]; rfl
    apply Xaa
    ·apply Xaa
     ·simp only [reduceIte,reduceEqDiff,reduceLT,reduceAdd,reduceMul,reduceLeDiff,ZS]; rfl
     apply Xab
     apply Xaf
     exact hr
    apply Xaa
    ·simp only [reduceIte,reduceEqDiff,reduceLT,reduceAdd,reduceMul,reduceLeDiff,ZS]; rfl
    rfl
   case hd2=>rfl
   case hr2=>simp only [I30,Xc6,Xbc,Xad,reduceIte,reduceEqDiff,Zh]
   case hz2 =>
    have hf:frz H.length M' 12 (Xad at' 7)=some (.lst l'.length (blsC l')):=Xw6 hN hp (by omega) hgr
    have hl2:low H.length (.lst l'.length (blsC l'))=true:=by simp [low,blsC_low]
    simp only [Xao,Ze,if_false,cfg,keep,hf,hl2,Xce,htk,Xb9 hH (hlow g' R.2.2),Bool.or_true,ZJ,if_true]
end
section
variable {P:Program} {g:Cfg} {T:FuncId→Option IF} {N n f m:Nat} {i:IF} {args:List AV} {H H1 H2:Mem} {a:AAct} {v:AV} {r:End × Mem}
theorem evF_retD (hl:g.lib f=none) (hT:T f=some i) (hm:max args.length i.n=m) (hb:evI P g (Xaw P g T N n) N i.c ⟨m,idx 0 args,[]⟩ H=some (.ret,a,H1)) (hd:a.d.isEmpty=false) (hz:Xp7 P g (Xaw P g T N n) T N i (g.keep f) H a none H1=some r) :
  Xaw P g T N (n+1) f args H=some r:=by
 simp only [Xaw,hl,hT,hm,hb,hd,Ze,if_false,hz]
theorem evF_panD (hl:g.lib f=none) (hT:T f=some i) (hm:max args.length i.n=m) (hb:evI P g (Xaw P g T N n) N i.c ⟨m,idx 0 args,[]⟩ H=some (.pan v,a,H1)) (hd:a.d.isEmpty=false) (hz:Xp7 P g (Xaw P g T N n) T N i (g.keep f) H a (some v) H1=some r) :
  Xaw P g T N (n+1) f args H=some r:=by
 simp only [Xaw,hl,hT,hm,hb,hd,Ze,if_false,hz]
end
theorem op_defer:(Xlh Tryz.f10 4).op=.defer ⟨.value (.tmp 11),#[],#[]⟩:=by kernel_rfl
theorem Xxq {ρ:Operand→AV} {H:Mem} {k:Nat} {cap:List AV} (hρ:ρ (.tmp 11)=.fn (.func k) cap):Xar Tryz.prog ρ (Xlh Tryz.f10 4) H=some (.dfr (.fn (.func k) cap) []):=by
 unfold Xar
 rw [op_defer]
 simp only [hρ]
 rfl
theorem RlV.low {H:Mem} {v:AV} {l:List Rl} (h:RlV H v l):low H.length v=true:=by
 rcases h with ⟨q,st,ty,rfl,h2⟩ | rfl
 ·exact decide_eq_true (List.getElem?_eq_some_iff.1 h2).1
 ·exact Xi0 _ _
theorem SlC.low {H:Mem} {v:AV} {l:List St} (h:SlC H v l):low H.length v=true:=by
 rcases h with ⟨_,rfl⟩ | ⟨q,st,ty,rfl,h2⟩
 ·rfl
 ·exact decide_eq_true (List.getElem?_eq_some_iff.1 h2).1
def docR (rels:List Rl) (sts:List St) (e:El):AV:=.tup [.lst (Xvq rels sts e).1.length (blsC (Xvq rels sts e).1),.int .i64 (Xvq rels sts e).2]
theorem frz_doc (n0:Nat) (M:Mem) (l:List Bl) (e:Int):frz n0 M 12 (.tup [.lst l.length (blsC l),.int .i64 e])=some (.tup [.lst l.length (blsC l),.int .i64 e]) :=
 frz_tup (frzL_cons (Xk5 (blsC_low _ _)) rfl)
section
variable {N:Nat} (hN:9223372036854775808≤N)
include hN
theorem doc_eq (rels:List Rl) (sts:List St) (d:Nat) (vr vs:AV) (hl:rels.length≤4611686018427387904) (hs:sts.length≤4611686018427387904) (e:El) (he:Lim e) (hd:2*dEl e+12≤d) (H:Mem) (hH:LoH H) (hv:RlV H vr rels) (hvs:SlC H vs sts) :
  Xaw Tryz.prog cfg T N d 10 [.agg (eC e),vr,vs] H=some (.ret (docR rels sts e),H):=by
 obtain ⟨n,rfl⟩ : ∃ n,d=n+2:=⟨d-2,by omega⟩
 have hF:=fun H=>Xua Tryz.prog N n hN wNs Xep e he.1.len H
 rw [show (Xbg wNs Xep e.kids).getD zEl=kidOf e Xep from rfl] at hF
 have hB:=Xvp (N:=N) hN rels sts (H.length+4) vr vs hl hs (dEl e) (n+1) (by omega)
 have hbl:=he.kidOf Xep
 have hbd:=Xjn e Xep
 have hbe:=Xib (kidOf e Xep)
 have hbw:=Xfc e Xep
 have hbw2:=Xb2 (kidOf e Xep)
 have hew:=he.2
 have hno:=fun H=>Xuq Tryz.prog N (n+1) (by omega) 3 H
 have hok:=fun H=>Xuw Tryz.prog N (n+1) (by omega) 3 H
 have hT:T 25=some I25:=t25
 have hk:cfg.keep 10=false:=rfl
 have hmax:max 2 13=13:=rfl
 unfold docR Xvq
 generalize (Xbg wNs Xep e.kids).isSome=fb at *
 generalize kidOf e Xep=bo at *
 simp only [wNs,Xep] at hF
 unfold wNs Xmg
 -- an error,told
 have err:∀ (er:Nat) (a:AAct) (b8:Blk) (L:Mem),evI Tryz.prog cfg (Xaw Tryz.prog cfg T N (n+1)) N I10.c ⟨37,idx 0 [.agg (eC e),vr,vs],[]⟩ H=some (.pan (Xbw er),a,H++(.row (eC e) 0 (25+1)::.row [.nilS] 0 (30+1)::.row [.int .i64 0] 0 (34+1)::b8::L))→a.d=[(.fn (.func 25) [.ptr (H.length+1) 0 0,.ptr (H.length+2) 0 0],[])]→Xad a.t 6=.ptr (H.length+1) 0 0→Xad a.t 7=.ptr (H.length+2) 0 0 →
   Xaw Tryz.prog cfg T N (n+2) 10 [.agg (eC e),vr,vs] H=some (.ret (.tup [.lst 0 [],.int .i64 er]),H):=by
  rintro er ⟨an,at',ad⟩ b8 L hb hd l6 l7
  simp only at hd l6 l7
  subst hd
  refine evF_panD (m:=37) (v:=Xbw er) rfl t10 rfl hb rfl ?hz
  have w1:(H++(.row (eC e) 0 (25+1)::.row [.nilS] 0 (30+1)::.row [.int .i64 0] 0 (34+1)::b8::L))[H.length+1]? = some (.row [.nilS] 0 (30+1)):=Xff _ _ _
  have w2:(H++(.row (eC e) 0 (25+1)::.row [.nilS] 0 (30+1)::.row [.int .i64 0] 0 (34+1)::b8::L))[H.length+2]? = some (.row [.int .i64 0] 0 (34+1)):=Xff _ _ _
  have hst:Xak H (H++(.row (eC e) 0 (25+1)::.row [.nilS] 0 (30+1)::.row [.int .i64 0] 0 (34+1)::b8::L)):=List.take_left
  generalize H++(.row (eC e) 0 (25+1)::.row [.nilS] 0 (30+1)::.row [.int .i64 0] 0 (34+1)::b8::L)=W at *
  have f1:∀ L,(W++L)[H.length+1]? = some (.row [.nilS] 0 (30+1)):=fun L=>Xax w1 L
  have f2:∀ L,(W++L)[H.length+2]? = some (.row [.int .i64 0] 0 (34+1)):=fun L=>Xax w2 L
  have g1:∀ L,(W++L).set (H.length+1) (.row [.nilS] 0 (30+1))=W++L:=fun L=>Xec (f1 L)
  have g2:∀ L c,(W++L).set (H.length+2) c=W.set (H.length+2) c++L:=fun L c=>Xd9 w2 L c
  have hl2:=(List.getElem?_eq_some_iff.1 w2).1
  have k1:∀ c L,(W.set (H.length+2) c++L)[H.length+1]? = some (.row [.nilS] 0 (30+1)):=fun c L=>Xax (by rw [List.getElem?_set_ne (by omega)]; exact w1) L
  have k2:∀ c L,(W.set (H.length+2) c++L)[H.length+2]? = some c:=fun c L=>Xax (List.getElem?_set_self hl2) L
  have hst2:∀ c L,Xak H (W.set (H.length+2) c++L):=fun c L=>(hst.set (by omega) c).app L
  have hfin:∀ L,Xao false H (.tup [.nilS,.int .i64 er]) (W.set (H.length+2) (.row [.int .i64 er] 0 (34+1))++L)=(.tup [.lst 0 [],.int .i64 er],H):=fun L=>Xha (hst2 _ _) rfl rfl
  have e55:(71=71)=True:=by simp
  simp only [hmax,Xbw,Xuu,e55,Xp7,defI,hT,I25,I10,Xc6,Xbc,idx,hk,l6,l7,List.isEmpty_nil,f1,f2,g1,g2,k1,k2,hfin,eqvL_refl,reduceIte,reduceEqDiff,reduceLT,reduceAdd,reduceMul,reduceLeDiff,ZU,ZS]
 have pre:∃ t,Xad t 3=.ptr H.length 0 0∧Xad t 6=.ptr (H.length+1) 0 0∧Xad t 7=.ptr (H.length+2) 0 0∧Xad t 8=.ptr (H.length+3) 0 0∧Xad t 9=.bool fb∧Xad t 1=vr∧Xad t 2=vs∧evI Tryz.prog cfg (Xaw Tryz.prog cfg T N (n+1)) N I10.c ⟨37,idx 0 [.agg (eC e),vr,vs],[]⟩ H=evI Tryz.prog cfg (Xaw Tryz.prog cfg T N (n+1)) N (I10.c.nb 3) ⟨37,t,[(.fn (.func 25) [.ptr (H.length+1) 0 0,.ptr (H.length+2) 0 0],[])]⟩ (H++[.row (eC e) 0 (25+1),.row [.nilS] 0 (30+1),.row [.int .i64 0] 0 (34+1),.row (eC bo) 0 (25+1)]):=by
  refine ⟨?ta,?a3,?a6,?a7,?a8,?a9,?a1,?a2,?am⟩
  case am =>
   apply Xaa
   ·simp only [idx,reduceIte,reduceEqDiff,reduceLT,reduceAdd,reduceMul,reduceLeDiff,ZS]; rfl
   apply Xaa
   ·simp only [AAct.eval,Xxq,reduceIte,reduceEqDiff,reduceLT,reduceAdd,reduceMul,reduceLeDiff,ZS]; rfl
   apply Xaa
   ·simp only [hF,reduceSub,reduceIte,reduceEqDiff,reduceLT,reduceAdd,reduceMul,reduceLeDiff,ZS,ZT]; rfl
   rfl
  all_goals rfl
 obtain ⟨t,l3,l6,l7,l8,l9,l1,l2,hpre⟩:=pre
 have bo2:∀ b:Bool,b=false∨b=true:=fun b=>by cases b <;> simp
 -- it has no form
 have form:∀ (t':List (Nat × AV)),evI Tryz.prog cfg (Xaw Tryz.prog cfg T N (n+1)) N (I10.c.nb 3) ⟨37,t,[(.fn (.func 25) [.ptr (H.length+1) 0 0,.ptr (H.length+2) 0 0],[])]⟩ (H++[.row (eC e) 0 (25+1),.row [.nilS] 0 (30+1),.row [.int .i64 0] 0 (34+1),.row (eC bo) 0 (25+1)])=some (.pan (Xbw 3),⟨37,t',[(.fn (.func 25) [.ptr (H.length+1) 0 0,.ptr (H.length+2) 0 0],[])]⟩,H++[.row (eC e) 0 (25+1),.row [.nilS] 0 (30+1),.row [.int .i64 0] 0 (34+1),.row (eC bo) 0 (25+1)])→Xad t' 6=.ptr (H.length+1) 0 0→Xad t' 7=.ptr (H.length+2) 0 0 →
   Xaw Tryz.prog cfg T N (n+2) 10 [.agg (eC e),vr,vs] H=some (.ret (.tup [.lst 0 [],.int .i64 3]),H):=fun t' h h6 h7=>err 3 _ _ [] (hpre.trans h) rfl h6 h7
 rcases bo2 fb with hb | hb
 ·rw [hb] at l9 ⊢
  rw [Bool.and_false,Bool.and_false,if_neg (by simp)]
  refine form ?fa ?fm ?f6 ?f7
  case fm =>
   apply Xbj
   simp only [l3,l9,hno,reduceSub,reduceIte,reduceEqDiff,reduceLT,reduceAdd,reduceMul,reduceLeDiff,ZS,ZT]; rfl
  case f6=>exact l6
  case f7=>exact l7
 rw [hb] at l9 ⊢
 cases h1:(e.sp == [104,116,116,112,58,47,47,115,99,104,101,109,97,115,46,111,112,101,110,120,109,108,102,111,114,109,97,116,115,46,111,114,103,47,119,111,114,100,112,114,111,99,101,115,115,105,110,103,109,108,47,50,48,48,54,47,109,97,105,110])
 ·rw [Bool.false_and,if_neg (by simp)]
  refine form ?ga ?gm ?g6 ?g7
  case gm =>
   apply Xbj
   simp only [l3,l9,h1,hno,reduceSub,reduceIte,reduceEqDiff,reduceLT,reduceAdd,reduceMul,reduceLeDiff,ZS,ZT]; rfl
  case g6=>exact l6
  case g7=>exact l7
 cases h2:(e.nm == [100,111,99,117,109,101,110,116])
 ·rw [Bool.false_and,Bool.and_false,if_neg (by simp)]
  refine form ?ha ?hm ?h6 ?h7
  case hm =>
   apply Xbj
   simp only [l3,l9,h1,h2,hno,reduceSub,reduceIte,reduceEqDiff,reduceLT,reduceAdd,reduceMul,reduceLeDiff,ZS,ZT]; rfl
  case h6=>exact l6
  case h7=>exact l7
 rw [Bool.and_self,Bool.and_self,if_pos rfl]
 have hlo:LoH (H++[Blk.row (eC e) 0 (25+1),.row [.nilS] 0 (30+1),.row [.int .i64 0] 0 (34+1),.row (eC bo) 0 (25+1),Xcu vr vs 0]):=by
  refine hH.app ?_
  have q1:=Xgw (Nat.le_add_right H.length 5) hv.low
  have q2:=Xgw (Nat.le_add_right H.length 5) hvs.low
  simp [Xb6,Xcn,Xay,lowL,low,q1,q2]
 obtain ⟨⟨r,H'⟩,hr,hQ⟩:=hB bo.kids (fun y hy=>hbl.kid hy) (by omega) (by omega) 1 0 (by omega) (by omega) _ hlo (Xff _ _ _) (hv.app _) (hvs.app _)
 generalize Xby rels sts (dEl e) 1 0 bo.kids=R at *
 have w0:((1:Nat):Int)=1:=rfl
 rw [w0] at hr
 have box:∀ (t':List (Nat × AV)),Xad t' 1=vr→Xad t' 2=vs→Xad t' 6=.ptr (H.length+1) 0 0→Xad t' 7=.ptr (H.length+2) 0 0→Xad t' 8=.ptr (H.length+3) 0 0→∃ t2,Xad t2 6=.ptr (H.length+1) 0 0∧Xad t2 7=.ptr (H.length+2) 0 0∧Xad t2 8=.ptr (H.length+3) 0 0∧Xad t2 10=.ptr (H.length+4) 0 0∧evI Tryz.prog cfg (Xaw Tryz.prog cfg T N (n+1)) N (I10.c.nb 4) ⟨37,t',[(.fn (.func 25) [.ptr (H.length+1) 0 0,.ptr (H.length+2) 0 0],[])]⟩ (H++[.row (eC e) 0 (25+1),.row [.nilS] 0 (30+1),.row [.int .i64 0] 0 (34+1),.row (eC bo) 0 (25+1)])=evI Tryz.prog cfg (Xaw Tryz.prog cfg T N (n+1)) N (I10.c.nb 5) ⟨37,t2,[(.fn (.func 25) [.ptr (H.length+1) 0 0,.ptr (H.length+2) 0 0],[])]⟩ (H++[.row (eC e) 0 (25+1),.row [.nilS] 0 (30+1),.row [.int .i64 0] 0 (34+1),.row (eC bo) 0 (25+1),Xcu vr vs 0]):=by
  intro t' m1 m2 m6 m7 m8
  rcases hv with ⟨q,st,ty,rfl,_⟩ | rfl
  ·rcases hvs with ⟨_,rfl⟩ | ⟨q2,st2,ty2,rfl,_⟩
   ·refine ⟨?xa,?x6,?x7,?x8,?x10,?xm⟩
    case xm =>
     apply Xaa
     ·simp only [m1,m2,reduceIte,reduceEqDiff,reduceLT,reduceAdd,reduceMul,reduceLeDiff,ZS]; rfl
     rfl
    case x6=>exact m6
    case x7=>exact m7
    case x8=>exact m8
    case x10=>rfl
   ·refine ⟨?ya,?y6,?y7,?y8,?y10,?ym⟩
    case ym =>
     apply Xaa
     ·simp only [m1,m2,reduceIte,reduceEqDiff,reduceLT,reduceAdd,reduceMul,reduceLeDiff,ZS]; rfl
     rfl
    case y6=>exact m6
    case y7=>exact m7
    case y8=>exact m8
    case y10=>rfl
  ·rcases hvs with ⟨_,rfl⟩ | ⟨q2,st2,ty2,rfl,_⟩
   ·refine ⟨?za,?z6,?z7,?z8,?z10,?zm⟩
    case zm =>
     apply Xaa
     ·simp only [m1,m2,reduceIte,reduceEqDiff,reduceLT,reduceAdd,reduceMul,reduceLeDiff,ZS]; rfl
     rfl
    case z6=>exact m6
    case z7=>exact m7
    case z8=>exact m8
    case z10=>rfl
   ·refine ⟨?wa,?w6,?w7,?w8,?w10,?wm⟩
    case wm =>
     apply Xaa
     ·simp only [m1,m2,reduceIte,reduceEqDiff,reduceLT,reduceAdd,reduceMul,reduceLeDiff,ZS]; rfl
     rfl
    case w6=>exact m6
    case w7=>exact m7
    case w8=>exact m8
    case w10=>rfl
 have mid:∃ t2,Xad t2 6=.ptr (H.length+1) 0 0∧Xad t2 7=.ptr (H.length+2) 0 0∧Xad t2 8=.ptr (H.length+3) 0 0∧Xad t2 10=.ptr (H.length+4) 0 0∧evI Tryz.prog cfg (Xaw Tryz.prog cfg T N (n+1)) N I10.c ⟨37,idx 0 [.agg (eC e),vr,vs],[]⟩ H=evI Tryz.prog cfg (Xaw Tryz.prog cfg T N (n+1)) N (I10.c.nb 5) ⟨37,t2,[(.fn (.func 25) [.ptr (H.length+1) 0 0,.ptr (H.length+2) 0 0],[])]⟩ (H++[.row (eC e) 0 (25+1),.row [.nilS] 0 (30+1),.row [.int .i64 0] 0 (34+1),.row (eC bo) 0 (25+1),Xcu vr vs 0]):=by
  have st3:∃ t',Xad t' 1=vr∧Xad t' 2=vs∧Xad t' 6=.ptr (H.length+1) 0 0∧Xad t' 7=.ptr (H.length+2) 0 0∧Xad t' 8=.ptr (H.length+3) 0 0∧evI Tryz.prog cfg (Xaw Tryz.prog cfg T N (n+1)) N (I10.c.nb 3) ⟨37,t,[(.fn (.func 25) [.ptr (H.length+1) 0 0,.ptr (H.length+2) 0 0],[])]⟩ (H++[.row (eC e) 0 (25+1),.row [.nilS] 0 (30+1),.row [.int .i64 0] 0 (34+1),.row (eC bo) 0 (25+1)])=evI Tryz.prog cfg (Xaw Tryz.prog cfg T N (n+1)) N (I10.c.nb 4) ⟨37,t',[(.fn (.func 25) [.ptr (H.length+1) 0 0,.ptr (H.length+2) 0 0],[])]⟩ (H++[.row (eC e) 0 (25+1),.row [.nilS] 0 (30+1),.row [.int .i64 0] 0 (34+1),.row (eC bo) 0 (25+1)]):=by
   refine ⟨?ka,?k1,?k2,?k6,?k7,?k8,?km⟩
   case km =>
    apply Xaa
    ·simp only [l3,l9,h1,h2,hok,reduceSub,reduceIte,reduceEqDiff,reduceLT,reduceAdd,reduceMul,reduceLeDiff,ZS,ZT]; rfl
    rfl
   case k1=>exact l1
   case k2=>exact l2
   case k6=>exact l6
   case k7=>exact l7
   case k8=>exact l8
  obtain ⟨t',k1,k2,k6,k7,k8,h3⟩:=st3
  obtain ⟨t2,x6,x7,x8,x10,h4⟩:=box t' k1 k2 k6 k7 k8
  exact ⟨t2,x6,x7,x8,x10,(hpre.trans h3).trans h4⟩
 obtain ⟨t2,x6,x7,x8,x10,hmid⟩:=mid
 rcases hQ with ⟨hb,rfl,g',rfl⟩ | ⟨hb,rfl,rfl⟩
 ·dsimp only
  rw [if_neg hb]
  simp only [Xmd,Zm,Zl] at hr
  have him:∃ t3,Xad t3 6=.ptr (H.length+1) 0 0∧Xad t3 7=.ptr (H.length+2) 0 0∧evI Tryz.prog cfg (Xaw Tryz.prog cfg T N (n+1)) N (I10.c.nb 5) ⟨37,t2,[(.fn (.func 25) [.ptr (H.length+1) 0 0,.ptr (H.length+2) 0 0],[])]⟩ (H++[.row (eC e) 0 (25+1),.row [.nilS] 0 (30+1),.row [.int .i64 0] 0 (34+1),.row (eC bo) 0 (25+1),Xcu vr vs 0])=some (.pan (Xbw R.2.2),⟨37,t3,[(.fn (.func 25) [.ptr (H.length+1) 0 0,.ptr (H.length+2) 0 0],[])]⟩,H++[.row (eC e) 0 (25+1),.row [.nilS] 0 (30+1),.row [.int .i64 0] 0 (34+1),.row (eC bo) 0 (25+1),Xcu vr vs g']):=by
   refine ⟨?ia,?i6,?i7,?im⟩
   case im =>
    apply Xbj
    simp only [x8,x10,hr,reduceSub,reduceIte,reduceEqDiff,reduceLT,reduceAdd,reduceMul,reduceLeDiff,ZS,ZT]; rfl
   case i6=>exact x6
   case i7=>exact x7
  obtain ⟨t3,i6,i7,him⟩:=him
  exact err R.2.2 _ _ [Xcu vr vs g'] (hmid.trans him) rfl i6 i7
 ·dsimp only
  rw [if_pos hb]
  simp only [Xmd,Zm,Zl] at hr
  refine evF_retD (m:=37) (a:=?ja) (H1:=?jH) rfl t10 rfl ?jb ?jd ?jz
  case jb =>
   refine hmid.trans ?_
   apply Xaa
   ·simp only [x6,x7,x8,x10,hr,reduceSub,reduceIte,reduceEqDiff,reduceLT,reduceAdd,reduceMul,reduceLeDiff,ZS,ZT]; rfl
   rfl
  case jd=>rfl
  case jz =>
   have hfin:∀ L:Mem,Xao false H (.tup [.lst R.1.length (blsC R.1),.int .i64 0]) (H++L)=(.tup [.lst R.1.length (blsC R.1),.int .i64 0],H):=fun L=>Xhv (frz_doc _ _ _ _) (by simp [low,lowL,blsC_low])
   simp only [hmax,Xp7,defI,hT,I25,I10,Xc6,Xbc,Option.getD_none,idx,hk,x6,x7,List.isEmpty_nil,hfin,reduceIte,reduceEqDiff,reduceLT,reduceAdd,reduceMul,reduceLeDiff,ZS]
   rfl
end
end Go.Proofs.YtmhhddhbdbcmbaaGreatDoor.Ev
