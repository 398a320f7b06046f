/- Parts of one proof. -/
import Derived.Test.YtmhhddhbdbcmbaaGreatDoorMdb
import Derived.Test.YtmhhddhbdbcmbaaGreatDoorMdc
set_option linter.all false
namespace Go.Proofs.YtmhhddhbdbcmbaaGreatDoor.Ev
open Nat (reduceEqDiff reduceLT reduceAdd reduceMul reduceLeDiff reduceSub)
theorem Xi3 {f:Nat→Option Nat} {k i a:Nat} (h:orb f k a=some i):∀ s,orb f k (a+s)=orb f i s
 | 0=>h
 | s+1=>by
  show (orb f k (a+s)).bind f=(orb f i s).bind f
  rw [Xi3 h s]
theorem no_back {l:List St} (h:chkR l=true) {i s:Nat} (hi:i<l.length) (h0:0<s) (hs:s≤l.length):orb (Xc9 l) i s≠some i:=by
 intro he
 have h1:=List.all_eq_true.1 h i (List.mem_range.2 hi)
 rw [Xty,show l.length+2=(l.length+1)+1 from rfl] at h1
 unfold wlk at h1
 cases h2:Xc9 l i with
 | none =>
  have ho:orb (Xc9 l) i 1=none:=h2
  have:=Xjc ho (s-1)
  rw [show 1+(s-1)=s by omega,he] at this
  cases this
 | some m =>
  rw [h2] at h1
  simp only [ZA,ZH] at h1
  cases hb:((l.getD m default).run != (l.getD i default).run || m == i)
  ·rw [hb] at h1
   simp only [Ze,if_false] at h1
   have hm:m≠i:=by
    intro e
    rw [e,beq_self_eq_true,Bool.or_true] at hb
    cases hb
   have ho:orb (Xc9 l) i 1=some m:=h2
   have hback:=Xk4 (Xc9 l) (fun m=>(l.getD m default).run != (l.getD i default).run) i (l.length+1) 1 m ho hm
   have hs1:1<s:=by
    rcases Nat.lt_or_ge 1 s with h3 | h3
    ·exact h3
    ·have:s=1:=by omega
     rw [this,ho] at he
     injection he with he
     exact absurd he hm
   rw [hback.2 ⟨s,hs1,by omega,he⟩] at h1
   cases h1
  ·rw [hb] at h1
   cases h1
theorem Xvx {l:List St} {k m:Nat} (h:Xc9 l k=some m):m<l.length:=by
 unfold Xc9 at h
 split at h
 ·cases h
 ·have:=(Xih _ l 0 m h).2
  omega
theorem Xn8 {l:List St} (h:chkR l=true) {k:Nat} (hk:k<l.length):orb (Xc9 l) k l.length=none:=by
 cases he:orb (Xc9 l) k l.length with
 | none=>rfl
 | some z =>
  exfalso
  have hsome:∀ t,t≤l.length→∃ x,orb (Xc9 l) k t=some x:=fun t ht=>by
   cases h1:orb (Xc9 l) k t with
   | some x=>exact ⟨x,rfl⟩
   | none =>
    have:=Xjc h1 (l.length-t)
    rw [show t+(l.length-t)=l.length by omega,he] at this
    cases this
  have hlt:∀ t x,orb (Xc9 l) k t=some x→x<l.length:=fun t x hx=>by
   cases t with
   | zero =>
    have:some k=some x:=hx
    injection this with this
    omega
   | succ t =>
    have hx:(orb (Xc9 l) k t).bind (Xc9 l)=some x:=hx
    cases h1:orb (Xc9 l) k t with
    | none=>rw [h1] at hx; cases hx
    | some y=>rw [h1] at hx; exact Xvx hx
  have:=pig l.length (l.length+1) (fun t=>(orb (Xc9 l) k t).getD 0) (fun a b hab hb e=>by
   obtain ⟨x,hx⟩:=hsome a (by omega)
   obtain ⟨y,hy⟩:=hsome b (by omega)
   simp only [hx,hy,Option.getD_some] at e
   subst e
   have h3:=Xi3 hx (b-a)
   rw [show a+(b-a)=b by omega,hy] at h3
   exact no_back h (hlt a x hx) (by omega) (by omega) h3.symm) (fun a ha=>by
   obtain ⟨x,hx⟩:=hsome a (by omega)
   simp only [hx,Option.getD_some]
   exact hlt a x hx)
  omega
def Xwc (l:List St) (w:St→Int):Nat→Nat→Int
 | 0,_=>0
 | n+1,k=>if (w (l.getD k default) != 0 || (l.getD k default).based == [])=true then w (l.getD k default) else match Xc9 l k with
  | none=>0
  | some j=>Xwc l w n j
def sayR (l:List St):Nat→Nat→Int→Int→Int × Int
 | 0,_,e,b=>(e,b)
 | n+1,k,e,b=>if ((l.getD k default).based == [])=true then (if (e == 0)=true then (l.getD k default).emph else e,if (b == 0)=true then (l.getD k default).bold else b) else match Xc9 l k with
  | none=>(if (e == 0)=true then (l.getD k default).emph else e,if (b == 0)=true then (l.getD k default).bold else b)
  | some j=>sayR l n j (if (e == 0)=true then (l.getD k default).emph else e) (if (b == 0)=true then (l.getD k default).bold else b)
theorem sayR_eq (l:List St):∀ (n k:Nat) (e b:Int),orb (Xc9 l) k n=none→sayR l n k e b=(if (e == 0)=true then Xwc l St.emph n k else e,if (b == 0)=true then Xwc l St.bold n k else b)
 | 0,k,e,b,h=>by cases h
 | n+1,k,e,b,h=>by
  unfold sayR Xwc
  have one:∀ (w:St→Int) (e:Int) (r:Int),(if ((if (e == 0)=true then w (l.getD k default) else e) == 0)=true then r else (if (e == 0)=true then w (l.getD k default) else e))=(if (e == 0)=true then (if (w (l.getD k default) != 0)=true then w (l.getD k default) else r) else e):=fun w e r=>by
   generalize w (l.getD k default)=z
   cases he:(e == 0)
   ·simp only [Ze,if_false,he]
   ·simp only [if_true]
    cases hw:(z == 0)
    ·simp only [bne,hw,ZF,Ze,if_false,if_true]
    ·simp only [bne,hw,ZG,Ze,if_false,if_true]
  have zero:∀ z:Int,(if (z != 0)=true then z else 0)=z:=fun z=>by
   cases hz:(z == 0)
   ·simp only [bne,hz,ZF,if_true]
   ·simp only [bne,hz,ZG,Ze,if_false]
    exact (eq_of_beq hz).symm
  cases hb:((l.getD k default).based == [])
  ·simp only [Ze,if_false,Bool.or_false]
   cases h1:Xc9 l k with
   | none =>
    show (_,_)=((if _ then (if _ then _ else (0:Int)) else _),(if _ then (if _ then _ else (0:Int)) else _))
    rw [zero,zero]
   | some j =>
    have h2:orb (Xc9 l) j n=none:=by
     have:=Xi3 (f:=Xc9 l) (k:=k) (a:=1) (i:=j) h1 n
     rw [← this,show 1+n=n+1 by omega]; exact h
    show sayR l n j _ _=_
    rw [sayR_eq l n j _ _ h2,one St.emph,one St.bold]
  ·simp only [if_true,Bool.or_true]
open Go.Proofs.YtmhhddhbdbcmbaaGreatDoor.Ic
set_option maxRecDepth 100000
set_option maxHeartbeats 4000000
def Whats (P:Program) (N:Nat) (wf:Nat) (w:St→Int):Prop:=Xa1 P wf=true∧∀ (d:Nat),1≤d→∀ (s:St) (H:Mem),Xaw P cfg T N d wf [.agg (stC s)] H=some (.ret (.int .i64 (w s)),H)
theorem what_emph (P:Program) (hcl:Xa1 P 142=true) (N:Nat):Whats P N 142 St.emph:=by
 refine ⟨hcl,fun d hd s H=>?_⟩
 obtain ⟨n,rfl⟩ : ∃ k,d=k+1:=⟨d-1,by omega⟩
 refine Xac (m:=5) (v:=.int .i64 s.emph) (a:=?a) (H1:=?H1) rfl t142 rfl ?hb ?hd ?hr ?hz
 case hb=>simp only [idx,I142,stC,reduceIte,reduceEqDiff,reduceLT,reduceAdd,reduceMul,reduceLeDiff,ZS]; rfl
 case hd=>rfl
 case hr=>rfl
 case hz=>exact Xa4 rfl rfl
theorem what_bold (P:Program) (hcl:Xa1 P 143=true) (N:Nat):Whats P N 143 St.bold:=by
 refine ⟨hcl,fun d hd s H=>?_⟩
 obtain ⟨n,rfl⟩ : ∃ k,d=k+1:=⟨d-1,by omega⟩
 refine Xac (m:=5) (v:=.int .i64 s.bold) (a:=?a) (H1:=?H1) rfl t143 rfl ?hb ?hd ?hr ?hz
 case hb=>simp only [idx,I143,stC,reduceIte,reduceEqDiff,reduceLT,reduceAdd,reduceMul,reduceLeDiff,ZS]; rfl
 case hd=>rfl
 case hr=>rfl
 case hz=>exact Xa4 rfl rfl
noncomputable def Xtc:IC:=(Xv4.c.loops).getD 0 .bad
def Xne (l:List St):Prop:=∀ k,k<l.length→((l.getD k default).based == [])=false→(ixF (l.getD k default).based l 0).isSome=true
theorem Xtk (P:Program) (hcl:Xa1 P 122=true) (N n:Nat) (l:List St) (hN:l.length<N) (hl:l.length≤4611686018427387904) (hB:Xne l) (wf:Nat) (w:St→Int) (hw:Whats P N wf w) (H:Mem) (q st ty:Nat) (hq:H[q]? = some (.row (Xdb l) st ty)):∀ (fuel k j:Nat),k≤l.length→l.length-k<fuel→j<l.length →
  ∃ ou t,Xa6 (fun a H=>evI P cfg (Xaw P cfg T N (n+3)) N Xtc a H) (some [0,3,9,29,30]) fuel ⟨54,[(0,.slc q 0 l.length 6 st),(3,.fn (.func wf) []),(9,.ptr q (j*6) st),(29,.int .i64 l.length),(30,.int .i64 k)],[]⟩ H=some (ou,⟨54,t,[]⟩,H) ∧
   ((ou=.ret∧Xad t 8=.int .i64 (Xwc l w (l.length-k) j))∨(ou=.exit 0∧Xwc l w (l.length-k) j=0))
 | 0,k,j,_,h,_=>by omega
 | fuel+1,k,j,hk,hf,hj=>by
  rcases Nat.lt_or_ge k l.length with hlt | hge
  ·obtain ⟨r,hc⟩:=Xcr hj
   obtain ⟨g1,g2,g3,g4,g5⟩:=Xcf hc
   have e2:j*6+2≤(Xdb l).length:=by omega
   have hi:(k:Int)<(l.length:Int):=by omega
   have hwr:=Xav hlt (by omega)
   have hBj:=hB j hj
   have hu:Xwc l w (l.length-k) j=if (w (l.getD j default) != 0 || (l.getD j default).based == [])=true then w (l.getD j default) else match Xc9 l j with
    | none=>0
    | some j=>Xwc l w (l.length-(k+1)) j:=by
    rw [show l.length-k=(l.length-(k+1))+1 by omega]; rfl
   rw [hu]
   unfold Xc9
   obtain ⟨p2,hp2,q1⟩:=Xp3 P hcl N (n+3) (by omega) (l.getD j default).based H (.slc q 0 l.length 6 st) l hN hl (.inr ⟨q,st,ty,rfl,hq⟩)
   have hwx:=hw.2 (n+3) (by omega) (l.getD j default) H
   have hcw:=hw.1
   have ih:=Xtk P hcl N n l hN hl hB wf w hw H q st ty hq fuel (k+1)
   simp only [stC] at hwx g2
   cases b1:(w (l.getD j default) != 0)
   ·cases b2:((l.getD j default).based == [])
    ·cases h2:ixF (l.getD j default).based l 0 with
     | none =>
      have:=hBj b2
      rw [h2] at this
      cases this
     | some m =>
      rw [h2] at hp2
      obtain ⟨q',n',st',h1,h3⟩:=hp2
      injection h1 with h1 _ _ _ h5
      subst h1 h5 h3
      have hm:=(Xih _ l 0 m h2).2
      obtain ⟨ou,t,ht,hQ⟩:=ih m (by omega) (by omega) (by omega)
      refine ⟨ou,t,?_,by simpa only [Bool.or_self,Bool.false_eq_true,if_false] using hQ⟩
      refine Xap (by simp only [Xtc,Xv4,IC.loops,hi,hwr,hq,g1,g2,g4,e2,hcw,hwx,q1,b1,b2,reduceIte,reduceEqDiff,reduceLT,reduceAdd,reduceMul,reduceLeDiff,ZS]; rfl) ?_
      rw [Xbx]
      exact ht
    ·refine ⟨_,_,Xah (by simp only [Xtc,Xv4,IC.loops,hi,hwr,hq,g1,g2,g4,e2,hcw,hwx,b1,b2,reduceIte,reduceEqDiff,reduceLT,reduceAdd,reduceMul,reduceLeDiff,ZS]; rfl),?_⟩
     exact .inl ⟨rfl,rfl⟩
   ·refine ⟨_,_,Xah (by simp only [Xtc,Xv4,IC.loops,hi,hwr,hq,g1,g2,g4,e2,hcw,hwx,b1,reduceIte,reduceEqDiff,reduceLT,reduceAdd,reduceMul,reduceLeDiff,ZS]; rfl),?_⟩
    exact .inl ⟨rfl,rfl⟩
  ·have hk':k=l.length:=by omega
   subst hk'
   rw [Nat.sub_self]
   refine ⟨_,_,Xae (by simp only [Xtc,Xv4,IC.loops,Int.lt_irrefl,reduceIte,reduceEqDiff,reduceLT,reduceAdd,reduceMul,reduceLeDiff,ZS]; rfl),?_⟩
   exact .inr ⟨rfl,rfl⟩
def Xhc (l:List St) (id:List UInt8) (run:Bool) (w:St→Int):Int:=if (id == [])=true then 0 else match ixF id l 0 with
 | none=>0
 | some j=>if ((l.getD j default).run == run)=true then Xwc l w l.length j else 0
theorem says_eq (P:Program) (hcl:Xa1 P 122=true) (N d:Nat) (hd:4≤d) (l:List St) (hN:l.length<N) (hl:l.length≤4611686018427387904) (hB:Xne l) (wf:Nat) (w:St→Int) (hw:Whats P N wf w) (id:List UInt8) (run:Bool) (v:AV) (H:Mem) (hv:SlC H v l) :
  Xaw P cfg T N d 156 [v,.str id,.bool run,.fn (.func wf) []] H=some (.ret (.int .i64 (Xhc l id run w)),H):=by
 obtain ⟨n,rfl⟩ : ∃ k,d=k+4:=⟨d-4,by omega⟩
 obtain ⟨p2,hp2,q1⟩:=Xp3 P hcl N (n+3) (by omega) id H v l hN hl hv
 unfold Xhc
 cases b1:(id == [])
 ·simp only [Ze,if_false]
  cases hx:ixF id l 0 with
  | none =>
   rw [hx] at hp2
   have hp2:p2=.nilP:=hp2
   subst hp2
   refine Xac (m:=54) (v:=.int .i64 0) (a:=?aa) (H1:=H) rfl t156 rfl ?hb ?hd ?hr ?hz
   case hb=>simp only [idx,Xv4,q1,b1,reduceIte,reduceEqDiff,reduceLT,reduceAdd,reduceMul,reduceLeDiff,ZS]; rfl
   case hd=>rfl
   case hr=>rfl
   case hz=>exact Xaq rfl rfl
  | some j =>
   rw [hx] at hp2
   obtain ⟨_,hjl⟩:=Xih _ l 0 j hx
   rcases hv with ⟨rfl,rfl⟩ | ⟨q,st,ty,rfl,hq⟩
   ·simp [ixF] at hx
   obtain ⟨q',n',st',h1,h2⟩:=hp2
   injection h1 with h1 _ _ _ h5
   subst h1 h5 h2
   obtain ⟨r,hc⟩:=Xcr (l:=l) (j:=j) (by omega)
   obtain ⟨g1,g2,g3,g4,g5⟩:=Xcf hc
   have e3:j*6+3≤(Xdb l).length:=by omega
   dsimp only
   cases b2:((l.getD j default).run == run)
   ·simp only [Ze,if_false]
    refine Xac (m:=54) (v:=.int .i64 0) (a:=?ab) (H1:=H) rfl t156 rfl ?hb ?hd ?hr ?hz
    case hb=>simp only [idx,Xv4,q1,b1,b2,hq,g1,g5,e3,reduceIte,reduceEqDiff,reduceLT,reduceAdd,reduceMul,reduceLeDiff,ZS]; rfl
    case hd=>rfl
    case hr=>rfl
    case hz=>exact Xaq rfl rfl
   ·simp only [if_true]
    obtain ⟨ou,t,ht,hQ⟩:=Xtk P hcl N n l hN hl hB wf w hw H q st ty hq N 0 j (Nat.zero_le _) (by omega) (by omega)
    rw [Nat.sub_zero] at hQ
    rcases hQ with ⟨rfl,h8⟩ | ⟨rfl,h0⟩
    ·refine Xac (m:=54) (v:=.int .i64 (Xwc l w l.length j)) (a:=?ac) (H1:=H) rfl t156 rfl ?hb ?hd ?hr ?hz
     case hb =>
      apply Xaa
      ·simp only [idx,Xv4,reduceIte,reduceEqDiff,reduceLT,reduceAdd,reduceMul,reduceLeDiff,ZS]; rfl
      apply Xaa
      ·simp only [q1,reduceIte,reduceEqDiff,reduceLT,reduceAdd,reduceMul,reduceLeDiff,ZS]; rfl
      apply Xaa
      ·simp only [b1,b2,hq,g1,g5,e3,reduceIte,reduceEqDiff,reduceLT,reduceAdd,reduceMul,reduceLeDiff,ZS]; rfl
      apply Xau
      apply Xaa
      ·simp only [reduceIte,reduceEqDiff,reduceLT,reduceAdd,reduceMul,reduceLeDiff,ZS]; rfl
      apply Xam
      apply Xaf
      exact ht
     case hd=>rfl
     case hr=>simp only [Xv4,Xc6,Xbc,h8,Zh]
     case hz=>exact Xaq rfl rfl
    ·rw [h0]
     refine Xac (m:=54) (v:=.int .i64 0) (a:=?ad) (H1:=H) rfl t156 rfl ?hb ?hd ?hr ?hz
     case hb =>
      apply Xaa
      ·simp only [idx,Xv4,reduceIte,reduceEqDiff,reduceLT,reduceAdd,reduceMul,reduceLeDiff,ZS]; rfl
      apply Xaa
      ·simp only [q1,reduceIte,reduceEqDiff,reduceLT,reduceAdd,reduceMul,reduceLeDiff,ZS]; rfl
      apply Xaa
      ·simp only [b1,b2,hq,g1,g5,e3,reduceIte,reduceEqDiff,reduceLT,reduceAdd,reduceMul,reduceLeDiff,ZS]; rfl
      apply Xaa
      ·apply Xaa
       ·simp only [reduceIte,reduceEqDiff,reduceLT,reduceAdd,reduceMul,reduceLeDiff,ZS]; rfl
       apply Xab
       apply Xaf
       exact ht
      simp only [reduceIte,reduceEqDiff,reduceLT,reduceAdd,reduceMul,reduceLeDiff,ZS]; rfl
     case hd=>rfl
     case hr=>rfl
     case hz=>exact Xaq rfl rfl
 ·simp only [if_true]
  refine Xac (m:=54) (v:=.int .i64 0) (a:=?ae) (H1:=H) rfl t156 rfl ?hb ?hd ?hr ?hz
  case hb=>simp only [idx,Xv4,q1,b1,reduceIte,reduceEqDiff,reduceLT,reduceAdd,reduceMul,reduceLeDiff,ZS]; rfl
  case hd=>rfl
  case hr=>rfl
  case hz=>exact Xaq rfl rfl
def togB (l:List St) (para own:List UInt8) (direct:Int) (w:St→Int):Bool:=direct == 1 || (direct == 0 && ((Xhc l para false w == 1) != (Xhc l own true w == 1)))
theorem Xn0 (P:Program) (hcl:Xa1 P 122=true) (N d:Nat) (hd:5≤d) (l:List St) (hN:l.length<N) (hl:l.length≤4611686018427387904) (hB:Xne l) (wf:Nat) (w:St→Int) (hw:Whats P N wf w) (para own:List UInt8) (direct:Int) (v:AV) (H:Mem) (hv:SlC H v l) :
  Xaw P cfg T N d 141 [v,.str para,.str own,.int .i64 direct,.fn (.func wf) []] H=some (.ret (.bool (togB l para own direct w)),H):=by
 obtain ⟨n,rfl⟩ : ∃ k,d=k+5:=⟨d-5,by omega⟩
 have q1:=says_eq P hcl N (n+4) (by omega) l hN hl hB wf w hw para false v H hv
 have q2:=says_eq P hcl N (n+4) (by omega) l hN hl hB wf w hw own true v H hv
 unfold togB
 generalize Xhc l para false w=z1 at *
 generalize Xhc l own true w=z2 at *
 cases b1:(direct == 1)
 ·cases b2:(direct == 0)
  ·refine Xac (m:=34) (v:=.bool false) (a:=?aa) (H1:=H) rfl t141 rfl ?hb ?hd ?hr ?hz
   case hb=>simp only [idx,I141,q1,q2,b1,b2,reduceIte,reduceEqDiff,reduceLT,reduceAdd,reduceMul,reduceLeDiff,ZS]; rfl
   case hd=>rfl
   case hr=>rfl
   case hz=>exact Xaq rfl rfl
  ·simp only [Bool.false_or,ZH,bne]
   refine Xac (m:=34) (v:=.bool (!((z1 == 1) == (z2 == 1)))) (a:=?ab) (H1:=H) rfl t141 rfl ?hb ?hd ?hr ?hz
   case hb=>simp only [idx,I141,q1,q2,b1,b2,reduceIte,reduceEqDiff,reduceLT,reduceAdd,reduceMul,reduceLeDiff,ZS]; rfl
   case hd=>rfl
   case hr=>rfl
   case hz=>exact Xaq rfl rfl
 ·refine Xac (m:=34) (v:=.bool true) (a:=?ac) (H1:=H) rfl t141 rfl ?hb ?hd ?hr ?hz
  case hb=>simp only [idx,I141,q1,q2,b1,reduceIte,reduceEqDiff,reduceLT,reduceAdd,reduceMul,reduceLeDiff,ZS]; rfl
  case hd=>rfl
  case hr=>rfl
  case hz=>exact Xaq rfl rfl
theorem Xoj {l:List St} (h:chkB l=true):Xne l:=fun k hk h1=>by
 have hm:l.getD k default ∈ l:=by
  rw [List.getD_eq_getElem?_getD,List.getElem?_eq_getElem hk]
  exact List.getElem_mem hk
 have:=List.all_eq_true.1 h _ hm
 rw [h1,Bool.false_or] at this
 exact this
def Xt8 (l:List St) (para own:List UInt8) (e b:Int):Int:=if okP l=true then (if togB l para own e St.emph=true then 1 else 0)+(if togB l para own b St.bold=true then 2 else 0) else 0
theorem run_eq (P:Program) (hcl:Xa1 P 122=true) (h1:Xa1 P 142=true) (h2:Xa1 P 143=true) (N d:Nat) (hd:6≤d) (l:List St) (hN:l.length+1<N) (hl:l.length≤4611686018427387904) (para own:List UInt8) (e b:Int) (v:AV) (H:Mem) (hv:SlC H v l) :
  Xaw P cfg T N d 123 [v,.str para,.str own,.int .i64 e,.int .i64 b] H=some (.ret (.int .i64 (Xt8 l para own e b)),H):=by
 obtain ⟨n,rfl⟩ : ∃ k,d=k+6:=⟨d-6,by omega⟩
 obtain ⟨i,er,qc,hne⟩:=check_eq P hcl N (n+5) (by omega) l hN hl v H hv
 unfold Xt8
 cases ok:okP l
 ·rw [ok,Bool.not_false] at hne
  simp only [Ze,if_false]
  refine Xac (m:=36) (v:=.int .i64 0) (a:=?aa) (H1:=H) rfl t123 rfl ?hb ?hd ?hr ?hz
  case hb=>simp only [idx,I123,qc,hne,reduceIte,reduceEqDiff,reduceLT,reduceAdd,reduceMul,reduceLeDiff,ZS]; rfl
  case hd=>rfl
  case hr=>rfl
  case hz=>exact Xaq rfl rfl
 ·rw [ok,Bool.not_true] at hne
  have hB:Xne l:=by
   unfold okP at ok
   simp only [Bool.and_eq_true] at ok
   exact Xoj ok.2.1
  have q1:=Xn0 P hcl N (n+5) (by omega) l (by omega) hl hB 142 St.emph (what_emph P h1 N) para own e v H hv
  have q2:=Xn0 P hcl N (n+5) (by omega) l (by omega) hl hB 143 St.bold (what_bold P h2 N) para own b v H hv
  simp only [if_true]
  cases b1:togB l para own e St.emph <;> cases b2:togB l para own b St.bold <;> rw [b1] at q1 <;> rw [b2] at q2 <;> simp only [Ze,if_false,if_true]
  ·refine Xac (m:=36) (v:=.int .i64 0) (a:=?ab) (H1:=H) rfl t123 rfl ?hb ?hd ?hr ?hz
   case hb=>simp only [idx,I123,qc,hne,q1,q2,reduceIte,reduceEqDiff,reduceLT,reduceAdd,reduceMul,reduceLeDiff,ZS]; rfl
   case hd=>rfl
   case hr=>rfl
   case hz=>exact Xaq rfl rfl
  ·refine Xac (m:=36) (v:=.int .i64 2) (a:=?ac) (H1:=H) rfl t123 rfl ?hb ?hd ?hr ?hz
   case hb=>simp only [idx,I123,qc,hne,q1,q2,reduceIte,reduceEqDiff,reduceLT,reduceAdd,reduceMul,reduceLeDiff,ZS]; rfl
   case hd=>rfl
   case hr=>rfl
   case hz=>exact Xaq rfl rfl
  ·refine Xac (m:=36) (v:=.int .i64 1) (a:=?ad) (H1:=H) rfl t123 rfl ?hb ?hd ?hr ?hz
   case hb=>simp only [idx,I123,qc,hne,q1,q2,reduceIte,reduceEqDiff,reduceLT,reduceAdd,reduceMul,reduceLeDiff,ZS]; rfl
   case hd=>rfl
   case hr=>rfl
   case hz=>exact Xaq rfl rfl
  ·refine Xac (m:=36) (v:=.int .i64 3) (a:=?ae) (H1:=H) rfl t123 rfl ?hb ?hd ?hr ?hz
   case hb=>simp only [idx,I123,qc,hne,q1,q2,reduceIte,reduceEqDiff,reduceLT,reduceAdd,reduceMul,reduceLeDiff,ZS]; rfl
   case hd=>rfl
   case hr=>rfl
   case hz=>exact Xaq rfl rfl
noncomputable def Xh4:IC:=(I83.c.loops).getD 0 .bad
theorem Xtf (P:Program) (F:Xc5) (N:Nat) (s n:List UInt8) (e:El) (hall:e.ats.length≤9223372036854775807) (H:Mem):∀ (fuel k:Nat),k≤e.ats.length→e.ats.length-k<fuel →
  ∃ t M,Xa6 (fun a H=>evI P cfg F N Xh4 a H) (some [1,2,3,8]) fuel ⟨40,[(1,.str s),(2,.str n),(3,.ptr H.length 0 0),(8,.int .i64 k)],[]⟩ (H++[.row (eC e) 0 (25+1)]) =
   (match Xba s n (e.ats.drop k) with
   | some x=>some (.ret,⟨40,(7,.bool true)::(6,.str x)::t,[]⟩,H++M)
   | none=>some (.exit 0,⟨40,t,[]⟩,H++M))
 | 0,k,_,h=>by omega
 | fuel+1,k,hk,hf=>by
  rcases Nat.lt_or_ge k e.ats.length with hlt | hge
  ·obtain ⟨x,hx⟩:=Xbb hlt
   have hget:(e.ats.flatMap atC).drop (k*3)=atC x++(e.ats.drop (k+1)).flatMap atC:=by rw [Xi7,hx]; rfl
   have hlen:k*3+3≤(e.ats.flatMap atC).length:=by rw [Xk3]; omega
   have hi:(k:Int)<(e.ats.length:Int):=by omega
   have hw:=Xav hlt hall
   have hn:=Xan k .i64
   obtain ⟨t,M,ht⟩:=Xtf P F N s n e hall H fuel (k+1) (by omega) (by omega)
   rw [hx]
   cases h1:(x.1 == s) <;> cases h2:(x.2.1 == n)
   ·refine ⟨t,M,?_⟩
    simp only [Xba,h1,h2,ZJ,Ze,if_false]
    refine Xap (by simp only [Xh4,I83,IC.loops,hi,hlt,hlen,hget,hn,hw,h1,h2,reduceSub,reduceIte,reduceEqDiff,reduceLT,reduceAdd,reduceMul,reduceLeDiff,ZS,ZT]; rfl) ?_
    simp only [Xay,reduceIte,reduceEqDiff,reduceAdd,reduceLT,ZV]
    exact ht
   ·refine ⟨t,M,?_⟩
    simp only [Xba,h1,h2,ZI,Ze,if_false]
    refine Xap (by simp only [Xh4,I83,IC.loops,hi,hlt,hlen,hget,hn,hw,h1,h2,reduceSub,reduceIte,reduceEqDiff,reduceLT,reduceAdd,reduceMul,reduceLeDiff,ZS,ZT]; rfl) ?_
    simp only [Xay,reduceIte,reduceEqDiff,reduceAdd,reduceLT,ZV]
    exact ht
   ·refine ⟨t,M,?_⟩
    simp only [Xba,h1,h2,ZD,Ze,if_false]
    refine Xap (by simp only [Xh4,I83,IC.loops,hi,hlt,hlen,hget,hn,hw,h1,h2,reduceSub,reduceIte,reduceEqDiff,reduceLT,reduceAdd,reduceMul,reduceLeDiff,ZS,ZT]; rfl) ?_
    simp only [Xay,reduceIte,reduceEqDiff,reduceAdd,reduceLT,ZV]
    exact ht
   ·simp only [Xba,h1,h2,ZJ,if_true]
    refine ⟨_,_,Xah (by simp only [Xh4,I83,IC.loops,hi,hlt,hlen,hget,hn,hw,h1,h2,reduceSub,reduceIte,reduceEqDiff,reduceLT,reduceAdd,reduceMul,reduceLeDiff,ZS,ZT]; rfl)⟩
  ·have hk':k=e.ats.length:=by omega
   subst hk'
   simp only [List.drop_length,Xba]
   exact ⟨_,_,Xae (by simp only [Xh4,I83,IC.loops,Int.lt_irrefl,reduceSub,reduceIte,reduceEqDiff,reduceLT,reduceAdd,reduceMul,reduceLeDiff,ZS,ZT]; rfl)⟩
theorem Xhb (P:Program) (N n:Nat) (hN:9223372036854775808≤N) (s nm:List UInt8) (e:El) (he:e.ats.length≤9223372036854775807) (H:Mem) :
  Xaw P cfg T N (n+1) 83 [.agg (eC e),.str s,.str nm] H=some (.ret (.tup [.str ((Xba s nm e.ats).getD []),.bool (Xba s nm e.ats).isSome]),H):=by
 obtain ⟨t,M,ht⟩:=Xtf P (Xaw P cfg T N n) N s nm e he H N 0 (Nat.zero_le _) (by omega)
 rw [List.drop_zero] at ht
 cases hf:Xba s nm e.ats with
 | some x =>
  rw [hf] at ht
  simp only [Option.getD_some,Option.isSome_some]
  refine Xac (m:=40) (v:=.tup [.str x,.bool true]) (a:=?a) (H1:=?H1) rfl t83 rfl ?hb ?hd ?hr ?hz
  case hb =>
   apply Xaa
   ·simp only [idx,I83,reduceSub,reduceIte,reduceEqDiff,reduceLT,reduceAdd,reduceMul,reduceLeDiff,ZS,ZT]; rfl
   apply Xau
   apply Xaa
   ·simp only [reduceSub,reduceIte,reduceEqDiff,reduceLT,reduceAdd,reduceMul,reduceLeDiff,ZS,ZT]; rfl
   apply Xam
   apply Xaf
   exact ht
  case hd=>rfl
  case hr=>simp only [I83,Xc6,Xbc,reduceIte,reduceEqDiff,reduceLT,reduceAdd,reduceMul,reduceLeDiff,ZS]
  case hz=>simp only [Xao,cfg,keep,Ze,if_false,frz,Xel,Xay,kC_low,Xa8,Zh,reduceIte,reduceEqDiff,reduceAdd,reduceLT,ZV]
 | none =>
  rw [hf] at ht
  simp only [Option.getD_none,Option.isSome_none]
  refine Xac (m:=40) (v:=.tup [.str [],.bool false]) (a:=?a2) (H1:=?H2) rfl t83 rfl ?hb ?hd ?hr ?hz
  case hb =>
   apply Xaa
   ·simp only [idx,I83,reduceSub,reduceIte,reduceEqDiff,reduceLT,reduceAdd,reduceMul,reduceLeDiff,ZS,ZT]; rfl
   apply Xaa
   ·apply Xaa
    ·simp only [reduceSub,reduceIte,reduceEqDiff,reduceLT,reduceAdd,reduceMul,reduceLeDiff,ZS,ZT]; rfl
    apply Xab
    apply Xaf
    exact ht
   apply Xaa
   ·simp only [reduceIte,reduceEqDiff,reduceLT,reduceAdd,reduceMul,reduceLeDiff,ZS]; rfl
   rfl
  case hd=>rfl
  case hr=>simp only [I83,Xc6,Xbc,reduceIte,reduceEqDiff,reduceLT,reduceAdd,reduceMul,reduceLeDiff,ZS]
  case hz=>simp only [Xao,cfg,keep,Ze,if_false,frz,Xel,Xay,kC_low,Xa8,Zh,reduceIte,reduceEqDiff,reduceAdd,reduceLT,ZV]
noncomputable def Xga:IC:=(I52.c.loops).getD 0 .bad
theorem Xpd (P:Program) (F:Xc5) (N:Nat) (s n:List UInt8) (e:El) (hall:e.kids.length≤9223372036854775807) (H:Mem):∀ (fuel k:Nat),k≤e.kids.length→e.kids.length-k<fuel →
  ∃ t,Xa6 (fun a H=>evI P cfg F N Xga a H) (some [1,2,3,6,8]) fuel ⟨40,[(1,.str s),(2,.str n),(3,.ptr H.length 0 0),(6,.ptr (H.length+1) 0 0),(8,.int .i64 k)],[]⟩ (H++[.row (eC e) 0 (25+1),.row [.str [],.str [],.str [],.nilS,.nilS] 0 (25+1)]) =
   (match Xbg s n (e.kids.drop k) with
   | some x=>some (.ret,⟨40,(7,.bool true)::t,[]⟩,H++[.row (eC e) 0 (25+1),.row (eC x) 0 (25+1)])
   | none=>some (.exit 0,⟨40,t,[]⟩,H++[.row (eC e) 0 (25+1),.row [.str [],.str [],.str [],.nilS,.nilS] 0 (25+1)]))∧Xad t 6=.ptr (H.length+1) 0 0
 | 0,k,_,h=>by omega
 | fuel+1,k,hk,hf=>by
  rcases Nat.lt_or_ge k e.kids.length with hlt | hge
  ·obtain ⟨x,hx⟩:=Xbb hlt
   have hget:(kC e.kids).drop (k*5)=eC x++kC (e.kids.drop (k+1)):=by rw [Xd1,hx]; rfl
   have hlen:k*5+5≤(kC e.kids).length:=by rw [Xen]; omega
   have hi:(k:Int)<(e.kids.length:Int):=by omega
   have hw:=Xav hlt hall
   have hn:=Xan k .i64
   obtain ⟨t,ht,hl⟩:=Xpd P F N s n e hall H fuel (k+1) (by omega) (by omega)
   rw [hx]
   cases h1:(x.sp == s) <;> cases h2:(x.nm == n)
   ·refine ⟨t,?_,hl⟩
    simp only [Xbg,h1,h2,ZJ,Ze,if_false]
    refine Xap (by simp only [Xga,I52,IC.loops,hi,hlt,hlen,hget,hn,hw,h1,h2,reduceSub,reduceIte,reduceEqDiff,reduceLT,reduceAdd,reduceMul,reduceLeDiff,ZS,ZT]; rfl) ?_
    simp only [Xay,reduceIte,reduceEqDiff,reduceAdd,reduceLT,ZV]
    exact ht
   ·refine ⟨t,?_,hl⟩
    simp only [Xbg,h1,h2,ZI,Ze,if_false]
    refine Xap (by simp only [Xga,I52,IC.loops,hi,hlt,hlen,hget,hn,hw,h1,h2,reduceSub,reduceIte,reduceEqDiff,reduceLT,reduceAdd,reduceMul,reduceLeDiff,ZS,ZT]; rfl) ?_
    simp only [Xay,reduceIte,reduceEqDiff,reduceAdd,reduceLT,ZV]
    exact ht
   ·refine ⟨t,?_,hl⟩
    simp only [Xbg,h1,h2,ZD,Ze,if_false]
    refine Xap (by simp only [Xga,I52,IC.loops,hi,hlt,hlen,hget,hn,hw,h1,h2,reduceSub,reduceIte,reduceEqDiff,reduceLT,reduceAdd,reduceMul,reduceLeDiff,ZS,ZT]; rfl) ?_
    simp only [Xay,reduceIte,reduceEqDiff,reduceAdd,reduceLT,ZV]
    exact ht
   ·simp only [Xbg,h1,h2,ZJ,if_true]
    refine ⟨_,Xah (by simp only [Xga,I52,IC.loops,hi,hlt,hlen,hget,hn,hw,h1,h2,reduceSub,reduceIte,reduceEqDiff,reduceLT,reduceAdd,reduceMul,reduceLeDiff,ZS,ZT]; rfl),?_⟩
    rfl
  ·have hk':k=e.kids.length:=by omega
   subst hk'
   simp only [List.drop_length,Xbg]
   exact ⟨_,Xae (by simp only [Xga,I52,IC.loops,Int.lt_irrefl,reduceSub,reduceIte,reduceEqDiff,reduceLT,reduceAdd,reduceMul,reduceLeDiff,ZS,ZT]; rfl),rfl⟩
theorem rfind_eq (P:Program) (N n:Nat) (hN:9223372036854775808≤N) (s nm:List UInt8) (e:El) (he:e.kids.length≤9223372036854775807) (H:Mem) :
  Xaw P cfg T N (n+1) 52 [.agg (eC e),.str s,.str nm] H=some (.ret (.tup [.agg (eC ((Xbg s nm e.kids).getD zEl)),.bool (Xbg s nm e.kids).isSome]),H):=by
 obtain ⟨t,ht,h6⟩:=Xpd P (Xaw P cfg T N n) N s nm e he H N 0 (Nat.zero_le _) (by omega)
 rw [List.drop_zero] at ht
 cases hf:Xbg s nm e.kids with
 | some x =>
  rw [hf] at ht
  simp only [Option.getD_some,Option.isSome_some]
  refine Xac (m:=40) (v:=.tup [.agg (eC x),.bool true]) (a:=?a) (H1:=?H1) rfl t52 rfl ?hb ?hd ?hr ?hz
  case hb =>
   apply Xaa
   ·simp only [idx,I52,reduceSub,reduceIte,reduceEqDiff,reduceLT,reduceAdd,reduceMul,reduceLeDiff,ZS,ZT]; rfl
   apply Xau
   apply Xaa
   ·simp only [reduceSub,reduceIte,reduceEqDiff,reduceLT,reduceAdd,reduceMul,reduceLeDiff,ZS,ZT]; rfl
   apply Xam
   apply Xaf
   exact ht
  case hd=>rfl
  case hr=>simp only [I52,Xc6,Xbc,h6,reduceSub,reduceIte,reduceEqDiff,reduceLT,reduceAdd,reduceMul,reduceLeDiff,ZS,ZT]
  case hz=>simp only [Xao,Xdo,cfg,keep,Ze,if_false,frz,Xel,Xay,kC_low,Xa8,Zh,reduceIte,reduceEqDiff,reduceAdd,reduceLT,ZV]
 | none =>
  rw [hf] at ht
  simp only [Option.getD_none,Option.isSome_none]
  refine Xac (m:=40) (v:=.tup [.agg [.str [],.str [],.str [],.nilS,.nilS],.bool false]) (a:=?a2) (H1:=?H2) rfl t52 rfl ?hb ?hd ?hr ?hz
  case hb =>
   apply Xaa
   ·simp only [idx,I52,reduceSub,reduceIte,reduceEqDiff,reduceLT,reduceAdd,reduceMul,reduceLeDiff,ZS,ZT]; rfl
   apply Xaa
   ·apply Xaa
    ·simp only [reduceSub,reduceIte,reduceEqDiff,reduceLT,reduceAdd,reduceMul,reduceLeDiff,ZS,ZT]; rfl
    apply Xab
    apply Xaf
    exact ht
   apply Xaa
   ·simp only [h6,reduceIte,reduceEqDiff,reduceLT,reduceAdd,reduceMul,reduceLeDiff,ZS]; rfl
   rfl
  case hd=>rfl
  case hr=>simp only [I52,Xc6,Xbc,h6,reduceIte,reduceEqDiff,reduceLT,reduceAdd,reduceMul,reduceLeDiff,ZS]
  case hz =>
   simp only [Xao,cfg,keep,Ze,if_false,frz,Xel,Xay,kC_low,Xa8,Zh,reduceIte,reduceEqDiff,reduceAdd,reduceLT,ZV]
   rfl
theorem Xfl (P:Program) (N n:Nat) (hN:9223372036854775808≤N) (nm:List UInt8) (e:El) (he:Fits e) (H:Mem) :
  Xaw P cfg T N (n+2) 29 [.agg (eC e),.str nm] H=some (.ret (.tup [.agg (eC (kidOf e nm)),.bool (Xbg wNs nm e.kids).isSome]),H):=by
 have hg:=fun H=>rfind_eq P N n hN wNs nm e he.len H
 simp only [wNs] at hg
 refine Xac (m:=11) (v:=.tup [.agg (eC (kidOf e nm)),.bool (Xbg wNs nm e.kids).isSome]) (a:=?a) (H1:=?H1) rfl t29 rfl ?hb ?hd ?hr ?hz
 case hb=>simp only [idx,I29,hg,reduceSub,reduceIte,reduceEqDiff,reduceLT,reduceAdd,reduceMul,reduceLeDiff,ZS,ZT]; rfl
 case hd=>rfl
 case hr=>simp only [I29,Xc6,Xbc,kidOf,wNs,reduceSub,reduceIte,reduceEqDiff,reduceLT,reduceAdd,reduceMul,reduceLeDiff,ZS,ZT]
 case hz=>simp only [Xao,Xdo,cfg,keep,Ze,if_false,frz,Xel,Xay,kC_low,Xa8,Zh,reduceIte,reduceEqDiff,reduceAdd,reduceLT,ZV]
theorem Xmy (P:Program) (N n:Nat) (hN:9223372036854775808≤N) (nm:List UInt8) (e:El) (he:Fits e) (H:Mem) :
  Xaw P cfg T N (n+3) 55 [.agg (eC e),.str nm] H=some (.ret (.str (Xbf e nm)),H):=by
 have hk:=fun H=>Xfl P N n hN nm e he H
 have ha:=fun H=>Xhb P N (n+1) hN wNs Xoo (kidOf e nm) (he.found _ _).ats H
 simp only [Xoo,wNs] at ha
 refine Xac (m:=21) (v:=.str (Xbf e nm)) (a:=?a) (H1:=?H1) rfl t55 rfl ?hb ?hd ?hr ?hz
 case hb=>simp only [idx,I55,hk,ha,reduceSub,reduceIte,reduceEqDiff,reduceLT,reduceAdd,reduceMul,reduceLeDiff,ZS,ZT]; rfl
 case hd=>rfl
 case hr=>simp only [I55,Xc6,Xbc,Xbf,Xc2,Xoo,wNs,reduceIte,reduceEqDiff,reduceLT,reduceAdd,reduceMul,reduceLeDiff,ZS]
 case hz=>simp only [Xao,cfg,keep,Ze,if_false,frz,Xel,Xay,kC_low,Xa8,Zh,reduceIte,reduceEqDiff,reduceAdd,reduceLT,ZV]
def offV (v:List UInt8):Bool:=v == [48] || (v == [102,97,108,115,101] || v == [111,102,102])
def Xg2 (e:El) (nm:List UInt8):Int:=match Xbg wNs nm e.kids with
 | none=>0
 | some x=>if offV (Xc2 x Xoo)=true then 2 else 1
theorem Xrm (P:Program) (N n:Nat) (hN:9223372036854775808≤N) (nm:List UInt8) (e:El) (he:Fits e) (H:Mem) :
  Xaw P cfg T N (n+3) 45 [.agg (eC e),.str nm] H=some (.ret (.int .i64 (Xg2 e nm)),H):=by
 have hg:=fun H=>Xua P N (n+1) hN wNs nm e he.len H
 have ha:=fun H=>Xuv P N n hN Xoo ((Xbg wNs nm e.kids).getD zEl) (he.found _ _) H
 unfold Xg2
 cases hf:Xbg wNs nm e.kids with
 | none =>
  rw [hf] at hg
  simp only [Option.getD_none,Option.isSome_none,wNs] at hg
  refine Xac (m:=21) (v:=.int .i64 0) (a:=?a) (H1:=?H1) rfl t45 rfl ?hb ?hd ?hr ?hz
  case hb=>simp only [idx,I45,hg,reduceSub,reduceIte,reduceEqDiff,reduceLT,reduceAdd,reduceMul,reduceLeDiff,ZS,ZT]; rfl
  case hd=>rfl
  case hr=>rfl
  case hz=>exact Xa4 (v:=.int .i64 _) rfl rfl
 | some x =>
  rw [hf] at hg ha
  simp only [Option.getD_some,Option.isSome_some] at hg ha
  show _=some (End.ret (.int .i64 (if offV (Xc2 x Xoo)=true then 2 else 1)),H)
  generalize Xc2 x Xoo=v at *
  unfold offV
  simp only [Xoo,wNs] at ha hg
  cases h1:(v == [48])
  ·cases h2:(v == [102,97,108,115,101])
   ·cases h3:(v == [111,102,102])
    ·refine Xac (m:=21) (v:=.int .i64 1) (a:=?a2) (H1:=?H2) rfl t45 rfl ?hb ?hd ?hr ?hz
     case hb=>simp only [idx,I45,hg,ha,h1,h2,h3,reduceSub,reduceIte,reduceEqDiff,reduceLT,reduceAdd,reduceMul,reduceLeDiff,ZS,ZT]; rfl
     case hd=>rfl
     case hr=>rfl
     case hz=>exact Xa4 (v:=.int .i64 _) rfl rfl
    ·refine Xac (m:=21) (v:=.int .i64 2) (a:=?a3) (H1:=?H3) rfl t45 rfl ?hb ?hd ?hr ?hz
     case hb=>simp only [idx,I45,hg,ha,h1,h2,h3,reduceSub,reduceIte,reduceEqDiff,reduceLT,reduceAdd,reduceMul,reduceLeDiff,ZS,ZT]; rfl
     case hd=>rfl
     case hr=>rfl
     case hz=>exact Xa4 (v:=.int .i64 _) rfl rfl
   ·refine Xac (m:=21) (v:=.int .i64 2) (a:=?a4) (H1:=?H4) rfl t45 rfl ?hb ?hd ?hr ?hz
    case hb=>simp only [idx,I45,hg,ha,h1,h2,reduceSub,reduceIte,reduceEqDiff,reduceLT,reduceAdd,reduceMul,reduceLeDiff,ZS,ZT]; rfl
    case hd=>rfl
    case hr=>rfl
    case hz=>exact Xa4 (v:=.int .i64 _) rfl rfl
  ·refine Xac (m:=21) (v:=.int .i64 2) (a:=?a5) (H1:=?H5) rfl t45 rfl ?hb ?hd ?hr ?hz
   case hb=>simp only [idx,I45,hg,ha,h1,reduceSub,reduceIte,reduceEqDiff,reduceLT,reduceAdd,reduceMul,reduceLeDiff,ZS,ZT]; rfl
   case hd=>rfl
   case hr=>rfl
   case hz=>exact Xa4 (v:=.int .i64 _) rfl rfl
theorem Xnz (P:Program) (N n:Nat) (hN:9223372036854775808≤N) (nm:List UInt8) (e:El) (he:Fits e) (H:Mem) :
  Xaw P cfg T N (n+3) 132 [.agg (eC e),.str nm] H=some (.ret (.int .i64 (Xg2 e nm)),H):=by
 have hg:=fun H=>Xfl P N n hN nm e he H
 have ha:=fun H=>Xhb P N (n+1) hN wNs Xoo (kidOf e nm) (he.found _ _).ats H
 have hav:(Xba wNs Xoo (kidOf e nm).ats).getD []=Xc2 (kidOf e nm) Xoo:=rfl
 rw [hav] at ha
 generalize (Xba wNs Xoo (kidOf e nm).ats).isSome=gs at ha
 unfold kidOf at hg ha
 unfold Xg2
 cases hf:Xbg wNs nm e.kids with
 | none =>
  rw [hf] at hg
  simp only [Option.getD_none,Option.isSome_none] at hg
  refine Xac (m:=32) (v:=.int .i64 0) (a:=?a) (H1:=?H1) rfl t132 rfl ?hb ?hd ?hr ?hz
  case hb=>simp only [idx,I132,hg,reduceSub,reduceIte,reduceEqDiff,reduceLT,reduceAdd,reduceMul,reduceLeDiff,ZS,ZT]; rfl
  case hd=>rfl
  case hr=>rfl
  case hz=>exact Xa4 (v:=.int .i64 _) rfl rfl
 | some x =>
  rw [hf] at hg ha
  simp only [Option.getD_some,Option.isSome_some] at hg ha
  show _=some (End.ret (.int .i64 (if offV (Xc2 x Xoo)=true then 2 else 1)),H)
  generalize Xc2 x Xoo=v at *
  unfold offV
  simp only [Xoo,wNs] at ha
  cases h1:(v == [48])
  ·cases h2:(v == [102,97,108,115,101])
   ·cases h3:(v == [111,102,102])
    ·refine Xac (m:=32) (v:=.int .i64 1) (a:=?a2) (H1:=?H2) rfl t132 rfl ?hb ?hd ?hr ?hz
     case hb=>simp only [idx,I132,hg,ha,h1,h2,h3,reduceSub,reduceIte,reduceEqDiff,reduceLT,reduceAdd,reduceMul,reduceLeDiff,ZS,ZT]; rfl
     case hd=>rfl
     case hr=>rfl
     case hz=>exact Xa4 (v:=.int .i64 _) rfl rfl
    ·refine Xac (m:=32) (v:=.int .i64 2) (a:=?a3) (H1:=?H3) rfl t132 rfl ?hb ?hd ?hr ?hz
     case hb=>simp only [idx,I132,hg,ha,h1,h2,h3,reduceSub,reduceIte,reduceEqDiff,reduceLT,reduceAdd,reduceMul,reduceLeDiff,ZS,ZT]; rfl
     case hd=>rfl
     case hr=>rfl
     case hz=>exact Xa4 (v:=.int .i64 _) rfl rfl
   ·refine Xac (m:=32) (v:=.int .i64 2) (a:=?a4) (H1:=?H4) rfl t132 rfl ?hb ?hd ?hr ?hz
    case hb=>simp only [idx,I132,hg,ha,h1,h2,reduceSub,reduceIte,reduceEqDiff,reduceLT,reduceAdd,reduceMul,reduceLeDiff,ZS,ZT]; rfl
    case hd=>rfl
    case hr=>rfl
    case hz=>exact Xa4 (v:=.int .i64 _) rfl rfl
  ·refine Xac (m:=32) (v:=.int .i64 2) (a:=?a5) (H1:=?H5) rfl t132 rfl ?hb ?hd ?hr ?hz
   case hb=>simp only [idx,I132,hg,ha,h1,reduceSub,reduceIte,reduceEqDiff,reduceLT,reduceAdd,reduceMul,reduceLeDiff,ZS,ZT]; rfl
   case hd=>rfl
   case hr=>rfl
   case hz=>exact Xa4 (v:=.int .i64 _) rfl rfl
end Go.Proofs.YtmhhddhbdbcmbaaGreatDoor.Ev
