/- Parts of one proof. -/
import Derived.Test.YtmhhddhbdbcmbaaGreatDoorMde
set_option linter.all false
namespace Go.Proofs.YtmhhddhbdbcmbaaGreatDoor.Ev
open Nat (reduceEqDiff reduceLT reduceAdd reduceMul reduceLeDiff reduceSub)
open Go.Proofs.YtmhhddhbdbcmbaaGreatDoor.Ic
set_option maxRecDepth 100000
set_option maxHeartbeats 4000000
theorem Xmi {body:AAct→Mem→Option (Out × AAct × Mem)} {lv:List Tmp} {n:Nat} {a a':AAct} {H H':Mem} {Q:Out × AAct × Mem→Prop} (h:body a H=some (.normal,a',H'))
  (h2:∀ M',(M'=H'∨(M'=H'.take H.length∧Xce H H'=true))→∃ r,Xa6 body (some lv) n (a'.keepT lv) M'=some r∧Q r):∃ r,Xa6 body (some lv) (n+1) a H=some r∧Q r:=by
 rw [Xdj,h]
 simp only [Xbk]
 split
 ·rename_i hc
  simp only [Bool.and_eq_true] at hc
  exact h2 _ (.inr ⟨rfl,hc.2⟩)
 ·exact h2 _ (.inl rfl)
theorem Xqp (A L L':Mem) (x y x' y':AV):(A++bB x' y'::L').take (A++bB x y::L).length=A++bB x' y'::L'.take L.length:=by
 rw [List.length_append,List.take_length_add_append,List.length_cons,List.take_succ_cons]
theorem bld_cut {A L L':Mem} {x y x' y':AV} {s s':List UInt8} (h:Xwm A.length L x y s) (h':Xwm A.length L' x' y' s') (hc:Xce (A++bB x y::L) (A++bB x' y'::L')=true):Xwm A.length (L'.take L.length) x' y' s':=by
 rcases h' with h' | ⟨j,st,h1,h2,h3,h4⟩
 ·exact .inl h'
 have hj:j<L.length:=by
  unfold Xce at hc
  rw [Xqp,Bool.or_eq_true] at hc
  rcases hc with hc | hc
  ·have e:=Xfh hc
   have e1:=congrArg (fun M:Mem=>M[A.length]?) e
   simp only [Xfr] at e1
   have e2:bB x' y'=bB x y:=by simpa using e1
   injection e2 with e2
   simp only [List.cons.injEq] at e2
   rw [h2] at e2
   rcases h with ⟨_,h5,_⟩ | ⟨j',st',_,h5,h6,_⟩
   ·rw [h5] at e2; cases e2.2.1
   ·rw [h5] at e2
    have:=e2.2.1
    injection this with this
    have hj':=(List.getElem?_eq_some_iff.1 h6).1
    omega
  ·unfold Xb6 at hc
   rw [List.all_append,List.all_cons] at hc
   simp only [Bool.and_eq_true] at hc
   have hb:=hc.2.1
   rw [h2] at hb
   simp only [Xcn,lowL,low,Bool.and_eq_true,decide_eq_true_eq] at hb
   have:=hb.2.1
   simp only [Zg,Zf] at this
   omega
 exact .inr ⟨j,st,h1,h2,by rw [List.getElem?_take_of_lt hj]; exact h3,h4⟩
def Xmh:List UInt8:=[48,49,50,51,52,53,54,55,56,57,97,98,99,100,101,102,65,66,67,68,69,70]
theorem hexes_in (c:UInt8):Xmh.contains c=Xc1 c:=by
 have g:∀ x:Fin 256,Xmh.contains (UInt8.ofNat x.val)=Xc1 (UInt8.ofNat x.val):=by decide +kernel
 have:=g ⟨c.toNat,c.toNat_lt⟩
 rwa [UInt8.ofNat_toNat] at this
theorem Xle {p:UInt8→Bool}:∀ {l:List UInt8},l.dropWhile p=[]↔l.all p=true
 | []=>by simp
 | c::l=>by
  rw [List.dropWhile_cons,List.all_cons]
  cases h:p c
  ·simp
  ·simp only [if_true,ZH]; exact Xle
theorem trim_none (l:List UInt8):(Lib.trimS l Xmh == [])=l.all Xc1:=by
 have hp:(fun b=>Xmh.contains b)=Xc1:=funext hexes_in
 unfold Lib.trimS Lib.trimLeftS Lib.trimRightS
 rw [hp]
 cases h:l.all Xc1
 ·refine beq_false_of_ne fun e=>?_
  have h1:=Xle.1 e
  rw [List.all_reverse] at h1
  have h2:l.reverse.dropWhile Xc1=[]:=by
   cases hd:l.reverse.dropWhile Xc1 with
   | nil=>rfl
   | cons c r =>
    exfalso
    have h3:=List.head?_dropWhile_not Xc1 l.reverse
    rw [hd] at h3 h1
    simp at h3 h1
    rw [h1.1] at h3
    cases h3
  have h3:=Xle.1 h2
  rw [List.all_reverse,h] at h3
  cases h3
 ·have h1:l.reverse.dropWhile Xc1=[]:=Xle.2 (by rw [List.all_reverse]; exact h)
  rw [h1]; rfl
def Xg3 (x:List UInt8):Bool:=decide (7≤x.length) && ((x.take 2 == [95,120]) && ((x.getD 6 0 == 95) && ((x.drop 2).take 4).all Xc1))
def Xoa (r:Nat):Nat:=if r<55296∨57343<r then r else 65533
def Xkv:Nat→List UInt8→List UInt8
 | 0,_=>[]
 | _+1,[]=>[]
 | n+1,c::r=>if Xg3 (c::r)=true then Xj8 (Xoa (Xnh (((c::r).drop 2).take 4)))++Xkv n ((c::r).drop 7) else c::Xkv n r
def Xc4 (s:List UInt8):List UInt8:=Xkv s.length s
theorem Xey:∀ (n m:Nat) (s:List UInt8),s.length≤n→s.length≤m→Xkv n s=Xkv m s
 | 0,0,_,_,_=>rfl
 | 0,m+1,s,h,_=>by
  have:s=[]:=List.eq_nil_of_length_eq_zero (by omega)
  subst this; rfl
 | n+1,0,s,_,h=>by
  have:s=[]:=List.eq_nil_of_length_eq_zero (by omega)
  subst this; rfl
 | n+1,m+1,[],_,_=>rfl
 | n+1,m+1,c::r,h1,h2=>by
  unfold Xkv
  simp only [Zf] at h1 h2
  rw [Xey n m r (by omega) (by omega),Xey n m ((c::r).drop 7) (by rw [List.length_drop,List.length_cons]; omega) (by rw [List.length_drop,List.length_cons]; omega)]
theorem Xh2 (n:Nat) (c:UInt8) (r:List UInt8):Xkv (n+1) (c::r)=if Xg3 (c::r)=true then Xj8 (Xoa (Xnh (((c::r).drop 2).take 4)))++Xkv n ((c::r).drop 7) else c::Xkv n r:=rfl
theorem fixR_ok (r:Nat) (h:r<65536):Xoa r<65536∧(Xoa r<55296∨57343<Xoa r):=by
 unfold Xoa
 split <;> omega
section
variable {N:Nat}
theorem validR_eq (n:Nat) (H:Mem) (r:Nat) (h:r<65536):Xaw Tryz.prog cfg T N (n+1) 74 [.int .i32 r] H=some (.ret (.bool (decide (r<55296∨57343<r))),H):=by
 have c1:decide ((0:Int)≤(r:Int))=true:=decide_eq_true (by omega)
 rcases Nat.lt_or_ge r 55296 with h1 | h1
 ·have c2:decide ((r:Int)<55296)=true:=decide_eq_true (by omega)
  rw [decide_eq_true (Or.inl h1)]
  refine Xac (m:=17) (v:=.bool true) (a:=?aa) (H1:=H) rfl t74 rfl ?hb ?hd ?hr ?hz
  case hb=>simp only [idx,I74,c1,c2,reduceIte,reduceEqDiff,reduceLT,reduceAdd,reduceMul,reduceLeDiff,ZS]; rfl
  case hd=>rfl
  case hr=>rfl
  case hz=>exact Xaq rfl rfl
 ·have c2:decide ((r:Int)<55296)=false:=decide_eq_false (by omega)
  rcases Nat.lt_or_ge 57343 r with h2 | h2
  ·have c3:decide ((57343:Int)<(r:Int))=true:=decide_eq_true (by omega)
   have c4:decide ((r:Int)≤1114111)=true:=decide_eq_true (by omega)
   rw [decide_eq_true (Or.inr h2)]
   refine Xac (m:=17) (v:=.bool true) (a:=?ab) (H1:=H) rfl t74 rfl ?hb ?hd ?hr ?hz
   case hb=>simp only [idx,I74,c1,c2,c3,c4,reduceIte,reduceEqDiff,reduceLT,reduceAdd,reduceMul,reduceLeDiff,ZS]; rfl
   case hd=>rfl
   case hr=>rfl
   case hz=>exact Xaq rfl rfl
  ·have c3:decide ((57343:Int)<(r:Int))=false:=decide_eq_false (by omega)
   rw [decide_eq_false (by omega)]
   refine Xac (m:=17) (v:=.bool false) (a:=?ac) (H1:=H) rfl t74 rfl ?hb ?hd ?hr ?hz
   case hb=>simp only [idx,I74,c1,c2,c3,reduceIte,reduceEqDiff,reduceLT,reduceAdd,reduceMul,reduceLeDiff,ZS]; rfl
   case hd=>rfl
   case hr=>rfl
   case hz=>exact Xaq rfl rfl
theorem trim_lib (n:Nat) (s c:List UInt8) (h:s.length≤9223372036854775807) (hc:c.length≤4294967280) (ha:c.all (fun b=>decide (b.toNat<128))=true) (H:Mem):Xaw Tryz.prog cfg T N (n+1) 66 [.str s,.str c] H=some (.ret (.str (Lib.trimS s c)),H):=by
 have hl:cfg.lib 66=some Xp5:=rfl
 simp only [Xaw,hl,Xp5,h,hc,ha,and_self,if_true,Zh]
def IC.nb:Nat→IC→IC
 | 0,c=>c
 | k+1,.seq _ c=>IC.nb k c
 | _+1,c=>c
def IC.hd:IC→IC
 | .seq x _=>x
 | c=>c
def IC.inn:IC→IC
 | .block _ c=>c
 | c=>c
noncomputable def Xkh:IC:=(I51.c.loops).getD 0 .bad
noncomputable def Xtt:IC:=((IC.inn (Xkh.nb 1)).hd.nb 1).hd
theorem cond_un (n:Nat) (X:List UInt8) (hX:X.length<1073741824) (M:Mem) (t0:List (Nat × AV)) (a0 a3 a4:AV) (l0:Xad t0 0=a0) (l3:Xad t0 3=a3) (l4:Xad t0 4=a4) (l5:Xad t0 5=.str X) :
  ∃ t,Xad t 0=a0∧Xad t 3=a3∧Xad t 4=a4∧Xad t 5=.str X∧Xad t 34=.bool (Xg3 X)∧evI Tryz.prog cfg (Xaw Tryz.prog cfg T N (n+1)) N Xtt ⟨57,t0,[]⟩ M=some (.normal,⟨57,t,[]⟩,M):=by
 have n2:Xfb (.int .i64 2)=some 2:=rfl
 have n6:Xfb (.int .i64 6)=some 6:=rfl
 unfold Xg3
 rcases Nat.lt_or_ge X.length 7 with h7 | h7
 ·have c1:decide ((X.length:Int) ≥ 7)=false:=decide_eq_false (by omega)
  rw [decide_eq_false (by omega),Bool.false_and]
  refine ⟨?ta,?a0,?a3,?a4,?a5,?a34,?am⟩
  case am=>simp only [Xtt,Xkh,I51,IC.loops,IC.nb,IC.hd,IC.inn,l5,c1,reduceIte,reduceEqDiff,reduceLT,reduceAdd,reduceMul,reduceLeDiff,ZS]; rfl
  case a0=>exact l0
  case a3=>exact l3
  case a4=>exact l4
  case a5=>exact l5
  case a34=>rfl
 have c1:decide ((X.length:Int) ≥ 7)=true:=decide_eq_true (by omega)
 have k2:2≤X.length:=by omega
 have k6:6≤X.length:=by omega
 have e2:(2:Nat)-0=2:=rfl
 have e4:(6:Nat)-2=4:=rfl
 rw [decide_eq_true h7,Bool.true_and]
 cases c2:(X.take 2 == [95,120])
 ·rw [Bool.false_and]
  refine ⟨?tb,?b0,?b3,?b4,?b5,?b34,?bm⟩
  case bm=>simp only [Xtt,Xkh,I51,IC.loops,IC.nb,IC.hd,IC.inn,l5,c1,c2,Xdn,n2,k2,e2,reduceIte,reduceEqDiff,reduceLT,reduceAdd,reduceMul,reduceLeDiff,ZS]; rfl
  case b0=>exact l0
  case b3=>exact l3
  case b4=>exact l4
  case b5=>exact l5
  case b34=>rfl
 rw [Bool.true_and]
 obtain ⟨d,hd⟩ : ∃ d,X[6]? = some d:=⟨X[6],List.getElem?_eq_getElem (by omega)⟩
 have hd2:X.getD 6 0=d:=by rw [List.getD_eq_getElem?_getD,hd]; rfl
 rw [hd2]
 have c3:((d.toNat:Int) == 95)=(d == 95):=by
  by_cases h:d=95
  ·subst h; rfl
  ·rw [beq_false_of_ne h]
   refine beq_false_of_ne fun e=>h ?_
   have:d.toNat=95:=by omega
   exact UInt8.toNat_inj.1 this
 cases c4:(d == 95)
 ·rw [c4] at c3
  rw [Bool.false_and]
  refine ⟨?tc,?c0,?c3,?c4,?c5,?c34,?cm⟩
  case cm=>simp only [Xtt,Xkh,I51,IC.loops,IC.nb,IC.hd,IC.inn,l5,c1,c2,c3,hd,Xdn,n2,n6,k2,e2,reduceIte,reduceEqDiff,reduceLT,reduceAdd,reduceMul,reduceLeDiff,ZS]; rfl
  case c0=>exact l0
  case c3=>exact l3
  case c4=>exact l4
  case c5=>exact l5
  case c34=>rfl
 rw [c4] at c3
 rw [Bool.true_and,← trim_none]
 have hT:=fun H=>trim_lib (N:=N) n ((X.drop 2).take 4) Xmh (by rw [List.length_take]; omega) (by decide) (by decide) H
 generalize Lib.trimS ((X.drop 2).take 4) Xmh=tr at *
 simp only [Xmh] at hT
 refine ⟨?td,?d0,?d3,?d4,?d5,?d34,?dm⟩
 case dm=>simp only [Xtt,Xkh,I51,IC.loops,IC.nb,IC.hd,IC.inn,l5,c1,c2,c3,hd,Xdn,n2,n6,k2,k6,e2,e4,hT,reduceIte,reduceEqDiff,reduceLT,reduceAdd,reduceMul,reduceLeDiff,ZS]; rfl
 case d0=>exact l0
 case d3=>exact l3
 case d4=>exact l4
 case d5=>exact l5
 case d34=>rfl
def UnEnd (H:Mem) (out:List UInt8):Out × AAct × Mem→Prop
 | (o,a,M)=>o=.exit 0∧a.n=57∧a.d=[]∧Xad a.t 3=.ptr H.length 0 0∧∃ x y L,M=H++bB x y::L∧Xwm H.length L x y out
theorem Xlt (n:Nat) (s:List UInt8) (hl:s.length<1073741824) (hN:8<N) (H:Mem):∀ (fuel i:Nat) (L:Mem) (x y:AV) (out:List UInt8),i≤s.length→s.length-i<fuel→out.length≤i→Xwm H.length L x y out →
  ∃ r,Xa6 (fun a H=>evI Tryz.prog cfg (Xaw Tryz.prog cfg T N (n+5)) N Xkh a H) (some [0,3,4]) fuel ⟨57,[(0,.str s),(3,.ptr H.length 0 0),(4,.int .i64 i)],[]⟩ (H++bB x y::L)=some r∧UnEnd H (out++Xc4 (s.drop i)) r
 | 0,i,_,_,_,_,_,h,_,_=>by omega
 | fuel+1,i,L,x,y,out,hi,hf,ho,hB=>by
  rcases Nat.lt_or_ge i s.length with hlt | hge
  ·obtain ⟨c,hc⟩:=Xbb hlt
   have hil:decide ((i:Int)<(s.length:Int))=true:=decide_eq_true (by omega)
   have hn:=Xan i .i64
   have n0:Xfb (.int .i64 0)=some 0:=rfl
   have n2:Xfb (.int .i64 2)=some 2:=rfl
   have n6:Xfb (.int .i64 6)=some 6:=rfl
   have tk:(s.drop i).take (s.length-i)=s.drop i:=List.take_of_length_le (by rw [List.length_drop]; exact Nat.le_refl _)
   have hle:i≤s.length:=by omega
   have hget:s[i]? = some c:=by
    have h0:(s.drop i)[0]? = some c:=by rw [hc]; rfl
    rw [List.getElem?_drop,Nat.add_zero] at h0
    exact h0
   have hxl:(s.drop i).length=s.length-i:=List.length_drop
   have hw1:IntKind.wrap .i64 ((i:Int)+1)=((i+1:Nat):Int):=by rw [Xbs] <;> omega
   have hun:Xc4 (s.drop i)=if Xg3 (s.drop i)=true then Xj8 (Xoa (Xnh (((s.drop i).drop 2).take 4)))++Xc4 (s.drop (i+7)) else c::Xc4 (s.drop (i+1)):=by
    unfold Xc4
    obtain ⟨m,hm⟩ : ∃ m,(s.drop i).length=m+1:=⟨s.length-i-1,by omega⟩
    have hd7:(s.drop i).drop 7=s.drop (i+7):=by rw [List.drop_drop]
    rw [hm,← hd7]
    conv=>lhs; rw [hc]
    have hr:(s.drop (i+1)).length≤m:=by rw [List.length_drop]; omega
    rw [Xh2,← hc,Xey m _ _ hr (Nat.le_refl _),Xey m ((s.drop i).drop 7).length _ (by rw [List.length_drop]; omega) (Nat.le_refl _)]
   rw [hun]
   have hX:(s.drop i).length<1073741824:=by omega
   have hcond:=fun (M:Mem)=>cond_un (N:=N) (n+4) (s.drop i) hX M [(5,.str (s.drop i)),(15,.str (s.drop i)),(14,.int .i64 i),(13,.str s),(12,.bool true),(11,.int .i64 s.length),(10,.str s),(9,.int .i64 i),(0,.str s),(3,.ptr H.length 0 0),(4,.int .i64 i)] (.str s) (.ptr H.length 0 0) (.int .i64 i) rfl rfl rfl rfl
   obtain ⟨t,m0,m3,m4,m5,m34,hrun⟩:=hcond (H++bB x y::L)
   cases hs:Xg3 (s.drop i)
   ·rw [hs] at m34
    simp only [Ze,if_false]
    obtain ⟨x',y',L',hw,hB'⟩:=byte_any (N:=N) (n+5) (by omega) H L x y out hB (by omega) c
    refine Xmi (a':=?aa) (H':=H++bB x' y'::L') ?hb ?hn
    case hb =>
     apply Xaa
     ·simp only [hil,reduceIte,reduceEqDiff,reduceLT,reduceAdd,reduceMul,reduceLeDiff,ZS]; rfl
     apply Xbh
     apply Xaa
     ·apply Xaa
      ·simp only [Xdn,hn,hle,tk,reduceIte,reduceEqDiff,reduceLT,reduceAdd,reduceMul,reduceLeDiff,ZS]; rfl
      apply Xaa
      ·exact hrun
      simp only [m34,reduceIte,reduceEqDiff,reduceLT,reduceAdd,reduceMul,reduceLeDiff,ZS]; rfl
     apply Xaa
     ·simp only [m0,m3,m4,hn,hget,hw,reduceIte,reduceEqDiff,reduceLT,reduceAdd,reduceMul,reduceLeDiff,ZS]; rfl
     simp only [m4,hw1,reduceIte,reduceEqDiff,reduceLT,reduceAdd,reduceMul,reduceLeDiff,ZS]; rfl
    case hn =>
     have ih:=Xlt n s hl hN H fuel (i+1)
     rw [show out++c::Xc4 (s.drop (i+1))=(out++[c])++Xc4 (s.drop (i+1)) by simp]
     simp only [AAct.keepT,Zv,Zz,Xad,reduceIte,reduceEqDiff,m0,m3]
     rintro M' (rfl | ⟨rfl,hcut⟩)
     ·exact ih L' x' y' (out++[c]) (by omega) (by omega) (by rw [List.length_append]; simp; omega) hB'
     ·rw [Xqp]
      exact ih (L'.take L.length) x' y' (out++[c]) (by omega) (by omega) (by rw [List.length_append]; simp; omega) (bld_cut hB hB' hcut)
   ·rw [hs] at m34
    simp only [if_true]
    have hsp:=hs
    unfold Xg3 at hsp
    simp only [Bool.and_eq_true,decide_eq_true_eq] at hsp
    obtain ⟨h7,_,_,hhex⟩:=hsp
    have hl4:(((s.drop i).drop 2).take 4).length=4:=by rw [List.length_take,List.length_drop]; omega
    have hP:=fun H=>parse_eq (N:=N) (n+1) (((s.drop i).drop 2).take 4) (fun c hc=>List.all_eq_true.1 hhex c hc) (by omega) (by omega) hN H
    have hz:Xnh (((s.drop i).drop 2).take 4)<65536:=by
     have:=Xqr (((s.drop i).drop 2).take 4) (fun c hc=>List.all_eq_true.1 hhex c hc)
     rw [hl4] at this
     exact this
    have k6:6≤(s.drop i).length:=by omega
    have e4:(6:Nat)-2=4:=rfl
    have hw7:IntKind.wrap .i64 ((i:Int)+7)=((i+7:Nat):Int):=by rw [Xbs] <;> omega
    generalize Xnh (((s.drop i).drop 2).take 4)=z at *
    have hV:=fun H=>validR_eq (N:=N) (n+4) H z hz
    have hc32:IntKind.wrap .i32 (z:Int)=(z:Int):=by
     simp [IntKind.wrap,IntKind.bits,IntKind.signed]; omega
    obtain ⟨f1,f2⟩:=fixR_ok z hz
    obtain ⟨v,x',y',L',hw,hB'⟩:=rune_any (N:=N) (n+2) H L x y out hB (by omega) (Xoa z) f1 f2
    have hel:=(Xpt (Xoa z)).2
    have ih:=Xlt n s hl hN H fuel (i+7)
    have hnext:∀ M',(M'=H++bB x' y'::L'∨(M'=(H++bB x' y'::L').take (H++bB x y::L).length∧Xce (H++bB x y::L) (H++bB x' y'::L')=true))→∃ r,Xa6 (fun a H=>evI Tryz.prog cfg (Xaw Tryz.prog cfg T N (n+5)) N Xkh a H) (some [0,3,4]) fuel ⟨57,[(0,.str s),(3,.ptr H.length 0 0),(4,.int .i64 (i+7:Nat))],[]⟩ M'=some r∧UnEnd H (out++(Xj8 (Xoa z)++Xc4 (s.drop (i+7)))) r:=by
     rw [← List.append_assoc]
     rintro M' (rfl | ⟨rfl,hcut⟩)
     ·exact ih L' x' y' _ (by omega) (by omega) (by rw [List.length_append]; omega) hB'
     ·rw [Xqp]
      exact ih (L'.take L.length) x' y' _ (by omega) (by omega) (by rw [List.length_append]; omega) (bld_cut hB hB' hcut)
    by_cases hok:z<55296∨57343<z
    ·have hfx:Xoa z=z:=if_pos hok
     rw [decide_eq_true hok] at hV
     rw [hfx] at hw
     refine Xmi (a':=?ab) (H':=H++bB x' y'::L') ?hb2 ?hn2
     case hb2 =>
      apply Xaa
      ·simp only [hil,reduceIte,reduceEqDiff,reduceLT,reduceAdd,reduceMul,reduceLeDiff,ZS]; rfl
      apply Xab
      apply Xbd
      apply Xaa
      ·simp only [Xdn,hn,hle,tk,reduceIte,reduceEqDiff,reduceLT,reduceAdd,reduceMul,reduceLeDiff,ZS]; rfl
      apply Xaa
      ·exact hrun
      refine Xde m34 ?_
      apply Xaa
      ·simp only [m5,Xdn,n2,n6,k6,e4,hP,reduceIte,reduceEqDiff,reduceLT,reduceAdd,reduceMul,reduceLeDiff,ZS]; rfl
      apply Xaa
      ·simp only [hc32,reduceIte,reduceEqDiff,reduceLT,reduceAdd,reduceMul,reduceLeDiff,ZS]; rfl
      apply Xaa
      ·simp only [hV,reduceIte,reduceEqDiff,reduceLT,reduceAdd,reduceMul,reduceLeDiff,ZS]; rfl
      apply Xaa
      ·simp only [m3,hw,reduceIte,reduceEqDiff,reduceLT,reduceAdd,reduceMul,reduceLeDiff,ZS]; rfl
      apply Xaa
      ·simp only [m4,hw7,reduceIte,reduceEqDiff,reduceLT,reduceAdd,reduceMul,reduceLeDiff,ZS]; rfl
      simp only [reduceIte,reduceEqDiff,reduceLT,reduceAdd,reduceMul,reduceLeDiff,ZS]; rfl
     case hn2 =>
      simp only [AAct.keepT,Zv,Zz,Xad,reduceIte,reduceEqDiff,m0,m3]
      exact hnext
    ·have hfx:Xoa z=65533:=if_neg hok
     rw [decide_eq_false hok] at hV
     have h65:((65533:Nat):Int)=65533:=rfl
     rw [hfx,h65] at hw
     refine Xmi (a':=?ac) (H':=H++bB x' y'::L') ?hb3 ?hn3
     case hb3 =>
      apply Xaa
      ·simp only [hil,reduceIte,reduceEqDiff,reduceLT,reduceAdd,reduceMul,reduceLeDiff,ZS]; rfl
      apply Xab
      apply Xbd
      apply Xaa
      ·simp only [Xdn,hn,hle,tk,reduceIte,reduceEqDiff,reduceLT,reduceAdd,reduceMul,reduceLeDiff,ZS]; rfl
      apply Xaa
      ·exact hrun
      refine Xde m34 ?_
      apply Xaa
      ·simp only [m5,Xdn,n2,n6,k6,e4,hP,reduceIte,reduceEqDiff,reduceLT,reduceAdd,reduceMul,reduceLeDiff,ZS]; rfl
      apply Xaa
      ·simp only [hc32,reduceIte,reduceEqDiff,reduceLT,reduceAdd,reduceMul,reduceLeDiff,ZS]; rfl
      apply Xaa
      ·simp only [hV,reduceIte,reduceEqDiff,reduceLT,reduceAdd,reduceMul,reduceLeDiff,ZS]; rfl
      apply Xaa
      ·simp only [m3,hw,reduceIte,reduceEqDiff,reduceLT,reduceAdd,reduceMul,reduceLeDiff,ZS]; rfl
      apply Xaa
      ·simp only [m4,hw7,reduceIte,reduceEqDiff,reduceLT,reduceAdd,reduceMul,reduceLeDiff,ZS]; rfl
      simp only [reduceIte,reduceEqDiff,reduceLT,reduceAdd,reduceMul,reduceLeDiff,ZS]; rfl
     case hn3 =>
      simp only [AAct.keepT,Zv,Zz,Xad,reduceIte,reduceEqDiff,m0,m3]
      exact hnext
  ·have hk':i=s.length:=by omega
   subst hk'
   have hil:decide ((s.length:Int)<(s.length:Int))=false:=decide_eq_false (by omega)
   rw [List.drop_length]
   refine ⟨_,Xae (by simp only [Xkh,I51,IC.loops,hil,reduceIte,reduceEqDiff,reduceLT,reduceAdd,reduceMul,reduceLeDiff,ZS]; rfl),rfl,rfl,rfl,rfl,x,y,L,rfl,?_⟩
   rw [show Xc4 []=[] from rfl,List.append_nil]
   exact hB
theorem Xgk (n:Nat) (s:List UInt8) (hl:s.length<1073741824) (hN:1073741825<N) (H:Mem):Xaw Tryz.prog cfg T N (n+6) 51 [.str s] H=some (.ret (.str (Xc4 s)),H):=by
 obtain ⟨⟨o,a,M⟩,hr,rfl,e1,e2,l3,x,y,L,rfl,hB⟩:=Xlt (N:=N) n s hl (by omega) H N 0 [] .nilP .nilS [] (Nat.zero_le _) (by omega) (by simp) (.inl ⟨rfl,rfl,rfl⟩)
 rw [List.drop_zero,List.nil_append] at hB
 obtain ⟨an,at',ad⟩:=a
 simp only at e1 e2 l3
 subst e1 e2
 have hul:∀ (n:Nat) (s:List UInt8),s.length≤n→(Xkv n s).length≤s.length:=by
  intro n
  induction n with
  | zero=>intro s h; exact Nat.zero_le _
  | succ n ih =>
   intro s h
   cases s with
   | nil=>exact Nat.le_refl _
   | cons c r =>
    simp only [Zf] at h
    unfold Xkv
    split
    ·rename_i hs
     unfold Xg3 at hs
     simp only [Bool.and_eq_true,decide_eq_true_eq,Zf] at hs
     have h1:=ih ((c::r).drop 7) (by rw [List.length_drop,List.length_cons]; omega)
     have h2:=(Xpt (Xoa (Xnh (((c::r).drop 2).take 4)))).2
     rw [List.length_append,List.length_cons]
     rw [List.length_drop,List.length_cons] at h1
     omega
    ·have h1:=ih r (by omega)
     rw [List.length_cons,List.length_cons]
     omega
 have hlen:(Xc4 s).length≤s.length:=hul s.length s (Nat.le_refl _)
 obtain ⟨L',hS⟩:=str_any (N:=N) (n+5) (by omega) H L x y (Xc4 s) hB (by omega)
 refine Xac (m:=57) (v:=.str (Xc4 s)) (a:=?aa) (H1:=H++bB x y::L') rfl t51 rfl ?hb ?hd ?hr ?hz
 case hb =>
  apply Xaa
  ·simp only [idx,I51,reduceIte,reduceEqDiff,reduceLT,reduceAdd,reduceMul,reduceLeDiff,ZS]; rfl
  apply Xaa
  ·simp only [reduceIte,reduceEqDiff,reduceLT,reduceAdd,reduceMul,reduceLeDiff,ZS]; rfl
  apply Xaa
  ·apply Xaa
   ·simp only [reduceIte,reduceEqDiff,reduceLT,reduceAdd,reduceMul,reduceLeDiff,ZS]; rfl
   apply Xab
   apply Xaf
   exact hr
  apply Xaa
  ·simp only [l3,hS,reduceIte,reduceEqDiff,reduceLT,reduceAdd,reduceMul,reduceLeDiff,ZS]; rfl
  rfl
 case hd=>rfl
 case hr=>rfl
 case hz=>exact Xdr rfl rfl
end
def digZ (c:UInt8):Int:=if Xc1 c=true then (Xfp c.toNat:Int) else -1
section
variable {N:Nat}
theorem digit_eq (n:Nat) (H:Mem) (c:UInt8):Xaw Tryz.prog cfg T N (n+1) 110 [.int .u8 c.toNat] H=some (.ret (.int .i64 (digZ c)),H):=by
 have h256:=c.toNat_lt
 unfold digZ Xc1
 generalize c.toNat=x at *
 by_cases h1:48≤x∧x≤57
 ·have e:Xfp x=x-48:=by unfold Xfp; rw [if_pos h1]
  have b1:decide ((x:Int) ≥ 48)=true:=decide_eq_true (by omega)
  have b2:decide ((x:Int)≤57)=true:=decide_eq_true (by omega)
  have w1:IntKind.wrap .u8 ((x:Int)-48)=((x-48:Nat):Int):=by
   simp [IntKind.wrap,IntKind.bits,IntKind.signed]; omega
  have w2:IntKind.wrap .i64 ((x-48:Nat):Int)=((x-48:Nat):Int):=by rw [Xbs] <;> omega
  rw [e,if_pos (decide_eq_true (by omega))]
  refine Xac (m:=35) (v:=.int .i64 ((x-48:Nat):Int)) (a:=?aa) (H1:=H) rfl t110 rfl ?hb ?hd ?hr ?hz
  case hb=>simp only [idx,I110,b1,b2,w1,w2,reduceIte,reduceEqDiff,reduceLT,reduceAdd,reduceMul,reduceLeDiff,ZS]; rfl
  case hd=>rfl
  case hr=>rfl
  case hz=>exact Xaq rfl rfl
 have hb1:(decide ((x:Int) ≥ 48)=true∧decide ((x:Int)≤57)=false)∨decide ((x:Int) ≥ 48)=false:=by
  cases h:decide ((x:Int) ≥ 48)
  ·exact .inr rfl
  ·exact .inl ⟨rfl,decide_eq_false fun h2=>h1 ⟨by have:=of_decide_eq_true h; omega,by omega⟩⟩
 by_cases h2:97≤x∧x≤102
 ·have e:Xfp x=x-87:=by unfold Xfp; rw [if_neg h1,if_neg (by omega),if_pos h2]
  have b1:decide ((x:Int) ≥ 48)=true:=decide_eq_true (by omega)
  have b2:decide ((x:Int)≤57)=false:=decide_eq_false (by omega)
  have b3:decide ((x:Int) ≥ 97)=true:=decide_eq_true (by omega)
  have b4:decide ((x:Int)≤102)=true:=decide_eq_true (by omega)
  have w1:IntKind.wrap .u8 ((x:Int)-97)=((x-97:Nat):Int):=by
   simp [IntKind.wrap,IntKind.bits,IntKind.signed]; omega
  have w2:IntKind.wrap .i64 ((x-97:Nat):Int)=((x-97:Nat):Int):=by rw [Xbs] <;> omega
  have w3:IntKind.wrap .i64 (((x-97:Nat):Int)+10)=((x-87:Nat):Int):=by rw [Xbs] <;> omega
  rw [e,if_pos (decide_eq_true (by omega))]
  refine Xac (m:=35) (v:=.int .i64 ((x-87:Nat):Int)) (a:=?ab) (H1:=H) rfl t110 rfl ?hb ?hd ?hr ?hz
  case hb=>simp only [idx,I110,b1,b2,b3,b4,w1,w2,w3,reduceIte,reduceEqDiff,reduceLT,reduceAdd,reduceMul,reduceLeDiff,ZS]; rfl
  case hd=>rfl
  case hr=>rfl
  case hz=>exact Xaq rfl rfl
 have hb2:(decide ((x:Int) ≥ 97)=true∧decide ((x:Int)≤102)=false)∨decide ((x:Int) ≥ 97)=false:=by
  cases h:decide ((x:Int) ≥ 97)
  ·exact .inr rfl
  ·exact .inl ⟨rfl,decide_eq_false fun h3=>h2 ⟨by have:=of_decide_eq_true h; omega,by omega⟩⟩
 by_cases h3:65≤x∧x≤70
 ·have e:Xfp x=x-55:=by unfold Xfp; rw [if_neg h1,if_pos h3]
  have b1:decide ((x:Int) ≥ 48)=true:=decide_eq_true (by omega)
  have b2:decide ((x:Int)≤57)=false:=decide_eq_false (by omega)
  have b3:decide ((x:Int) ≥ 97)=false:=decide_eq_false (by omega)
  have b5:decide ((x:Int) ≥ 65)=true:=decide_eq_true (by omega)
  have b6:decide ((x:Int)≤70)=true:=decide_eq_true (by omega)
  have w1:IntKind.wrap .u8 ((x:Int)-65)=((x-65:Nat):Int):=by
   simp [IntKind.wrap,IntKind.bits,IntKind.signed]; omega
  have w2:IntKind.wrap .i64 ((x-65:Nat):Int)=((x-65:Nat):Int):=by rw [Xbs] <;> omega
  have w3:IntKind.wrap .i64 (((x-65:Nat):Int)+10)=((x-55:Nat):Int):=by rw [Xbs] <;> omega
  rw [e,if_pos (decide_eq_true (by omega))]
  refine Xac (m:=35) (v:=.int .i64 ((x-55:Nat):Int)) (a:=?ac) (H1:=H) rfl t110 rfl ?hb ?hd ?hr ?hz
  case hb=>simp only [idx,I110,b1,b2,b3,b5,b6,w1,w2,w3,reduceIte,reduceEqDiff,reduceLT,reduceAdd,reduceMul,reduceLeDiff,ZS]; rfl
  case hd=>rfl
  case hr=>rfl
  case hz=>exact Xaq rfl rfl
 have hb3:(decide ((x:Int) ≥ 65)=true∧decide ((x:Int)≤70)=false)∨decide ((x:Int) ≥ 65)=false:=by
  cases h:decide ((x:Int) ≥ 65)
  ·exact .inr rfl
  ·exact .inl ⟨rfl,decide_eq_false fun h4=>h3 ⟨by have:=of_decide_eq_true h; omega,by omega⟩⟩
 have e:Xfp x=99:=by unfold Xfp; rw [if_neg h1,if_neg h3,if_neg h2]
 rw [e,if_neg (by decide)]
 have main:∃ a,evI Tryz.prog cfg (Xaw Tryz.prog cfg T N n) N I110.c ⟨35,[(0,.int .u8 x)],[]⟩ H=some (.ret,a,H)∧a.d=[]∧Xad a.t 2=.int .i64 (-1):=by
  have c12:(decide ((x:Int) ≥ 48) && decide ((x:Int)≤57))=false:=by rcases hb1 with ⟨h,h'⟩ | h <;> simp [h, *]
  have c34:(decide ((x:Int) ≥ 97) && decide ((x:Int)≤102))=false:=by rcases hb2 with ⟨h,h'⟩ | h <;> simp [h, *]
  have c56:(decide ((x:Int) ≥ 65) && decide ((x:Int)≤70))=false:=by rcases hb3 with ⟨h,h'⟩ | h <;> simp [h, *]
  clear hb1 hb2 hb3 h1 h2 h3 e
  obtain ⟨p1,b1⟩ : ∃ p,decide ((x:Int) ≥ 48)=p:=⟨_,rfl⟩
  obtain ⟨p2,b2⟩ : ∃ p,decide ((x:Int)≤57)=p:=⟨_,rfl⟩
  obtain ⟨p3,b3⟩ : ∃ p,decide ((x:Int) ≥ 97)=p:=⟨_,rfl⟩
  obtain ⟨p4,b4⟩ : ∃ p,decide ((x:Int)≤102)=p:=⟨_,rfl⟩
  obtain ⟨p5,b5⟩ : ∃ p,decide ((x:Int) ≥ 65)=p:=⟨_,rfl⟩
  obtain ⟨p6,b6⟩ : ∃ p,decide ((x:Int)≤70)=p:=⟨_,rfl⟩
  rw [b1,b2] at c12
  rw [b3,b4] at c34
  rw [b5,b6] at c56
  cases p1 <;> cases p2 <;> cases p3 <;> cases p4 <;> cases p5 <;> cases p6
  all_goals first
   | exact absurd c12 (by decide)
   | exact absurd c34 (by decide)
   | exact absurd c56 (by decide)
   | exact ⟨_,by simp only [I110,b1,b2,b3,b4,b5,b6,reduceIte,reduceEqDiff,reduceLT,reduceAdd,reduceMul,reduceLeDiff,ZS]; rfl,rfl,rfl⟩
 obtain ⟨⟨an,at',ad⟩,hm,hd0,h2'⟩:=main
 refine Xac (m:=35) (v:=.int .i64 (-1)) (a:=⟨an,at',ad⟩) (H1:=H) rfl t110 rfl ?hb ?hd ?hr ?hz
 case hb=>exact hm
 case hd=>exact hd0
 case hr=>simp only [I110,Xc6,Xbc,h2',Zh]
 case hz=>exact Xaq rfl rfl
noncomputable def Xwg:IC:=(I81.c.loops).getD 0 .bad
theorem Xmr (n:Nat) (x:List UInt8) (hx:7≤x.length) (hl:x.length<1073741824) (H:Mem):∀ (fuel k v:Nat),2≤k→k≤6→6-k<fuel→v<16 ^ (k-2) →
  ∃ t,Xa6 (fun a H=>evI Tryz.prog cfg (Xaw Tryz.prog cfg T N (n+1)) N Xwg a H) (some [0,4,5]) fuel ⟨41,[(0,.str x),(4,.int .i64 v),(5,.int .i64 k)],[]⟩ H =
   (if ((x.drop k).take (6-k)).all Xc1=true then some (.exit 0,⟨41,t,[]⟩,H) else some (.ret,⟨41,(3,.bool false)::(2,.int .i32 0)::t,[]⟩,H))∧(((x.drop k).take (6-k)).all Xc1=true→Xad t 4=.int .i64 (((x.drop k).take (6-k)).foldl (fun n c=>n*16+Xfp c.toNat) v:Nat))
 | 0,k,v,_,_,h,_=>by omega
 | fuel+1,k,v,hk2,hk,hf,hv=>by
  rcases Nat.lt_or_ge k 6 with hlt | hge
  ·obtain ⟨c,hc⟩:=Xbb (show k<x.length by omega)
   have hget:x[k]? = some c:=by
    have h0:(x.drop k)[0]? = some c:=by rw [hc]; rfl
    rw [List.getElem?_drop,Nat.add_zero] at h0
    exact h0
   have hi:decide ((k:Int)<6)=true:=decide_eq_true (by omega)
   have hn:=Xan k .i64
   have hw:IntKind.wrap .i64 ((k:Int)+1)=((k+1:Nat):Int):=by rw [Xbs] <;> omega
   have htk:(x.drop k).take (6-k)=c::(x.drop (k+1)).take (6-(k+1)):=by
    rw [hc,show 6-k=(6-(k+1))+1 by omega,List.take_succ_cons]
   have hD:=fun H=>digit_eq (N:=N) n H c
   have hv4:v<16 ^ 4:=Nat.lt_of_lt_of_le hv (Nat.pow_le_pow_right (by decide) (by omega))
   have p4:16 ^ 4=65536:=by decide
   rw [htk,List.all_cons,List.foldl_cons]
   unfold digZ at hD
   cases hh:Xc1 c
   ·rw [hh] at hD
    simp only [Ze,if_false] at hD
    simp only [ZE,Ze,if_false]
    have c1:decide ((-1:Int)<0)=true:=rfl
    refine ⟨_,Xah (by simp only [Xwg,I81,IC.loops,hi,hn,hget,hD,c1,reduceIte,reduceEqDiff,reduceLT,reduceAdd,reduceMul,reduceLeDiff,ZS]; rfl),fun h=>by cases h⟩
   ·rw [hh] at hD
    simp only [if_true] at hD
    simp only [ZH]
    have hhx:Xfp c.toNat<16:=of_decide_eq_true hh
    generalize Xfp c.toNat=z at *
    have c1:decide ((z:Int)<0)=false:=decide_eq_false (by omega)
    have w1:IntKind.wrap .i64 ((v:Int)*16)=((v*16:Nat):Int):=by rw [Xbs] <;> omega
    have w2:IntKind.wrap .i64 (((v*16:Nat):Int)+(z:Int))=((v*16+z:Nat):Int):=by rw [Xbs] <;> omega
    obtain ⟨t,ht,h4⟩:=Xmr n x hx hl H fuel (k+1) (v*16+z) (by omega) (by omega) (by omega) (by rw [show k+1-2=(k-2)+1 by omega,Nat.pow_succ]; omega)
    refine ⟨t,?_,h4⟩
    refine Xap (H':=H) (by simp only [Xwg,I81,IC.loops,hi,hn,hw,hget,hD,c1,w1,w2,reduceIte,reduceEqDiff,reduceLT,reduceAdd,reduceMul,reduceLeDiff,ZS]; rfl) ?_
    rw [Xk6]
    exact ht
  ·have hk':k=6:=by omega
   subst hk'
   have hi:decide (((6:Nat):Int)<6)=false:=rfl
   simp only [Nat.sub_self,Zw,Zy,if_true,List.foldl_nil]
   exact ⟨_,Xae (by simp only [Xwg,I81,IC.loops,hi,reduceIte,reduceEqDiff,reduceLT,reduceAdd,reduceMul,reduceLeDiff,ZS]; rfl),fun _=>rfl⟩
theorem u8_beq (c:UInt8) (k:UInt8):((c.toNat:Int) == (k.toNat:Int))=(c == k):=by
 by_cases h:c=k
 ·rw [h,beq_self_eq_true,beq_self_eq_true]
 ·rw [beq_false_of_ne h]
  exact beq_false_of_ne fun e=>h (UInt8.toNat_inj.1 (by omega))
theorem rspelt_eq (n:Nat) (hN:8<N) (x:List UInt8) (hl:x.length<1073741824) (H:Mem) :
  Xaw Tryz.prog cfg T N (n+2) 81 [.str x] H=some (.ret (.tup [.int .i32 (if Xg3 x=true then (Xnh ((x.drop 2).take 4):Int) else 0),.bool (Xg3 x)]),H):=by
 rcases Nat.lt_or_ge x.length 7 with h7 | h7
 ·have c1:decide ((x.length:Int)<7)=true:=decide_eq_true (by omega)
  have e:Xg3 x=false:=by unfold Xg3; rw [decide_eq_false (by omega),Bool.false_and]
  rw [e]
  refine Xac (m:=41) (v:=.tup [.int .i32 0,.bool false]) (a:=?aa) (H1:=H) rfl t81 rfl ?hb ?hd ?hr ?hz
  case hb=>simp only [idx,I81,c1,reduceIte,reduceEqDiff,reduceLT,reduceAdd,reduceMul,reduceLeDiff,ZS]; rfl
  case hd=>rfl
  case hr=>rfl
  case hz=>exact Xaq rfl rfl
 have c1:decide ((x.length:Int)<7)=false:=decide_eq_false (by omega)
 have n0:Xfb (.int .i64 0)=some 0:=rfl
 have n1:Xfb (.int .i64 1)=some 1:=rfl
 have n6:Xfb (.int .i64 6)=some 6:=rfl
 obtain ⟨d,hd⟩ : ∃ d,x[6]? = some d:=⟨x[6],List.getElem?_eq_getElem (by omega)⟩
 have hd2:x.getD 6 0=d:=by rw [List.getD_eq_getElem?_getD,hd]; rfl
 obtain ⟨a,b,r,hx⟩ : ∃ a b r,x=a::b::r:=by
  match x,h7 with
  | a::b::r,_=>exact ⟨a,b,r,rfl⟩
 have ha:x[0]? = some a:=by rw [hx]; rfl
 have hb':x[1]? = some b:=by rw [hx]; rfl
 have htk:(x.take 2 == [95,120])=(a == 95 && b == 120):=by
  rw [hx,show (a::b::r).take 2=[a,b] from rfl]
  by_cases h1:a=95
  ·by_cases h2:b=120
   ·rw [h1,h2]; rfl
   ·rw [h1,beq_false_of_ne h2,Bool.and_false]
    exact beq_false_of_ne fun e=>h2 (by simpa using e)
  ·rw [beq_false_of_ne h1,Bool.false_and]
   exact beq_false_of_ne fun e=>h1 (by have:=e; simp at this; exact this.1)
 have e1:=u8_beq a 95
 have e2:=u8_beq b 120
 have e3:=u8_beq d 95
 have k95:(((95:UInt8).toNat:Nat):Int)=95:=rfl
 have k120:(((120:UInt8).toNat:Nat):Int)=120:=rfl
 rw [k95] at e1 e3
 rw [k120] at e2
 have e1:((a.toNat:Int) != 95) = !(a == 95):=by unfold bne; rw [e1]
 have e2:((b.toNat:Int) != 120) = !(b == 120):=by unfold bne; rw [e2]
 have e3:((d.toNat:Int) != 95) = !(d == 95):=by unfold bne; rw [e3]
 have hsp:Xg3 x=((a == 95 && b == 120) && ((d == 95) && ((x.drop 2).take 4).all Xc1)):=by
  unfold Xg3
  rw [decide_eq_true h7,Bool.true_and,htk,hd2]
 rw [hsp]
 clear hx htk
 obtain ⟨t,ht,h4⟩:=Xmr (N:=N) n x h7 hl H N 2 0 (by omega) (by omega) (by omega) (by decide)
 cases q1:(a == 95)
 ·rw [q1] at e1
  simp only [ZE,Ze,if_false]
  refine Xac (m:=41) (v:=.tup [.int .i32 0,.bool false]) (a:=?ab) (H1:=H) rfl t81 rfl ?hb ?hd ?hr ?hz
  case hb=>simp only [idx,I81,c1,n0,ha,e1,reduceIte,reduceEqDiff,reduceLT,reduceAdd,reduceMul,reduceLeDiff,ZS]; rfl
  case hd=>rfl
  case hr=>rfl
  case hz=>exact Xaq rfl rfl
 rw [q1] at e1
 cases q2:(b == 120)
 ·rw [q2] at e2
  simp only [ZD,ZE,Ze,if_false]
  refine Xac (m:=41) (v:=.tup [.int .i32 0,.bool false]) (a:=?ac) (H1:=H) rfl t81 rfl ?hb ?hd ?hr ?hz
  case hb=>simp only [idx,I81,c1,n0,n1,ha,hb',e1,e2,reduceIte,reduceEqDiff,reduceLT,reduceAdd,reduceMul,reduceLeDiff,ZS]; rfl
  case hd=>rfl
  case hr=>rfl
  case hz=>exact Xaq rfl rfl
 rw [q2] at e2
 cases q3:(d == 95)
 ·rw [q3] at e3
  simp only [ZE,ZD,Ze,if_false]
  refine Xac (m:=41) (v:=.tup [.int .i32 0,.bool false]) (a:=?ad) (H1:=H) rfl t81 rfl ?hb ?hd ?hr ?hz
  case hb=>simp only [idx,I81,c1,n0,n1,n6,ha,hb',hd,e1,e2,e3,reduceIte,reduceEqDiff,reduceLT,reduceAdd,reduceMul,reduceLeDiff,ZS]; rfl
  case hd=>rfl
  case hr=>rfl
  case hz=>exact Xaq rfl rfl
 rw [q3] at e3
 simp only [ZJ,ZH]
 rw [show (6:Nat)-2=4 from rfl] at ht h4
 cases q4:((x.drop 2).take 4).all Xc1
 ·rw [q4] at ht
  simp only [Ze,if_false] at ht ⊢
  refine Xac (m:=41) (v:=.tup [.int .i32 0,.bool false]) (a:=?ae) (H1:=H) rfl t81 rfl ?hb ?hd ?hr ?hz
  case hb =>
   apply Xaa
   ·simp only [idx,I81,reduceIte,reduceEqDiff,reduceLT,reduceAdd,reduceMul,reduceLeDiff,ZS]; rfl
   apply Xaa
   ·simp only [c1,n0,n1,n6,ha,hb',hd,e1,e2,e3,reduceIte,reduceEqDiff,reduceLT,reduceAdd,reduceMul,reduceLeDiff,ZS]; rfl
   apply Xaa
   ·simp only [reduceIte,reduceEqDiff,reduceLT,reduceAdd,reduceMul,reduceLeDiff,ZS]; rfl
   apply Xau
   apply Xaa
   ·simp only [reduceIte,reduceEqDiff,reduceLT,reduceAdd,reduceMul,reduceLeDiff,ZS]; rfl
   apply Xam
   apply Xaf
   exact ht
  case hd=>rfl
  case hr=>rfl
  case hz=>exact Xaq rfl rfl
 ·rw [q4] at ht
  simp only [if_true] at ht ⊢
  have h4':=h4 q4
  have hz:Xnh ((x.drop 2).take 4)<65536:=by
   have:=Xqr ((x.drop 2).take 4) (fun c hc=>List.all_eq_true.1 q4 c hc)
   rw [show ((x.drop 2).take 4).length=4 by rw [List.length_take,List.length_drop]; omega] at this
   exact this
  have hzz:((x.drop 2).take 4).foldl (fun n c=>n*16+Xfp c.toNat) 0=Xnh ((x.drop 2).take 4):=rfl
  rw [hzz] at h4'
  generalize Xnh ((x.drop 2).take 4)=z at *
  have hc32:IntKind.wrap .i32 (z:Int)=(z:Int):=by
   simp [IntKind.wrap,IntKind.bits,IntKind.signed]; omega
  refine Xac (m:=41) (v:=.tup [.int .i32 (z:Int),.bool true]) (a:=?af) (H1:=H) rfl t81 rfl ?hb ?hd ?hr ?hz
  case hb =>
   apply Xaa
   ·simp only [idx,I81,reduceIte,reduceEqDiff,reduceLT,reduceAdd,reduceMul,reduceLeDiff,ZS]; rfl
   apply Xaa
   ·simp only [c1,n0,n1,n6,ha,hb',hd,e1,e2,e3,reduceIte,reduceEqDiff,reduceLT,reduceAdd,reduceMul,reduceLeDiff,ZS]; rfl
   apply Xaa
   ·simp only [reduceIte,reduceEqDiff,reduceLT,reduceAdd,reduceMul,reduceLeDiff,ZS]; rfl
   apply Xaa
   ·apply Xaa
    ·simp only [reduceIte,reduceEqDiff,reduceLT,reduceAdd,reduceMul,reduceLeDiff,ZS]; rfl
    apply Xab
    apply Xaf
    exact ht
   simp only [h4',hc32,reduceIte,reduceEqDiff,reduceLT,reduceAdd,reduceMul,reduceLeDiff,ZS]; rfl
  case hd=>rfl
  case hr=>rfl
  case hz=>exact Xaq rfl rfl
theorem or192i (x:Nat) (h:x<32):IntKind.wrap .i32 ((BitVec.ofInt (IntKind.bits .i32) 192 ||| BitVec.ofInt (IntKind.bits .i32) (x:Int)).toNat:Int)=((192+x:Nat):Int) :=
 (by decide +kernel:∀ x:Fin 32,IntKind.wrap .i32 ((BitVec.ofInt (IntKind.bits .i32) 192 ||| BitVec.ofInt (IntKind.bits .i32) (x.val:Int)).toNat:Int)=((192+x.val:Nat):Int)) ⟨x,h⟩
theorem or224i (x:Nat) (h:x<16):IntKind.wrap .i32 ((BitVec.ofInt (IntKind.bits .i32) 224 ||| BitVec.ofInt (IntKind.bits .i32) (x:Int)).toNat:Int)=((224+x:Nat):Int) :=
 (by decide +kernel:∀ x:Fin 16,IntKind.wrap .i32 ((BitVec.ofInt (IntKind.bits .i32) 224 ||| BitVec.ofInt (IntKind.bits .i32) (x.val:Int)).toNat:Int)=((224+x.val:Nat):Int)) ⟨x,h⟩
theorem or128i (x:Nat) (h:x<64):IntKind.wrap .i32 ((BitVec.ofInt (IntKind.bits .i32) 128 ||| BitVec.ofInt (IntKind.bits .i32) (x:Int)).toNat:Int)=((128+x:Nat):Int) :=
 (by decide +kernel:∀ x:Fin 64,IntKind.wrap .i32 ((BitVec.ofInt (IntKind.bits .i32) 128 ||| BitVec.ofInt (IntKind.bits .i32) (x.val:Int)).toNat:Int)=((128+x.val:Nat):Int)) ⟨x,h⟩
theorem and63i (x:Nat) (h:x<65536):IntKind.wrap .i32 ((BitVec.ofInt (IntKind.bits .i32) (x:Int) &&& BitVec.ofInt (IntKind.bits .i32) 63).toNat:Int)=((x % 64:Nat):Int):=by
 have e:(BitVec.ofInt (IntKind.bits .i32) (x:Int) &&& BitVec.ofInt (IntKind.bits .i32) 63).toNat=x % 64:=by
  rw [BitVec.toNat_and]
  have h1:(BitVec.ofInt (IntKind.bits .i32) (x:Int)).toNat=x:=by
   show (BitVec.ofInt 32 (x:Int)).toNat=x
   rw [BitVec.toNat_ofInt]; omega
  have h2:(BitVec.ofInt (IntKind.bits .i32) (63:Int)).toNat=2 ^ 6-1:=by decide
  rw [h1,h2,Nat.and_two_pow_sub_one_eq_mod]
 rw [e]
 simp [IntKind.wrap,IntKind.bits,IntKind.signed]; omega
theorem Xrn (n:Nat) (H:Mem) (r:Nat) (h:r<65536) (h3:r<55296∨57343<r):Xaw Tryz.prog cfg T N (n+1) 82 [.int .i32 r] H=some (.ret (.str (Xj8 r)),H):=by
 have htb:Xe3 (cellN (Xf0 r))=some (Xj8 r):=by rw [← Xr5 r h,Xgq]
 have b1:decide ((r:Int)<0)=false:=decide_eq_false (by omega)
 have b2:decide ((r:Int)>1114111)=false:=decide_eq_false (by omega)
 have hb34:(decide ((r:Int) ≥ 55296)=true∧decide ((r:Int)≤57343)=false)∨decide ((r:Int) ≥ 55296)=false:=by
  rcases h3 with h3 | h3
  ·exact .inr (decide_eq_false (by omega))
  ·exact .inl ⟨decide_eq_true (by omega),decide_eq_false (by omega)⟩
 have n6:((6:Int)<0)=False:=by simp
 have n12:((12:Int)<0)=False:=by simp
 have a1:=and63i r h
 have a2:=or128i (r % 64) (by omega)
 have a3:IntKind.wrap .u8 ((128+r % 64:Nat):Int)=((128+r % 64:Nat):Int):=by rw [Xcc,Nat.mod_eq_of_lt (by omega)]
 have m1:∀ k:Nat,k*1=k:=Nat.mul_one
 rcases Nat.lt_or_ge r 128 with h1 | h1
 ·have b5:decide ((r:Int)<128)=true:=decide_eq_true (by omega)
  have g1:IntKind.wrap .u8 (r:Int)=(r:Int):=by rw [Xcc,Nat.mod_eq_of_lt (by omega)]
  have he:Xf0 r=[r]:=by unfold Xf0; rw [if_pos h1]
  have b3:decide ((r:Int) ≥ 55296)=false:=decide_eq_false (by omega)
  rw [he] at htb
  simp only [cellN,Zv,Zz] at htb
  refine Xac (m:=77) (v:=.str (Xj8 r)) (a:=?aa) (H1:=?Ha) rfl t82 rfl ?hb ?hd ?hr ?hz
  case hb=>simp only [idx,I82,b1,b2,b3,b5,g1,Xcd,htb,reduceIte,reduceEqDiff,reduceLT,reduceAdd,reduceMul,reduceLeDiff,ZS]; rfl
  case hd=>rfl
  case hr=>rfl
  case hz=>exact Xdr rfl rfl
 have b5:decide ((r:Int)<128)=false:=decide_eq_false (by omega)
 rcases Nat.lt_or_ge r 2048 with h2 | h2
 ·have b6:decide ((r:Int)<2048)=true:=decide_eq_true (by omega)
  have g2:=or192i (r / 64) (by omega)
  have g3:IntKind.wrap .u8 ((192+r / 64:Nat):Int)=((192+r / 64:Nat):Int):=by rw [Xcc,Nat.mod_eq_of_lt (by omega)]
  have he:Xf0 r=[192+r / 64,128+r % 64]:=by unfold Xf0; rw [if_neg (by omega),if_pos h2]
  have b3:decide ((r:Int) ≥ 55296)=false:=decide_eq_false (by omega)
  rw [he] at htb
  simp only [cellN,Zv,Zz] at htb
  refine Xac (m:=77) (v:=.str (Xj8 r)) (a:=?ab) (H1:=?Hb) rfl t82 rfl ?hb ?hd ?hr ?hz
  case hb=>simp only [idx,I82,b1,b2,b3,b5,b6,shr6,n6,a1,a2,a3,g2,g3,Xcd,htb,reduceIte,reduceEqDiff,reduceLT,reduceAdd,reduceMul,reduceLeDiff,ZS]; rfl
  case hd=>rfl
  case hr=>rfl
  case hz=>exact Xdr rfl rfl
 ·have b6:decide ((r:Int)<2048)=false:=decide_eq_false (by omega)
  have b7:decide ((r:Int)<65536)=true:=decide_eq_true (by omega)
  have g2:=or224i (r / 4096) (by omega)
  have g3:IntKind.wrap .u8 ((224+r / 4096:Nat):Int)=((224+r / 4096:Nat):Int):=by rw [Xcc,Nat.mod_eq_of_lt (by omega)]
  have d1:=and63i (r / 64) (by omega)
  have d2:=or128i (r / 64 % 64) (by omega)
  have d3:IntKind.wrap .u8 ((128+r / 64 % 64:Nat):Int)=((128+r / 64 % 64:Nat):Int):=by rw [Xcc,Nat.mod_eq_of_lt (by omega)]
  have he:Xf0 r=[224+r / 4096,128+r / 64 % 64,128+r % 64]:=by unfold Xf0; rw [if_neg (by omega),if_neg (by omega)]
  rw [he] at htb
  simp only [cellN,Zv,Zz] at htb
  rcases hb34 with ⟨b3,b4⟩ | b3
  ·refine Xac (m:=77) (v:=.str (Xj8 r)) (a:=?ac) (H1:=?Hc) rfl t82 rfl ?hb ?hd ?hr ?hz
   case hb=>simp only [idx,I82,b1,b2,b3,b4,b5,b6,b7,shr6,Xyg,n6,n12,a1,a2,a3,g2,g3,d1,d2,d3,Xcd,htb,reduceIte,reduceEqDiff,reduceLT,reduceAdd,reduceMul,reduceLeDiff,ZS]; rfl
   case hd=>rfl
   case hr=>rfl
   case hz=>exact Xdr rfl rfl
  ·refine Xac (m:=77) (v:=.str (Xj8 r)) (a:=?ad) (H1:=?Hd) rfl t82 rfl ?hb ?hd ?hr ?hz
   case hb=>simp only [idx,I82,b1,b2,b3,b5,b6,b7,shr6,Xyg,n6,n12,a1,a2,a3,g2,g3,d1,d2,d3,Xcd,htb,reduceIte,reduceEqDiff,reduceLT,reduceAdd,reduceMul,reduceLeDiff,ZS]; rfl
   case hd=>rfl
   case hr=>rfl
   case hz=>exact Xdr rfl rfl
theorem encode_eq (n:Nat) (H:Mem) (r:Nat) (h:r<65536):Xaw Tryz.prog cfg T N (n+2) 82 [.int .i32 r] H=some (.ret (.str (Xj8 (Xoa r))),H):=by
 by_cases h3:r<55296∨57343<r
 ·rw [show Xoa r=r from if_pos h3]
  exact Xrn (N:=N) (n+1) H r h h3
 ·have q1:=fun H=>Xrn (N:=N) n H 65533 (by decide) (.inr (by decide))
  have h65:((65533:Nat):Int)=65533:=rfl
  rw [show Xoa r=65533 from if_neg h3]
  rw [h65] at q1
  have b1:decide ((r:Int)<0)=false:=decide_eq_false (by omega)
  have b2:decide ((r:Int)>1114111)=false:=decide_eq_false (by omega)
  have b3:decide ((r:Int) ≥ 55296)=true:=decide_eq_true (by omega)
  have b4:decide ((r:Int)≤57343)=true:=decide_eq_true (by omega)
  generalize Xj8 65533=er at *
  refine Xac (m:=77) (v:=.str er) (a:=?aa) (H1:=H) rfl t82 rfl ?hb ?hd ?hr ?hz
  case hb=>simp only [idx,I82,b1,b2,b3,b4,q1,reduceIte,reduceEqDiff,reduceLT,reduceAdd,reduceMul,reduceLeDiff,ZS]; rfl
  case hd=>rfl
  case hr=>rfl
  case hz=>exact Xaq rfl rfl
end
theorem Xhw {body:AAct→Mem→Option (Out × AAct × Mem)} {lv:List Tmp} {n:Nat} {a a':AAct} {H H':Mem} {Q:Out × AAct × Mem→Prop} (h:body a H=some (.normal,a',H'))
  (h2:∀ M',(M'=H'∨(M'=H'.take H.length∧Xto H.length (a'.keepT lv).t=true))→∃ r,Xa6 body (some lv) n (a'.keepT lv) M'=some r∧Q r):∃ r,Xa6 body (some lv) (n+1) a H=some r∧Q r:=by
 rw [Xdj,h]
 simp only [Xbk]
 split
 ·rename_i hc
  simp only [Bool.and_eq_true] at hc
  exact h2 _ (.inr ⟨rfl,hc.1.1⟩)
 ·exact h2 _ (.inl rfl)
def GrB (n0:Nat) (out:List UInt8) (v:AV) (M:Mem):Prop :=
 (out=[]∧v=.nilS)∨∃ q st,v=.slc q 0 out.length 1 st∧n0≤q∧M[q]? = some (.row (Xal out) st (5+1))
theorem ofB_one (l:List UInt8):(Xal l).all AV.one=true:=by
 unfold Xal
 rw [List.all_map]
 exact List.all_eq_true.2 fun _ _=>rfl
theorem stb_len {H M:Mem} (h:M.take H.length=H):H.length≤M.length:=by
 have:=congrArg List.length h
 rw [List.length_take] at this
 omega
section
variable {N:Nat}
noncomputable def Xn4:IC:=(I54.c.loops).getD 0 .bad
def RUEnd (H:Mem) (out:List UInt8):Out × AAct × Mem→Prop
 | (o,a,M)=>o=.exit 0∧a.n=35∧a.d=[]∧M.take H.length=H∧GrB H.length out (Xad a.t 3) M
theorem Xjv (n:Nat) (s:List UInt8) (hl:s.length<1073741824) (hN:8<N) (H:Mem):∀ (fuel i:Nat) (M:Mem) (v:AV) (out:List UInt8),i≤s.length→s.length-i<fuel→out.length≤i→M.take H.length=H→GrB H.length out v M →
  ∃ r,Xa6 (fun a H=>evI Tryz.prog cfg (Xaw Tryz.prog cfg T N (n+2)) N Xn4 a H) (some [0,3,4]) fuel ⟨35,[(0,.str s),(3,v),(4,.int .i64 i)],[]⟩ M=some r∧RUEnd H (out++Xc4 (s.drop i)) r
 | 0,i,_,_,_,_,h,_,_,_=>by omega
 | fuel+1,i,M,v,out,hi,hf,ho,hst,hG=>by
  rcases Nat.lt_or_ge i s.length with hlt | hge
  ·obtain ⟨c,hc⟩:=Xbb hlt
   have hil:decide ((i:Int)<(s.length:Int))=true:=decide_eq_true (by omega)
   have hn:=Xan i .i64
   have tk:(s.drop i).take (s.length-i)=s.drop i:=List.take_of_length_le (by rw [List.length_drop]; exact Nat.le_refl _)
   have hle:i≤s.length:=by omega
   have hget:s[i]? = some c:=by
    have h0:(s.drop i)[0]? = some c:=by rw [hc]; rfl
    rw [List.getElem?_drop,Nat.add_zero] at h0
    exact h0
   have hxl:(s.drop i).length=s.length-i:=List.length_drop
   have hw1:IntKind.wrap .i64 ((i:Int)+1)=((i+1:Nat):Int):=by rw [Xbs] <;> omega
   have hun:Xc4 (s.drop i)=if Xg3 (s.drop i)=true then Xj8 (Xoa (Xnh (((s.drop i).drop 2).take 4)))++Xc4 (s.drop (i+7)) else c::Xc4 (s.drop (i+1)):=by
    unfold Xc4
    obtain ⟨m,hm⟩ : ∃ m,(s.drop i).length=m+1:=⟨s.length-i-1,by omega⟩
    have hd7:(s.drop i).drop 7=s.drop (i+7):=by rw [List.drop_drop]
    rw [hm,← hd7]
    conv=>lhs; rw [hc]
    have hr:(s.drop (i+1)).length≤m:=by rw [List.length_drop]; omega
    rw [Xh2,← hc,Xey m _ _ hr (Nat.le_refl _),Xey m ((s.drop i).drop 7).length _ (by rw [List.length_drop]; omega) (Nat.le_refl _)]
   rw [hun]
   have hS:=fun H=>rspelt_eq (N:=N) n hN (s.drop i) (by omega) H
   have hlen:=stb_len hst
   have hm1:∀ k:Nat,k*1=k:=Nat.mul_one
   have hol:=Xiw out
   cases hs:Xg3 (s.drop i)
   ·rw [hs] at hS
    simp only [Ze,if_false] at hS ⊢
    have h100:((1:Nat)=0)=False:=by simp
    have hp34:(1:Nat)≤2 ^ 34:=by decide
    have hp35:out.length+1≤2 ^ 34:=by omega
    have ih:=Xjv n s hl hN H fuel (i+1)
    rw [show out++c::Xc4 (s.drop (i+1))=(out++[c])++Xc4 (s.drop (i+1)) by simp]
    have e1:Xal (out++[c])=Xal out++[.int .u8 c.toNat]:=Xpf out [c]
    rcases hG with ⟨rfl,rfl⟩ | ⟨q,st,rfl,hHq,hq⟩
    ·refine Xhw (by simp only [Xn4,I54,IC.loops,hil,Xdn,hn,hle,tk,hS,hget,hw1,Xfu,Xcd,Xgu,hp34,h100,reduceIte,reduceEqDiff,reduceLT,reduceAdd,reduceMul,reduceLeDiff,ZS]; rfl) ?_
     rintro M' (rfl | ⟨rfl,hlow⟩)
     ·refine ih _ _ ([]++[c]) (by omega) (by omega) (by simp) (by rw [List.take_append_of_le_length hlen]; exact hst) (.inr ⟨M.length+1,0,rfl,by omega,?_⟩)
      rw [Xff]; rfl
     ·exfalso
      simp [Xto,AAct.keepT,Xad,low] at hlow
      omega
    ·have hql:=(List.getElem?_eq_some_iff.1 hq).1
     have hqL:∀ L,(M++L)[q]? = some (.row (Xal out) st (5+1)):=fun L=>by rw [List.getElem?_append_left hql]; exact hq
     have hsL:∀ L b,(M++L).set q b=M.set q b++L:=fun L b=>List.set_append_left _ _ hql
     have hst2:∀ b,(M.set q b).take H.length=H:=fun b=>by rw [List.take_set_of_le hHq]; exact hst
     have hgr:∀ X,GrB H.length (out++[c]) (.slc q 0 (out.length+1) 1 (st+1)) (M.set q (.row (Xal out++[.int .u8 c.toNat]) (st+1) (5+1))++X):=fun X =>
      .inr ⟨q,st+1,by rw [List.length_append]; rfl,hHq,by rw [e1,List.getElem?_append_left (by rw [List.length_set]; exact hql),List.getElem?_set_self hql]⟩
     refine Xhw (by simp only [Xn4,I54,IC.loops,hil,Xdn,hn,hle,tk,hS,hget,hw1,hqL,hsL,hol,hm1,hp35,Xfu,Xcd,Xgu,h100,reduceIte,reduceEqDiff,reduceLT,reduceAdd,reduceMul,reduceLeDiff,ZS]; rfl) ?_
     rintro M' (rfl | ⟨rfl,hlow⟩)
     ·exact ih _ _ (out++[c]) (by omega) (by omega) (by rw [List.length_append]; simp; omega) (by rw [List.take_append_of_le_length (by rw [List.length_set]; omega)]; exact hst2 _) (hgr _)
     ·rw [List.take_left' (by simp)]
      have:=hgr []
      rw [List.append_nil] at this
      exact ih _ _ (out++[c]) (by omega) (by omega) (by rw [List.length_append]; simp; omega) (hst2 _) this
   ·rw [hs] at hS
    simp only [if_true] at hS ⊢
    have hsp:=hs
    unfold Xg3 at hsp
    simp only [Bool.and_eq_true,decide_eq_true_eq] at hsp
    obtain ⟨h7,_,_,hhex⟩:=hsp
    have hz:Xnh (((s.drop i).drop 2).take 4)<65536:=by
     have:=Xqr (((s.drop i).drop 2).take 4) (fun c hc=>List.all_eq_true.1 hhex c hc)
     rw [show (((s.drop i).drop 2).take 4).length=4 by rw [List.length_take,List.length_drop]; omega] at this
     exact this
    have hw7:IntKind.wrap .i64 ((i:Int)+7)=((i+7:Nat):Int):=by rw [Xbs] <;> omega
    generalize Xnh (((s.drop i).drop 2).take 4)=z at *
    have hE:=fun H=>encode_eq (N:=N) n H z hz
    obtain ⟨hep,hel⟩:=Xpt (Xoa z)
    generalize Xj8 (Xoa z)=e at *
    have hone:=ofB_one e
    have he0:(e.length=0)=False:=by simp only [eq_iff_iff,iff_false]; omega
    have hp34:e.length≤2 ^ 34:=by omega
    have hp35:out.length+e.length≤2 ^ 34:=by omega
    have ih:=Xjv n s hl hN H fuel (i+7)
    rw [← List.append_assoc]
    have e1:Xal (out++e)=Xal out++Xal e:=Xpf out e
    rcases hG with ⟨rfl,rfl⟩ | ⟨q,st,rfl,hHq,hq⟩
    ·refine Xhw (by simp only [Xn4,I54,IC.loops,hil,Xdn,hn,hle,tk,hS,hE,hw7,Xfu,Xcd,Xgu,hp34,he0,hone,reduceIte,reduceEqDiff,reduceLT,reduceAdd,reduceMul,reduceLeDiff,ZS]; rfl) ?_
     rintro M' (rfl | ⟨rfl,hlow⟩)
     ·refine ih _ _ ([]++e) (by omega) (by omega) (by simp; omega) (by rw [List.take_append_of_le_length hlen]; exact hst) (.inr ⟨M.length,0,rfl,by omega,?_⟩)
      rw [Xfr]; rfl
     ·exfalso
      simp [Xto,AAct.keepT,Xad,low] at hlow
    ·have hql:=(List.getElem?_eq_some_iff.1 hq).1
     have hst2:∀ b,(M.set q b).take H.length=H:=fun b=>by rw [List.take_set_of_le hHq]; exact hst
     have hgr:GrB H.length (out++e) (.slc q 0 (out.length+e.length) 1 (st+1)) (M.set q (.row (Xal out++Xal e) (st+1) (5+1))) :=
      .inr ⟨q,st+1,by rw [List.length_append],hHq,by rw [e1,List.getElem?_set_self hql]⟩
     refine Xhw (by simp only [Xn4,I54,IC.loops,hil,Xdn,hn,hle,tk,hS,hE,hw7,hq,hol,hm1,hp35,Xfu,Xcd,Xgu,he0,hone,reduceIte,reduceEqDiff,reduceLT,reduceAdd,reduceMul,reduceLeDiff,ZS]; rfl) ?_
     have hcut:(M.set q (.row (Xal out++Xal e) (st+1) (5+1))).take M.length=M.set q (.row (Xal out++Xal e) (st+1) (5+1)):=List.take_of_length_le (by rw [List.length_set]; exact Nat.le_refl _)
     rintro M' (rfl | ⟨rfl,hlow⟩)
     ·exact ih _ _ (out++e) (by omega) (by omega) (by rw [List.length_append]; omega) (hst2 _) hgr
     ·rw [hcut]
      exact ih _ _ (out++e) (by omega) (by omega) (by rw [List.length_append]; omega) (hst2 _) hgr
  ·have hk':i=s.length:=by omega
   subst hk'
   have hil:decide ((s.length:Int)<(s.length:Int))=false:=decide_eq_false (by omega)
   rw [List.drop_length]
   refine ⟨_,Xae (by simp only [Xn4,I54,IC.loops,hil,reduceIte,reduceEqDiff,reduceLT,reduceAdd,reduceMul,reduceLeDiff,ZS]; rfl),rfl,rfl,rfl,hst,?_⟩
   rw [show Xc4 []=[] from rfl,List.append_nil]
   exact hG
theorem Xfi (n:Nat) (s:List UInt8) (hl:s.length<1073741824) (hN:1073741825<N) (H:Mem):Xaw Tryz.prog cfg T N (n+3) 54 [.str s] H=some (.ret (.str (Xc4 s)),H):=by
 obtain ⟨⟨o,a,M⟩,hr,rfl,e1,e2,hst,hG⟩:=Xjv (N:=N) n s hl (by omega) H N 0 H .nilS [] (Nat.zero_le _) (by omega) (by simp) List.take_length (.inl ⟨rfl,rfl⟩)
 rw [List.drop_zero,List.nil_append] at hG
 obtain ⟨an,at',ad⟩:=a
 simp only at e1 e2 hG
 subst e1 e2
 generalize hv:Xad at' 3=v at *
 have hm1:∀ k:Nat,k*1=k:=Nat.mul_one
 have hld:(Xcd M 1 v).bind (fun p=>(Xe3 p.2).map fun s=>Res1.val (.str s) M)=some (.val (.str (Xc4 s)) M):=by
  rcases hG with ⟨h1,rfl⟩ | ⟨q,st,rfl,hHq,hq⟩
  ·rw [h1]; rfl
  ·have hle:(Xc4 s).length≤(Xal (Xc4 s)).length:=by rw [Xiw]; exact Nat.le_refl _
   have htk:(Xal (Xc4 s)).take (Xc4 s).length=Xal (Xc4 s):=List.take_of_length_le (by rw [Xiw]; exact Nat.le_refl _)
   simp only [Xcd,hq,hm1,ZL,hle,and_self,if_true,Zu,htk,Zo,Xgq,Zh]
 have hfin:Xao false H (.str (Xc4 s)) M=(.str (Xc4 s),H):=by
  have:eqM (M.take H.length) H=true:=by rw [hst]; exact Xb0 _
  simp only [Xao,Ze,if_false,frz,low,Xce,this,Bool.true_or,ZJ,if_true]
  exact congrArg (Prod.mk _) hst
 refine Xac (m:=35) (v:=.str (Xc4 s)) (a:=?aa) (H1:=M) rfl t54 rfl ?hb ?hd ?hr ?hz
 case hb =>
  apply Xaa
  ·simp only [idx,I54,reduceIte,reduceEqDiff,reduceLT,reduceAdd,reduceMul,reduceLeDiff,ZS]; rfl
  apply Xaa
  ·simp only [reduceIte,reduceEqDiff,reduceLT,reduceAdd,reduceMul,reduceLeDiff,ZS]; rfl
  apply Xaa
  ·apply Xaa
   ·simp only [reduceIte,reduceEqDiff,reduceLT,reduceAdd,reduceMul,reduceLeDiff,ZS]; rfl
   apply Xab
   apply Xaf
   exact hr
  simp only [hv,hld,reduceIte,reduceEqDiff,reduceLT,reduceAdd,reduceMul,reduceLeDiff,ZS]; rfl
 case hd=>rfl
 case hr=>rfl
 case hz=>exact hfin
end
end Go.Proofs.YtmhhddhbdbcmbaaGreatDoor.Ev
