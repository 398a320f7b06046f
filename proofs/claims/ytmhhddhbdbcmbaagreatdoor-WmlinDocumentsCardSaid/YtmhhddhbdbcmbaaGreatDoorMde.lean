/- Parts of one proof. -/
import Derived.Test.YtmhhddhbdbcmbaaGreatDoorMdb
set_option linter.all false
namespace Go.Proofs.YtmhhddhbdbcmbaaGreatDoor.Ev
open Nat (reduceEqDiff reduceLT reduceAdd reduceMul reduceLeDiff reduceSub)
open Go.Proofs.YtmhhddhbdbcmbaaGreatDoor.Ic
set_option maxRecDepth 100000
set_option maxHeartbeats 2000000
theorem Xgq:∀ s:List UInt8,Xe3 (Xal s)=some s
 | []=>rfl
 | b::s=>by
  have ih:=Xgq s
  have h:=b.toNat_lt
  unfold Xal at *
  have h1:(0:Int)≤(b.toNat:Int):=by omega
  have h2:(b.toNat:Int)<256:=by omega
  simp only [Zv,Xe3,Xwy,h1,h2,and_self,if_true,ih,Int.toNat_natCast,UInt8.ofNat_toNat]
theorem Xiw (s:List UInt8):(Xal s).length=s.length:=by simp [Xal]
theorem Xpf (s t:List UInt8):Xal (s++t)=Xal s++Xal t:=by simp [Xal]
abbrev bB (x y:AV):Blk:=.row [x,y] 0 (135+1)
def Xwm (n:Nat) (L:Mem) (x y:AV) (s:List UInt8):Prop :=
 (x=.nilP∧y=.nilS∧s=[])∨∃ j st,x=.ptr n 0 0∧y=.slc (n+(j+1)) 0 s.length 1 st∧L[j]? = some (.row (Xal s) st (5+1))∧0<s.length
theorem op_c7:(Xlh Tryz.f106 7).op=.convert 133 186 (.tmp 8):=by kernel_rfl
theorem op_c9:(Xlh Tryz.f106 9).op=.convert 186 133 (.tmp 10):=by kernel_rfl
theorem op_s5:(Xlh Tryz.f77 5).op=.call ⟨.builtin .unsafeSliceData,#[.tmp 6],#[119]⟩:=by kernel_rfl
theorem op_s11:(Xlh Tryz.f77 11).op=.call ⟨.builtin .unsafeString,#[.tmp 7,.tmp 12],#[166,3]⟩:=by kernel_rfl
theorem und_up:Tryz.prog.underlying 186=some .unsafePointer:=by kernel_rfl
theorem und_bp:Tryz.prog.underlying 133=some (.pointer 135):=by kernel_rfl
theorem und_pu:Tryz.prog.underlying 166=some (.pointer 5):=by kernel_rfl
theorem lies_b:liesAt Tryz.prog Tryz.prog.depth 135 (2 / Tryz.prog.cellsOf 135) 0 135 1=true:=by kernel_rfl
theorem info_b:((Tryz.prog.info? 135).map fun j=>decide (j.size≠0))=some true:=by kernel_rfl
theorem info_b2:(Tryz.prog.info? 135).isSome=true:=by kernel_rfl
theorem cells_u8:Tryz.prog.cellsOf 5=1:=by kernel_rfl
theorem exec_c7 {ρ:Operand→AV} {H:Mem} {β:Nat} {x y:AV} (hρ:ρ (.tmp 8)=.ptr β 0 0) (hH:H[β]? = some (.row [x,y] 0 (135+1))):Xar Tryz.prog ρ (Xlh Tryz.f106 7) H=some (.val (.ptr β 0 0) H):=by
 unfold Xar
 rw [op_c7]
 simp only [hρ,Xnr,und_bp,und_up,hH,info_b,Xlc,Zf,Zk,ZB,and_self,if_true,Zh]
theorem exec_c9 {ρ:Operand→AV} {H:Mem} {β:Nat} {x y:AV} (hρ:ρ (.tmp 10)=.ptr β 0 0) (hH:H[β]? = some (.row [x,y] 0 (135+1))):Xar Tryz.prog ρ (Xlh Tryz.f106 9) H=some (.val (.ptr β 0 0) H):=by
 unfold Xar
 rw [op_c9]
 simp only [hρ,Xnr,und_bp,und_up,hH,info_b2,lies_b,Xlc,Zf,Zk,ZL,reduceAdd,and_self,if_true,Zh]
theorem exec_s5 {ρ:Operand→AV} {H:Mem} {q off len sz st:Nat} (hρ:ρ (.tmp 6)=.slc q off len sz st) (hl:0<len):Xar Tryz.prog ρ (Xlh Tryz.f77 5) H=some (.val (.ptr q off st) H):=by
 unfold Xar
 rw [op_s5]
 simp only [Xc0,hρ,Xf2,hl,Xbe,if_true,Zh,Zv,Zz]
theorem exec_s11 {ρ:Operand→AV} {H:Mem} {q st:Nat} {cs:List AV} {s:List UInt8} (hρ:ρ (.tmp 7)=.ptr q 0 st) (hρ2:ρ (.tmp 12)=.int .i64 (s.length:Int)) (hH:H[q]? = some (.row cs st (5+1))) (hcs:cs=Xal s) (hs:0<s.length) (hs2:s.length<2 ^ 59):Xar Tryz.prog ρ (Xlh Tryz.f77 11) H=some (.val (.str s) (H.set q (.row [] (st+1) 0))):=by
 have hl:cs.length=s.length:=by rw [hcs]; simp [Xal]
 have htk:cs.take s.length=Xal s:=by rw [← hl,List.take_length,hcs]
 have h0:(0:Int)<(s.length:Int):=by omega
 have h1:(s.length:Int).toNat≤cs.length:=by omega
 have h2:(s.length:Int)<2 ^ 60:=by omega
 have h3:s.length≤cs.length:=by omega
 unfold Xar
 rw [op_s11]
 simp only [Xc0,hρ,hρ2,Xgd,hH,und_pu,cells_u8,h0,h1,h2,h3,true_and,and_true,Int.toNat_natCast,htk,Xgq,Xlc,and_self,if_true,Zh,Zv,Zz]
theorem Xv6 {keep:Bool} {v:AV} {H0 H1:Mem} {b:Blk} (hf:(if keep then some v else frz H0.length H1 12 v)=some v) (hb:b ∈ H1.take H0.length) (hl:Xcn H0.length b=false) (hn:H1.take H0.length≠H0):Xao keep H0 v H1=(v,H1):=by
 have h1:Xb6 H0.length (H1.take H0.length)=false:=by
  cases h:Xb6 H0.length (H1.take H0.length) with
  | false=>rfl
  | true =>
   unfold Xb6 at h
   rw [List.all_eq_true.1 h b hb] at hl; cases hl
 have h2:eqM (H1.take H0.length) H0=false:=by
  cases h:eqM (H1.take H0.length) H0 with
  | false=>rfl
  | true=>exact absurd (Xfh h) hn
 unfold Xao
 simp only [hf,Xce,h1,h2,Bool.or_self,ZD,Ze,if_false]
theorem Xps {keep:Bool} {v:AV} {H0 H1:Mem} (hf:(if keep then some v else frz H0.length H1 12 v)=some v):Xao keep H0 v H1=(v,H1)∨Xao keep H0 v H1=(v,H1.take H0.length):=by
 unfold Xao
 simp only [hf]
 split
 ·exact .inr rfl
 ·exact .inl rfl
section
variable {N:Nat}
theorem Xsc (d:Nat) (hd:1≤d) (A L:Mem) (x y:AV) (hx:x=.nilP∨x=.ptr A.length 0 0) :
  Xaw Tryz.prog cfg T N d 106 [.ptr A.length 0 0] (A++bB x y::L)=some (.ret (.tup []),A++bB (.ptr A.length 0 0) y::L):=by
 obtain ⟨n,rfl⟩ : ∃ n,d=n+1:=⟨d-1,by omega⟩
 have hH:(A++bB x y::L)[A.length]? = some (bB x y):=Xfr _ _
 have q7:∀ ρ:Operand→AV,ρ (.tmp 8)=.ptr A.length 0 0→Xar Tryz.prog ρ (Xlh Tryz.f106 7) (A++bB x y::L)=some (.val (.ptr A.length 0 0) (A++bB x y::L)):=fun ρ h=>exec_c7 h hH
 have q9:∀ ρ:Operand→AV,ρ (.tmp 10)=.ptr A.length 0 0→Xar Tryz.prog ρ (Xlh Tryz.f106 9) (A++bB x y::L)=some (.val (.ptr A.length 0 0) (A++bB x y::L)):=fun ρ h=>exec_c9 h hH
 rcases hx with rfl | rfl
 ·refine Xvf (m:=20) (v:=.tup []) (a:=?aa) (H1:=A++bB (.ptr A.length 0 0) y::L) rfl t106 rfl ?hb ?hd ?hr ?hz
  case hb =>
   apply Xaa
   ·simp only [idx,I106,reduceIte,reduceEqDiff,reduceLT,reduceAdd,reduceMul,reduceLeDiff,ZS]; rfl
   apply Xde rfl
   simp only [AAct.eval,q7,q9,hH,reduceIte,reduceEqDiff,reduceLT,reduceAdd,reduceMul,reduceLeDiff,ZS]; rfl
  case hd=>rfl
  case hr=>simp only [I106,Xc6,Xbc,Xad,reduceIte,reduceEqDiff,Zh]
  case hz=>exact Xaq rfl (by simp)
 ·refine Xvf (m:=20) (v:=.tup []) (a:=?ab) (H1:=A++bB (.ptr A.length 0 0) y::L) rfl t106 rfl ?hb ?hd ?hr ?hz
  case hb =>
   apply Xaa
   ·simp only [idx,I106,reduceIte,reduceEqDiff,reduceLT,reduceAdd,reduceMul,reduceLeDiff,ZS]; rfl
   apply Xe1 rfl
   simp only [hH,reduceIte,reduceEqDiff,reduceLT,reduceAdd,reduceMul,reduceLeDiff,ZS]; rfl
  case hd=>rfl
  case hr=>simp only [I106,Xc6,Xbc,Xad,reduceIte,reduceEqDiff,Zh]
  case hz=>exact Xaq rfl rfl
theorem Xwm.px {n:Nat} {L:Mem} {x y:AV} {s:List UInt8} (h:Xwm n L x y s):x=.nilP∨x=.ptr n 0 0:=by
 rcases h with ⟨h,_⟩ | ⟨_,_,h,_⟩
 ·exact .inl h
 ·exact .inr h
theorem byte_any (d:Nat) (hd:2≤d) (A L:Mem) (x y:AV) (s:List UInt8) (h:Xwm A.length L x y s) (hs:s.length<1073741824) (c:UInt8) :
  ∃ x' y' L',Xaw Tryz.prog cfg T N d 76 [.ptr A.length 0 0,.int .u8 c.toNat] (A++bB x y::L)=some (.ret .nilI,A++bB x' y'::L')∧Xwm A.length L' x' y' (s++[c]):=by
 obtain ⟨n,rfl⟩ : ∃ n,d=n+2:=⟨d-2,by omega⟩
 have q1:=Xsc (N:=N) (n+1) (by omega) A L x y h.px
 have hp34:(1:Nat)≤2 ^ 34:=by decide
 have h100:((1:Nat)=0)=False:=by simp
 rcases h with ⟨rfl,rfl,rfl⟩ | ⟨j,st,rfl,rfl,hj,hpos⟩
 ·have hk:Xao false (A++bB .nilP .nilS::L) .nilI (A++bB (.ptr A.length 0 0) (.slc (A.length+(L.length+2)) 0 1 1 0)::(L++[.row [.int .u8 c.toNat] 0 (5+1),.row [.int .u8 c.toNat] 0 (5+1)]))=(.nilI,A++bB (.ptr A.length 0 0) (.slc (A.length+(L.length+2)) 0 1 1 0)::(L++[.row [.int .u8 c.toNat] 0 (5+1),.row [.int .u8 c.toNat] 0 (5+1)])):=by
   have ht:(A++bB (.ptr A.length 0 0) (.slc (A.length+(L.length+2)) 0 1 1 0)::(L++[.row [.int .u8 c.toNat] 0 (5+1),.row [.int .u8 c.toNat] 0 (5+1)])).take (A++bB .nilP .nilS::L).length=A++bB (.ptr A.length 0 0) (.slc (A.length+(L.length+2)) 0 1 1 0)::L:=by
    rw [show A++bB (.ptr A.length 0 0) (.slc (A.length+(L.length+2)) 0 1 1 0)::(L++[.row [.int .u8 c.toNat] 0 (5+1),.row [.int .u8 c.toNat] 0 (5+1)])=(A++bB (.ptr A.length 0 0) (.slc (A.length+(L.length+2)) 0 1 1 0)::L)++[.row [.int .u8 c.toNat] 0 (5+1),.row [.int .u8 c.toNat] 0 (5+1)] by simp]
    exact List.take_left' (by simp)
   refine Xv6 (b:=bB (.ptr A.length 0 0) (.slc (A.length+(L.length+2)) 0 1 1 0)) rfl ?_ ?_ ?_
   ·rw [ht]; simp
   ·have h1:decide (A.length+(L.length+2)<(A++bB .nilP .nilS::L).length)=false:=decide_eq_false (by simp)
    simp only [Xcn,lowL,low,h1,ZD,ZE]
   ·rw [ht]
    intro h
    simp at h
  refine ⟨.ptr A.length 0 0,.slc (A.length+(L.length+2)) 0 1 1 0,L++[.row [.int .u8 c.toNat] 0 (5+1),.row [.int .u8 c.toNat] 0 (5+1)],?_,.inr ⟨L.length+1,0,rfl,rfl,by rw [List.getElem?_append_right (by omega)]; simp; rfl,by simp⟩⟩
  refine Xac (m:=17) (v:=.nilI) (a:=?aa) (H1:=A++bB (.ptr A.length 0 0) (.slc (A.length+(L.length+2)) 0 1 1 0)::(L++[.row [.int .u8 c.toNat] 0 (5+1),.row [.int .u8 c.toNat] 0 (5+1)])) rfl t76 rfl ?hb ?hd ?hr ?hz
  case hb =>
   apply Xaa
   ·simp only [idx,I76,reduceIte,reduceEqDiff,reduceLT,reduceAdd,reduceMul,reduceLeDiff,ZS]; rfl
   apply Xaa
   ·simp only [q1,reduceIte,reduceEqDiff,reduceLT,reduceAdd,reduceMul,reduceLeDiff,ZS]; rfl
   apply Xaa
   ·simp only [Xfu,Xcd,Xgu,hp34,h100,reduceIte,reduceEqDiff,reduceLT,reduceAdd,reduceMul,reduceLeDiff,ZS]; rfl
   apply Xaa
   ·simp only [reduceIte,reduceEqDiff,reduceLT,reduceAdd,reduceMul,reduceLeDiff,ZS]; rfl
   rfl
  case hd=>rfl
  case hr=>simp only [I76,Xc6,Xbc,Xad,reduceIte,reduceEqDiff,Zh]
  case hz=>exact hk
 ·have hjl:j<L.length:=(List.getElem?_eq_some_iff.1 hj).1
  have hj1:∀ X:Mem,(L++X)[j]? = some (.row (Xal s) st (5+1)):=fun X=>by rw [List.getElem?_append_left hjl]; exact hj
  have hjs:∀ (X:Mem) b,(L++X).set j b=L.set j b++X:=fun X b=>List.set_append_left _ _ hjl
  have hl:=Xiw s
  have hm1:∀ k:Nat,k*1=k:=Nat.mul_one
  have hll:s.length+1≤2 ^ 34:=by omega
  have e1:Xal (s++[c])=Xal s++[.int .u8 c.toNat]:=Xpf s [c]
  have hz:=Xps (keep:=false) (v:=.nilI) (H0:=A++bB (.ptr A.length 0 0) (.slc (A.length+(j+1)) 0 s.length 1 st)::L) (H1:=A++bB (.ptr A.length 0 0) (.slc (A.length+(j+1)) 0 (s.length+1) 1 (st+1))::(L.set j (.row (Xal s++[.int .u8 c.toNat]) (st+1) (5+1))++[.row [.int .u8 c.toNat] 0 (5+1)])) rfl
  have ht:(A++bB (.ptr A.length 0 0) (.slc (A.length+(j+1)) 0 (s.length+1) 1 (st+1))::(L.set j (.row (Xal s++[.int .u8 c.toNat]) (st+1) (5+1))++[.row [.int .u8 c.toNat] 0 (5+1)])).take (A++bB (.ptr A.length 0 0) (.slc (A.length+(j+1)) 0 s.length 1 st)::L).length=A++bB (.ptr A.length 0 0) (.slc (A.length+(j+1)) 0 (s.length+1) 1 (st+1))::L.set j (.row (Xal s++[.int .u8 c.toNat]) (st+1) (5+1)):=by
   rw [show ∀ (b:Blk) (X Y:Mem),A++b::(X++Y)=(A++b::X)++Y from fun b X Y=>by simp]
   exact List.take_left' (by simp)
  rw [ht] at hz
  have fin:∀ L',(L'=L.set j (.row (Xal s++[.int .u8 c.toNat]) (st+1) (5+1))++[.row [.int .u8 c.toNat] 0 (5+1)]∨L'=L.set j (.row (Xal s++[.int .u8 c.toNat]) (st+1) (5+1)))→Xwm A.length L' (.ptr A.length 0 0) (.slc (A.length+(j+1)) 0 (s.length+1) 1 (st+1)) (s++[c]):=fun L' h=>by
   refine .inr ⟨j,st+1,rfl,by rw [List.length_append]; rfl,?_,by simp⟩
   rw [e1]
   rcases h with rfl | rfl
   ·rw [List.getElem?_append_left (by rw [List.length_set]; exact hjl),List.getElem?_set_self hjl]
   ·rw [List.getElem?_set_self hjl]
  have run:∀ M',Xao false (A++bB (.ptr A.length 0 0) (.slc (A.length+(j+1)) 0 s.length 1 st)::L) .nilI (A++bB (.ptr A.length 0 0) (.slc (A.length+(j+1)) 0 (s.length+1) 1 (st+1))::(L.set j (.row (Xal s++[.int .u8 c.toNat]) (st+1) (5+1))++[.row [.int .u8 c.toNat] 0 (5+1)]))=(.nilI,M')→Xaw Tryz.prog cfg T N (n+2) 76 [.ptr A.length 0 0,.int .u8 c.toNat] (A++bB (.ptr A.length 0 0) (.slc (A.length+(j+1)) 0 s.length 1 st)::L)=some (.ret .nilI,M'):=fun M' hz=>by
   refine Xac (m:=17) (v:=.nilI) (a:=?ab) (H1:=A++bB (.ptr A.length 0 0) (.slc (A.length+(j+1)) 0 (s.length+1) 1 (st+1))::(L.set j (.row (Xal s++[.int .u8 c.toNat]) (st+1) (5+1))++[.row [.int .u8 c.toNat] 0 (5+1)])) rfl t76 rfl ?hb ?hd ?hr ?hz
   case hb =>
    apply Xaa
    ·simp only [idx,I76,reduceIte,reduceEqDiff,reduceLT,reduceAdd,reduceMul,reduceLeDiff,ZS]; rfl
    apply Xaa
    ·simp only [q1,reduceIte,reduceEqDiff,reduceLT,reduceAdd,reduceMul,reduceLeDiff,ZS]; rfl
    apply Xaa
    ·simp only [Xfu,Xcd,Xgu,hp34,h100,hj1,hjs,hl,hm1,hll,reduceIte,reduceEqDiff,reduceLT,reduceAdd,reduceMul,reduceLeDiff,ZS]; rfl
    apply Xaa
    ·simp only [reduceIte,reduceEqDiff,reduceLT,reduceAdd,reduceMul,reduceLeDiff,ZS]; rfl
    rfl
   case hd=>rfl
   case hr=>simp only [I76,Xc6,Xbc,Xad,reduceIte,reduceEqDiff,Zh]
   case hz=>exact hz
  rcases hz with hz | hz
  ·exact ⟨_,_,_,run _ hz,fin _ (.inl rfl)⟩
  ·exact ⟨_,_,_,run _ hz,fin _ (.inr rfl)⟩
theorem str_any (d:Nat) (hd:1≤d) (A L:Mem) (x y:AV) (s:List UInt8) (h:Xwm A.length L x y s) (hs:s.length<1073741824) :
  ∃ L',Xaw Tryz.prog cfg T N d 77 [.ptr A.length 0 0] (A++bB x y::L)=some (.ret (.str s),A++bB x y::L'):=by
 obtain ⟨n,rfl⟩ : ∃ n,d=n+1:=⟨d-1,by omega⟩
 have hH:(A++bB x y::L)[A.length]? = some (bB x y):=Xfr _ _
 rcases h with ⟨rfl,rfl,rfl⟩ | ⟨j,st,rfl,rfl,hj,hpos⟩
 ·have q5:∀ (ρ:Operand→AV) (M:Mem),ρ (.tmp 6)=.nilS→Xar Tryz.prog ρ (Xlh Tryz.f77 5) M=some (.val .nilP M):=fun ρ M h=>by
   unfold Xar
   rw [op_s5]
   simp only [Xc0,h,Xf2,Xbe,if_true,Zh,Zv,Zz]
  have q11:∀ (ρ:Operand→AV) (M:Mem),ρ (.tmp 7)=.nilP→ρ (.tmp 12)=.int .i64 0→Xar Tryz.prog ρ (Xlh Tryz.f77 11) M=some (.val (.str []) M):=fun ρ M h1 h2=>by
   unfold Xar
   rw [op_s11]
   simp only [Xc0,h1,h2,Xgd,Xlc,if_true,Zh,Zv,Zz]
  refine ⟨L,?_⟩
  refine Xac (m:=14) (v:=.str []) (a:=?aa) (H1:=A++bB .nilP .nilS::L) rfl t77 rfl ?hb ?hd ?hr ?hz
  case hb =>
   apply Xaa
   ·simp only [idx,I77,reduceIte,reduceEqDiff,reduceLT,reduceAdd,reduceMul,reduceLeDiff,ZS]; rfl
   apply Xaa
   ·simp only [AAct.eval,q5,q11,hH,reduceIte,reduceEqDiff,reduceLT,reduceAdd,reduceMul,reduceLeDiff,ZU,ZS]; rfl
   rfl
  case hd=>rfl
  case hr=>simp only [I77,Xc6,Xbc,Xad,reduceIte,reduceEqDiff,Zh]
  case hz=>exact Xaq rfl rfl
 ·have hjl:j<L.length:=(List.getElem?_eq_some_iff.1 hj).1
  have hq:(A++bB (.ptr A.length 0 0) (.slc (A.length+(j+1)) 0 s.length 1 st)::L)[A.length+(j+1)]? = some (.row (Xal s) st (5+1)):=by
   rw [Xff,List.getElem?_cons_succ]; exact hj
  have q5:∀ (ρ:Operand→AV) (M:Mem),ρ (.tmp 6)=.slc (A.length+(j+1)) 0 s.length 1 st→Xar Tryz.prog ρ (Xlh Tryz.f77 5) M=some (.val (.ptr (A.length+(j+1)) 0 st) M):=fun ρ M h=>exec_s5 h hpos
  have q11:∀ (ρ:Operand→AV),ρ (.tmp 7)=.ptr (A.length+(j+1)) 0 st→ρ (.tmp 12)=.int .i64 (s.length:Int)→Xar Tryz.prog ρ (Xlh Tryz.f77 11) (A++bB (.ptr A.length 0 0) (.slc (A.length+(j+1)) 0 s.length 1 st)::L)=some (.val (.str s) (A++bB (.ptr A.length 0 0) (.slc (A.length+(j+1)) 0 s.length 1 st)::L.set j (.row [] (st+1) 0))):=fun ρ h1 h2=>by
   have:=exec_s11 h1 h2 hq rfl hpos (by omega)
   rw [this,Xmd,List.set_cons_succ]
  refine ⟨L.set j (.row [] (st+1) 0),?_⟩
  refine Xac (m:=14) (v:=.str s) (a:=?ab) (H1:=A++bB (.ptr A.length 0 0) (.slc (A.length+(j+1)) 0 s.length 1 st)::L.set j (.row [] (st+1) 0)) rfl t77 rfl ?hb ?hd ?hr ?hz
  case hb =>
   apply Xaa
   ·simp only [idx,I77,reduceIte,reduceEqDiff,reduceLT,reduceAdd,reduceMul,reduceLeDiff,ZS]; rfl
   apply Xaa
   ·simp only [AAct.eval,q5,q11,hH,reduceIte,reduceEqDiff,reduceLT,reduceAdd,reduceMul,reduceLeDiff,ZU,ZS]; rfl
   rfl
  case hd=>rfl
  case hr=>simp only [I77,Xc6,Xbc,Xad,reduceIte,reduceEqDiff,Zh]
  case hz=>exact Xaq rfl (by simp)
end
theorem or192 (x:Nat) (h:x<32):IntKind.wrap .u8 ((BitVec.ofInt (IntKind.bits .u8) 192 ||| BitVec.ofInt (IntKind.bits .u8) (x:Int)).toNat:Int)=((192+x:Nat):Int) :=
 (by decide +kernel:∀ x:Fin 32,IntKind.wrap .u8 ((BitVec.ofInt (IntKind.bits .u8) 192 ||| BitVec.ofInt (IntKind.bits .u8) (x.val:Int)).toNat:Int)=((192+x.val:Nat):Int)) ⟨x,h⟩
theorem or224 (x:Nat) (h:x<16):IntKind.wrap .u8 ((BitVec.ofInt (IntKind.bits .u8) 224 ||| BitVec.ofInt (IntKind.bits .u8) (x:Int)).toNat:Int)=((224+x:Nat):Int) :=
 (by decide +kernel:∀ x:Fin 16,IntKind.wrap .u8 ((BitVec.ofInt (IntKind.bits .u8) 224 ||| BitVec.ofInt (IntKind.bits .u8) (x.val:Int)).toNat:Int)=((224+x.val:Nat):Int)) ⟨x,h⟩
theorem or128 (x:Nat) (h:x<64):IntKind.wrap .u8 ((BitVec.ofInt (IntKind.bits .u8) 128 ||| BitVec.ofInt (IntKind.bits .u8) (x:Int)).toNat:Int)=((128+x:Nat):Int) :=
 (by decide +kernel:∀ x:Fin 64,IntKind.wrap .u8 ((BitVec.ofInt (IntKind.bits .u8) 128 ||| BitVec.ofInt (IntKind.bits .u8) (x.val:Int)).toNat:Int)=((128+x.val:Nat):Int)) ⟨x,h⟩
theorem and63 (x:Nat) (h:x<256):IntKind.wrap .u8 ((BitVec.ofInt (IntKind.bits .u8) (x:Int) &&& BitVec.ofInt (IntKind.bits .u8) 63).toNat:Int)=((x % 64:Nat):Int) :=
 (by decide +kernel:∀ x:Fin 256,IntKind.wrap .u8 ((BitVec.ofInt (IntKind.bits .u8) (x.val:Int) &&& BitVec.ofInt (IntKind.bits .u8) 63).toNat:Int)=((x.val % 64:Nat):Int)) ⟨x,h⟩
theorem Xcc (x:Nat):IntKind.wrap .u8 (x:Int)=((x % 256:Nat):Int):=by
 simp [IntKind.wrap,IntKind.bits,IntKind.signed]
theorem Xk9 (x:Nat) (h:x<4294967296):IntKind.wrap .u32 (x:Int)=(x:Int):=by
 simp [IntKind.wrap,IntKind.bits,IntKind.signed]
 omega
theorem shr6 (x:Nat):(x:Int).fdiv (2 ^ min (6:Int).toNat (IntKind.bits .i32))=((x / 64:Nat):Int):=by
 show (x:Int).fdiv 64=_
 rw [Int.fdiv_eq_ediv_of_nonneg _ (by decide)]; omega
theorem Xyg (x:Nat):(x:Int).fdiv (2 ^ min (12:Int).toNat (IntKind.bits .i32))=((x / 4096:Nat):Int):=by
 show (x:Int).fdiv 4096=_
 rw [Int.fdiv_eq_ediv_of_nonneg _ (by decide)]; omega
def Xf0 (r:Nat):List Nat:=if r<128 then [r] else if r<2048 then [192+r / 64,128+r % 64] else [224+r / 4096,128+r / 64 % 64,128+r % 64]
def Xj8 (r:Nat):List UInt8:=(Xf0 r).map UInt8.ofNat
def cellN (l:List Nat):List AV:=l.map fun x:Nat=>AV.int .u8 (x:Int)
theorem Xr5 (r:Nat) (h:r<65536):Xal (Xj8 r)=cellN (Xf0 r):=by
 have g:∀ l:List Nat,(∀ x ∈ l,x<256)→Xal (l.map UInt8.ofNat)=cellN l:=fun l hl=>by
  induction l with
  | nil=>rfl
  | cons x l ih =>
   have h1:=hl x (by simp)
   show AV.int .u8 ((UInt8.ofNat x).toNat:Int)::Xal (l.map UInt8.ofNat)=AV.int .u8 (x:Int)::cellN l
   rw [ih fun y hy=>hl y (by simp [hy])]
   have:(UInt8.ofNat x).toNat=x:=by simp; omega
   rw [this]
 refine g _ fun x hx=>?_
 unfold Xf0 at hx
 split at hx
 ·simp at hx; omega
 ·split at hx
  ·simp at hx; omega
  ·simp at hx; omega
theorem Xpt (r:Nat):0<(Xj8 r).length∧(Xj8 r).length≤4:=by
 unfold Xj8 Xf0
 split
 ·simp
 ·split <;> simp
section
variable {N:Nat}
theorem rune_new (n:Nat) (H:Mem) (r:Nat) (h1:128≤r) (h2:r<65536) (h3:r<55296∨57343<r) :
  Xaw Tryz.prog cfg T N (n+1) 130 [.nilS,.int .i32 r] H=some (.ret (.slc (H.length+1) 0 (Xf0 r).length 1 0),H++[.row (cellN (Xf0 r)) 0 (5+1),.row (cellN (Xf0 r)) 0 (5+1)]):=by
 have hw:=Xk9 r (by omega)
 have c0:decide ((r:Int)≤127)=false:=decide_eq_false (by omega)
 have hp34:(2:Nat)≤2 ^ 34:=by decide
 have hp35:(3:Nat)≤2 ^ 34:=by decide
 have n6:((6:Int)<0)=False:=by simp
 have n12:((12:Int)<0)=False:=by simp
 have h200:((2:Nat)=0)=False:=by simp
 have h300:((3:Nat)=0)=False:=by simp
 have a1:=and63 (r % 256) (by omega)
 have a2:=or128 (r % 64) (by omega)
 have e1:r % 256 % 64=r % 64:=by omega
 rw [e1] at a1
 have fin:∀ (k:Nat) (X:Mem),Xao true H (.slc (H.length+1) 0 k 1 0) (H++X)=(.slc (H.length+1) 0 k 1 0,H++X):=fun k X=>by
  have h1:decide (H.length+1<H.length)=false:=decide_eq_false (by omega)
  simp only [Xao,if_true,Xce,low,h1,ZE,ZD,Ze,if_false]
 rcases Nat.lt_or_ge r 2048 with h4 | h4
 ·have c1:decide ((r:Int)≤2047)=true:=decide_eq_true (by omega)
  have g1:IntKind.wrap .u8 ((r / 64:Nat):Int)=((r / 64:Nat):Int):=by rw [Xcc,Nat.mod_eq_of_lt (by omega)]
  have g2:=or192 (r / 64) (by omega)
  have he:Xf0 r=[192+r / 64,128+r % 64]:=by unfold Xf0; rw [if_neg (by omega),if_pos h4]
  rw [he]
  refine Xac (m:=78) (v:=.slc (H.length+1) 0 2 1 0) (a:=?aa) (H1:=?Ha) rfl t130 rfl ?hb ?hd ?hr ?hz
  case hb =>
   apply Xaa
   ·simp only [idx,I130,reduceIte,reduceEqDiff,reduceLT,reduceAdd,reduceMul,reduceLeDiff,ZS]; rfl
   apply Xaa
   ·simp only [hw,reduceIte,reduceEqDiff,reduceLT,reduceAdd,reduceMul,reduceLeDiff,ZS]; rfl
   simp only [c1,shr6,n6,Xcc r,a1,a2,g1,g2,Xfu,Xcd,Xgu,hp34,h200,reduceIte,reduceEqDiff,reduceLT,reduceAdd,reduceMul,reduceLeDiff,ZS]; rfl
  case hd=>rfl
  case hr=>rfl
  case hz=>exact fin _ _
 ·have c1:decide ((r:Int)≤2047)=false:=decide_eq_false (by omega)
  have g1:IntKind.wrap .u8 ((r / 4096:Nat):Int)=((r / 4096:Nat):Int):=by rw [Xcc,Nat.mod_eq_of_lt (by omega)]
  have g2:=or224 (r / 4096) (by omega)
  have b1:=and63 (r / 64 % 256) (by omega)
  have e2:r / 64 % 256 % 64=r / 64 % 64:=by omega
  rw [e2] at b1
  have b2:=or128 (r / 64 % 64) (by omega)
  have he:Xf0 r=[224+r / 4096,128+r / 64 % 64,128+r % 64]:=by unfold Xf0; rw [if_neg (by omega),if_neg (by omega)]
  rw [he]
  have c3:decide ((r:Int)≤65535)=true:=decide_eq_true (by omega)
  cases c2:decide ((r:Int)<55296)
  ·have c4:decide ((57343:Int)<(r:Int))=true:=decide_eq_true (by have:=of_decide_eq_false c2; omega)
   refine Xac (m:=78) (v:=.slc (H.length+1) 0 3 1 0) (a:=?ab) (H1:=?Hb) rfl t130 rfl ?hb ?hd ?hr ?hz
   case hb =>
    apply Xaa
    ·simp only [idx,I130,reduceIte,reduceEqDiff,reduceLT,reduceAdd,reduceMul,reduceLeDiff,ZS]; rfl
    apply Xaa
    ·simp only [hw,reduceIte,reduceEqDiff,reduceLT,reduceAdd,reduceMul,reduceLeDiff,ZS]; rfl
    simp only [c1,c2,c3,c4,shr6,Xyg,n6,n12,Xcc r,Xcc (r / 64),a1,a2,b1,b2,g1,g2,Xfu,Xcd,Xgu,hp35,h300,reduceIte,reduceEqDiff,reduceLT,reduceAdd,reduceMul,reduceLeDiff,ZS]; rfl
   case hd=>rfl
   case hr=>rfl
   case hz=>exact fin _ _
  ·refine Xac (m:=78) (v:=.slc (H.length+1) 0 3 1 0) (a:=?ac) (H1:=?Hc) rfl t130 rfl ?hb ?hd ?hr ?hz
   case hb =>
    apply Xaa
    ·simp only [idx,I130,reduceIte,reduceEqDiff,reduceLT,reduceAdd,reduceMul,reduceLeDiff,ZS]; rfl
    apply Xaa
    ·simp only [hw,reduceIte,reduceEqDiff,reduceLT,reduceAdd,reduceMul,reduceLeDiff,ZS]; rfl
    simp only [c1,c2,shr6,Xyg,n6,n12,Xcc r,Xcc (r / 64),a1,a2,b1,b2,g1,g2,Xfu,Xcd,Xgu,hp35,h300,reduceIte,reduceEqDiff,reduceLT,reduceAdd,reduceMul,reduceLeDiff,ZS]; rfl
   case hd=>rfl
   case hr=>rfl
   case hz=>exact fin _ _
theorem rune_old (n:Nat) (H:Mem) (q st:Nat) (s:List UInt8) (hq:H[q]? = some (.row (Xal s) st (5+1))) (hs:s.length<1073741824) (r:Nat) (h1:128≤r) (h2:r<65536) (h3:r<55296∨57343<r) :
  ∃ X,Xaw Tryz.prog cfg T N (n+1) 130 [.slc q 0 s.length 1 st,.int .i32 r] H=some (.ret (.slc q 0 (s.length+(Xf0 r).length) 1 (st+1)),H.set q (.row (Xal s++cellN (Xf0 r)) (st+1) (5+1))++X):=by
 have hw:=Xk9 r (by omega)
 have c0:decide ((r:Int)≤127)=false:=decide_eq_false (by omega)
 have hp34:s.length+2≤2 ^ 34:=by omega
 have hp35:s.length+3≤2 ^ 34:=by omega
 have n6:((6:Int)<0)=False:=by simp
 have n12:((12:Int)<0)=False:=by simp
 have h200:((2:Nat)=0)=False:=by simp
 have h300:((3:Nat)=0)=False:=by simp
 have hl:=Xiw s
 have hm1:∀ k:Nat,k*1=k:=Nat.mul_one
 have hql:q<H.length:=(List.getElem?_eq_some_iff.1 hq).1
 have hq2:∀ L:Mem,(H++L)[q]? = some (.row (Xal s) st (5+1)):=fun L=>by rw [List.getElem?_append_left hql]; exact hq
 have hqs:∀ (L:Mem) b,(H++L).set q b=H.set q b++L:=fun L b=>List.set_append_left _ _ hql
 have a1:=and63 (r % 256) (by omega)
 have a2:=or128 (r % 64) (by omega)
 have e1:r % 256 % 64=r % 64:=by omega
 rw [e1] at a1
 have fin:∀ (k:Nat) (b:Blk) (X:Mem),∃ Y,Xao true H (.slc q 0 k 1 (st+1)) (H.set q b++X)=(.slc q 0 k 1 (st+1),H.set q b++Y):=fun k b X=>by
  rcases Xps (keep:=true) (v:=.slc q 0 k 1 (st+1)) (H0:=H) (H1:=H.set q b++X) rfl with h | h
  ·exact ⟨X,h⟩
  ·refine ⟨[],?_⟩
   rw [h,List.take_left' (by simp),List.append_nil]
 rcases Nat.lt_or_ge r 2048 with h4 | h4
 ·have c1:decide ((r:Int)≤2047)=true:=decide_eq_true (by omega)
  have g1:IntKind.wrap .u8 ((r / 64:Nat):Int)=((r / 64:Nat):Int):=by rw [Xcc,Nat.mod_eq_of_lt (by omega)]
  have g2:=or192 (r / 64) (by omega)
  have he:Xf0 r=[192+r / 64,128+r % 64]:=by unfold Xf0; rw [if_neg (by omega),if_pos h4]
  rw [he]
  obtain ⟨Y,hY⟩:=fin (s.length+2) (.row (Xal s++cellN [192+r / 64,128+r % 64]) (st+1) (5+1)) [.row (cellN [192+r / 64,128+r % 64]) 0 (5+1)]
  refine ⟨Y,?_⟩
  refine Xac (m:=78) (v:=.slc q 0 (s.length+2) 1 (st+1)) (a:=?aa) (H1:=H.set q (.row (Xal s++cellN [192+r / 64,128+r % 64]) (st+1) (5+1))++[.row (cellN [192+r / 64,128+r % 64]) 0 (5+1)]) rfl t130 rfl ?hb ?hd ?hr ?hz
  case hb =>
   apply Xaa
   ·simp only [idx,I130,reduceIte,reduceEqDiff,reduceLT,reduceAdd,reduceMul,reduceLeDiff,ZS]; rfl
   apply Xaa
   ·simp only [hw,reduceIte,reduceEqDiff,reduceLT,reduceAdd,reduceMul,reduceLeDiff,ZS]; rfl
   simp only [c1,shr6,n6,Xcc r,a1,a2,g1,g2,Xfu,Xcd,Xgu,hp34,h200,hq2,hqs,hl,hm1,reduceIte,reduceEqDiff,reduceLT,reduceAdd,reduceMul,reduceLeDiff,ZS]; rfl
  case hd=>rfl
  case hr=>rfl
  case hz=>exact hY
 ·have c1:decide ((r:Int)≤2047)=false:=decide_eq_false (by omega)
  have g1:IntKind.wrap .u8 ((r / 4096:Nat):Int)=((r / 4096:Nat):Int):=by rw [Xcc,Nat.mod_eq_of_lt (by omega)]
  have g2:=or224 (r / 4096) (by omega)
  have b1:=and63 (r / 64 % 256) (by omega)
  have e2:r / 64 % 256 % 64=r / 64 % 64:=by omega
  rw [e2] at b1
  have b2:=or128 (r / 64 % 64) (by omega)
  have he:Xf0 r=[224+r / 4096,128+r / 64 % 64,128+r % 64]:=by unfold Xf0; rw [if_neg (by omega),if_neg (by omega)]
  rw [he]
  obtain ⟨Y,hY⟩:=fin (s.length+3) (.row (Xal s++cellN [224+r / 4096,128+r / 64 % 64,128+r % 64]) (st+1) (5+1)) [.row (cellN [224+r / 4096,128+r / 64 % 64,128+r % 64]) 0 (5+1)]
  refine ⟨Y,?_⟩
  have c3:decide ((r:Int)≤65535)=true:=decide_eq_true (by omega)
  cases c2:decide ((r:Int)<55296)
  ·have c4:decide ((57343:Int)<(r:Int))=true:=decide_eq_true (by have:=of_decide_eq_false c2; omega)
   refine Xac (m:=78) (v:=.slc q 0 (s.length+3) 1 (st+1)) (a:=?ab) (H1:=H.set q (.row (Xal s++cellN [224+r / 4096,128+r / 64 % 64,128+r % 64]) (st+1) (5+1))++[.row (cellN [224+r / 4096,128+r / 64 % 64,128+r % 64]) 0 (5+1)]) rfl t130 rfl ?hb ?hd ?hr ?hz
   case hb =>
    apply Xaa
    ·simp only [idx,I130,reduceIte,reduceEqDiff,reduceLT,reduceAdd,reduceMul,reduceLeDiff,ZS]; rfl
    apply Xaa
    ·simp only [hw,reduceIte,reduceEqDiff,reduceLT,reduceAdd,reduceMul,reduceLeDiff,ZS]; rfl
    simp only [c1,c2,c3,c4,shr6,Xyg,n6,n12,Xcc r,Xcc (r / 64),a1,a2,b1,b2,g1,g2,Xfu,Xcd,Xgu,hp35,h300,hq2,hqs,hl,hm1,reduceIte,reduceEqDiff,reduceLT,reduceAdd,reduceMul,reduceLeDiff,ZS]; rfl
   case hd=>rfl
   case hr=>rfl
   case hz=>exact hY
  ·refine Xac (m:=78) (v:=.slc q 0 (s.length+3) 1 (st+1)) (a:=?ac) (H1:=H.set q (.row (Xal s++cellN [224+r / 4096,128+r / 64 % 64,128+r % 64]) (st+1) (5+1))++[.row (cellN [224+r / 4096,128+r / 64 % 64,128+r % 64]) 0 (5+1)]) rfl t130 rfl ?hb ?hd ?hr ?hz
   case hb =>
    apply Xaa
    ·simp only [idx,I130,reduceIte,reduceEqDiff,reduceLT,reduceAdd,reduceMul,reduceLeDiff,ZS]; rfl
    apply Xaa
    ·simp only [hw,reduceIte,reduceEqDiff,reduceLT,reduceAdd,reduceMul,reduceLeDiff,ZS]; rfl
    simp only [c1,c2,shr6,Xyg,n6,n12,Xcc r,Xcc (r / 64),a1,a2,b1,b2,g1,g2,Xfu,Xcd,Xgu,hp35,h300,hq2,hqs,hl,hm1,reduceIte,reduceEqDiff,reduceLT,reduceAdd,reduceMul,reduceLeDiff,ZS]; rfl
   case hd=>rfl
   case hr=>rfl
   case hz=>exact hY
theorem Xxy (n:Nat) (H:Mem) (r:Nat) (h2:r<65536) (h3:r<55296∨57343<r) :
  Xaw Tryz.prog cfg T N (n+2) 107 [.nilS,.int .i32 r] H=some (.ret (.slc (H.length+1) 0 (Xf0 r).length 1 0),H++[.row (cellN (Xf0 r)) 0 (5+1),.row (cellN (Xf0 r)) 0 (5+1)]):=by
 have hw:=Xk9 r (by omega)
 have hp34:(1:Nat)≤2 ^ 34:=by decide
 have h100:((1:Nat)=0)=False:=by simp
 have fin:∀ (k:Nat) (X:Mem),Xao true H (.slc (H.length+1) 0 k 1 0) (H++X)=(.slc (H.length+1) 0 k 1 0,H++X):=fun k X=>by
  have h1:decide (H.length+1<H.length)=false:=decide_eq_false (by omega)
  simp only [Xao,if_true,Xce,low,h1,ZE,ZD,Ze,if_false]
 rcases Nat.lt_or_ge r 128 with h | h
 ·have c0:decide ((r:Int)≤127)=true:=decide_eq_true (by omega)
  have g1:IntKind.wrap .u8 (r:Int)=(r:Int):=by rw [Xcc,Nat.mod_eq_of_lt (by omega)]
  have he:Xf0 r=[r]:=by unfold Xf0; rw [if_pos h]
  rw [he]
  refine Xac (m:=16) (v:=.slc (H.length+1) 0 1 1 0) (a:=?aa) (H1:=?Ha) rfl t107 rfl ?hb ?hd ?hr ?hz
  case hb=>simp only [idx,I107,hw,c0,g1,Xfu,Xcd,Xgu,hp34,h100,reduceIte,reduceEqDiff,reduceLT,reduceAdd,reduceMul,reduceLeDiff,ZS]; rfl
  case hd=>rfl
  case hr=>rfl
  case hz=>exact fin _ _
 ·have c0:decide ((r:Int)≤127)=false:=decide_eq_false (by omega)
  have q1:=rune_new (N:=N) n H r h h2 h3
  generalize Xf0 r=e at *
  refine Xac (m:=16) (v:=.slc (H.length+1) 0 e.length 1 0) (a:=?ab) (H1:=?Hb) rfl t107 rfl ?hb ?hd ?hr ?hz
  case hb=>simp only [idx,I107,hw,c0,q1,reduceIte,reduceEqDiff,reduceLT,reduceAdd,reduceMul,reduceLeDiff,ZS]; rfl
  case hd=>rfl
  case hr=>rfl
  case hz=>exact fin _ _
theorem Xxj (n:Nat) (H:Mem) (q st:Nat) (s:List UInt8) (hq:H[q]? = some (.row (Xal s) st (5+1))) (hs:s.length<1073741824) (r:Nat) (h2:r<65536) (h3:r<55296∨57343<r) :
  ∃ X,Xaw Tryz.prog cfg T N (n+2) 107 [.slc q 0 s.length 1 st,.int .i32 r] H=some (.ret (.slc q 0 (s.length+(Xf0 r).length) 1 (st+1)),H.set q (.row (Xal s++cellN (Xf0 r)) (st+1) (5+1))++X):=by
 have hw:=Xk9 r (by omega)
 have hp34:s.length+1≤2 ^ 34:=by omega
 have h100:((1:Nat)=0)=False:=by simp
 have hl:=Xiw s
 have hm1:∀ k:Nat,k*1=k:=Nat.mul_one
 have hql:q<H.length:=(List.getElem?_eq_some_iff.1 hq).1
 have hq2:∀ L:Mem,(H++L)[q]? = some (.row (Xal s) st (5+1)):=fun L=>by rw [List.getElem?_append_left hql]; exact hq
 have hqs:∀ (L:Mem) b,(H++L).set q b=H.set q b++L:=fun L b=>List.set_append_left _ _ hql
 have fin:∀ (k:Nat) (b:Blk) (X:Mem),∃ Y,Xao true H (.slc q 0 k 1 (st+1)) (H.set q b++X)=(.slc q 0 k 1 (st+1),H.set q b++Y):=fun k b X=>by
  rcases Xps (keep:=true) (v:=.slc q 0 k 1 (st+1)) (H0:=H) (H1:=H.set q b++X) rfl with h | h
  ·exact ⟨X,h⟩
  ·refine ⟨[],?_⟩
   rw [h,List.take_left' (by simp),List.append_nil]
 rcases Nat.lt_or_ge r 128 with h | h
 ·have c0:decide ((r:Int)≤127)=true:=decide_eq_true (by omega)
  have g1:IntKind.wrap .u8 (r:Int)=(r:Int):=by rw [Xcc,Nat.mod_eq_of_lt (by omega)]
  have he:Xf0 r=[r]:=by unfold Xf0; rw [if_pos h]
  rw [he]
  obtain ⟨Y,hY⟩:=fin (s.length+1) (.row (Xal s++cellN [r]) (st+1) (5+1)) [.row (cellN [r]) 0 (5+1)]
  refine ⟨Y,?_⟩
  refine Xac (m:=16) (v:=.slc q 0 (s.length+1) 1 (st+1)) (a:=?aa) (H1:=H.set q (.row (Xal s++cellN [r]) (st+1) (5+1))++[.row (cellN [r]) 0 (5+1)]) rfl t107 rfl ?hb ?hd ?hr ?hz
  case hb=>simp only [idx,I107,hw,c0,g1,Xfu,Xcd,Xgu,hp34,h100,hq2,hqs,hl,hm1,reduceIte,reduceEqDiff,reduceLT,reduceAdd,reduceMul,reduceLeDiff,ZS]; rfl
  case hd=>rfl
  case hr=>rfl
  case hz=>exact hY
 ·have c0:decide ((r:Int)≤127)=false:=decide_eq_false (by omega)
  obtain ⟨X,q1⟩:=rune_old (N:=N) n H q st s hq hs r h h2 h3
  generalize Xf0 r=e at *
  obtain ⟨Y,hY⟩:=fin (s.length+e.length) (.row (Xal s++cellN e) (st+1) (5+1)) X
  refine ⟨Y,?_⟩
  refine Xac (m:=16) (v:=.slc q 0 (s.length+e.length) 1 (st+1)) (a:=?ab) (H1:=H.set q (.row (Xal s++cellN e) (st+1) (5+1))++X) rfl t107 rfl ?hb ?hd ?hr ?hz
  case hb=>simp only [idx,I107,hw,c0,q1,reduceIte,reduceEqDiff,reduceLT,reduceAdd,reduceMul,reduceLeDiff,ZS]; rfl
  case hd=>rfl
  case hr=>rfl
  case hz=>exact hY
theorem rune_any (n:Nat) (A L:Mem) (x y:AV) (s:List UInt8) (h:Xwm A.length L x y s) (hs:s.length<1073741824) (r:Nat) (h2:r<65536) (h3:r<55296∨57343<r) :
  ∃ v x' y' L',Xaw Tryz.prog cfg T N (n+3) 75 [.ptr A.length 0 0,.int .i32 r] (A++bB x y::L)=some (.ret v,A++bB x' y'::L')∧Xwm A.length L' x' y' (s++Xj8 r):=by
 have q1:=Xsc (N:=N) (n+2) (by omega) A L x y h.px
 have hec:=Xr5 r h2
 have hel:(Xj8 r).length=(Xf0 r).length:=by unfold Xj8; simp
 obtain ⟨hep,hel4⟩:=Xpt r
 have hoc:(cellN (Xf0 r)).length=(Xf0 r).length:=by unfold cellN; simp
 rcases h with ⟨rfl,rfl,rfl⟩ | ⟨j,st,rfl,rfl,hj,hpos⟩
 ·have q2:=Xxy (N:=N) n (A++bB (.ptr A.length 0 0) .nilS::L) r h2 h3
  have hlen:(A++bB (.ptr A.length 0 0) .nilS::L).length+1=A.length+(L.length+2):=by simp; omega
  rw [hlen,show ∀ (b:Blk) (X Y:Mem),(A++b::X)++Y=A++b::(X++Y) from fun b X Y=>by simp] at q2
  generalize he:Xf0 r=e at *
  have hw:IntKind.wrap .i64 ((e.length:Int)-0)=(e.length:Int):=by rw [Xbs] <;> omega
  have hk:Xao false (A++bB .nilP .nilS::L) (.tup [.int .i64 e.length,.nilI]) (A++bB (.ptr A.length 0 0) (.slc (A.length+(L.length+2)) 0 e.length 1 0)::(L++[.row (cellN e) 0 (5+1),.row (cellN e) 0 (5+1)]))=(.tup [.int .i64 e.length,.nilI],A++bB (.ptr A.length 0 0) (.slc (A.length+(L.length+2)) 0 e.length 1 0)::(L++[.row (cellN e) 0 (5+1),.row (cellN e) 0 (5+1)])):=by
   have ht:(A++bB (.ptr A.length 0 0) (.slc (A.length+(L.length+2)) 0 e.length 1 0)::(L++[.row (cellN e) 0 (5+1),.row (cellN e) 0 (5+1)])).take (A++bB .nilP .nilS::L).length=A++bB (.ptr A.length 0 0) (.slc (A.length+(L.length+2)) 0 e.length 1 0)::L:=by
    rw [show ∀ (b:Blk) (X Y:Mem),A++b::(X++Y)=(A++b::X)++Y from fun b X Y=>by simp]
    exact List.take_left' (by simp)
   refine Xv6 (b:=bB (.ptr A.length 0 0) (.slc (A.length+(L.length+2)) 0 e.length 1 0)) rfl ?_ ?_ ?_
   ·rw [ht]; simp
   ·have h1:decide (A.length+(L.length+2)<(A++bB .nilP .nilS::L).length)=false:=decide_eq_false (by simp)
    simp only [Xcn,lowL,low,h1,ZD,ZE]
   ·rw [ht]
    intro h
    simp at h
  refine ⟨.tup [.int .i64 e.length,.nilI],.ptr A.length 0 0,.slc (A.length+(L.length+2)) 0 e.length 1 0,L++[.row (cellN e) 0 (5+1),.row (cellN e) 0 (5+1)],?_,.inr ⟨L.length+1,0,rfl,by rw [List.nil_append,hel],by rw [List.getElem?_append_right (by omega),List.nil_append,hec]; simp,by rw [List.nil_append]; exact hep⟩⟩
  refine Xac (m:=30) (v:=.tup [.int .i64 e.length,.nilI]) (a:=?aa) (H1:=A++bB (.ptr A.length 0 0) (.slc (A.length+(L.length+2)) 0 e.length 1 0)::(L++[.row (cellN e) 0 (5+1),.row (cellN e) 0 (5+1)])) rfl t75 rfl ?hb ?hd ?hr ?hz
  case hb =>
   apply Xaa
   ·simp only [idx,I75,reduceIte,reduceEqDiff,reduceLT,reduceAdd,reduceMul,reduceLeDiff,ZS]; rfl
   apply Xaa
   ·simp only [q1,reduceIte,reduceEqDiff,reduceLT,reduceAdd,reduceMul,reduceLeDiff,ZS]; rfl
   apply Xaa
   ·simp only [reduceIte,reduceEqDiff,reduceLT,reduceAdd,reduceMul,reduceLeDiff,ZS]; rfl
   apply Xaa
   ·simp only [q2,reduceIte,reduceEqDiff,reduceLT,reduceAdd,reduceMul,reduceLeDiff,ZS]; rfl
   apply Xaa
   ·simp only [hw,reduceIte,reduceEqDiff,reduceLT,reduceAdd,reduceMul,reduceLeDiff,ZS]; rfl
   rfl
  case hd=>rfl
  case hr=>rfl
  case hz=>exact hk
 ·have hjl:j<L.length:=(List.getElem?_eq_some_iff.1 hj).1
  have hq:(A++bB (.ptr A.length 0 0) (.slc (A.length+(j+1)) 0 s.length 1 st)::L)[A.length+(j+1)]? = some (.row (Xal s) st (5+1)):=by
   rw [Xff,List.getElem?_cons_succ]; exact hj
  obtain ⟨X,q2⟩:=Xxj (N:=N) n _ (A.length+(j+1)) st s hq hs r h2 h3
  rw [Xmd,List.set_cons_succ,show ∀ (b:Blk) (X Y:Mem),(A++b::X)++Y=A++b::(X++Y) from fun b X Y=>by simp] at q2
  generalize he:Xf0 r=e at *
  have hw:IntKind.wrap .i64 (((s.length+e.length:Nat):Int)-(s.length:Int))=(e.length:Int):=by rw [Xbs] <;> omega
  have e1:Xal (s++Xj8 r)=Xal s++cellN e:=by rw [Xpf,hec]
  have hz:=Xps (keep:=false) (v:=.tup [.int .i64 e.length,.nilI]) (H0:=A++bB (.ptr A.length 0 0) (.slc (A.length+(j+1)) 0 s.length 1 st)::L) (H1:=A++bB (.ptr A.length 0 0) (.slc (A.length+(j+1)) 0 (s.length+e.length) 1 (st+1))::(L.set j (.row (Xal s++cellN e) (st+1) (5+1))++X)) rfl
  have ht:(A++bB (.ptr A.length 0 0) (.slc (A.length+(j+1)) 0 (s.length+e.length) 1 (st+1))::(L.set j (.row (Xal s++cellN e) (st+1) (5+1))++X)).take (A++bB (.ptr A.length 0 0) (.slc (A.length+(j+1)) 0 s.length 1 st)::L).length=A++bB (.ptr A.length 0 0) (.slc (A.length+(j+1)) 0 (s.length+e.length) 1 (st+1))::L.set j (.row (Xal s++cellN e) (st+1) (5+1)):=by
   rw [show ∀ (b:Blk) (X Y:Mem),A++b::(X++Y)=(A++b::X)++Y from fun b X Y=>by simp]
   exact List.take_left' (by simp)
  rw [ht] at hz
  have fin:∀ Y,Xwm A.length (L.set j (.row (Xal s++cellN e) (st+1) (5+1))++Y) (.ptr A.length 0 0) (.slc (A.length+(j+1)) 0 (s.length+e.length) 1 (st+1)) (s++Xj8 r):=fun Y=>by
   refine .inr ⟨j,st+1,rfl,by rw [List.length_append,hel],?_,by rw [List.length_append]; omega⟩
   rw [e1,List.getElem?_append_left (by rw [List.length_set]; exact hjl),List.getElem?_set_self hjl]
  have run:∀ M',Xao false (A++bB (.ptr A.length 0 0) (.slc (A.length+(j+1)) 0 s.length 1 st)::L) (.tup [.int .i64 e.length,.nilI]) (A++bB (.ptr A.length 0 0) (.slc (A.length+(j+1)) 0 (s.length+e.length) 1 (st+1))::(L.set j (.row (Xal s++cellN e) (st+1) (5+1))++X))=(.tup [.int .i64 e.length,.nilI],M')→Xaw Tryz.prog cfg T N (n+3) 75 [.ptr A.length 0 0,.int .i32 r] (A++bB (.ptr A.length 0 0) (.slc (A.length+(j+1)) 0 s.length 1 st)::L)=some (.ret (.tup [.int .i64 e.length,.nilI]),M'):=fun M' hz=>by
   refine Xac (m:=30) (v:=.tup [.int .i64 e.length,.nilI]) (a:=?ab) (H1:=A++bB (.ptr A.length 0 0) (.slc (A.length+(j+1)) 0 (s.length+e.length) 1 (st+1))::(L.set j (.row (Xal s++cellN e) (st+1) (5+1))++X)) rfl t75 rfl ?hb ?hd ?hr ?hz
   case hb =>
    apply Xaa
    ·simp only [idx,I75,reduceIte,reduceEqDiff,reduceLT,reduceAdd,reduceMul,reduceLeDiff,ZS]; rfl
    apply Xaa
    ·simp only [q1,reduceIte,reduceEqDiff,reduceLT,reduceAdd,reduceMul,reduceLeDiff,ZS]; rfl
    apply Xaa
    ·simp only [reduceIte,reduceEqDiff,reduceLT,reduceAdd,reduceMul,reduceLeDiff,ZS]; rfl
    apply Xaa
    ·simp only [q2,reduceIte,reduceEqDiff,reduceLT,reduceAdd,reduceMul,reduceLeDiff,ZS]; rfl
    apply Xaa
    ·simp only [hw,reduceIte,reduceEqDiff,reduceLT,reduceAdd,reduceMul,reduceLeDiff,ZS]; rfl
    rfl
   case hd=>rfl
   case hr=>rfl
   case hz=>exact hz
  rcases hz with hz | hz
  ·exact ⟨_,_,_,_,run _ hz,fin X⟩
  ·have:=fin []
   rw [List.append_nil] at this
   exact ⟨_,_,_,_,run _ hz,this⟩
end
set_option maxHeartbeats 4000000
def Xfp (c:Nat):Nat:=if 48≤c∧c≤57 then c-48 else if 65≤c∧c≤70 then c-55 else if 97≤c∧c≤102 then c-87 else 99
def Xc1 (c:UInt8):Bool:=decide (Xfp c.toNat<16)
def Xnh (s:List UInt8):Nat:=s.foldl (fun n c=>n*16+Xfp c.toNat) 0
theorem low_or (c:Nat) (h:c<256) (h1:Xfp c<16) (h2:¬ (48≤c∧c≤57)):IntKind.wrap .u8 ((BitVec.ofInt (IntKind.bits .u8) (c:Int) ||| BitVec.ofInt (IntKind.bits .u8) 32).toNat:Int)=((Xfp c+87:Nat):Int) :=
 (by decide +kernel:∀ x:Fin 256,Xfp x.val<16→¬ (48≤x.val∧x.val≤57)→IntKind.wrap .u8 ((BitVec.ofInt (IntKind.bits .u8) (x.val:Int) ||| BitVec.ofInt (IntKind.bits .u8) 32).toNat:Int)=((Xfp x.val+87:Nat):Int)) ⟨c,h⟩ h1 h2
theorem hexD_let (c:Nat) (h1:Xfp c<16) (h2:¬ (48≤c∧c≤57)):10≤Xfp c:=by
 unfold Xfp at *
 rw [if_neg h2] at *
 split at h1
 ·rename_i h; rw [if_pos h]; omega
 ·rename_i h
  rw [if_neg h]
  split at h1
  ·rename_i h3; rw [if_pos h3]; omega
  ·omega
theorem Xdr {H L:Mem} {v:AV} (hf:frz H.length (H++L) 12 v=some v) (hl:low H.length v=true):Xao false H v (H++L)=(v,H):=by
 simp only [Xao,Ze,if_false,hf,hl,Xce,List.take_left,Xb0,Bool.true_or,ZJ,if_true]
theorem Xk6 {l:List Tmp} {a:AAct} {H:Mem}:Xbk (some l) H a H=(a.keepT l,H):=by
 simp only [Xbk,List.take_length,ite_self]
section
variable {N:Nat}
theorem lower_eq (n:Nat) (H:Mem) (c:Nat) (h:c<256) (h1:Xfp c<16) (h2:¬ (48≤c∧c≤57)):Xaw Tryz.prog cfg T N (n+1) 147 [.int .u8 c] H=some (.ret (.int .u8 (Xfp c+87:Nat)),H):=by
 have e:=low_or c h h1 h2
 refine Xac (m:=5) (v:=.int .u8 (Xfp c+87:Nat)) (a:=?aa) (H1:=H) rfl t147 rfl ?hb ?hd ?hr ?hz
 case hb=>simp only [idx,I147,e,reduceIte,reduceEqDiff,reduceLT,reduceAdd,reduceMul,reduceLeDiff,ZS]; rfl
 case hd=>rfl
 case hr=>rfl
 case hz=>exact Xaq rfl rfl
noncomputable def Xtj:IC:=(I128.c.loops).getD 0 .bad
theorem pu_loop (n:Nat) (s:List UInt8) (q:Nat) (hs:∀ c ∈ s,Xc1 c=true) (hl:s.length≤7) (t9:AV) (H:Mem) (hq:H[q]? = some (.row (Xal s) 0 (5+1))):∀ (fuel k v:Nat),k≤s.length→s.length-k<fuel→v<16 ^ k →
  ∃ t,Xa6 (fun a H=>evI Tryz.prog cfg (Xaw Tryz.prog cfg T N (n+1)) N Xtj a H) (some [1,8,9,10,11,12,13,99,100,101]) fuel ⟨172,[(1,.int .i64 16),(8,.bool false),(9,t9),(10,.int .u64 1152921504606846976),(11,.int .u64 4294967295),(12,.bool false),(13,.int .u64 v),(99,.slc q 0 s.length 1 0),(100,.int .i64 s.length),(101,.int .i64 k)],[]⟩ H=some (.exit 3,⟨172,t,[]⟩,H)∧Xad t 12=.bool false∧Xad t 13=.int .u64 ((s.drop k).foldl (fun n c=>n*16+Xfp c.toNat) v:Nat)
 | 0,k,_,_,h,_=>by omega
 | fuel+1,k,v,hk,hf,hv=>by
  rcases Nat.lt_or_ge k s.length with hlt | hge
  ·obtain ⟨c,hc⟩:=Xbb hlt
   have hcm:c ∈ s:=List.mem_of_mem_drop (i:=k) (by rw [hc]; exact List.mem_cons_self)
   have hhx:Xfp c.toNat<16:=of_decide_eq_true (hs c hcm)
   have h256:=c.toNat_lt
   have hi:decide ((k:Int)<(s.length:Int))=true:=decide_eq_true (by omega)
   have hw:=Xav hlt (by omega)
   have hn:=Xan k .i64
   have hm1:∀ k:Nat,k*1=k:=Nat.mul_one
   have hlen:k+1≤(Xal s).length:=by rw [Xiw]; omega
   have hle:k≤s.length:=by omega
   have hcell:((Xal s).drop k).take 1=[.int .u8 c.toNat]:=by
    have:(Xal s).drop k=Xal (s.drop k):=by unfold Xal; rw [List.map_drop]
    rw [this,hc]; rfl
   have hv7:v<16 ^ 6:=Nat.lt_of_lt_of_le hv (Nat.pow_le_pow_right (by decide) (by omega))
   have p6:16 ^ 6=16777216:=by decide
   have g1:IntKind.wrap .u8 (16:Int)=16:=rfl
   have g2:IntKind.wrap .u64 (16:Int)=16:=rfl
   have g3:IntKind.wrap .u64 ((v:Int)*16)=((v*16:Nat):Int):=by
    simp [IntKind.wrap,IntKind.bits,IntKind.signed]; omega
   have g4:IntKind.wrap .u64 (Xfp c.toNat:Int)=(Xfp c.toNat:Int):=by
    simp [IntKind.wrap,IntKind.bits,IntKind.signed]; omega
   have g5:IntKind.wrap .u64 (((v*16:Nat):Int)+(Xfp c.toNat:Int))=((v*16+Xfp c.toNat:Nat):Int):=by
    simp [IntKind.wrap,IntKind.bits,IntKind.signed]; omega
   have d1:decide ((Xfp c.toNat:Int) ≥ 16)=false:=decide_eq_false (by omega)
   have d2:decide ((v:Int) ≥ 1152921504606846976)=false:=decide_eq_false (by omega)
   have d3:decide (((v*16+Xfp c.toNat:Nat):Int)<((v*16:Nat):Int))=false:=decide_eq_false (by omega)
   have d4:decide (((v*16+Xfp c.toNat:Nat):Int)>4294967295)=false:=decide_eq_false (by omega)
   have u1:((c.toNat:Int) == 95)=false:=by
    refine beq_false_of_ne fun e=>?_
    have:c.toNat=95:=by omega
    rw [this] at hhx
    revert hhx; decide
   obtain ⟨t,ht,t12,t13⟩:=pu_loop n s q hs hl t9 H hq fuel (k+1) (v*16+Xfp c.toNat) (by omega) (by omega) (by rw [Nat.pow_succ]; omega)
   rw [hc,List.foldl_cons]
   refine ⟨t,?_,t12,t13⟩
   by_cases hd:48≤c.toNat∧c.toNat≤57
   ·have b1:decide ((48:Int)≤(c.toNat:Int))=true:=decide_eq_true (by omega)
    have b2:decide ((c.toNat:Int)≤57)=true:=decide_eq_true (by omega)
    have b3:IntKind.wrap .u8 ((c.toNat:Int)-48)=(Xfp c.toNat:Int):=by
     have:Xfp c.toNat=c.toNat-48:=by unfold Xfp; rw [if_pos hd]
     rw [this]
     simp [IntKind.wrap,IntKind.bits,IntKind.signed]; omega
    generalize Xfp c.toNat=x at *
    refine Xap (H':=H) (by simp only [Xtj,I128,IC.loops,hi,hn,hw,hq,hm1,hlt,hle,hlen,hcell,u1,b1,b2,b3,d1,d2,d3,d4,g1,g2,g3,g4,g5,reduceIte,reduceEqDiff,reduceLT,reduceAdd,reduceMul,reduceLeDiff,ZS]; rfl) ?_
    rw [Xk6]
    exact ht
   ·have q1:=fun H=>lower_eq (N:=N) n H c.toNat h256 hhx hd
    have h10:=hexD_let c.toNat hhx hd
    have hbb:((decide ((48:Int)≤(c.toNat:Int))=true∧decide ((c.toNat:Int)≤57)=false)∨decide ((48:Int)≤(c.toNat:Int))=false):=by
     cases h1:decide ((48:Int)≤(c.toNat:Int))
     ·exact .inr rfl
     ·refine .inl ⟨rfl,decide_eq_false fun h2=>hd ⟨?_,?_⟩⟩
      ·have:=of_decide_eq_true h1; omega
      ·omega
    generalize Xfp c.toNat=x at *
    have b4:decide ((97:Int)≤((x+87:Nat):Int))=true:=decide_eq_true (by omega)
    have b5:decide (((x+87:Nat):Int)≤122)=true:=decide_eq_true (by omega)
    have b6:IntKind.wrap .u8 (((x+87:Nat):Int)-97)=((x-10:Nat):Int):=by
     simp [IntKind.wrap,IntKind.bits,IntKind.signed]; omega
    have b7:IntKind.wrap .u8 (((x-10:Nat):Int)+10)=(x:Int):=by
     simp [IntKind.wrap,IntKind.bits,IntKind.signed]; omega
    rcases hbb with ⟨b1,b2⟩ | b1
    ·refine Xap (H':=H) (by simp only [Xtj,I128,IC.loops,hi,hn,hw,hq,hm1,hlt,hle,hlen,hcell,u1,b1,b2,b4,b5,b6,b7,q1,d1,d2,d3,d4,g1,g2,g3,g4,g5,reduceIte,reduceEqDiff,reduceLT,reduceAdd,reduceMul,reduceLeDiff,ZS]; rfl) ?_
     rw [Xk6]
     exact ht
    ·refine Xap (H':=H) (by simp only [Xtj,I128,IC.loops,hi,hn,hw,hq,hm1,hlt,hle,hlen,hcell,u1,b1,b4,b5,b6,b7,q1,d1,d2,d3,d4,g1,g2,g3,g4,g5,reduceIte,reduceEqDiff,reduceLT,reduceAdd,reduceMul,reduceLeDiff,ZS]; rfl) ?_
     rw [Xk6]
     exact ht
  ·have hk':k=s.length:=by omega
   subst hk'
   have hi:decide ((s.length:Int)<(s.length:Int))=false:=decide_eq_false (by omega)
   rw [List.drop_length]
   exact ⟨_,Xae (by simp only [Xtj,I128,IC.loops,hi,reduceIte,reduceEqDiff,reduceLT,reduceAdd,reduceMul,reduceLeDiff,ZS]; rfl),rfl,rfl⟩
theorem puint_eq (n:Nat) (s:List UInt8) (hs:∀ c ∈ s,Xc1 c=true) (h0:0<s.length) (hl:s.length≤7) (hN:8<N) (H:Mem) :
  Xaw Tryz.prog cfg T N (n+2) 128 [.str s,.int .i64 16,.int .i64 32] H=some (.ret (.tup [.int .u64 (Xnh s:Nat),.nilI]),H):=by
 have hne:(s == [])=false:=beq_false_of_ne fun e=>by rw [e] at h0; cases h0
 have hl40:s.length≤2 ^ 40:=by omega
 obtain ⟨t,ht,t12,t13⟩:=pu_loop (N:=N) n s H.length hs hl (.str s) (H++[.row (Xal s) 0 (5+1)]) (Xfr _ _) N 0 0 (Nat.zero_le _) (by omega) (by simp)
 rw [List.drop_zero] at t13
 have f1:((16:Int) == 0)=false:=rfl
 have f2:decide ((2:Int)≤16)=true:=rfl
 have f3:decide ((16:Int)≤36)=true:=rfl
 have f4:((32:Int) == 0)=false:=rfl
 have f5:decide ((32:Int)<0)=false:=rfl
 have f6:decide ((32:Int)>64)=false:=rfl
 have f7:((16:Int) == 10)=false:=rfl
 have f8:IntKind.wrap .u64 (32:Int)=32:=rfl
 have f9:((32:Int)<0)=False:=by simp
 have f10:IntKind.wrap .u64 ((1:Int)*2 ^ min (32:Int).toNat (IntKind.bits .u64))=4294967296:=rfl
 have f11:IntKind.wrap .u64 ((4294967296:Int)-1)=4294967295:=rfl
 refine Xac (m:=172) (v:=.tup [.int .u64 (Xnh s:Nat),.nilI]) (a:=?aa) (H1:=H++[.row (Xal s) 0 (5+1)]) rfl t128 rfl ?hb ?hd ?hr ?hz
 case hb =>
  apply Xaa
  ·simp only [idx,I128,reduceIte,reduceEqDiff,reduceLT,reduceAdd,reduceMul,reduceLeDiff,ZS]; rfl
  apply Xaa
  ·simp only [hne,reduceIte,reduceEqDiff,reduceLT,reduceAdd,reduceMul,reduceLeDiff,ZS]; rfl
  apply Xaa
  ·simp only [f1,reduceIte,reduceEqDiff,reduceLT,reduceAdd,reduceMul,reduceLeDiff,ZS]; rfl
  apply Xaa
  ·simp only [reduceIte,reduceEqDiff,reduceLT,reduceAdd,reduceMul,reduceLeDiff,ZS]; rfl
  apply Xaa
  ·simp only [f2,f3,reduceIte,reduceEqDiff,reduceLT,reduceAdd,reduceMul,reduceLeDiff,ZS]; rfl
  apply Xaa
  ·simp only [f4,f5,f6,reduceIte,reduceEqDiff,reduceLT,reduceAdd,reduceMul,reduceLeDiff,ZS]; rfl
  apply Xaa
  ·simp only [reduceIte,reduceEqDiff,reduceLT,reduceAdd,reduceMul,reduceLeDiff,ZS]; rfl
  apply Xaa
  ·simp only [f7,reduceIte,reduceEqDiff,reduceLT,reduceAdd,reduceMul,reduceLeDiff,ZS]; rfl
  apply Xaa
  ·simp only [f8,f9,f10,f11,reduceIte,reduceEqDiff,reduceLT,reduceAdd,reduceMul,reduceLeDiff,ZS]; rfl
  apply Xaa
  ·simp only [reduceIte,reduceEqDiff,reduceLT,reduceAdd,reduceMul,reduceLeDiff,ZS]; rfl
  apply Xaa
  ·simp only [reduceIte,reduceEqDiff,reduceLT,reduceAdd,reduceMul,reduceLeDiff,ZS]; rfl
  apply Xaa
  ·apply Xaa
   ·simp only [hl40,reduceIte,reduceEqDiff,reduceLT,reduceAdd,reduceMul,reduceLeDiff,ZS]; rfl
   apply Xab
   apply Xaf
   exact ht
  apply Xaa
  ·simp only [t12,reduceIte,reduceEqDiff,reduceLT,reduceAdd,reduceMul,reduceLeDiff,ZS]; rfl
  simp only [t13,reduceIte,reduceEqDiff,reduceLT,reduceAdd,reduceMul,reduceLeDiff,ZS]; rfl
 case hd=>rfl
 case hr=>rfl
 case hz=>exact Xdr rfl rfl
theorem hex_sign {c:UInt8} (h:Xc1 c=true):((c.toNat:Int) == 43)=false∧((c.toNat:Int) == 45)=false:=by
 have hh:Xfp c.toNat<16:=of_decide_eq_true h
 constructor
 ·refine beq_false_of_ne fun e=>?_
  have:c.toNat=43:=by omega
  rw [this] at hh
  revert hh; decide
 ·refine beq_false_of_ne fun e=>?_
  have:c.toNat=45:=by omega
  rw [this] at hh
  revert hh; decide
theorem Xqr (s:List UInt8) (hs:∀ c ∈ s,Xc1 c=true):Xnh s<16 ^ s.length:=by
 have g:∀ (s:List UInt8) (v k:Nat),(∀ c ∈ s,Xc1 c=true)→v<16 ^ k→s.foldl (fun n c=>n*16+Xfp c.toNat) v<16 ^ (k+s.length):=by
  intro s
  induction s with
  | nil=>intro v k _ h; exact h
  | cons c s ih =>
   intro v k hs hv
   have hh:Xfp c.toNat<16:=of_decide_eq_true (hs c (by simp))
   have:=ih (v*16+Xfp c.toNat) (k+1) (fun d hd=>hs d (by simp [hd])) (by rw [Nat.pow_succ]; omega)
   rw [List.foldl_cons,List.length_cons,show k+(s.length+1)=k+1+s.length by omega]
   exact this
 have:=g s 0 0 hs (by decide)
 rw [Nat.zero_add] at this
 exact this
theorem pint_eq (n:Nat) (s:List UInt8) (hs:∀ c ∈ s,Xc1 c=true) (h0:0<s.length) (hl:s.length≤4) (hN:8<N) (H:Mem) :
  Xaw Tryz.prog cfg T N (n+3) 105 [.str s,.int .i64 16,.int .i64 32] H=some (.ret (.tup [.int .i64 (Xnh s:Nat),.nilI]),H):=by
 have hz:Xnh s<65536:=Nat.lt_of_lt_of_le (Xqr s hs) (Nat.pow_le_pow_right (by decide) hl)
 have q1:=puint_eq (N:=N) n s hs h0 (by omega) hN H
 have hne:(s == [])=false:=beq_false_of_ne fun e=>by rw [e] at h0; cases h0
 obtain ⟨c,r,rfl⟩ : ∃ c r,s=c::r:=by cases s with | nil=>cases h0 | cons c r=>exact ⟨c,r,rfl⟩
 obtain ⟨e1,e2⟩:=hex_sign (hs c (by simp))
 generalize Xnh (c::r)=v at *
 have i0:Xfb (.int .i64 0)=some 0:=rfl
 have f4:((32:Int) == 0)=false:=rfl
 have f7:IntKind.wrap .i64 ((32:Int)-1)=31:=rfl
 have f8:IntKind.wrap .u64 (31:Int)=31:=rfl
 have f9:((31:Int)<0)=False:=by simp
 have f10:IntKind.wrap .u64 ((1:Int)*2 ^ min (31:Int).toNat (IntKind.bits .u64))=2147483648:=rfl
 have f11:decide ((v:Int) ≥ 2147483648)=false:=decide_eq_false (by omega)
 have f12:IntKind.wrap .i64 (v:Int)=(v:Int):=by rw [Xbs] <;> omega
 refine Xac (m:=73) (v:=.tup [.int .i64 (v:Nat),.nilI]) (a:=?aa) (H1:=H) rfl t105 rfl ?hb ?hd ?hr ?hz
 case hb =>
  apply Xaa
  ·simp only [idx,I105,reduceIte,reduceEqDiff,reduceLT,reduceAdd,reduceMul,reduceLeDiff,ZS]; rfl
  apply Xaa
  ·simp only [hne,reduceIte,reduceEqDiff,reduceLT,reduceAdd,reduceMul,reduceLeDiff,ZS]; rfl
  apply Xaa
  ·simp only [reduceIte,reduceEqDiff,reduceLT,reduceAdd,reduceMul,reduceLeDiff,ZS]; rfl
  apply Xaa
  ·simp only [i0,e1,e2,reduceIte,reduceEqDiff,reduceLT,reduceAdd,reduceMul,reduceLeDiff,ZS]; rfl
  apply Xaa
  ·simp only [reduceIte,reduceEqDiff,reduceLT,reduceAdd,reduceMul,reduceLeDiff,ZS]; rfl
  apply Xaa
  ·simp only [q1,reduceIte,reduceEqDiff,reduceLT,reduceAdd,reduceMul,reduceLeDiff,ZS]; rfl
  apply Xaa
  ·simp only [reduceIte,reduceEqDiff,reduceLT,reduceAdd,reduceMul,reduceLeDiff,ZS]; rfl
  apply Xaa
  ·simp only [f4,reduceIte,reduceEqDiff,reduceLT,reduceAdd,reduceMul,reduceLeDiff,ZS]; rfl
  apply Xaa
  ·simp only [f7,f8,f9,f10,reduceIte,reduceEqDiff,reduceLT,reduceAdd,reduceMul,reduceLeDiff,ZS]; rfl
  apply Xaa
  ·simp only [f11,reduceIte,reduceEqDiff,reduceLT,reduceAdd,reduceMul,reduceLeDiff,ZS]; rfl
  apply Xaa
  ·simp only [reduceIte,reduceEqDiff,reduceLT,reduceAdd,reduceMul,reduceLeDiff,ZS]; rfl
  apply Xaa
  ·simp only [f12,reduceIte,reduceEqDiff,reduceLT,reduceAdd,reduceMul,reduceLeDiff,ZS]; rfl
  apply Xaa
  ·simp only [reduceIte,reduceEqDiff,reduceLT,reduceAdd,reduceMul,reduceLeDiff,ZS]; rfl
  simp only [reduceIte,reduceEqDiff,reduceLT,reduceAdd,reduceMul,reduceLeDiff,ZS]; rfl
 case hd=>rfl
 case hr=>rfl
 case hz=>exact Xaq rfl rfl
theorem parse_eq (n:Nat) (s:List UInt8) (hs:∀ c ∈ s,Xc1 c=true) (h0:0<s.length) (hl:s.length≤4) (hN:8<N) (H:Mem) :
  Xaw Tryz.prog cfg T N (n+4) 73 [.str s,.int .i64 16,.int .i64 32] H=some (.ret (.tup [.int .i64 (Xnh s:Nat),.nilI]),H):=by
 have q1:=pint_eq (N:=N) n s hs h0 hl hN H
 generalize Xnh s=v at *
 refine Xac (m:=25) (v:=.tup [.int .i64 (v:Nat),.nilI]) (a:=?aa) (H1:=H) rfl t73 rfl ?hb ?hd ?hr ?hz
 case hb =>
  apply Xaa
  ·simp only [idx,I73,reduceIte,reduceEqDiff,reduceLT,reduceAdd,reduceMul,reduceLeDiff,ZS]; rfl
  apply Xaa
  ·simp only [q1,reduceIte,reduceEqDiff,reduceLT,reduceAdd,reduceMul,reduceLeDiff,ZS]; rfl
  apply Xaa
  ·simp only [reduceIte,reduceEqDiff,reduceLT,reduceAdd,reduceMul,reduceLeDiff,ZS]; rfl
  simp only [reduceIte,reduceEqDiff,reduceLT,reduceAdd,reduceMul,reduceLeDiff,ZS]; rfl
 case hd=>rfl
 case hr=>rfl
 case hz=>exact Xaq rfl rfl
end
end Go.Proofs.YtmhhddhbdbcmbaaGreatDoor.Ev
