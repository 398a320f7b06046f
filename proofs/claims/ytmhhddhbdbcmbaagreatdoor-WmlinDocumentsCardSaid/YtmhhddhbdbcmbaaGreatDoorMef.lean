/- Parts of one proof. -/
import Derived.Test.YtmhhddhbdbcmbaaGreatDoorMee
import Derived.Test.YtmhhddhbdbcmbaaGreatDoorMcg
import Derived.Below
set_option linter.all false
namespace Go.Proofs.YtmhhddhbdbcmbaaGreatDoor.Ev
open Nat (reduceEqDiff reduceLT reduceAdd reduceMul reduceLeDiff reduceSub)
open Go.Proofs.YtmhhddhbdbcmbaaGreatDoor.Ic
set_option maxRecDepth 100000
set_option maxHeartbeats 4000000
section
variable {N:Nat} (hN:9223372036854775808≤N)
include hN
theorem rdoc_eq (rels:List Rl) (sts:List St) (d:Nat) (hl:rels.length≤4611686018427387904) (hs:sts.length≤4611686018427387904) (e:El) (he:Lim e) (hd:2*dEl e+12≤d) (H:Mem) (hH:LoH H) :
  Xaw Tryz.prog cfg T N d 11 [.agg (eC e),.lst rels.length (Xg6 rels),.lst sts.length (Xdb sts)] H=some (.ret (docR rels sts e),H):=by
 obtain ⟨n,rfl⟩ : ∃ n,d=n+3:=⟨d-3,by omega⟩
 have hF:=fun H=>Xfl Tryz.prog N n hN Xep e he.1 H
 have hB:=Xrf (N:=N) hN rels sts (H.length+2) hl hs (dEl e) (n+2) (by omega)
 have hbl:=he.kidOf Xep
 have hbd:=Xjn e Xep
 have hbe:=Xib (kidOf e Xep)
 have hbw:=Xfc e Xep
 have hew:=he.2
 unfold docR Xvq
 generalize (Xbg wNs Xep e.kids).isSome=fb at *
 generalize kidOf e Xep=bo at *
 simp only [Xep] at hF
 unfold wNs Xmg
 have nd:Xao false H (.tup [.nilS,.int .i64 3]) (H++[.row (eC e) 0 (25+1),.row (eC bo) 0 (25+1)])=(.tup [.lst 0 [],.int .i64 3],H):=Xhv rfl rfl
 cases h1:(e.sp == [104,116,116,112,58,47,47,115,99,104,101,109,97,115,46,111,112,101,110,120,109,108,102,111,114,109,97,116,115,46,111,114,103,47,119,111,114,100,112,114,111,99,101,115,115,105,110,103,109,108,47,50,48,48,54,47,109,97,105,110])
 ·rw [Bool.false_and,if_neg (by simp)]
  refine Xac (m:=46) (v:=.tup [.nilS,.int .i64 3]) (a:=?aa) (H1:=?Ha) rfl t11 rfl ?hb ?hd ?hr ?hz
  case hb=>simp only [idx,I11,hF,h1,reduceSub,reduceIte,reduceEqDiff,reduceLT,reduceAdd,reduceMul,reduceLeDiff,ZS,ZT]; rfl
  case hd=>rfl
  case hr=>rfl
  case hz=>exact nd
 cases h2:(e.nm == [100,111,99,117,109,101,110,116])
 ·rw [Bool.false_and,Bool.and_false,if_neg (by simp)]
  refine Xac (m:=46) (v:=.tup [.nilS,.int .i64 3]) (a:=?ba) (H1:=?Hb) rfl t11 rfl ?hb1 ?hd1 ?hr1 ?hz1
  case hb1=>simp only [idx,I11,hF,h1,h2,reduceSub,reduceIte,reduceEqDiff,reduceLT,reduceAdd,reduceMul,reduceLeDiff,ZS,ZT]; rfl
  case hd1=>rfl
  case hr1=>rfl
  case hz1=>exact nd
 cases fb
 ·rw [Bool.and_false,Bool.and_false,if_neg (by simp)]
  refine Xac (m:=46) (v:=.tup [.nilS,.int .i64 3]) (a:=?ca) (H1:=?Hc) rfl t11 rfl ?hb2 ?hd2 ?hr2 ?hz2
  case hb2=>simp only [idx,I11,hF,h1,h2,reduceSub,reduceIte,reduceEqDiff,reduceLT,reduceAdd,reduceMul,reduceLeDiff,ZS,ZT]; rfl
  case hd2=>rfl
  case hr2=>rfl
  case hz2=>exact nd
 rw [Bool.and_self,Bool.and_self,if_pos rfl]
 have hlo:LoH (H++[Blk.row (eC e) 0 (25+1),.row (eC bo) 0 (25+1),Xa0 (vR rels) (vS sts) 0 0]):=by
  refine hH.app ?_
  have q1:=low_vR (H.length+3) rels
  have q2:=low_vS (H.length+3) sts
  simp [Xb6,Xcn,Xay,lowL,low,q1,q2]
 obtain ⟨l',g',hr,hll,hlq⟩:=hB bo hbl (by omega) 1 0 (by omega) (by omega) _ hlo (Xff _ _ _)
 generalize Xby rels sts (dEl e) 1 0 bo.kids=R at *
 have z0:((0:Nat):Int)=0:=rfl
 simp only [Xmd,Zm,Zl,vR,vS,Xa0,z0] at hr
 have w0:((1:Nat):Int)=1:=rfl
 rw [w0] at hr
 dsimp only
 by_cases hb:R.2.2=0
 ·obtain ⟨rfl,rfl⟩:=hlq hb
  rw [if_pos hb]
  rw [hb] at hr
  simp only [z0] at hr
  have hne:((0:Int) != 0)=false:=rfl
  refine Xac (m:=46) (v:=.tup [.lst R.1.length (blsC R.1),.int .i64 0]) (a:=?da) (H1:=?Hd) rfl t11 rfl ?hb3 ?hd3 ?hr3 ?hz3
  case hb3=>simp only [idx,I11,hF,h1,h2,hr,hne,reduceSub,reduceIte,reduceEqDiff,reduceLT,reduceAdd,reduceMul,reduceLeDiff,ZS,ZT]; rfl
  case hd3=>rfl
  case hr3=>rfl
  case hz3=>exact Xhv (frz_doc _ _ _ _) (by simp [low,lowL,blsC_low])
 ·rw [if_neg hb]
  have hne:((R.2.2:Int) != 0)=true:=by
   rw [bne,beq_false_of_ne (by omega)]; rfl
  refine Xac (m:=46) (v:=.tup [.nilS,.int .i64 R.2.2]) (a:=?ea) (H1:=?He) rfl t11 rfl ?hb4 ?hd4 ?hr4 ?hz4
  case hb4=>simp only [idx,I11,hF,h1,h2,hr,hne,reduceSub,reduceIte,reduceEqDiff,reduceLT,reduceAdd,reduceMul,reduceLeDiff,ZU,ZS,ZT]; rfl
  case hd4=>rfl
  case hr4=>rfl
  case hz4=>exact Xhv rfl rfl
end
noncomputable def loopRs:IC:=(I31.c.loops).getD 0 .bad
noncomputable def loopBs:IC:=(I12.c.loops).getD 0 .bad
theorem rs_loop (F:Xc5) (N:Nat) (l:List Rn) (hl:l.length≤4611686018427387904) (H:Mem):∀ (fuel k:Nat),k≤l.length→l.length-k<fuel →
  ∃ t,Xa6 (fun a H=>evI Tryz.prog cfg F N loopRs a H) (some [0,1,5]) fuel ⟨26,[(0,.lst l.length (Xat l)),(1,.lst l.length (Xat l)),(5,.int .i64 k)],[]⟩ H=some (.exit 0,⟨26,t,[]⟩,H)
 | 0,k,_,h=>by omega
 | fuel+1,k,hk,hf=>by
  rcases Nat.lt_or_ge k l.length with hlt | hge
  ·have hc:=Xht hlt
   have hlen:k*9+9≤(Xat l).length:=by rw [Xa7]; omega
   have hl9:9≤(Xat l).length-k*9:=by omega
   have hi:(k:Int)<(l.length:Int):=by omega
   have hw:=Xav hlt (by omega)
   have hn:=Xan k .i64
   have h9:((Xat l).drop (k*9)).take 9=rnC (l.getD k default):=by rw [hc]; rfl
   simp only [rnC] at h9
   obtain ⟨t,ht⟩:=rs_loop F N l hl H fuel (k+1) (by omega) (by omega)
   refine ⟨t,?_⟩
   refine Xap (by simp only [loopRs,I31,IC.loops,hi,hlt,hlen,hl9,h9,hn,hw,Xhn,Xg8,reduceSub,reduceIte,reduceEqDiff,reduceLT,reduceAdd,reduceMul,reduceLeDiff,ZU,ZS,ZT]; rfl) ?_
   rw [Xbx]
   exact ht
  ·have hk':k=l.length:=by omega
   subst hk'
   exact ⟨_,Xae (by simp only [loopRs,I31,IC.loops,Int.lt_irrefl,reduceIte,reduceEqDiff,reduceLT,reduceAdd,reduceMul,reduceLeDiff,ZS]; rfl)⟩
theorem runs_same (N d:Nat) (hd:1≤d) (l:List Rn) (hl:l.length≤4611686018427387904) (hN:l.length<N) (H:Mem):Xaw Tryz.prog cfg T N d 31 [.lst l.length (Xat l),.lst l.length (Xat l)] H=some (.ret (.bool true),H):=by
 obtain ⟨n,rfl⟩ : ∃ k,d=k+1:=⟨d-1,by omega⟩
 obtain ⟨t,ht⟩:=rs_loop (Xaw Tryz.prog cfg T N n) N l hl H N 0 (Nat.zero_le _) (by omega)
 refine Xac (m:=26) (v:=.bool true) (a:=?a) (H1:=?H1) rfl t31 rfl ?hb ?hd ?hr ?hz
 case hb =>
  apply Xaa
  ·simp only [idx,I31,reduceIte,reduceEqDiff,reduceLT,reduceAdd,reduceMul,reduceLeDiff,ZS]; rfl
  apply Xaa
  ·simp only [bne_self_eq_false,reduceIte,reduceEqDiff,reduceLT,reduceAdd,reduceMul,reduceLeDiff,ZS]; rfl
  apply Xaa
  ·apply Xaa
   ·simp only [reduceIte,reduceEqDiff,reduceLT,reduceAdd,reduceMul,reduceLeDiff,ZS]; rfl
   apply Xab
   apply Xaf
   exact ht
  apply Xaa
  ·simp only [reduceIte,reduceEqDiff,reduceLT,reduceAdd,reduceMul,reduceLeDiff,ZS]; rfl
  rfl
 case hd=>rfl
 case hr=>rfl
 case hz=>exact Xaq rfl rfl
mutual
def dBl:Bl→Nat
 | .mk _ _ _ _ _ ks=>dBls ks+1
def dBls:List Bl→Nat
 | []=>0
 | k::ks=>max (dBl k) (dBls ks)
end
inductive BSm (B:Nat):Bl→Prop
 | mk (tag style:List UInt8) (num level:Int) (runs:List Rn) (kids:List Bl) (h1:runs.length≤B) (h2:kids.length≤B) (h:∀ k ∈ kids,BSm B k):BSm B (.mk tag style num level runs kids)
def Bl.tag:Bl→List UInt8 | .mk a _ _ _ _ _=>a
def Bl.sty:Bl→List UInt8 | .mk _ a _ _ _ _=>a
def Bl.num:Bl→Int | .mk _ _ a _ _ _=>a
def Bl.lev:Bl→Int | .mk _ _ _ a _ _=>a
def Bl.runs:Bl→List Rn | .mk _ _ _ _ a _=>a
def Bl.kids:Bl→List Bl | .mk _ _ _ _ _ a=>a
theorem blC_eq (b:Bl):blC b=[.str b.tag,.str b.sty,.int .i64 b.num,.int .i64 b.lev,.lst b.runs.length (Xat b.runs),.lst b.kids.length (blsC b.kids)]:=by cases b; rfl
theorem dBl_mem {x:Bl}:∀ {l:List Bl},x ∈ l→dBl x≤dBls l
 | k::ks,h=>by
  simp only [dBls]
  rcases List.mem_cons.1 h with rfl | h
  ·omega
  ·have:=dBl_mem h; omega
theorem bl_cells {l:List Bl} {j:Nat} (h:j<l.length):(blsC l).drop (j*6)=blC (l[j])++blsC (l.drop (j+1)):=by
 rw [Xsm,List.drop_eq_getElem_cons h]; rfl
theorem Xuo (F:Xc5) (N:Nat) (l:List Bl) (hl:l.length≤4611686018427387904) (hR:∀ b ∈ l,∀ H,F 31 [.lst b.runs.length (Xat b.runs),.lst b.runs.length (Xat b.runs)] H=some (.ret (.bool true),H)) (hB:∀ b ∈ l,∀ H,F 12 [.lst b.kids.length (blsC b.kids),.lst b.kids.length (blsC b.kids)] H=some (.ret (.bool true),H)) (H:Mem):∀ (fuel k:Nat),k≤l.length→l.length-k<fuel →
  ∃ t,Xa6 (fun a H=>evI Tryz.prog cfg F N loopBs a H) (some [0,1,5]) fuel ⟨95,[(0,.lst l.length (blsC l)),(1,.lst l.length (blsC l)),(5,.int .i64 k)],[]⟩ H=some (.exit 0,⟨95,t,[]⟩,H)
 | 0,k,_,h=>by omega
 | fuel+1,k,hk,hf=>by
  rcases Nat.lt_or_ge k l.length with hlt | hge
  ·have hc:=bl_cells hlt
   have hlen:k*6+6≤(blsC l).length:=by rw [Xk7]; omega
   have q0:0<(blsC l).length-k*6:=by omega
   have q1:1<(blsC l).length-k*6:=by omega
   have q2:2<(blsC l).length-k*6:=by omega
   have q3:3<(blsC l).length-k*6:=by omega
   have q4:4<(blsC l).length-k*6:=by omega
   have q5:5<(blsC l).length-k*6:=by omega
   have r0:1≤(blsC l).length-k*6:=by omega
   have r1:1≤(blsC l).length-k*6-1:=by omega
   have r2:1≤(blsC l).length-k*6-2:=by omega
   have r3:1≤(blsC l).length-k*6-3:=by omega
   have r4:1≤(blsC l).length-k*6-4:=by omega
   have r5:1≤(blsC l).length-k*6-5:=by omega
   have hi:(k:Int)<(l.length:Int):=by omega
   have hw:=Xav hlt (by omega)
   have hn:=Xan k .i64
   have hbm:l[k] ∈ l:=List.getElem_mem hlt
   have hr:=hR _ hbm
   have hb:=hB _ hbm
   rw [blC_eq] at hc
   generalize l[k]=b at *
   have d0:=Xfw (o:=0) hc rfl
   have d1:=Xfw (o:=1) hc rfl
   have d2:=Xfw (o:=2) hc rfl
   have d3:=Xfw (o:=3) hc rfl
   have d4:=Xfw (o:=4) hc rfl
   have d5:=Xfw (o:=5) hc rfl
   rw [List.drop_zero] at d0
   obtain ⟨t,ht⟩:=Xuo F N l hl hR hB H fuel (k+1) (by omega) (by omega)
   refine ⟨t,?_⟩
   refine Xap (by simp only [loopBs,I12,IC.loops,hi,hlt,hlen,q0,q1,q2,q3,q4,q5,r0,r1,r2,r3,r4,r5,d0,d1,d2,d3,d4,d5,hn,hw,hr,hb,bne_self_eq_false,reduceSub,reduceIte,reduceEqDiff,reduceLT,reduceAdd,reduceMul,reduceLeDiff,ZU,ZS,ZT]; rfl) ?_
   rw [Xbx]
   exact ht
  ·have hk':k=l.length:=by omega
   subst hk'
   exact ⟨_,Xae (by simp only [loopBs,I12,IC.loops,Int.lt_irrefl,reduceIte,reduceEqDiff,reduceLT,reduceAdd,reduceMul,reduceLeDiff,ZS]; rfl)⟩
theorem Xt9 (N:Nat) (hN:4611686018427387905<N):∀ (m:Nat) (l:List Bl),dBls l≤m→(∀ b ∈ l,BSm 1048576 b)→l.length≤1048576→∀ (d:Nat),m+2≤d→∀ H:Mem,
  Xaw Tryz.prog cfg T N d 12 [.lst l.length (blsC l),.lst l.length (blsC l)] H=some (.ret (.bool true),H):=by
 intro m
 induction m with
 | zero =>
  intro l hm hs hl d hd H
  cases l with
  | nil =>
   obtain ⟨n,rfl⟩ : ∃ k,d=k+1:=⟨d-1,by omega⟩
   obtain ⟨t,ht⟩:=Xuo (Xaw Tryz.prog cfg T N n) N [] (by simp) (by simp) (by simp) H N 0 (Nat.zero_le _) (by simp; omega)
   refine Xac (m:=95) (v:=.bool true) (a:=?a) (H1:=?H1) rfl t12 rfl ?hb ?hd ?hr ?hz
   case hb =>
    apply Xaa
    ·simp only [idx,I12,reduceIte,reduceEqDiff,reduceLT,reduceAdd,reduceMul,reduceLeDiff,ZS]; rfl
    apply Xaa
    ·simp only [bne_self_eq_false,reduceIte,reduceEqDiff,reduceLT,reduceAdd,reduceMul,reduceLeDiff,ZS]; rfl
    apply Xaa
    ·apply Xaa
     ·simp only [reduceIte,reduceEqDiff,reduceLT,reduceAdd,reduceMul,reduceLeDiff,ZS]; rfl
     apply Xab
     apply Xaf
     exact ht
    apply Xaa
    ·simp only [reduceIte,reduceEqDiff,reduceLT,reduceAdd,reduceMul,reduceLeDiff,ZS]; rfl
    rfl
   case hd=>rfl
   case hr=>rfl
   case hz=>exact Xaq rfl rfl
  | cons b l=>cases b; simp [dBls,dBl] at hm
 | succ m ih =>
  intro l hm hs hl d hd H
  obtain ⟨n,rfl⟩ : ∃ k,d=k+1:=⟨d-1,by omega⟩
  have hR:∀ b ∈ l,∀ H,Xaw Tryz.prog cfg T N n 31 [.lst b.runs.length (Xat b.runs),.lst b.runs.length (Xat b.runs)] H=some (.ret (.bool true),H):=fun b hb H=>by
   have hbl:=hs b hb
   cases hbl with
   | mk tag style num level runs kids h1 h2 h3=>exact runs_same N n (by omega) runs (by omega) (by omega) H
  have hB:∀ b ∈ l,∀ H,Xaw Tryz.prog cfg T N n 12 [.lst b.kids.length (blsC b.kids),.lst b.kids.length (blsC b.kids)] H=some (.ret (.bool true),H):=fun b hb H=>by
   have hbl:=hs b hb
   have hdb:=dBl_mem hb
   cases hbl with
   | mk tag style num level runs kids h1 h2 h3 =>
    simp only [dBl] at hdb
    exact ih kids (by omega) h3 h2 n (by omega) H
  obtain ⟨t,ht⟩:=Xuo (Xaw Tryz.prog cfg T N n) N l (by omega) hR hB H N 0 (Nat.zero_le _) (by omega)
  refine Xac (m:=95) (v:=.bool true) (a:=?a9) (H1:=?H9) rfl t12 rfl ?hb9 ?hd9 ?hr9 ?hz9
  case hb9 =>
   apply Xaa
   ·simp only [idx,I12,reduceIte,reduceEqDiff,reduceLT,reduceAdd,reduceMul,reduceLeDiff,ZS]; rfl
   apply Xaa
   ·simp only [bne_self_eq_false,reduceIte,reduceEqDiff,reduceLT,reduceAdd,reduceMul,reduceLeDiff,ZS]; rfl
   apply Xaa
   ·apply Xaa
    ·simp only [reduceIte,reduceEqDiff,reduceLT,reduceAdd,reduceMul,reduceLeDiff,ZS]; rfl
    apply Xab
    apply Xaf
    exact ht
   apply Xaa
   ·simp only [reduceIte,reduceEqDiff,reduceLT,reduceAdd,reduceMul,reduceLeDiff,ZS]; rfl
   rfl
  case hd9=>rfl
  case hr9=>rfl
  case hz9=>exact Xaq rfl rfl
mutual
theorem Xk8 (rels:List Rl) (sts:List St):∀ (m dp g:Nat) (l:List El),wEls l≤1048576→∀ b ∈ (Xby rels sts m dp g l).1,BSm 1048576 b
 | 0,_,_,_,_,b,h=>by simp [Xby] at h
 | _+1,_,_,[],_,b,h=>by simp [Xby] at h
 | m+1,dp,g,k::ks,hw,b,h=>by
  simp only [wEls] at hw
  rw [Xhy] at h
  split at h
  ·simp only [List.mem_append] at h
   rcases h with h | h
   ·exact oneB_sm rels sts m dp g k (by omega) b h
   ·exact Xk8 rels sts (m+1) dp _ ks (by omega) b h
  ·exact oneB_sm rels sts m dp g k (by omega) b h
termination_by m _ _ l=>(m,l.length,0)
theorem oneB_sm (rels:List Rl) (sts:List St) (m dp g:Nat) (k:El) (hw:wEl k≤1048576):∀ b ∈ (Xka rels sts m dp g k).1,BSm 1048576 b:=by
 intro b h
 have hwk:=Xb2 k
 have h2:=Xfc k Xa5
 have h3:=Xb2 (kidOf k Xa5)
 unfold Xka at h
 split at h
 ·split at h
  ·simp at h
  ·split at h
   ·split at h
    ·simp at h
    ·simp only [List.mem_singleton] at h
     rw [h]
     have h5:=Xnd (Xbm rels sts (Xbf (kidOf k Xd5) Xbu) m Xg7 g k.kids).1 []
     have h6:=(Xcx rels sts (Xbf (kidOf k Xd5) Xbu) m Xg7 g k.kids).1
     simp only [Zk] at h5
     unfold Xfa
     exact .mk _ _ _ _ _ _ (by omega) (by simp) (by simp)
   ·split at h
    ·dsimp only at h
     split at h
     ·exact Xk8 rels sts m (dp+1) g (kidOf k Xa5).kids (by omega) b h
     ·simp only [List.mem_singleton] at h
      rw [h]
      have h7:=(Xhe rels sts m (dp+1) g (kidOf k Xa5).kids).1
      exact .mk _ _ _ _ _ _ (by simp) (by omega) (Xk8 rels sts m (dp+1) g (kidOf k Xa5).kids (by omega))
    ·simp at h
 ·simp at h
termination_by (m+1,0,1)
end
theorem docD_sm (rels:List Rl) (sts:List St) (e:El) (he:Lim e):(∀ b ∈ (Xvq rels sts e).1,BSm 1048576 b)∧(Xvq rels sts e).1.length≤1048576:=by
 have hw:=he.2
 have h2:=Xfc e Xep
 have h3:=Xb2 (kidOf e Xep)
 unfold Xvq
 split
 ·dsimp only
  split
  ·exact ⟨Xk8 _ _ _ _ _ _ (by omega),by have:=(Xhe rels sts (dEl e) 1 0 (kidOf e Xep).kids).1; simp only; omega⟩
  ·simp
 ·simp
noncomputable def Xwu:IC:=(I9.c.loops).getD 0 .bad
theorem hw_loop (F:Xc5) (N:Nat) (sts:List St) (hs:sts.length≤4611686018427387904) (H:Mem) (p ty:Nat) (hp:H[p]? = some (.row [.nilS,.nilS,.lst sts.length (Xdb sts)] 0 ty)):∀ (fuel k:Nat) (z:Int),k≤sts.length→sts.length-k<fuel →
  ∃ t z',Xa6 (fun a H=>evI Tryz.prog cfg F N Xwu a H) (some [1,3,4]) fuel ⟨74,[(1,.ptr p 0 0),(3,.int .i64 z),(4,.int .i64 k)],[]⟩ H=some (.exit 0,⟨74,t,[]⟩,H)∧Xad t 1=.ptr p 0 0∧Xad t 3=.int .i64 z'
 | 0,k,_,_,h=>by omega
 | fuel+1,k,z,hk,hf=>by
  rcases Nat.lt_or_ge k sts.length with hlt | hge
  ·obtain ⟨r,hr⟩:=Xcr hlt
   obtain ⟨g1,g2,g3,g4,g5⟩:=Xcf hr
   have e1:((Xdb sts).drop (k*6)).drop 1=(Xdb sts).drop (k*6+1):=by rw [List.drop_drop]
   have hlen:k*6+6≤(Xdb sts).length:=by omega
   have q0:0<(Xdb sts).length-k*6:=by omega
   have q1:1<(Xdb sts).length-k*6:=by omega
   have r0:1≤(Xdb sts).length-k*6:=by omega
   have r1:1≤(Xdb sts).length-(k*6+1):=by omega
   have hi:(k:Int)<(sts.length:Int):=by omega
   have hw:=Xav hlt (by omega)
   have hn:=Xan k .i64
   generalize sts.getD k default=s at *
   cases hz:decide (z ≥ 0)
   ·exact ⟨_,z,Xae (by simp only [Xwu,I9,IC.loops,hi,hp,hz,reduceIte,reduceEqDiff,reduceLT,reduceAdd,reduceMul,reduceLeDiff,ZS]; rfl),rfl,rfl⟩
   ·obtain ⟨t,z',ht,h1,h3⟩:=hw_loop F N sts hs H p ty hp fuel (k+1) (IntKind.wrap .i64 (IntKind.wrap .i64 (z-(s.id.length:Int))-(s.based.length:Int))) (by omega) (by omega)
    refine ⟨t,z',?_,h1,h3⟩
    refine Xap (by simp only [Xwu,I9,IC.loops,hi,hlt,hlen,q0,q1,r0,r1,e1,g3,g4,hn,hw,hp,hz,reduceSub,reduceIte,reduceEqDiff,reduceLT,reduceAdd,reduceMul,reduceLeDiff,ZU,ZS,ZT]; rfl) ?_
    rw [Xbx]
    exact ht
  ·have hk':k=sts.length:=by omega
   subst hk'
   exact ⟨_,z,Xae (by simp only [Xwu,I9,IC.loops,Int.lt_irrefl,hp,reduceIte,reduceEqDiff,reduceLT,reduceAdd,reduceMul,reduceLeDiff,ZS]; rfl),rfl,rfl⟩
theorem Xsl (N n:Nat) (hN:9223372036854775808≤N) (sts:List St) (hs:sts.length≤4611686018427387904) (H:Mem) :
  ∃ b,(b=false→sts.length≤100)∧Xaw Tryz.prog cfg T N (n+1) 9 [.agg [.nilS,.nilS,.lst sts.length (Xdb sts)]] H=some (.ret (.bool b),H):=by
 obtain ⟨M,rfl⟩ : ∃ M,N=M+1:=⟨N-1,by omega⟩
 have w0:decide ((0:Int)>3000)=false:=by decide
 cases hb:decide ((sts.length:Int)>100)
 rotate_left
 ·refine ⟨true,(fun h=>by cases h),Xac (m:=74) (v:=.bool true) (a:=?a0) (H1:=?H0) rfl t9 rfl ?hb0 ?hd0 ?hr0 ?hz0⟩
  case hb0=>simp only [idx,I9,hb,w0,reduceIte,reduceEqDiff,reduceLT,reduceAdd,reduceMul,reduceLeDiff,ZS]; rfl
  case hd0=>rfl
  case hr0=>rfl
  case hz0=>exact Xa4 rfl rfl
 have w1:IntKind.wrap .i64 (10*0)=0:=by decide
 have w2:IntKind.wrap .i64 (3000-0)=3000:=by decide
 have w3:IntKind.wrap .i64 (10*(sts.length:Int))=10*(sts.length:Int):=by
  have:=of_decide_eq_false hb
  rw [Xbs] <;> omega
 obtain ⟨t,z',ht,h1,h3⟩:=hw_loop (Xaw Tryz.prog cfg T (M+1) n) (M+1) sts hs (H++[.row [.nilS,.nilS,.lst sts.length (Xdb sts)] 0 (33+1)]) H.length (33+1) (Xfr _ _) (M+1) 0 (IntKind.wrap .i64 (3000-10*(sts.length:Int))) (Nat.zero_le _) (by omega)
 refine ⟨decide (z'<0),(fun _=>by have:=of_decide_eq_false hb; omega),Xac (m:=74) (v:=.bool (decide (z'<0))) (a:=?a1) (H1:=?H1) rfl t9 rfl ?hb1 ?hd1 ?hr1 ?hz1⟩
 case hb1 =>
  apply Xaa
  ·simp only [idx,I9,reduceIte,reduceEqDiff,reduceLT,reduceAdd,reduceMul,reduceLeDiff,ZS]; rfl
  apply Xaa
  ·simp only [w1,w2,w3,reduceIte,reduceEqDiff,reduceLT,reduceAdd,reduceMul,reduceLeDiff,ZS]; rfl
  apply Xaa
  ·simp only [hb,w0,reduceIte,reduceEqDiff,reduceLT,reduceAdd,reduceMul,reduceLeDiff,ZS]; rfl
  apply Xaa
  ·apply Xaa
   ·simp only [reduceIte,reduceEqDiff,reduceLT,reduceAdd,reduceMul,reduceLeDiff,ZS]; rfl
   apply Xab
   apply Xaf
   exact ht
  apply Xaa
  ·apply Xaa
   ·simp only [reduceIte,reduceEqDiff,reduceLT,reduceAdd,reduceMul,reduceLeDiff,ZS]; rfl
   apply Xab
   apply Xaf
   exact Xae (by simp only [AAct.keepT,h1,h3,Int.lt_irrefl,reduceIte,reduceEqDiff,reduceLT,reduceAdd,reduceMul,reduceLeDiff,ZS]; rfl)
  apply Xaa
  ·simp only [h3,reduceIte,reduceEqDiff,reduceLT,reduceAdd,reduceMul,reduceLeDiff,ZS]; rfl
  rfl
 case hd1=>rfl
 case hr1=>rfl
 case hz1=>exact Xa4 rfl rfl
theorem Xwj:∀ l:List Rl,(Xg6 l).all AV.one=true
 | []=>rfl
 | r::l=>by rw [Xlj,List.all_append,Xwj l]; rfl
theorem Xvs:∀ l:List St,(Xdb l).all AV.one=true
 | []=>rfl
 | r::l=>by
  have h:=Xvs l
  have e:Xdb (r::l)=stC r++Xdb l:=rfl
  rw [e,List.all_append,h]; rfl
theorem law_docs (N:Nat) (hN:9223372036854775808≤N) (e:El) (hs:Small 1125899906842624 e) (rels:List Rl) (sts:List St) (hl:rels.length≤1125899906842624) (hst:sts.length≤1125899906842624) :
  ∃ D,Xaw Tryz.prog cfg T N D 3 [.agg (eC e),.lst rels.length (Xg6 rels),.lst sts.length (Xdb sts)] []=some (.ret (.bool true),[]):=by
 refine ⟨2*dEl e+20+dBls (Xvq rels sts e).1+dEl e+1,?_⟩
 have hfit:=Small.fits (by omega) _ e (Nat.le_refl _) hs
 obtain ⟨z,hz,hzb⟩:=Xs9 Tryz.prog N hN (dEl e) e (Nat.le_refl _) hs (2*dEl e+20+dBls (Xvq rels sts e).1) 3000 (by omega) (by omega) [.row (eC e) 0 (25+1)]
 obtain ⟨D,hD⟩ : ∃ D,D=2*dEl e+20+dBls (Xvq rels sts e).1+dEl e:=⟨_,rfl⟩
 rw [← hD] at hz ⊢
 have hl4:=Xpl rels
 have hl6:=Xqn sts
 have ho4:=Xwj rels
 have ho6:=Xvs sts
 cases hd:decide (z<0)
 rotate_left
 ·refine Xac (m:=53) (v:=.bool true) (a:=?a1) (H1:=?H1) rfl t3 rfl ?hb1 ?hd1 ?hr1 ?hz1
  case hb1=>simp only [idx,I3,hz,hd,reduceSub,reduceIte,reduceEqDiff,reduceLT,reduceAdd,reduceMul,reduceLeDiff,ZS,ZT]; rfl
  case hd1=>rfl
  case hr1=>rfl
  case hz1=>exact Xa4 (H:=[]) rfl rfl
 cases h50:decide ((rels.length:Int)>50)
 rotate_left
 ·refine Xac (m:=53) (v:=.bool true) (a:=?a2) (H1:=?H2) rfl t3 rfl ?hb2 ?hd2 ?hr2 ?hz2
  case hb2=>simp only [idx,I3,hz,hd,h50,reduceSub,reduceIte,reduceEqDiff,reduceLT,reduceAdd,reduceMul,reduceLeDiff,ZS,ZT]; rfl
  case hd2=>rfl
  case hr2=>rfl
  case hz2=>exact Xa4 (H:=[]) rfl rfl
 obtain ⟨b,hb100,hb⟩:=Xsl N (D-1) hN sts (by omega) [.row (eC e) 0 (25+1)]
 rw [show D-1+1=D by omega] at hb
 cases b
 rotate_left
 ·refine Xac (m:=53) (v:=.bool true) (a:=?a3) (H1:=?H3) rfl t3 rfl ?hb3 ?hd3 ?hr3 ?hz3
  case hb3=>simp only [idx,I3,hz,hd,h50,hb,reduceSub,reduceIte,reduceEqDiff,reduceLT,reduceAdd,reduceMul,reduceLeDiff,ZS,ZT]; rfl
  case hd3=>rfl
  case hr3=>rfl
  case hz3=>exact Xa4 (H:=[]) rfl rfl
 have hz0:¬ z<0:=of_decide_eq_false hd
 have hLim:Lim e:=⟨hfit,by have:=hzb (by omega); omega⟩
 have hA:=doc_eq (N:=N) hN rels sts D (.slc 1 0 rels.length 4 1) (.slc 2 0 sts.length 6 1) (by omega) (by omega) e hLim (by omega) [.row (eC e) 0 (25+1),.row (Xg6 rels) 1 (170+1),.row (Xdb sts) 1 (68+1)] (by simp [LoH,Xb6,Xcn,Xay,Xi0,Xji]) (.inl ⟨1,1,_,rfl,rfl⟩) (.inr ⟨2,1,_,rfl,rfl⟩)
 have hR:=rdoc_eq (N:=N) hN rels sts D (by omega) (by omega) e hLim (by omega) [.row (eC e) 0 (25+1),.row (Xg6 rels) 1 (170+1),.row (Xdb sts) 1 (68+1)] (by simp [LoH,Xb6,Xcn,Xay,Xi0,Xji])
 obtain ⟨hbs,hbl⟩:=docD_sm rels sts e hLim
 have hW:=fun H=>Xt9 N (by omega) (dBls (Xvq rels sts e).1) (Xvq rels sts e).1 (Nat.le_refl _) hbs hbl D (by omega) H
 have hK:=fun H=>known_eq Tryz.prog N (D-1) H
 rw [show D-1+1=D by omega] at hK
 unfold docR at hA hR
 clear hD
 generalize Xvq rels sts e=R at *
 have hp1:rels.length≤2 ^ 34:=by have:=of_decide_eq_false h50; omega
 have hp2:sts.length≤2 ^ 34:=by have:=hb100 rfl; omega
 refine Xac (m:=53) (v:=.bool true) (a:=?a4) (H1:=?H4) rfl t3 rfl ?hb4 ?hd4 ?hr4 ?hz4
 case hb4 =>
  apply Xaa
  ·simp only [idx,I3,reduceIte,reduceEqDiff,reduceLT,reduceAdd,reduceMul,reduceLeDiff,ZS]; rfl
  apply Xaa
  ·simp only [hz,hd,h50,hb,reduceSub,reduceIte,reduceEqDiff,reduceLT,reduceAdd,reduceMul,reduceLeDiff,ZS,ZT]; rfl
  apply Xaa
  ·simp only [Xfu,Xcd,Xgu,hl4,hl6,ho4,ho6,hp1,hp2,hA,eqvL_refl,reduceSub,reduceIte,reduceEqDiff,reduceLT,reduceAdd,reduceMul,reduceLeDiff,ZU,ZS,ZT]; rfl
  apply Xaa
  ·simp only [hR,reduceSub,reduceIte,reduceEqDiff,reduceLT,reduceAdd,reduceMul,reduceLeDiff,ZS,ZT]; rfl
  apply Xaa
  ·simp only [hW,hK,reduceSub,reduceIte,reduceEqDiff,reduceLT,reduceAdd,reduceMul,reduceLeDiff,ZS,ZT]; rfl
  rfl
 case hd4=>rfl
 case hr4=>rfl
 case hz4=>exact Xa4 (H:=[]) rfl rfl
open Go.RowKit
variable {P:Program} {g:Cfg} {w:World}
theorem relNil (hg:∀ k,g.glob k=none):Rel g (fun _=>none) [] w :=
 ⟨fun _ _ h=>(by cases h),fun _ _ _ h=>(by cases h),fun x hx=>(by simp at hx),fun _ _ _ _ h=>(by cases h),fun k cs h=>(by rw [hg] at h; cases h)⟩
theorem Ext.below {η':Nat→Option Nat} {H':Mem} {w':World} (e:Ext (fun _=>none) [] w η' H' w'):Below w.heap.size w w' :=
 ⟨e.os,e.tape,e.output,e.size,fun k hk=>(e.imm k ⟨hk,fun _ h=>by cases h⟩).1⟩
theorem use (hm:P.follows .mixedOrders=true) (hL:LibOk P g) {T:FuncId→Option IF} (hT:TOk P g T) (hg:∀ k,g.glob k=none) {N n f:Nat} {args:List AV} {v:AV} {H':Mem} (h:Xaw P g T N n f args []=some (.ret v,H')) {us:Array Value} (hv:VRs (fun _=>none) [] w args us) :
  Calls P f us w fun e w'=>∃ u,e=.returned u∧Below w.heap.size w w'∧∃ η',VR η' H' w' v u:=by
 refine (evI_ok hm hL hT N n f args [] (.ret v) H' h _ w us (relNil hg) hv).mono ?_
 rintro e w' ⟨η',h1,h2,h3⟩
 cases e with
 | returned u=>exact ⟨u,rfl,h1.below,η',h3⟩
 | panicked ch=>exact h3.elim
 | outgrown=>exact h3.elim
theorem lib_of {f:FuncId} {η:Nat→Option Nat} {H:Mem} {us:Array Value} {u:Value} {v:AV} (r:Rel g η H w) (hc:Calls P f us w fun e w'=>e=.returned u∧Below w.heap.size w w') (hv:∀ w',VR η H w' v u) :
  Calls P f us w fun e w'=>∃ η',Ext η H w η' H w'∧Rel g η' H w'∧EndR η' H w' (.ret v) e:=by
 refine hc.mono ?_
 rintro e w' ⟨rfl,hb⟩
 have e1:Ext η H w η H w':=⟨⟨Nat.le_refl _,fun id x hx=>⟨x,hx,Nat.le_refl _,fun _ b hη=>⟨hη,fun s hs=>by
  rw [Xeg (hb.block b (r.dom id b hη).2)]; exact hs⟩⟩,hb.size,fun b hi=>⟨hb.block b hi.1,hi.2⟩,hb.os,hb.tape,hb.output⟩,fun _ _ h=>h⟩
 exact ⟨η,e1,r.step e1.toExtW (fun id b h=>⟨(r.dom id b h).1,Nat.lt_of_lt_of_le (r.dom id b h).2 hb.size⟩) r.inj r.low (fun id x b h1 h2=>.inl ⟨h1,h2,hb.block b (r.dom id b h2).2⟩),hv w'⟩
end Go.Proofs.YtmhhddhbdbcmbaaGreatDoor.Ev
