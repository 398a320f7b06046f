/- Parts of one proof. -/
import Derived.Test.YtmhhddhbdbcmbaaGreatDoorMah
set_option linter.all false
namespace Go.Proofs.YtmhhddhbdbcmbaaGreatDoor.Ev
variable {P:Program} {g:Cfg} {η:Nat→Option Nat} {H:Mem} {w:World}
theorem Xcs (z:List AV):∀ n,(Xe0 z n).length=n*z.length
 | 0=>by simp [Xe0]
 | n+1=>by simp [Xe0,Xcs z n,Nat.add_mul]; omega
theorem Xh0 (z:List AV):∀ (n j:Nat),j<n*z.length→(Xe0 z n)[j]? = z[j % z.length]?
 | 0,j,h=>by simp at h
 | n+1,j,h=>by
  rw [Xe0]
  by_cases hj:j<z.length
  ·rw [List.getElem?_append_left hj,Nat.mod_eq_of_lt hj]
  ·rw [Nat.succ_mul] at h
   rw [List.getElem?_append_right (by omega),Xh0 z n _ (by omega)]
   congr 1
   exact (Nat.mod_eq_sub_mod (by omega)).symm
theorem Xmk {z:List AV} {c:Array Value} (hz:VRs η H w z c) (n:Nat):VRs η H w (Xe0 z n) ((Array.range (n*z.length)).map fun i=>c[i % c.size]!):=by
 refine ⟨by simp [Xcs],fun j x u hx hu=>?_⟩
 have hj:j<n*z.length:=by have:=(List.getElem?_eq_some_iff.1 hx).1; rwa [Xcs] at this
 rw [Xh0 z n j hj] at hx
 have h0:0<z.length:=by
  rcases Nat.eq_zero_or_pos z.length with h | h
  ·rw [h] at hj; omega
  ·exact h
 have hlt:j % z.length<c.size:=by rw [hz.1]; exact Nat.mod_lt _ h0
 have hcz:=hz.1
 simp only [Array.getElem?_map] at hu
 rw [Array.getElem?_eq_getElem (by simp; omega)] at hu
 simp only [Array.getElem_range,Zh] at hu
 injection hu with hu
 rw [hcz,getElem!_pos c (j % z.length) hlt] at hu
 exact hz.2 _ x u hx (by rw [← hu]; exact Array.getElem?_eq_getElem hlt)
theorem Xvd (r:Rel g η H w) {cs:List AV} {c:Array Value} {t:TypeId} {len cap sz:Nat} (hc:cs.length≤c.size) (hv:∀ (j:Nat) x u,cs[j]? = some x→c[j]? = some u→VR η H w x u) (hcap:len≤cap) (hsz:cap*sz≤c.size) :
  ∃ η' w',w'=w.alloc (.cells c t)∧Ext η H w η' (H++[.row cs 0 (t+1)]) w'∧Rel g η' (H++[.row cs 0 (t+1)]) w'∧VR η' (H++[.row cs 0 (t+1)]) w' (.slc H.length 0 len sz 0) (.slice (some ⟨w.heap.size,0,none⟩) len cap):=by
 have hr:=Rel.newRow r cs 0 (t+1) c t (fun T hT=>Nat.succ.inj hT) hc hv
 refine ⟨upd η H.length w.heap.size,_,rfl,hr.1,hr.2,?_⟩
 refine .slc _ _ _ _ _ _ _ (by simp) (Nat.zero_le _) hcap fun _=>⟨_,0,Xkk,rfl,fun _=>rfl,t,c.size,?_,by omega⟩
 simp only [World.shape?,Xcq]
def Xe8 (P:Program) (g:Cfg) (η:Nat→Option Nat) (H:Mem) (w:World) (s:Sem Value) (p:AV × Mem):Prop :=
 ∃ η' w' u,s.run P w=.ok u w'∧Ext η H w η' p.2 w'∧Rel g η' p.2 w'∧VR η' p.2 w' p.1 u
theorem Xe8.same (r:Rel g η H w) {s:Sem Value} {x:AV} (h:∃ u,s.run P w=.ok u w∧VR η H w x u):Xe8 P g η H w s (x,H):=by
 obtain ⟨u,h1,h2⟩:=h
 exact ⟨η,w,u,h1,Ext.refl,r,h2⟩
theorem Xjw (r:Rel g η H w) {t:TypeId} {n:Nat} {ps:List (Nat × AV)} {qs:Array (Nat × Value)} {y:AV × Mem} (hp:Xvm η H w ps qs) (h:Xe6 P H t n ps=some y):Xe8 P g η H w (Instr.buildSlice t n qs) y:=by
 unfold Xe6 at h
 split at h
 ·rename_i elem hu
  obtain ⟨s,hs,h'⟩:=Option.bind_eq_some_iff.1 h
  obtain ⟨z,hz,h'⟩:=Option.bind_eq_some_iff.1 h'
  clear h
  split at h'
  ·rename_i hc
   obtain ⟨hzl,hk,hle⟩:=hc
   obtain ⟨cs,hcs,rfl⟩:=Option.map_eq_some_iff.1 h'
   obtain ⟨v,hr,rfl⟩:=Xeq (w:=w) hz
   have hzc:VRs η H w (ofV v).cells v.cells:=(Xf7 v).cells hk
   have hz0:=Xmk hzc n
   rw [hzl] at hz0
   obtain ⟨c',h1,h2⟩:=Xgo (fun i p hi=>hi) ps qs.toList _ _ _ hp.1 hp.2 hz0 hcs
   have hzz:(Xe0 (ofV v).cells n).length=n*s:=by rw [Xcs,hzl]
   have hlen:c'.size=n*s:=by
    have h3:cs.length=n*s:=by
     have:∀ (ps:List (Nat × AV)) (a b:List AV),Xhs (Xjg s) a ps=some b→b.length=a.length:=by
      intro ps
      induction ps with
      | nil=>intro a b h; simp [Xhs] at h; rw [h]
      | cons p ps ih =>
       intro a b h
       obtain ⟨i,x⟩:=p
       simp only [Xhs,Xjg] at h
       split at h
       ·rename_i hc'; rw [ih _ _ h,Xdq (by omega)]
       ·cases h
     rw [this _ _ _ hcs,hzz]
    rw [h2.1,h3]
   obtain ⟨η',w',rfl,e,r',hv⟩:=Xvd (t:=elem) (len:=n) (cap:=n) (sz:=s) r (by rw [h2.1]; exact Nat.le_refl _) h2.2 (Nat.le_refl _) (by omega)
   refine ⟨η',_,_,?_,e,r',hv⟩
   by_cases h0:n*s=0
   ·have hr0:∀ f:Nat→Value,(Array.range (n*s)).map f = #[]:=fun f=>by rw [h0]; apply Array.ext'; simp
    rw [hr0] at h1
    have hz1:Instr.fill (fun i=>some (i*s,s)) #[] qs.toList=some c':=h1
    simp only [Instr.buildSlice,Sem.run_bind,Xas hu,Result.andThen_ok,Xbl hs]
    rw [if_neg (by omega),if_pos h0]
    simp only [hr0,hz1]
    simp [newRow]
   ·simp only [Instr.buildSlice,Sem.run_bind,Xas hu,Result.andThen_ok,Xbl hs]
    rw [if_neg (by omega),if_neg h0]
    have h1':Instr.fill (fun i=>some (i*s,s)) ((Array.range (n*s)).map fun i=>v.cells[i % v.cells.size]!) qs.toList=some c':=h1
    simp [newRow,hr,h1']
  ·cases h'
 ·cases h
theorem Xn2 (r:Rel g η H w) {x:AV} {v:Value} {sz n:Nat} {cs:List AV} (hv:VR η H w x v) (h:Xcd H sz x=some (n,cs)) :
  cs.length=n*sz∧∃ (a:Option Addr) (cap:Nat),v=.slice a n cap∧n≤cap∧∃ vs:List Value,vs.length=n*sz∧(∀ (j:Nat) u,vs[j]? = some u→∃ ad,a=some ad∧w.cell? (ad.add j)=some u)∧∀ (j:Nat) c u,cs[j]? = some c→vs[j]? = some u→VR η H w c u:=by
 cases hv with
 | nilS=>simp [Xcd] at h; obtain ⟨rfl,rfl⟩:=h; exact ⟨by simp,none,0,rfl,Nat.le_refl _,[],by simp,fun j u h=>by simp at h,fun j c u h=>by simp at h⟩
 | lst len cells a cap us hc ha hcv =>
  simp only [Xcd] at h
  split at h
  ·rename_i hl
   injection h with h
   injection h with h1 h2
   subst h1 h2
   refine ⟨hl,a,cap,rfl,hc,(List.range (len*sz)).map us,by simp,fun j u hj=>?_,fun j c u hc' hj=>?_⟩
   ·have hj':j<len*sz:=by have:=(List.getElem?_eq_some_iff.1 hj).1; simpa using this
    have:u=us j:=by simp [List.getElem?_range hj'] at hj; exact hj.symm
    rw [this]
    obtain ⟨ad,h1,_,h2⟩:=ha j cells[j] (List.getElem?_eq_getElem (by omega))
    exact ⟨ad,h1,h2⟩
   ·have hj':j<len*sz:=by have:=(List.getElem?_eq_some_iff.1 hj).1; simpa using this
    have:u=us j:=by simp [List.getElem?_range hj'] at hj; exact hj.symm
    rw [this]
    exact hcv j c hc'
  ·cases h
 | slc id off len s st a cap hid hst hcap hl =>
  simp only [Xcd] at h
  cases hb:H[id]? with
  | none=>simp [hb] at h
  | some blk =>
   cases blk with
   | row cs0 st' ty =>
    simp only [hb] at h
    split at h
    ·rename_i hc
     obtain ⟨rfl,rfl,hle⟩:=hc
     injection h with h
     injection h with h1 h2
     subst h1 h2
     obtain ⟨b,o,hη,rfl,ho,_⟩:=hl ⟨_,hb,rfl⟩
     obtain ⟨c,t,fz,hh,hcl,hcv,hfz,hty⟩:=r.blk id _ b hb hη
     refine ⟨by simp; omega,_,cap,rfl,hcap,(c.toList.drop off).take (len*s),by simp; omega,fun j u hu=>?_,fun j x u hx hu=>?_⟩
     ·rw [List.getElem?_take] at hu
      split at hu
      ·rename_i hj
       rw [List.getElem?_drop] at hu
       have h0:0<len:=by
        rcases Nat.eq_zero_or_pos len with h | h
        ·subst h; omega
        ·exact h
       refine ⟨_,rfl,?_⟩
       rw [ho (.inl h0),Xee]
       simpa [World.cell?,hh] using hu
      ·cases hu
     ·rw [List.getElem?_take] at hx hu
      split at hu
      ·rename_i hj
       rw [if_pos hj,List.getElem?_drop] at hx
       rw [List.getElem?_drop] at hu
       exact hcv (off+j) x u hx (by simpa using hu)
      ·cases hu
    ·cases h
   | map es=>simp [hb] at h
   | siter s p=>simp [hb] at h
   | miter s p=>simp [hb] at h
 | _=>simp [Xcd] at h
theorem Xig {a:Option Addr} {n cap sz m:Nat} (vs:List Value) (hl:vs.length=m*sz) (hv:∀ (j:Nat) u,vs[j]? = some u→∃ ad,a=some ad∧w.cell? (ad.add j)=some u) :
  (Builtin.firstCells sz m (.slice a n cap)).run P w=.ok vs.toArray w:=by
 cases a with
 | none =>
  cases vs with
  | nil=>rfl
  | cons v vs=>obtain ⟨ad,e,_⟩:=hv 0 v rfl; cases e
 | some ad =>
  have:=Xjf (P:=P) (w:=w) ad vs fun j u hu=>by
   obtain ⟨ad',e,h⟩:=hv j u hu
   injection e with e
   subst e; exact h
  rw [hl] at this
  simpa [Builtin.firstCells] using this
theorem Xio {s:List UInt8} {j:Nat} {c:AV} (h:(Xal s)[j]? = some c):∃ b,s[j]? = some b∧c=.int .u8 b.toNat:=by
 unfold Xal at h
 rw [List.getElem?_map] at h
 obtain ⟨b,hb,rfl⟩:=Option.map_eq_some_iff.1 h
 exact ⟨b,hb,rfl⟩
theorem Xog (r:Rel g η H w) {x:AV} {v:Value} {sz n:Nat} {cs:List AV} (hv:VR η H w x v) (h:Xfu H sz x=some (n,cs)) :
  cs.length=n*sz∧(∀ w2:World,(Builtin.lenOf v).run P w2=.ok n w2)∧∃ vs:List Value,vs.length=n*sz∧(∀ (j:Nat) c u,cs[j]? = some c→vs[j]? = some u→VR η H w c u) ∧
   ∀ w2:World,w2.heap=w.heap→∀ m,m≤n→(Builtin.firstCells sz m v).run P w2=.ok (vs.take (m*sz)).toArray w2:=by
 unfold Xfu at h
 split at h
 ·rename_i b
  split at h
  ·rename_i hs
   injection h with h
   injection h with h1 h2
   subst h1 h2 hs
   cases hv with
   | str _ s hb =>
    refine ⟨by simp [Xal],(fun w2=>by show Result.ok s.size w2=_; rw [show s.size=b.length by rw [← hb]; exact (Array.length_toList ..).symm]),s.data.toList.map fun b=>.int .u8 b.toNat,by simp [hb],fun j c u hc hu=>?_,fun w2 hw2 m hm=>?_⟩
    ·obtain ⟨y,hy,rfl⟩:=Xio hc
     rw [List.getElem?_map,hb,hy] at hu
     injection hu with hu
     rw [← hu]; exact .int _ _
    ·have hx:(s.extract 0 m).data=s.data.extract 0 m:=by simp
     simp only [Builtin.firstCells,hx,Sem.run_pure]
     congr 1
     apply Array.ext'
     simp
  ·cases h
 ·obtain ⟨h1,a,cap,rfl,hcap,vs,hl,h2,h3⟩:=Xn2 r hv h
  refine ⟨h1,fun _=>rfl,vs,hl,h3,fun w2 hw2 m hm=>?_⟩
  have hle:m*sz≤n*sz:=Nat.mul_le_mul_right _ hm
  refine Xig (vs.take (m*sz)) (by simp; omega) (fun j u hu=>?_)
  ·rw [List.getElem?_take] at hu
   split at hu
   ·obtain ⟨ad,e,h⟩:=h2 j u hu
    exact ⟨ad,e,by unfold World.cell? at *; rw [hw2]; exact h⟩
   ·cases hu
end Go.Proofs.YtmhhddhbdbcmbaaGreatDoor.Ev
