/- Parts of one proof. -/
import Derived.Test.YtmhhddhbdbcmbaaGreatDoorMef
import Derived.ChangeArms
import Derived.ChangeSame
import Derived.WideLaws
set_option linter.all false
namespace Go.Proofs.YtmhhddhbdbcmbaaGreatDoor.Ev
open Nat (reduceEqDiff reduceLT reduceAdd reduceMul reduceLeDiff reduceSub)
open Go.RowKit
variable {P:Program} {H:Type} {enc:TypeId × Value→H} {w:World} {base:Nat} {spare:Nat→Bool} {Xcd:Bool}
def CR (w:World) (xs:List AV) (cs:List Value):Prop:=xs.length=cs.length∧∀ (j:Nat) c u,xs[j]? = some c→cs[j]? = some u→VR (fun _=>none) [] w c u
theorem CR.one {x:AV} {u:Value} (h:VR (fun _=>none) [] w x u):CR w [x] [u]:=by
 refine ⟨rfl,fun j c v h1 h2=>?_⟩
 cases j with
 | zero=>simp at h1 h2; subst h1 h2; exact h
 | succ j=>simp at h1
theorem CR.app {xs ys:List AV} {cs ds:List Value} (h:CR w xs cs) (k:CR w ys ds):CR w (xs++ys) (cs++ds):=by
 refine ⟨by simp [h.1,k.1],fun j c u h1 h2=>?_⟩
 rcases Nat.lt_or_ge j xs.length with hj | hj
 ·rw [List.getElem?_append_left hj] at h1
  rw [List.getElem?_append_left (by rw [← h.1]; exact hj)] at h2
  exact h.2 j c u h1 h2
 ·rw [List.getElem?_append_right hj] at h1
  rw [List.getElem?_append_right (by rw [← h.1]; exact hj)] at h2
  rw [← h.1] at h2
  exact k.2 _ c u h1 h2
theorem CR.nil:CR w [] []:=⟨rfl,fun j c u h=>by simp at h⟩
theorem CR.cons {x:AV} {u:Value} {xs:List AV} {cs:List Value} (h:VR (fun _=>none) [] w x u) (k:CR w xs cs):CR w (x::xs) (u::cs):=(CR.one h).app k
theorem CR.agg {xs:List AV} {cs:Array Value} (h:CR w xs cs.toList):VR (fun _=>none) [] w (.agg xs) (.agg cs) :=
 .agg xs cs (by rw [h.1]; simp) fun j c u h1 h2=>h.2 j c u h1 (by simpa using h2)
def Xjo (P:Program) (B:Nat) (t:TypeId) (d:DataW H):Prop:=∀ x ∈ d.weights P t,x≤B
theorem Xjo.lit {B t:Nat} {l:List UInt8} (h:Xjo P B t (.lit (.string l):DataW H)):l.length≤B:=h _ (by simp [DataW.weights])
theorem Xrx:∀ {ts:List TypeId} {ds:List (DataW H)} {B:Nat},(∀ x ∈ DataW.weightsEach P ts ds,x≤B)→∀ (j:Nat) t d,ts[j]? = some t→ds[j]? = some d→Xjo P B t d
 | [],_,_,_,j,t,d,h,_=>by simp at h
 | _::_,[],_,_,j,t,d,_,h=>by simp at h
 | t0::ts,d0::ds,B,hB,j,t,d,h1,h2=>by
  simp only [DataW.weightsEach,List.mem_append] at hB
  cases j with
  | zero =>
   simp at h1 h2
   subst h1 h2
   exact fun x hx=>hB x (.inl hx)
  | succ j=>exact Xrx (fun x hx=>hB x (.inr hx)) j t d (by simpa using h1) (by simpa using h2)
theorem Xvi:∀ {e:TypeId} {ds:List (DataW H)} {B:Nat},(∀ x ∈ DataW.weightsAll P e ds,x≤B)→∀ d ∈ ds,Xjo P B e d
 | _,[],_,_,d,h=>by simp at h
 | e,d0::ds,B,hB,d,h=>by
  simp only [DataW.weightsAll,List.mem_append] at hB
  rcases List.mem_cons.1 h with rfl | h
  ·exact fun x hx=>hB x (.inl hx)
  ·exact Xvi (fun x hx=>hB x (.inr hx)) d h
theorem Xjo.agg {B:Nat} {t:TypeId} {fs:Array Field} {ps:List (DataW H)} (ht:P.underlying t=some (.struct fs)) (h:Xjo P B t (.agg ps)) (j:Nat) (f:Field) (d:DataW H) (h1:fs[j]? = some f) (h2:ps[j]? = some d):Xjo P B f.type d:=by
 unfold Xjo at h
 simp only [DataW.weights,ht] at h
 exact Xrx h j _ d (by simp [h1]) h2
theorem Xjo.slice {B:Nat} {t e:TypeId} {xs ys:List (DataW H)} (ht:P.underlying t=some (.slice e)) (h:Xjo P B t (.slice xs ys)):(xs.length+ys.length)*P.bytesOf e≤B∧∀ d ∈ xs,Xjo P B e d:=by
 unfold Xjo at h
 simp only [DataW.weights,ht,List.mem_cons,List.mem_append] at h
 exact ⟨h _ (.inl rfl),fun d hd=>Xvi (fun x hx=>h x (.inr (.inl hx))) d hd⟩
theorem Xwk {α:Type} (cell:α→List AV) (sz:Nat) (hsz:∀ x,(cell x).length=sz):∀ (xs:List α) (j:Nat) (c:AV),(xs.flatMap cell)[j]? = some c→∃ i r x,xs[i]? = some x∧(cell x)[r]? = some c∧j=i*sz+r∧r<sz
 | [],j,c,h=>by simp at h
 | x::xs,j,c,h=>by
  rw [List.flatMap_cons] at h
  rcases Nat.lt_or_ge j (cell x).length with hj | hj
  ·rw [List.getElem?_append_left hj] at h
   exact ⟨0,j,x,rfl,h,by simp,by rw [hsz] at hj; exact hj⟩
  ·rw [List.getElem?_append_right hj] at h
   obtain ⟨i,r,y,h1,h2,h3,h4⟩:=Xwk cell sz hsz xs _ c h
   rw [hsz] at h3 hj
   refine ⟨i+1,r,y,by simpa using h1,h2,?_,h4⟩
   rw [Nat.succ_mul]; omega
theorem Xla {α:Type} (cell:α→List AV) (sz:Nat) (hsz:∀ x,(cell x).length=sz) (Q:α→Prop) {B:Nat} {t e:TypeId} (ht:P.underlying t=some (.slice e)) (hc:P.cellsOf e=sz) (hb:1≤P.bytesOf e) (fuel:Nat) (cs:List Value) (x:DataW H × List MemPlace)
  (ih:∀ n cs y,n<fuel→Xjo P B e y.1→DataW.trod enc P w base spare Xcd n e cs=some y→∃ s,CR w (cell s) cs∧Q s) (hB:Xjo P B t x.1) (h:DataW.trod enc P w base spare Xcd fuel t cs=some x) :
  ∃ xs:List α,CR w [.lst xs.length (xs.flatMap cell)] cs∧xs.length≤B∧∀ x ∈ xs,Q x:=by
 rcases DataW.trod_slice ht h with ⟨rfl,_⟩ | ⟨a,len,cap,elems,rest,n,hn,rfl,rfl,_,hl,hm,hlen,hel,_⟩
 ·exact ⟨[],.one (.lst 0 [] none 0 (fun _=>default) (Nat.le_refl _) (fun j c h=>by simp at h) (fun j c h=>by simp at h)),Nat.zero_le _,fun x h=>by simp at h⟩
 ·obtain ⟨hB1,hB2⟩:=Xjo.slice ht hB
  have each:∀ i,i<len→∃ s c,CR w (cell s) c∧Q s∧∀ j,j<sz→w.cell? (a.add (i*sz+j))=c[j]?:=by
   intro i hi
   have h1:=hel i hi
   have h2:i<elems.length:=by omega
   rw [List.getElem?_eq_getElem h2,hc] at h1
   obtain ⟨c,hcells,ht2⟩:=Option.bind_eq_some_iff.1 h1
   obtain ⟨_,hcl,hat⟩:=World.cells?_some hcells
   obtain ⟨s,hs,hq⟩:=ih n c _ (by omega) (hB2 _ (List.mem_map.2 ⟨_,List.getElem_mem h2,rfl⟩)) ht2
   refine ⟨s,c,hs,hq,fun j hj=>?_⟩
   have h3:=hat j hj
   rw [Addr.add_add] at h3
   exact h3
  have hx:∀ m,m≤len→∃ xs:List α,xs.length=m∧∀ i s,xs[i]? = some s→∃ c,CR w (cell s) c∧Q s∧∀ j,j<sz→w.cell? (a.add (i*sz+j))=c[j]?:=by
   intro m
   induction m with
   | zero=>exact fun _=>⟨[],rfl,fun i s h=>by simp at h⟩
   | succ m ihm =>
    intro hm2
    obtain ⟨xs,hxl,hxs⟩:=ihm (by omega)
    obtain ⟨s,c,h1,h2,h3⟩:=each m (by omega)
    refine ⟨xs++[s],by simp [hxl],fun i s2 h=>?_⟩
    rcases Nat.lt_or_ge i xs.length with hi | hi
    ·rw [List.getElem?_append_left hi] at h
     exact hxs i s2 h
    ·rw [List.getElem?_append_right hi] at h
     have hi0:i-xs.length=0:=by
      rcases Nat.eq_zero_or_pos (i-xs.length) with h0 | h0
      ·exact h0
      ·rw [List.getElem?_eq_none (by simp; omega)] at h; cases h
     rw [hi0] at h
     simp at h
     subst h
     have:i=m:=by omega
     subst this
     exact ⟨c,h1,h2,h3⟩
  obtain ⟨xs,hxl,hxs⟩:=hx len (Nat.le_refl _)
  subst hxl
  have key:∀ j c,(xs.flatMap cell)[j]? = some c→∃ u,w.cell? (a.add j)=some u∧VR (fun _=>none) [] w c u:=by
   intro j c h
   obtain ⟨i,r,s,h1,h2,rfl,h4⟩:=Xwk cell sz hsz xs j c h
   obtain ⟨cs,h5,_,h6⟩:=hxs i s h1
   have h7:=h6 r h4
   have hr:r<cs.length:=by rw [← h5.1,hsz]; exact h4
   rw [List.getElem?_eq_getElem hr] at h7
   exact ⟨_,h7,h5.2 r c _ h2 (List.getElem?_eq_getElem hr)⟩
  refine ⟨xs,.one (.lst _ _ (some a) cap (fun j=>(w.cell? (a.add j)).getD default) hl (fun j c h=>?_) (fun j c h=>?_)),?_,fun x hx=>?_⟩
  ·obtain ⟨u,h1,_⟩:=key j c h
   refine ⟨a,rfl,⟨?_,fun id hid=>by cases hid⟩,by rw [h1]; rfl⟩
   unfold World.cell? at h1
   simp only [add_block] at h1
   rcases Nat.lt_or_ge a.block w.heap.size with hlt | hge
   ·exact hlt
   ·rw [Array.getElem?_eq_none hge] at h1; simp at h1
  ·obtain ⟨u,h1,h2⟩:=key j c h
   rw [h1]; exact h2
  ·have:(List.map (fun x=>x.1) elems).length*1≤((List.map (fun x=>x.1) elems).length+(List.map (fun x=>x.1) rest).length)*P.bytesOf e:=Nat.mul_le_mul (by omega) hb
   simp only [List.length_map] at this
   simp only [List.length_map] at hB1
   omega
  ·obtain ⟨i,hi⟩:=List.getElem?_of_mem hx
   obtain ⟨_,_,hq,_⟩:=hxs i x hi
   exact hq
theorem Xd0 {B:Nat} {t:TypeId} (ht:P.underlying t=some .string) {fuel:Nat} {cs:List Value} {x:DataW H × List MemPlace} (hB:Xjo P B t x.1) (h:DataW.trod enc P w base spare Xcd fuel t cs=some x) :
  ∃ s:List UInt8,CR w [.str s] cs∧s.length≤B:=by
 obtain ⟨s,rfl,rfl,_⟩:=DataW.trod_string ht h
 exact ⟨s.data.toList,.one (.str _ _ rfl),hB.lit⟩
theorem Xsf {t:TypeId} (ht:P.underlying t=some .bool) {fuel:Nat} {cs:List Value} {x:DataW H × List MemPlace} (h:DataW.trod enc P w base spare Xcd fuel t cs=some x):∃ b,CR w [.bool b] cs:=by
 obtain ⟨b,rfl,rfl⟩:=DataW.trod_bool ht h
 exact ⟨b,.one (.bool b)⟩
theorem Xpi {t:TypeId} {k:IntKind} (ht:P.underlying t=some (.int k)) {fuel:Nat} {cs:List Value} {x:DataW H × List MemPlace} (h:DataW.trod enc P w base spare Xcd fuel t cs=some x):∃ n,CR w [.int k n] cs∧(Lit.int k n).wf=true:=by
 obtain ⟨n,rfl,rfl,hw⟩:=DataW.trod_int ht h
 exact ⟨n,.one (.int k n),hw⟩
theorem Xjd {B:Nat} {t:TypeId} {fs:Array Field} (ht:P.underlying t=some (.struct fs)) {fuel:Nat} {cs:List Value} {x:DataW H × List MemPlace} (hB:Xjo P B t x.1) (h:DataW.trod enc P w base spare Xcd fuel t cs=some x) :
  cs.length=P.cellsOf t∧∀ (i:Nat) (f:Field),fs[i]? = some f→∃ y n,n<fuel∧Xjo P B f.type y.1∧DataW.trod enc P w base spare Xcd n f.type ((cs.drop f.offset).take (P.cellsOf f.type))=some y:=by
 obtain ⟨xs,n,rfl,rfl,hl,hlen,hf⟩:=DataW.trod_struct ht h
 refine ⟨hl,fun i f hi=>?_⟩
 have h1:=hf i f hi
 have h2:i<xs.length:=by rw [hlen]; exact (Array.getElem?_eq_some_iff.1 hi).1
 rw [List.getElem?_eq_getElem h2] at h1
 exact ⟨_,n,Nat.lt_succ_self _,hB.agg ht i f _ hi (by simp [h2]),h1⟩
end Go.Proofs.YtmhhddhbdbcmbaaGreatDoor.Ev
