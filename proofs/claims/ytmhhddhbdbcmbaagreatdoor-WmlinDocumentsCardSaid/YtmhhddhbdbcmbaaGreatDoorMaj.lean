/- Parts of one proof. -/
import Derived.Test.YtmhhddhbdbcmbaaGreatDoorMai
import Derived.Deep.AppendSrc
set_option linter.all false
namespace Go.Proofs.YtmhhddhbdbcmbaaGreatDoor.Ev
variable {P:Program} {g:Cfg} {η:Nat→Option Nat} {H:Mem} {w:World}
theorem Rel.move (r:Rel g η H w) {id:Nat} {x y:Blk} {o:Obj} (hx:H[id]? = some x) {b0:Nat} (hb0:η id=some b0) (hy:Xk0 x<Xk0 y) (hl:Xcn H.length y=true) (hb:∀ η' H' w',Ext η H w η' H' w'→w'.heap[w.heap.size]? = some o→BlkR η' H' w' w.heap.size y) :
  Ext η H w (upd η id w.heap.size) (H.set id y) (w.alloc o)∧Rel g (upd η id w.heap.size) (H.set id y) (w.alloc o):=by
 have hid:id<H.length:=(List.getElem?_eq_some_iff.1 hx).1
 have e:Ext η H w (upd η id w.heap.size) (H.set id y) (w.alloc o):=by
  refine ⟨⟨by simp,fun i z hz=>?_,by simp,fun b hb=>?_,rfl,rfl,rfl⟩,fun i hi h=>by
   rw [Xlk (fun e=>by rw [e,hb0] at h; cases h)]; exact h⟩
  ·by_cases hi:i=id
   ·subst hi
    rw [hx] at hz
    injection hz with hz
    subst hz
    exact ⟨y,by simp [hid],by omega,fun e=>by omega⟩
   ·refine ⟨z,by rw [List.getElem?_set_ne (by omega)]; exact hz,Nat.le_refl _,fun _ b hb=>⟨by rw [Xlk hi]; exact hb,fun s hs=>?_⟩⟩
    rw [Xeg (Xb1 w o b (r.dom i b hb).2)]; exact hs
  ·refine ⟨Xb1 w o b hb.1,fun i h=>?_⟩
   unfold upd at h
   split at h
   ·injection h with h; exact absurd hb.1 (by omega)
   ·exact hb.2 i h
 refine ⟨e,r.step e.toExtW (fun i b h=>?_) (fun i j b h1 h2=>?_) (fun z hz=>?_) fun i z b h1 h2=>?_⟩
 ·unfold upd at h
  split at h
  ·rename_i h'; injection h with h; subst h'; subst h; simp [hid]
  ·have:=r.dom i b h; simp; omega
 ·unfold upd at h1 h2
  split at h1 <;> split at h2
  ·omega
  ·injection h1 with h1; have:=(r.dom j b h2).2; omega
  ·injection h2 with h2; have:=(r.dom i b h1).2; omega
  ·exact r.inj i j b h1 h2
 ·rw [List.length_set]
  rcases List.mem_or_eq_of_mem_set hz with h | h
  ·exact r.low z h
  ·rw [h]; exact hl
 ·unfold upd at h2
  split at h2
  ·rename_i h'
   subst h'
   injection h2 with h2
   subst h2
   simp [hid] at h1
   subst h1
   exact .inr (hb _ _ _ e (Xcq w o))
  ·rename_i h'
   rw [List.getElem?_set_ne (by omega)] at h1
   exact .inl ⟨h1,h2,Xb1 w o b (r.dom i b h2).2⟩
theorem Xr4 {t:TypeId} {n:Nat} {i:TypeInfo} (hi:P.info? t=some i) (h:Xso P t n=true):∃ v,i.zero=some v∧v.cells.size=n:=by
 unfold Xso Xfz at h
 cases hz:i.zero with
 | none=>simp [hi,hz] at h
 | some v =>
  simp [hi,hz] at h
  exact ⟨v,rfl,by rw [((Xf7 (η:=fun _=>none) (H:=[]) (w:=default) v).cells h.1).1,h.2]⟩
theorem Xii (z:Array Value) (n:Nat):(Builtin.zeroCells z n).size=n*z.size:=by simp [Builtin.zeroCells]
theorem all_one {cs:List AV} {vs:List Value} (hn:vs.length=cs.length) (h:cs.all AV.one=true) (hv:∀ (j:Nat) c u,cs[j]? = some c→vs[j]? = some u→VR η H w c u):∀ v ∈ vs,v.oneCell'=true:=by
 intro v hm
 obtain ⟨j,hj,e⟩:=List.getElem_of_mem hm
 have hj':j<cs.length:=by omega
 have h1:=hv j cs[j] v (List.getElem?_eq_getElem hj') (by rw [← e]; exact List.getElem?_eq_getElem hj)
 simp only [List.all_eq_true] at h
 exact Xs4 h1 (h _ (List.getElem_mem hj'))
theorem append_ts {ts:Array TypeId} {t xt ty:TypeId} {s x:Value} (ht:ts[0]? = some t) (hx:ts[1]? = some xt):Builtin.append_ ts ty #[s,x]=Builtin.append_ #[t,xt] ty #[s,x]:=by
 unfold Builtin.append_
 simp only [ht,hx]
 rfl
theorem mk_src (r:Rel g η H w) {x:AV} {v:Value} {sz n:Nat} {cs:List AV} {xt:TypeId} (hv:VR η H w x v) (h:Xfu H sz x=some (n,cs)) (hk:srcT P (some xt)=true) (ho:cs.all AV.one=true) :
  cs.length=n*sz∧∃ vs,Src P sz xt v n vs w∧∀ (j:Nat) c u,cs[j]? = some c→vs[j]? = some u→VR η H w c u:=by
 obtain ⟨h1,h2,vs,h3,h4,h5⟩:=Xog (P:=P) r hv h
 have h6:=h5 w rfl n (Nat.le_refl _)
 have h7:=h5 w.drew rfl n (Nat.le_refl _)
 rw [List.take_of_length_le (by omega)] at h6 h7
 refine ⟨h1,vs,⟨?_,h2,h6,h7,h3,all_one (by omega) ho h4⟩,h4⟩
 unfold srcT at hk
 cases hu:P.underlying xt with
 | none=>simp [hu] at hk
 | some d=>cases d <;> simp [hu] at hk <;> simp
section
variable {t elem xt:TypeId} {ts:Array TypeId} {ty:TypeId} {i:TypeInfo}
theorem Xxt (r:Rel g η H w) (hu:P.underlying t=some (.slice elem)) (hi:P.info? elem=some i) {s:AV} {sv xv:Value} {n:Nat} {new:List AV} {vs:List Value} {y:AV × Mem} (hs:VR η H w s sv) (hnl:new.length=n*i.size) (hsrc:Src P i.size xt xv n vs w)
  (hvv:∀ (j:Nat) c u,new[j]? = some c→vs[j]? = some u→VR η H w c u) (hby:i.bytes≤2 ^ 10) (hzo:Xso P elem i.size=true) (h:Xgu H elem i.size n new s=some y):Xe8 P g η H w (Builtin.append_ #[t,xt] ty #[sv,xv]) y:=by
 obtain ⟨z,hz,hzs⟩:=Xr4 hi hzo
 have hvl:=hsrc.newsLen
 cases hs with
 | nilS =>
  simp only [Xgu] at h
  split at h
  ·rename_i h0
   subst h0
   injection h with h
   subst h
   refine ⟨η,w,.slice none 0 0,?_,Ext.refl,r,.nilS⟩
   have hf:=hsrc.cells
   rcases hsrc.kind with ⟨e',hk⟩ | hk <;> simp [Builtin.append_,run_underlying hu,run_underlying hk,sizeOf,typeInfo,hi,hsrc.len,hf]
  ·rename_i h0
   split at h
   ·rename_i hle
    injection h with h
    subst h
    have hfit:(0+n)*i.bytes≤140737488355328:=by
     have:n*i.bytes≤2 ^ 34*2 ^ 10:=Nat.mul_le_mul hle hby
     rw [Nat.zero_add]; omega
    have hrun:=run_append_grow_src (P:=P) w t xt ty elem i z hu hi hz none 0 0 [] (by simp [Builtin.firstCells]) xv n vs hsrc (by omega) (by omega) (growslice_fits (by omega) hfit)
    have r':=r.quiet (w':=w.drew) rfl rfl rfl rfl
    have e':Ext η H w η H w.drew:=Ext.quiet rfl rfl rfl rfl
    obtain ⟨η',w',e1,e2,r2,hv⟩:=Xvd (t:=elem) (len:=n) (cap:=grownCap w (0+n) 0 elem) (sz:=i.size) r' (cs:=new) (c:=([]++vs).toArray++Builtin.zeroCells z.cells (grownCap w (0+n) 0 elem-(0+n)))
     (by simp; omega) (fun j x u hx hu'=>(hvv j x u hx (by
      have hj:j<vs.length:=by have:=(List.getElem?_eq_some_iff.1 hx).1; omega
      rw [Array.getElem?_append_left (by simpa using hj)] at hu'
      simpa using hu')).ext e') (by simp [grownCap,Question.cut]) (by
      have h1:n≤grownCap w (0+n) 0 elem:=by simp [grownCap,Question.cut]
      simp [Xii,hzs]
      rw [hvl,Nat.sub_mul]
      have:=Nat.mul_le_mul_right i.size h1
      simp at this ⊢
      omega)
    refine ⟨η',w',_,?_,e'.trans e2,r2,by simpa using hv⟩
    rw [hrun,e1]
    simp
   ·cases h
 | slc id off len sz st a cap hid hst hcap hl =>
  simp only [Xgu] at h
  cases hb:H[id]? with
  | none=>simp [hb] at h
  | some blk =>
   cases blk with
   | row cs st' ty =>
    simp only [hb] at h
    split at h
    ·rename_i hc
     obtain ⟨rfl,rfl,rfl,hcl,hle⟩:=hc
     injection h with h
     subst h
     obtain ⟨b,o,hη,rfl,ho,tt,nn,hshape,hroom⟩:=hl ⟨_,hb,rfl⟩
     obtain rfl:=ho (.inr rfl)
     obtain ⟨c,te,fz,hh,hcc,hcv,hfz,hty⟩:=r.blk id _ b hb hη
     have hnn:nn=c.size:=by simp [World.shape?,hh] at hshape; exact hshape.2.symm
     subst hnn
     by_cases hfit:len+n≤cap
     ·have hcm:(len+n)*i.size≤cap*i.size:=Nat.mul_le_mul_right _ hfit
      rw [Nat.add_mul] at hcm
      have hadd:(Addr.add ⟨b,0,none⟩ (len*i.size))=⟨b,0+len*i.size,none⟩:=Xee _ _ _
      have hst2:(storeCells ((Addr.mk b 0 none).add (len*i.size)) vs).run P w=.ok () (Xbi w b (.cells (spl c (len*i.size) vs) te fz)):=by
       have:=Xef (P:=P) vs w (len*i.size) 0 c hh (by omega) hfz.not hsrc.one
       rw [hadd,Nat.zero_add]
       simpa using this
      have e:Ext η H w η (H.set id (.row (cs++new) (st+1) (if ty=elem+1 then elem+1 else 0))) (Xbi w b (.cells (spl c (len*i.size) vs) te fz)):=Ext.put r hb hη (by simp [Xk0]) (fun h=>by simp [Xk0] at h)
      have hlt:b<w.heap.size:=(Array.getElem?_eq_some_iff.1 hh).1
      have hcells:∀ (j:Nat) x u,(cs++new)[j]? = some x→(spl c (len*i.size) vs)[j]? = some u→VR η H w x u:=by
       intro j x u hx hu'
       rw [Xna _ _ _ _ (by omega)] at hu'
       by_cases hj:j<cs.length
       ·rw [List.getElem?_append_left hj] at hx
        rw [if_neg (by omega)] at hu'
        exact hcv j x u hx hu'
       ·rw [List.getElem?_append_right (by omega)] at hx
        have hj2:=(List.getElem?_eq_some_iff.1 hx).1
        rw [if_pos (by omega)] at hu'
        rw [hcl] at hx
        exact hvv _ x u hx hu'
      have r2:=r.put hb hη e (Xb3.2 fun j x hx=>by
        have hj:j<(spl c (len*i.size) vs).size:=by
         have:=(List.getElem?_eq_some_iff.1 hx).1
         simp at this
         rw [Xfo]; omega
        exact (hcells j x _ hx (Array.getElem?_eq_getElem hj)).low) ⟨_,te,fz,Xcy hlt,by rw [Xfo]; simp; omega,fun j x u hx hu'=>(hcells j x u hx hu').ext e,by rw [Xfo]; exact hfz,fun T hT=>by split at hT <;> first | (rename_i hty'; exact hty T (hty'.trans hT)) | omega⟩
      refine ⟨η,_,.slice (some ⟨b,0,none⟩) (len+n) cap,?_,e,r2,.slc _ _ _ _ _ _ _ (by simpa using hid) (by simp [Xor,hid,Xk0]) hfit fun _=>⟨b,0,hη,rfl,fun _=>rfl,te,c.size,?_,by omega⟩⟩
      ·rcases hsrc.kind with ⟨e',hk⟩ | hk <;> simp [Builtin.append_,run_underlying hu,run_underlying hk,sizeOf,typeInfo,hi,hsrc.len,hfit,hsrc.cells,hst2]
      ·simp [World.shape?,Xcy hlt,Xfo]
     ·have hfitb:(len+n)*i.bytes≤140737488355328:=by
       have:(len+n)*i.bytes≤2 ^ 34*2 ^ 10:=Nat.mul_le_mul hle hby
       omega
      have hold:(Builtin.firstCells i.size len (.slice (some ⟨b,0,none⟩) len cap)).run P w.drew=.ok (c.toList.take (len*i.size)).toArray w.drew :=
       Xig (c.toList.take (len*i.size)) (by simp; omega) fun j u hu'=>⟨_,rfl,by
        rw [List.getElem?_take] at hu'
        split at hu'
        ·rw [Xee,Nat.zero_add]; have hd:w.drew.heap[b]? = _:=hh; simpa [World.cell?,hd] using hu'
        ·cases hu'⟩
      have hrun:=run_append_grow_src (P:=P) w t xt ty elem i z hu hi hz (some ⟨b,0,none⟩) len cap _ hold xv n vs hsrc (by omega) (by omega) (growslice_fits (by omega) hfitb)
      have r':=r.quiet (w':=w.drew) rfl rfl rfl rfl
      have e':Ext η H w η H w.drew:=Ext.quiet rfl rfl rfl rfl
      have hcap':len+n≤grownCap w (len+n) cap elem:=by simp [grownCap,Question.cut]
      generalize grownCap w (len+n) cap elem=cap' at hrun hcap'
      have hcs:∀ (j:Nat) x u,(cs++new)[j]? = some x→((c.toList.take (len*i.size)++vs).toArray++Builtin.zeroCells z.cells (cap'-(len+n)))[j]? = some u→VR η H w x u:=by
       intro j x u hx hu'
       have hj0:=(List.getElem?_eq_some_iff.1 hx).1
       rw [List.length_append] at hj0
       rw [Array.getElem?_append_left (by simp; omega)] at hu'
       simp only [List.getElem?_toArray] at hu'
       by_cases hj:j<cs.length
       ·rw [List.getElem?_append_left hj] at hx
        rw [List.getElem?_append_left (by simp; omega),List.getElem?_take,if_pos (by omega)] at hu'
        exact hcv j x u hx (by simpa using hu')
       ·have htl:(c.toList.take (len*i.size)).length=len*i.size:=by simp; omega
        rw [List.getElem?_append_right (by omega)] at hx hu'
        rw [hcl] at hx
        rw [htl] at hu'
        exact hvv _ x u hx hu'
      have hsize:((c.toList.take (len*i.size)++vs).toArray++Builtin.zeroCells z.cells (cap'-(len+n))).size=cap'*i.size:=by
       have h1:=Nat.mul_le_mul_right i.size hcap'
       rw [Nat.add_mul] at h1
       simp [Xii,hzs]
       rw [hvl,Nat.sub_mul,Nat.add_mul]
       omega
      generalize ((c.toList.take (len*i.size)++vs).toArray++Builtin.zeroCells z.cells (cap'-(len+n)))=cz at hrun hcs hsize
      have hm:=Rel.move r' (id:=id) (y:=.row (cs++new) (st+1) (if ty=elem+1 then elem+1 else 0)) (o:=.cells cz elem) hb hη (by simp [Xk0]) (Xb3.2 fun j x hx=>by
        have hj0:=(List.getElem?_eq_some_iff.1 hx).1
        have h1:=Nat.mul_le_mul_right i.size hcap'
        rw [Nat.add_mul] at h1
        rw [List.length_append] at hj0
        have hj:j<cz.size:=by omega
        exact (hcs j x _ hx (Array.getElem?_eq_getElem hj)).low) (fun η' H' w' e hw=>⟨cz,elem,(0,0),hw,by
        have h1:=Nat.mul_le_mul_right i.size hcap'
        rw [Nat.add_mul] at h1
        rw [List.length_append]; omega,fun j x u hx hu'=>(hcs j x u hx hu').ext (e'.trans e),.inl rfl,fun T hT=>by split at hT <;> first | exact Nat.succ.inj hT | omega⟩)
      refine ⟨_,_,_,hrun,e'.trans hm.1,hm.2,.slc _ _ _ _ _ _ _ (by simpa using hid) (by simp [Xor,hid,Xk0]) hcap' fun _=>⟨_,0,Xkk,rfl,fun _=>rfl,elem,cz.size,?_,by omega⟩⟩
      simp only [World.shape?,Xcq]
    ·cases h
   | map es=>simp [hb] at h
   | siter s p=>simp [hb] at h
   | miter s p=>simp [hb] at h
 | _=>simp [Xgu] at h
end
end Go.Proofs.YtmhhddhbdbcmbaaGreatDoor.Ev
