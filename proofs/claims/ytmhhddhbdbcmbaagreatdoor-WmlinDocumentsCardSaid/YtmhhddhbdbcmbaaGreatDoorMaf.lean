/- Parts of one proof. -/
import Derived.Test.YtmhhddhbdbcmbaaGreatDoorMae
import Derived.Laws.Sem
set_option linter.all false
namespace Go.Proofs.YtmhhddhbdbcmbaaGreatDoor.Ev
variable {P:Program} {g:Cfg} {η:Nat→Option Nat} {H:Mem} {w:World}
theorem Xas {t:TypeId} {d:TypeDesc} (h:P.underlying t=some d):(underlying t).run P w=.ok d w:=by simp [underlying,h]
theorem Xph {t:TypeId} {d:TypeInfo} (h:P.info? t=some d):(typeInfo t).run P w=.ok d w:=by simp [typeInfo,h]
theorem Xbl {t:TypeId} {n:Nat} (h:szT P t=some n):(sizeOf t).run P w=.ok n w:=by
 unfold szT at h
 cases hi:P.info? t with
 | none=>simp [hi] at h
 | some i=>simp [hi] at h; simp [sizeOf,Xph hi,h]
theorem Xi9 {t:TypeId} {b:Bool} (h:aggT P t=some b):(isAgg t).run P w=.ok b w:=by
 unfold aggT at h
 cases hu:P.underlying t with
 | none=>simp [hu] at h
 | some d=>cases d <;> simp [hu] at h <;> subst h <;> simp [isAgg,Xas hu]
theorem Xgb (a:Addr):∀ (vs:List Value) (i:Nat) (acc:Array Value),(∀ (j:Nat) u,vs[j]? = some u→w.cell? (a.add (i+j))=some u)→(loadCellsFrom a i vs.length acc).run P w=.ok (acc++vs.toArray) w
 | [],i,acc,_=>by simp [loadCellsFrom]
 | v::vs,i,acc,h=>by
  have h0:=h 0 v rfl
  rw [Nat.add_zero] at h0
  have ih:=Xgb a vs (i+1) (acc.push v) fun j u hu=>by
   have:=h (j+1) u (by simpa using hu)
   rwa [show i+(j+1)=i+1+j by omega] at this
  simp only [Zf,loadCellsFrom,Sem.run_bind,run_load,h0,Result.andThen_ok,ih]
  simp
theorem Xjf (a:Addr) (vs:List Value) (h:∀ (j:Nat) u,vs[j]? = some u→w.cell? (a.add j)=some u):(loadCells a vs.length).run P w=.ok vs.toArray w:=by
 have:=Xgb (P:=P) (w:=w) a vs 0 #[] fun j u hu=>by rw [Nat.zero_add]; exact h j u hu
 simpa [loadCells] using this
def Xbi (w:World) (b:Nat) (o:Obj):World:={ w with heap:=w.heap.setIfInBounds b o }
theorem Xcy {b:Nat} {o:Obj} (h:b<w.heap.size):(Xbi w b o).heap[b]? = some o:=by simp [Xbi,h]
theorem Xjk {b k:Nat} {o:Obj} (h:k≠b):(Xbi w b o).heap[k]? = w.heap[k]?:=by
 unfold Xbi
 rw [Array.getElem?_setIfInBounds]
 rw [if_neg (by omega)]
theorem Xxp {b:Nat} {o o':Obj}:Xbi (Xbi w b o) b o'=Xbi w b o':=by
 simp [Xbi,Array.setIfInBounds_setIfInBounds]
theorem Xmj {b:Nat} {o:Obj}:(Xbi w b o).heap.size=w.heap.size:=by simp [Xbi]
theorem Xli {b:Nat} {o:Obj} (h:w.heap[b]? = some o):Xbi w b o=w:=by
 obtain ⟨hl,e⟩:=Array.getElem?_eq_some_iff.1 h
 unfold Xbi
 have:w.heap.setIfInBounds b o=w.heap:=by
  apply Array.ext_getElem?
  intro i
  rw [Array.getElem?_setIfInBounds]
  split
  ·rename_i hi; subst hi; simp [hl,e]
  ·rfl
 rw [this]
theorem Xud {b o:Nat} {c:Array Value} {t:TypeId} {fz:Nat × Nat} {v:Value} (h:w.heap[b]? = some (.cells c t fz)):w.setCell ⟨b,o,none⟩ v=Xbi w b (.cells (c.setIfInBounds o v) t fz):=by
 obtain ⟨hl,e⟩:=Array.getElem?_eq_some_iff.1 h
 unfold World.setCell Xbi
 congr 1
 apply Array.ext_getElem?
 intro i
 rw [Array.getElem?_modify,Array.getElem?_setIfInBounds]
 by_cases hi:b=i
 ·subst hi; simp [hl,e]
 ·rw [if_neg hi,if_neg hi]
def spl (c:Array Value) (o:Nat):List Value→Array Value
 | []=>c
 | v::vs=>spl (c.setIfInBounds o v) (o+1) vs
theorem Xfo:∀ (vs:List Value) (c:Array Value) (o:Nat),(spl c o vs).size=c.size
 | [],_,_=>rfl
 | v::vs,c,o=>by rw [spl,Xfo vs]; simp
theorem Xna:∀ (vs:List Value) (c:Array Value) (o j:Nat),o+vs.length≤c.size→(spl c o vs)[j]? = if o≤j∧j<o+vs.length then vs[j-o]? else c[j]?
 | [],c,o,j,_=>by
  rw [if_neg (by simp)]; rfl
 | v::vs,c,o,j,h=>by
  simp only [Zf] at h ⊢
  rw [spl,Xna vs _ _ _ (by simp; omega)]
  by_cases h1:o+1≤j∧j<o+1+vs.length
  ·rw [if_pos h1,if_pos (by omega),show j-o=(j-(o+1))+1 by omega]; simp
  ·rw [if_neg h1]
   by_cases h2:j=o
   ·subst h2
    rw [if_pos (by omega)]
    have:j<c.size:=by omega
    simp [this]
   ·rw [if_neg (by omega),Array.getElem?_setIfInBounds_ne (by omega)]
theorem Xjp {cs xs:List AV} {off j:Nat} (h:off+xs.length≤cs.length):(Xd4 cs off xs)[j]? = if off≤j∧j<off+xs.length then xs[j-off]? else cs[j]?:=by
 unfold Xd4
 have hl:(cs.take off).length=off:=by simp; omega
 by_cases h1:j<off
 ·rw [List.getElem?_append_left (by omega),if_neg (by omega),List.getElem?_take]; simp [h1]
 ·rw [List.getElem?_append_right (by omega),hl]
  by_cases h2:j<off+xs.length
  ·rw [if_pos (by omega),List.getElem?_append_left (by omega)]
  ·rw [if_neg (by omega),List.getElem?_append_right (by omega),List.getElem?_drop]
   congr 1; omega
theorem Xdq {cs xs:List AV} {off:Nat} (h:off+xs.length≤cs.length):(Xd4 cs off xs).length=cs.length:=by
 simp [Xd4]; omega
theorem Xef {b:Nat} {t:TypeId} {fz:Nat × Nat}:∀ (vs:List Value) (w:World) (o i:Nat) (c:Array Value),w.heap[b]? = some (.cells c t fz)→o+i+vs.length≤c.size→(∀ j,j<c.size→¬ (fz.1≤j∧j<fz.2)) →
  (∀ v ∈ vs,v.oneCell'=true)→(storeCells ⟨b,o,none⟩ vs i).run P w=.ok () (Xbi w b (.cells (spl c (o+i) vs) t fz))
 | [],w,o,i,c,h,_,_,_=>by simp [storeCells,spl,Xli h]
 | v::vs,w,o,i,c,h,hl,hf,hv=>by
  simp only [Zf] at hl
  have ha:(Addr.add ⟨b,o,none⟩ i)=⟨b,o+i,none⟩:=by unfold Addr.add; split <;> simp_all
  have hc:w.cell? ⟨b,o+i,none⟩=some (c[o+i]'(by omega)):=by simp [World.cell?,h]
  have hz:w.frozen? ⟨b,o+i,none⟩=false:=by
   have:=hf (o+i) (by omega)
   simp only [World.frozen?,h]
   simpa using this
  have hlt:b<w.heap.size:=(Array.getElem?_eq_some_iff.1 h).1
  have ih:=Xef vs (Xbi w b (.cells (c.setIfInBounds (o+i) v) t fz)) o (i+1) (c.setIfInBounds (o+i) v) (Xcy hlt) (by simp; omega) (by simpa using hf) (fun u hu=>hv u (by simp [hu]))
  simp only [storeCells,Sem.run_bind,ha,run_store P w _ v _ (hv v (by simp)),hc,hz,Ze,if_false,Result.andThen_ok,Xud h,ih,Xxp]
  simp [spl,Nat.add_assoc]
theorem Xm1 {b:Nat} {c c':Array Value} {t:TypeId} {fz fz':Nat × Nat} (h:w.heap[b]? = some (.cells c t fz)) (hs:c'.size=c.size):∀ s,Xop w b=some s→Xop (Xbi w b (.cells c' t fz')) b=some s:=by
 intro s
 have hlt:b<w.heap.size:=(Array.getElem?_eq_some_iff.1 h).1
 simp [Xop,World.shape?,h,Xcy hlt,hs]
theorem Ext.put (r:Rel g η H w) {id b:Nat} {x y:Blk} {o:Obj} (hx:H[id]? = some x) (hb:η id=some b) (hy:Xk0 x≤Xk0 y) (hs:Xk0 x=Xk0 y→∀ s,Xop w b=some s→Xop (Xbi w b o) b=some s):Ext η H w η (H.set id y) (Xbi w b o):=by
 have hid:id<H.length:=(List.getElem?_eq_some_iff.1 hx).1
 refine ⟨⟨by simp,fun i z hz=>?_,by rw [Xmj]; exact Nat.le_refl _,fun k hk=>⟨Xjk fun e=>hk.2 id (e ▸ hb),hk.2⟩,rfl,rfl,rfl⟩,fun _ _ h=>h⟩
 by_cases hi:i=id
 ·subst hi
  rw [hx] at hz
  injection hz with hz
  subst hz
  refine ⟨y,by simp [hid],hy,fun e c hc=>⟨hc,?_⟩⟩
  rw [hb] at hc
  injection hc with hc
  subst hc
  exact hs e
 ·refine ⟨z,by rw [List.getElem?_set_ne (by omega)]; exact hz,Nat.le_refl _,fun _ c hc=>⟨hc,fun s hs=>?_⟩⟩
  have:c≠b:=fun e=>hi (r.inj i id c hc (by rw [hb,e]))
  rw [Xeg (Xjk this)]; exact hs
theorem Rel.put (r:Rel g η H w) {id b:Nat} {x y:Blk} {o:Obj} (hx:H[id]? = some x) (hb:η id=some b) (e:Ext η H w η (H.set id y) (Xbi w b o)) (hl:Xcn H.length y=true) (hr:BlkR η (H.set id y) (Xbi w b o) b y):Rel g η (H.set id y) (Xbi w b o):=by
 have hid:id<H.length:=(List.getElem?_eq_some_iff.1 hx).1
 refine r.step e.toExtW (fun i k h=>?_) r.inj (fun z hz=>?_) fun i z k h1 h2=>?_
 ·have:=r.dom i k h; rw [Xmj]; simpa using this
 ·rw [List.length_set]
  rcases List.mem_or_eq_of_mem_set hz with h | h
  ·exact r.low z h
  ·rw [h]; exact hl
 ·by_cases hi:i=id
  ·subst hi
   rw [hb] at h2
   injection h2 with h2
   subst h2
   simp [hid] at h1
   subst h1
   exact .inr hr
  ·rw [List.getElem?_set_ne (by omega)] at h1
   exact .inl ⟨h1,h2,Xjk fun e=>hi (r.inj i id k h2 (by rw [hb,e]))⟩
theorem Rel.frost (r:Rel g η H w) {id b st ty:Nat} {cs:List AV} {c:Array Value} {t:TypeId} {fz fz':Nat × Nat} (hx:H[id]? = some (.row cs st ty)) (hb:η id=some b) (hh:w.heap[b]? = some (.cells c t fz)) (hf:Warm fz' c.size)
  (hcl:cs.length≤c.size) (hty:∀ T,ty=T+1→t=T) (hv:∀ (j:Nat) x u,cs[j]? = some x→c[j]? = some u→VR η H w x u):Ext η H w η H (Xbi w b (.cells c t fz'))∧Rel g η H (Xbi w b (.cells c t fz')):=by
 have hid:id<H.length:=(List.getElem?_eq_some_iff.1 hx).1
 have hset:H.set id (.row cs st ty)=H:=by
  apply List.ext_getElem?
  intro i
  by_cases hi:id=i
  ·subst hi; rw [List.getElem?_set_self hid,hx]
  ·rw [List.getElem?_set_ne hi]
 have e:Ext η H w η (H.set id (.row cs st ty)) (Xbi w b (.cells c t fz')):=Ext.put r hx hb (Nat.le_refl _) fun _=>Xm1 hh rfl
 have hlt:b<w.heap.size:=(Array.getElem?_eq_some_iff.1 hh).1
 have hr:=r.put hx hb e (r.low _ (List.mem_of_getElem? hx)) ⟨c,t,fz',Xcy hlt,hcl,fun j x u h1 h2=>(hv j x u h1 h2).ext e,hf,hty⟩
 rw [hset] at e hr
 exact ⟨e,hr⟩
theorem Rel.row (r:Rel g η H w) {id b st ty:Nat} {cs cs':List AV} {c c':Array Value} {t:TypeId} {fz:Nat × Nat} (hx:H[id]? = some (.row cs st ty)) (hb:η id=some b) (hh:w.heap[b]? = some (.cells c t fz)) (hf:Warm fz c.size)
  (hs:c'.size=c.size) (hl:cs'.length=cs.length) (hcl:cs.length≤c.size) (hty:∀ T,ty=T+1→t=T) (hv:∀ (j:Nat) x u,cs'[j]? = some x→c'[j]? = some u→VR η H w x u):Ext η H w η (H.set id (.row cs' st ty)) (Xbi w b (.cells c' t fz))∧Rel g η (H.set id (.row cs' st ty)) (Xbi w b (.cells c' t fz)):=by
 have e:Ext η H w η (H.set id (.row cs' st ty)) (Xbi w b (.cells c' t fz)):=Ext.put r hx hb (Nat.le_refl _) fun _=>Xm1 hh hs
 have hlt:b<w.heap.size:=(Array.getElem?_eq_some_iff.1 hh).1
 refine ⟨e,r.put hx hb e (Xb3.2 fun j x hj=>?_) ⟨c',t,fz,Xcy hlt,by omega,fun j x u h1 h2=>(hv j x u h1 h2).ext e,by rw [hs]; exact hf,hty⟩⟩
 have hj':j<c'.size:=by have:=(List.getElem?_eq_some_iff.1 hj).1; omega
 exact (hv j x c'[j] hj (Array.getElem?_eq_getElem hj')).low
theorem Rel.newRow (r:Rel g η H w) (cs:List AV) (st ty:Nat) (c:Array Value) (t:TypeId) (hty:∀ T,ty=T+1→t=T) (hl:cs.length≤c.size) (hv:∀ (j:Nat) x u,cs[j]? = some x→c[j]? = some u→VR η H w x u) :
  Ext η H w (upd η H.length w.heap.size) (H++[.row cs st ty]) (w.alloc (.cells c t))∧Rel g (upd η H.length w.heap.size) (H++[.row cs st ty]) (w.alloc (.cells c t)):=by
 refine ⟨Ext.alloc r _ _,r.alloc _ _ (Xb3.2 fun j x hj=>?_) fun η' H' w' e hw=>⟨c,t,(0,0),hw,hl,fun j x u h1 h2=>(hv j x u h1 h2).ext e,.inl rfl,hty⟩⟩
 have hj':j<c.size:=by have:=(List.getElem?_eq_some_iff.1 hj).1; omega
 exact Xgw (Nat.le_succ _) (hv j x c[j] hj (Array.getElem?_eq_getElem hj')).low
theorem Xi4 (r:Rel g η H w) {x:AV} {v:Value} {n:Nat} {cs:List AV} (hv:VR η H w x v) (h:Xdc H x n=some cs) :
  ∃ (a:Addr) (vs:List Value),v=.pointer (some a)∧vs.length=n∧cs.length=n∧(∀ (j:Nat) u,vs[j]? = some u→w.cell? (a.add j)=some u)∧∀ (j:Nat) c u,cs[j]? = some c→vs[j]? = some u→VR η H w c u:=by
 cases hv with
 | ptr id off st a hid hs hl =>
  simp only [Xdc] at h
  cases hb:H[id]? with
  | none=>simp [hb] at h
  | some blk =>
   cases blk with
   | row cs0 st' ty =>
    simp only [hb] at h
    split at h
    ·rename_i hc
     obtain ⟨rfl,hle⟩:=hc
     injection h with h
     obtain ⟨b,hη,rfl⟩:=hl ⟨_,hb,rfl⟩
     obtain ⟨c,t,fz,hh,hcl,hcv,hfz,hty⟩:=r.blk id _ b hb hη
     refine ⟨_,(c.toList.drop off).take n,rfl,by simp; omega,by subst h; simp; omega,fun j u hu=>?_,fun j x u hx hu=>?_⟩
     ·rw [List.getElem?_take] at hu
      split at hu
      ·rw [List.getElem?_drop] at hu
       have ha:(Addr.add ⟨b,off,none⟩ j)=⟨b,off+j,none⟩:=by unfold Addr.add; split <;> simp_all
       rw [ha]
       simpa [World.cell?,hh] using hu
      ·cases hu
     ·subst h
      rw [List.getElem?_take] at hx hu
      split at hu
      ·rename_i hj
       rw [if_pos hj,List.getElem?_drop] at hx
       rw [List.getElem?_drop] at hu
       exact hcv (off+j) x u hx (by simpa using hu)
      ·cases hu
    ·cases h
   | map es=>simp [hb] at h
   | siter s p=>simp [hb] at h
   | miter s p=>simp [hb] at h
 | iptr cells a us ha hu =>
  simp only [Xdc] at h
  split at h
  ·rename_i hn
   injection h with h
   refine ⟨a,(List.range n).map us,rfl,by simp,by subst h; simp; omega,fun j u hj=>?_,fun j c u hc hj=>?_⟩
   ·have hj':j<n:=by have:=(List.getElem?_eq_some_iff.1 hj).1; simpa using this
    have:u=us j:=by simp [List.getElem?_range hj'] at hj; exact hj.symm
    rw [this]
    exact (ha j cells[j] (List.getElem?_eq_getElem (by omega))).2
   ·subst h
    have hj':j<n:=by have:=(List.getElem?_eq_some_iff.1 hj).1; simpa using this
    rw [List.getElem?_take,if_pos hj'] at hc
    have:u=us j:=by simp [List.getElem?_range hj'] at hj; exact hj.symm
    rw [this]
    exact hu j c hc
  ·cases h
 | _=>simp [Xdc] at h
theorem Xma (r:Rel g η H w) {t:TypeId} {x y:AV} {v:Value} (hv:VR η H w x v) (h:Xqd P H t x=some y):∃ u,(Instr.loadAt t v).run P w=.ok u w∧VR η H w y u:=by
 unfold Xqd at h
 split at h
 ·rename_i hag
  obtain ⟨n,hn,h⟩:=Option.bind_eq_some_iff.1 h
  obtain ⟨cs,hcs,rfl⟩:=Option.map_eq_some_iff.1 h
  obtain ⟨a,vs,rfl,h1,h2,h3,h4⟩:=Xi4 r hv hcs
  refine ⟨.agg vs.toArray,?_,.agg cs _ (by simp; omega) fun j c u hc hu=>h4 j c u hc (by simpa using hu)⟩
  have hl:=Xjf (P:=P) a vs h3
  rw [h1] at hl
  simp [Instr.loadAt,Instr.sureAddr,loadVar,Xi9 hag,Xbl hn,hl]
 ·rename_i hag
  obtain ⟨cs,hcs,h⟩:=Option.bind_eq_some_iff.1 h
  obtain ⟨a,vs,rfl,h1,h2,h3,h4⟩:=Xi4 r hv hcs
  have h0:vs[0]? = some vs[0]:=List.getElem?_eq_getElem (by omega)
  refine ⟨vs[0],?_,h4 0 y _ h h0⟩
  have:=h3 0 _ h0
  rw [show a.add 0=a by simp [Addr.add]] at this
  simp [Instr.loadAt,Instr.sureAddr,loadVar,Xi9 hag,this]
 ·cases h
theorem Xs4 {x:AV} {v:Value} (h:VR η H w x v) (h1:x.one=true):v.oneCell'=true:=by
 cases h <;> first | rfl | simp [AV.one] at h1
theorem VR.cells {x:AV} {v:Value} (h:VR η H w x v) (hk:Xev x=true):v.cells.size=x.cells.length∧∀ (j:Nat) c u,x.cells[j]? = some c→v.cells[j]? = some u→VR η H w c u:=by
 have one:∀ (x:AV) (v:Value),VR η H w x v→x.cells=[x]→v.cells = #[v]→v.cells.size=x.cells.length∧∀ (j:Nat) c u,x.cells[j]? = some c→v.cells[j]? = some u→VR η H w c u:=by
  intro x v h e1 e2
  rw [e1,e2]
  refine ⟨rfl,fun j c u hc hu=>?_⟩
  cases j with
  | zero=>simp at hc hu; rw [← hc,← hu]; exact h
  | succ j=>simp at hc
 cases h with
 | agg cs vs hn hv=>exact ⟨hn,hv⟩
 | bad v=>simp [Xev] at hk
 | tup cs vs hn hv=>simp [Xev] at hk
 | bool b=>exact one _ _ (.bool b) rfl rfl
 | int k n=>exact one _ _ (.int k n) rfl rfl
 | str l s h=>exact one _ _ (.str l s h) rfl rfl
 | nilP=>exact one _ _ .nilP rfl rfl
 | ptr id off st a h1 h2 h3=>exact one _ _ (.ptr id off st a h1 h2 h3) rfl rfl
 | iptr cells a us h1 h2=>exact one _ _ (.iptr cells a us h1 h2) rfl rfl
 | nilS=>exact one _ _ .nilS rfl rfl
 | slc id off len sz st a cap h1 h2 h3 h4=>exact one _ _ (.slc id off len sz st a cap h1 h2 h3 h4) rfl rfl
 | lst len cells a cap us h1 h2 h3=>exact one _ _ (.lst len cells a cap us h1 h2 h3) rfl rfl
 | nilM=>exact one _ _ .nilM rfl rfl
 | map id b h1 h2=>exact one _ _ (.map id b h1 h2) rfl rfl
 | fn f cs vs h1 h2=>exact one _ _ (.fn f cs vs h1 h2) rfl rfl
 | nilF=>exact one _ _ .nilF rfl rfl
 | iface t x v h1=>exact one _ _ (.iface t x v h1) rfl rfl
 | nilI=>exact one _ _ .nilI rfl rfl
theorem Xsh (r:Rel g η H w) {t:TypeId} {x y:AV} {v u:Value} {H':Mem} (hv:VR η H w x v) (hu:VR η H w y u) (h:Xth P H t x y=some H') :
  ∃ w',(Instr.storeAt t v u).run P w=.ok () w'∧Ext η H w η H' w'∧Rel g η H' w':=by
 cases hv with
 | ptr id off st a hid hs hl =>
  simp only [Xth] at h
  cases hb:H[id]? with
  | none=>simp [hb] at h
  | some blk =>
   cases blk with
   | row cs st' ty =>
    simp only [hb] at h
    split at h
    ·rename_i hc
     obtain ⟨rfl,hsz,hone,hle⟩:=hc
     injection h with h
     subst h
     obtain ⟨b,hη,rfl⟩:=hl ⟨_,hb,rfl⟩
     obtain ⟨c,tt,fz,hh,hcl,hcv,hfz,hty⟩:=r.blk id _ b hb hη
     have hk:Xev y=true:=by
      cases y <;> simp [Xev] <;> simp [AV.cells,AV.one] at hone
     obtain ⟨hn,hcell⟩:=hu.cells hk
     have hall:∀ z ∈ u.cells.toList,z.oneCell'=true:=by
      intro z hz
      obtain ⟨j,hj,e⟩:=List.getElem_of_mem hz
      have hj':j<y.cells.length:=by simp at hj; omega
      have h1:=hcell j y.cells[j] z (List.getElem?_eq_getElem hj') (by rw [← e]; simp)
      exact Xs4 h1 (by simp only [List.all_eq_true] at hone; exact hone _ (List.getElem_mem hj'))
     have hrun:=Xef (P:=P) u.cells.toList w off 0 c hh (by simp; omega) hfz.not hall
     refine ⟨Xbi w b (.cells (spl c (off+0) u.cells.toList) tt fz),?_,Rel.row r hb hη hh hfz (Xfo _ _ _) (Xdq (by omega)) hcl hty fun j z q hz hq=>?_⟩
     ·simp [Instr.storeAt,Instr.sureAddr,storeVar,Xbl hsz,hn]
      exact hrun
     ·rw [Xjp (by omega)] at hz
      rw [Xna _ _ _ _ (by simp; omega)] at hq
      have hll:u.cells.toList.length=y.cells.length:=by simp [hn]
      rw [hll,Nat.add_zero] at hq
      split at hz
      ·rename_i hin
       rw [if_pos hin] at hq
       exact hcell (j-off) z q hz (by simpa using hq)
      ·rename_i hin
       rw [if_neg hin] at hq
       exact hcv j z q hz hq
    ·cases h
   | map es=>simp [hb] at h
   | siter s p=>simp [hb] at h
   | miter s p=>simp [hb] at h
 | _=>simp [Xth] at h
end Go.Proofs.YtmhhddhbdbcmbaaGreatDoor.Ev
