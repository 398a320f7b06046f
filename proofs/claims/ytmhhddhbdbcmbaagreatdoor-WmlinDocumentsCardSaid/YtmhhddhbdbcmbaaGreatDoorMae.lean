/- Parts of one proof. -/
import Derived.Test.YtmhhddhbdbcmbaaGreatDoorMaa
import Derived.Laws.World
set_option linter.all false
namespace Go.Proofs.YtmhhddhbdbcmbaaGreatDoor.Ev
def Xk0:Blk→Nat
 | .row _ st _=>st
 | _=>0
def Xor (H:Mem) (id:Nat):Nat:=match H[id]? with
 | some b=>Xk0 b
 | none=>0
def Live (H:Mem) (id st:Nat):Prop:=∃ b,H[id]? = some b∧Xk0 b=st
def Imm (η:Nat→Option Nat) (w:World) (b:Nat):Prop:=b<w.heap.size∧∀ id,η id≠some b
inductive VR (η:Nat→Option Nat) (H:Mem) (w:World):AV→Value→Prop
 | bad (v:Value):VR η H w .bad v
 | bool (b:Bool):VR η H w (.bool b) (.bool b)
 | int (k:IntKind) (n:Int):VR η H w (.int k n) (.int k n)
 | str (l:List UInt8) (s:ByteArray) (h:s.data.toList=l):VR η H w (.str l) (.string s)
 | nilP:VR η H w .nilP (.pointer none)
 | ptr (id off st:Nat) (a:Addr) (h:id<H.length) (hs:st≤Xor H id) (hl:Live H id st→∃ b,η id=some b∧a=⟨b,off,none⟩):VR η H w (.ptr id off st) (.pointer (some a))
 | iptr (cells:List AV) (a:Addr) (us:Nat→Value) (ha:∀ (j:Nat) c,cells[j]? = some c→Imm η w a.block∧w.cell? (a.add j)=some (us j)) (hv:∀ (j:Nat) c,cells[j]? = some c→VR η H w c (us j)):VR η H w (.iptr cells) (.pointer (some a))
 | nilS:VR η H w .nilS (.slice none 0 0)
 | slc (id off len sz st:Nat) (a:Addr) (cap:Nat) (h:id<H.length) (hs:st≤Xor H id) (hc:len≤cap)
   (hl:Live H id st→∃ b o,η id=some b∧a=⟨b,o,none⟩∧(0<len∨off=0→o=off)∧∃ t n,w.shape? b=some (t,n)∧o+cap*sz≤n):VR η H w (.slc id off len sz st) (.slice (some a) len cap)
 | lst (len:Nat) (cells:List AV) (a:Option Addr) (cap:Nat) (us:Nat→Value) (hc:len≤cap) (ha:∀ (j:Nat) c,cells[j]? = some c→∃ ad,a=some ad∧Imm η w ad.block∧w.cell? (ad.add j)=some (us j))
   (hv:∀ (j:Nat) c,cells[j]? = some c→VR η H w c (us j)):VR η H w (.lst len cells) (.slice a len cap)
 | nilM:VR η H w .nilM (.map none)
 | map (id b:Nat) (h:id<H.length) (hl:Live H id 0→η id=some b):VR η H w (.map id) (.map (some b))
 | fn (f:Fn) (cs:List AV) (vs:Array Value) (hn:vs.size=cs.length) (hv:∀ (j:Nat) c u,cs[j]? = some c→vs[j]? = some u→VR η H w c u):VR η H w (.fn f cs) (.func f #[] vs)
 | nilF:VR η H w .nilF .nilFunc
 | iface (t:TypeId) (x:AV) (v:Value) (h:VR η H w x v):VR η H w (.iface t x) (.iface t v)
 | nilI:VR η H w .nilI .nilIface
 | agg (cs:List AV) (vs:Array Value) (hn:vs.size=cs.length) (hv:∀ (j:Nat) c u,cs[j]? = some c→vs[j]? = some u→VR η H w c u):VR η H w (.agg cs) (.agg vs)
 | tup (cs:List AV) (vs:Array Value) (hn:vs.size=cs.length) (hv:∀ (j:Nat) c u,cs[j]? = some c→vs[j]? = some u→VR η H w c u):VR η H w (.tup cs) (.tuple vs)
def VRs (η:Nat→Option Nat) (H:Mem) (w:World) (cs:List AV) (vs:Array Value):Prop:=vs.size=cs.length∧∀ (j:Nat) c u,cs[j]? = some c→vs[j]? = some u→VR η H w c u
def Xop (w:World) (b:Nat):Option ((TypeId × Nat) ⊕ Nat):=match w.heap[b]? with
 | some (.map ents _)=>(ents[0]?).map fun e=>.inr e.born
 | _=>(w.shape? b).map .inl
theorem Xj2 {w:World} {b:Nat} {s:TypeId × Nat}:w.shape? b=some s↔Xop w b=some (.inl s):=by
 unfold Xop World.shape?
 cases h:w.heap[b]? with
 | none=>simp
 | some o=>cases o <;> simp
theorem Xeg {w w':World} {b:Nat} (h:w'.heap[b]? = w.heap[b]?):Xop w' b=Xop w b:=by
 unfold Xop World.shape?
 rw [h]
theorem Xet {w:World} {b:Nat} {ents:Array MapEntry} {clk:Nat} (h:w.heap[b]? = some (.map ents clk)):Xop w b=(ents[0]?).map fun e=>.inr e.born:=by
 unfold Xop
 rw [h]
theorem Xn9 {w:World} {b:Nat} {o:Obj} (h:w.heap[b]? = some o) (hc:∀ c t f,o≠.cells c t f) (hm:∀ e c,o≠.map e c):Xop w b=none:=by
 unfold Xop World.shape?
 rw [h]
 cases o <;> first | rfl | (exact absurd rfl (hc _ _ _)) | (exact absurd rfl (hm _ _))
structure ExtW (η:Nat→Option Nat) (H:Mem) (w:World) (η':Nat→Option Nat) (H':Mem) (w':World):Prop where
 len:H.length≤H'.length
 blk:∀ (id:Nat) x,H[id]? = some x→∃ y,H'[id]? = some y∧Xk0 x≤Xk0 y∧(Xk0 x=Xk0 y→∀ b,η id=some b→η' id=some b∧∀ s,Xop w b=some s→Xop w' b=some s)
 size:w.heap.size≤w'.heap.size
 imm:∀ b,Imm η w b→w'.heap[b]? = w.heap[b]?∧∀ id,η' id≠some b
 os:w'.os=w.os
 tape:w'.tape=w.tape
 output:w'.output=w.output
structure Ext (η:Nat→Option Nat) (H:Mem) (w:World) (η':Nat→Option Nat) (H':Mem) (w':World):Prop extends ExtW η H w η' H' w' where
 unm:∀ id,id<H.length→η id=none→η' id=none
section
variable {η η' η'':Nat→Option Nat} {H H' H'':Mem} {w w' w'':World}
theorem Ext.refl:Ext η H w η H w :=
 ⟨⟨Nat.le_refl _,fun _ x h=>⟨x,h,Nat.le_refl _,fun _ _ h=>⟨h,fun _ h=>h⟩⟩,Nat.le_refl _,fun _ h=>⟨rfl,h.2⟩,rfl,rfl,rfl⟩,fun _ _ h=>h⟩
theorem Imm.ext {b:Nat} (e:ExtW η H w η' H' w') (h:Imm η w b):Imm η' w' b:=⟨Nat.lt_of_lt_of_le h.1 e.size,(e.imm b h).2⟩
theorem ExtW.trans (e:ExtW η H w η' H' w') (f:ExtW η' H' w' η'' H'' w''):ExtW η H w η'' H'' w'':=by
 refine ⟨Nat.le_trans e.len f.len,fun id x h=>?_,Nat.le_trans e.size f.size,fun b h=>?_,f.os.trans e.os,f.tape.trans e.tape,f.output.trans e.output⟩
 ·obtain ⟨y,hy,h1,h2⟩:=e.blk id x h
  obtain ⟨z,hz,h3,h4⟩:=f.blk id y hy
  refine ⟨z,hz,Nat.le_trans h1 h3,fun hs b hb=>?_⟩
  obtain ⟨h5,h6⟩:=h2 (by omega) b hb
  obtain ⟨h7,h8⟩:=h4 (by omega) b h5
  exact ⟨h7,fun s hs=>h8 s (h6 s hs)⟩
 ·have h1:=e.imm b h
  have h2:=f.imm b (h.ext e)
  exact ⟨h2.1.trans h1.1,h2.2⟩
theorem Ext.trans (e:Ext η H w η' H' w') (f:Ext η' H' w' η'' H'' w''):Ext η H w η'' H'' w'' :=
 ⟨e.toExtW.trans f.toExtW,fun id h h1=>f.unm id (Nat.lt_of_lt_of_le h e.len) (e.unm id h h1)⟩
theorem Live.at {id st:Nat} (h:Live H id st):Xor H id=st:=by
 obtain ⟨b,h,e⟩:=h
 simp [Xor,h,e]
theorem Xhr {id st:Nat} (e:ExtW η H w η' H' w') (h:id<H.length) (hs:st≤Xor H id) (hl:Live H' id st) :
  Live H id st∧(∀ b,η id=some b→η' id=some b∧∀ s,Xop w b=some s→Xop w' b=some s):=by
 obtain ⟨y,hy,e1⟩:=hl
 obtain ⟨x,hx⟩ : ∃ x,H[id]? = some x:=⟨_,List.getElem?_eq_getElem h⟩
 obtain ⟨y',hy',h1,h2⟩:=e.blk id x hx
 rw [hy] at hy'
 injection hy' with hy'
 subst hy'
 have hs':st≤Xk0 x:=by simpa [Xor,hx] using hs
 have e2:Xk0 x=Xk0 y:=by omega
 exact ⟨⟨x,hx,by omega⟩,h2 e2⟩
theorem Xrb {id:Nat} (e:ExtW η H w η' H' w') (h:id<H.length):Xor H id≤Xor H' id:=by
 obtain ⟨x,hx⟩ : ∃ x,H[id]? = some x:=⟨_,List.getElem?_eq_getElem h⟩
 obtain ⟨y,hy,h1,_⟩:=e.blk id x hx
 simpa [Xor,hx,hy] using h1
theorem cell?_imm {a:Addr} (e:ExtW η H w η' H' w') (h:Imm η w a.block):w'.cell? a=w.cell? a:=by
 unfold World.cell?
 rw [(e.imm _ h).1]
@[simp] theorem add_block (a:Addr) (n:Nat):(a.add n).block=a.block:=by unfold Addr.add; split <;> rfl
theorem VR.extW {x:AV} {v:Value} (h:VR η H w x v) (e:ExtW η H w η' H' w'):VR η' H' w' x v:=by
 induction h with
 | bad v=>exact .bad v
 | bool b=>exact .bool b
 | int k n=>exact .int k n
 | str l s h=>exact .str l s h
 | nilP=>exact .nilP
 | ptr id off st a h hs hl =>
  refine .ptr id off st a (Nat.lt_of_lt_of_le h e.len) (Nat.le_trans hs (Xrb e h)) fun hl'=>?_
  obtain ⟨h1,h2⟩:=Xhr e h hs hl'
  obtain ⟨b,hb,ha⟩:=hl h1
  exact ⟨b,(h2 b hb).1,ha⟩
 | iptr cells a us ha hv ih =>
  refine .iptr cells a us (fun j c hc=>?_) ih
  obtain ⟨h1,h2⟩:=ha j c hc
  exact ⟨h1.ext e,by rw [cell?_imm e (by simpa using h1)]; exact h2⟩
 | nilS=>exact .nilS
 | slc id off len sz st a cap h hs hc hl =>
  refine .slc id off len sz st a cap (Nat.lt_of_lt_of_le h e.len) (Nat.le_trans hs (Xrb e h)) hc fun hl'=>?_
  obtain ⟨h1,h2⟩:=Xhr e h hs hl'
  obtain ⟨b,o,hb,ha,ho,t,n,hn,hcap⟩:=hl h1
  exact ⟨b,o,(h2 b hb).1,ha,ho,t,n,Xj2.2 ((h2 b hb).2 _ (Xj2.1 hn)),hcap⟩
 | lst len cells a cap us hc ha hv ih =>
  refine .lst len cells a cap us hc (fun j c hc=>?_) ih
  obtain ⟨ad,h0,h1,h2⟩:=ha j c hc
  exact ⟨ad,h0,h1.ext e,by rw [cell?_imm e (by simpa using h1)]; exact h2⟩
 | nilM=>exact .nilM
 | map id b h hl =>
  refine .map id b (Nat.lt_of_lt_of_le h e.len) fun hl'=>?_
  obtain ⟨h1,h2⟩:=Xhr e h (Nat.zero_le _) hl'
  exact (h2 b (hl h1)).1
 | fn f cs vs hn hv ih=>exact .fn f cs vs hn ih
 | nilF=>exact .nilF
 | iface t x v h ih=>exact .iface t x v ih
 | nilI=>exact .nilI
 | agg cs vs hn hv ih=>exact .agg cs vs hn ih
 | tup cs vs hn hv ih=>exact .tup cs vs hn ih
theorem VR.ext {x:AV} {v:Value} (h:VR η H w x v) (e:Ext η H w η' H' w'):VR η' H' w' x v:=h.extW e.toExtW
theorem VRs.ext {cs:List AV} {vs:Array Value} (h:VRs η H w cs vs) (e:Ext η H w η' H' w'):VRs η' H' w' cs vs:=⟨h.1,fun j c u h1 h2=>(h.2 j c u h1 h2).ext e⟩
theorem Xb3 {n:Nat}:∀ {cs:List AV},lowL n cs=true↔∀ (j:Nat) c,cs[j]? = some c→low n c=true
 | []=>by simp [lowL]
 | c::cs=>by
  simp only [lowL,Bool.and_eq_true,Xb3 (cs:=cs)]
  constructor
  ·rintro ⟨h1,h2⟩ j x hx
   cases j with
   | zero=>simp at hx; rw [← hx]; exact h1
   | succ j=>exact h2 j x (by simpa using hx)
  ·exact fun h=>⟨h 0 c rfl,fun j x hx=>h (j+1) x (by simpa using hx)⟩
theorem Xgt {n:Nat} {cs:List AV} {vs:Array Value} (hn:vs.size=cs.length) (ih:∀ (j:Nat) c u,cs[j]? = some c→vs[j]? = some u→low n c=true):lowL n cs=true :=
 Xb3.2 fun j c hc=>by
  have hj:j<vs.size:=by rw [hn]; exact (List.getElem?_eq_some_iff.1 hc).1
  exact ih j c vs[j] hc (Array.getElem?_eq_getElem hj)
theorem VR.low {x:AV} {v:Value} (h:VR η H w x v):low H.length x=true:=by
 induction h with
 | ptr id off st a h hs hl=>simpa [Ev.low] using h
 | slc id off len sz st a cap h hs hc hl=>simpa [Ev.low] using h
 | map id b h hl=>simpa [Ev.low] using h
 | iptr cells a us ha hv ih=>exact Xb3.2 ih
 | lst len cells a cap us hc ha hv ih=>exact Xb3.2 ih
 | fn f cs vs hn hv ih=>exact Xgt hn ih
 | agg cs vs hn hv ih=>exact Xgt hn ih
 | tup cs vs hn hv ih=>exact Xgt hn ih
 | iface t x v h ih=>exact ih
 | _=>rfl
def Warm (fz:Nat × Nat) (n:Nat):Prop:=fz.1=fz.2∨n≤fz.1
theorem Warm.not {fz:Nat × Nat} {n:Nat} (h:Warm fz n):∀ j,j<n→¬ (fz.1≤j∧j<fz.2):=by
 intro j hj
 rcases h with h | h <;> omega
def BlkR (η:Nat→Option Nat) (H:Mem) (w:World) (b:Nat):Blk→Prop
 | .row cs _ ty=>∃ c t fz,w.heap[b]? = some (.cells c t fz)∧cs.length≤c.size∧(∀ (j:Nat) x u,cs[j]? = some x→c[j]? = some u→VR η H w x u)∧Warm fz c.size∧∀ T,ty=T+1→t=T
 | .map es=>∃ ents clk,w.heap[b]? = some (.map ents clk)∧ents.size=es.length∧(∀ (j:Nat) k v e,es[j]? = some (k,v)→ents[j]? = some e→VR η H w k e.key∧VR η H w v e.val)∧(∀ (j:Nat) e,ents[j]? = some e→e.born<clk)∧clk=ents.size
 | .siter s pos=>w.heap[b]? = some (.stringIter ⟨s.toArray⟩ pos)
 | .miter m k=>∃ mb since seen last,w.heap[b]? = some (.mapIter (some mb) since seen last)∧m<H.length∧(Live H m 0→η m=some mb∧(k=0→seen = #[]∧∃ b0,Xop w mb=some (.inr b0)∧b0<since)∧(k=1→∃ b0,seen = #[b0]∧Xop w mb=some (.inr b0)∧b0<last∧last=1)∧(k=2→seen = #[]))
theorem BlkR.ext {b:Nat} {x:Blk} (h:BlkR η H w b x) (e:ExtW η H w η' H' w') (hb:w'.heap[b]? = w.heap[b]?):BlkR η' H' w' b x:=by
 cases x with
 | row cs st ty =>
  obtain ⟨c,t,fz,h1,h2,h3,h4⟩:=h
  exact ⟨c,t,fz,hb.trans h1,h2,fun j x u hx hu=>(h3 j x u hx hu).extW e,h4⟩
 | map es =>
  obtain ⟨ents,clk,h1,h2,h3,h4⟩:=h
  exact ⟨ents,clk,hb.trans h1,h2,fun j k v en hx hu=>⟨(h3 j k v en hx hu).1.extW e,(h3 j k v en hx hu).2.extW e⟩,h4⟩
 | siter s pos=>exact hb.trans h
 | miter m k =>
  obtain ⟨mb,since,seen,last,h1,h2,h3⟩:=h
  refine ⟨mb,since,seen,last,hb.trans h1,Nat.lt_of_lt_of_le h2 e.len,fun hl=>?_⟩
  obtain ⟨h5,h6⟩:=Xhr e h2 (Nat.zero_le _) hl
  obtain ⟨h7,h8,h9,h10⟩:=h3 h5
  obtain ⟨h11,h12⟩:=h6 mb h7
  refine ⟨h11,fun hk=>?_,fun hk=>?_,h10⟩
  ·obtain ⟨a1,b0,a2,a3⟩:=h8 hk
   exact ⟨a1,b0,h12 _ a2,a3⟩
  ·obtain ⟨b0,a1,a2,a3⟩:=h9 hk
   exact ⟨b0,a1,h12 _ a2,a3⟩
structure Rel (g:Cfg) (η:Nat→Option Nat) (H:Mem) (w:World):Prop where
 dom:∀ id b,η id=some b→id<H.length∧b<w.heap.size
 inj:∀ i j b,η i=some b→η j=some b→i=j
 low:∀ x ∈ H,Xcn H.length x=true
 blk:∀ (id:Nat) x b,H[id]? = some x→η id=some b→BlkR η H w b x
 glob:∀ k cs,g.glob k=some cs→VR η H w (.iptr cs) (.pointer (some ⟨k,0,none⟩))
variable {g:Cfg}
mutual
theorem Xgw {n m:Nat} (hnm:n≤m):∀ {x:AV},low n x=true→low m x=true
 | .bad,_ | .bool _,_ | .int _ _,_ | .str _,_ | .nilP,_ | .nilS,_ | .nilM,_ | .nilF,_ | .nilI,_=>rfl
 | .ptr id _ _,h | .slc id _ _ _ _,h | .map id,h=>by simp [low] at h ⊢; omega
 | .iptr cs,h | .lst _ cs,h | .fn _ cs,h | .agg cs,h | .tup cs,h=>lowL_mono hnm (cs:=cs) h
 | .iface _ v,h=>Xgw hnm (x:=v) h
theorem lowL_mono {n m:Nat} (hnm:n≤m):∀ {cs:List AV},lowL n cs=true→lowL m cs=true
 | [],_=>rfl
 | c::cs,h=>by
  simp only [lowL,Bool.and_eq_true] at h ⊢
  exact ⟨Xgw hnm h.1,lowL_mono hnm h.2⟩
end
theorem Xej {n m:Nat} (hnm:n≤m):∀ {x:Blk},Xcn n x=true→Xcn m x=true
 | .row cs _ _,h=>lowL_mono hnm (cs:=cs) h
 | .map es,h=>by
  simp only [Xcn,lowE,List.all_eq_true,Bool.and_eq_true] at h ⊢
  exact fun e he=>⟨Xgw hnm (h e he).1,Xgw hnm (h e he).2⟩
 | .siter _ _,_=>rfl
 | .miter m _,h=>by simp [Xcn] at h ⊢; omega
theorem Rel.step (r:Rel g η H w) (e:ExtW η H w η' H' w')
  (hd:∀ id b,η' id=some b→id<H'.length∧b<w'.heap.size) (hi:∀ i j b,η' i=some b→η' j=some b→i=j) (hl:∀ x ∈ H',Xcn H'.length x=true)
  (hb:∀ (id:Nat) x b,H'[id]? = some x→η' id=some b→(H[id]? = some x∧η id=some b∧w'.heap[b]? = w.heap[b]?)∨BlkR η' H' w' b x):Rel g η' H' w' where
 dom:=hd
 inj:=hi
 low:=hl
 blk id x b h1 h2:=by
  rcases hb id x b h1 h2 with ⟨h3,h4,h5⟩ | h
  ·exact (r.blk id x b h3 h4).ext e h5
  ·exact h
 glob k cs h:=(r.glob k cs h).extW e
theorem Ext.quiet (h:w'.heap=w.heap) (ho:w'.os=w.os) (ht:w'.tape=w.tape) (hp:w'.output=w.output):Ext η H w η H w' :=
 ⟨⟨Nat.le_refl _,fun _ x hx=>⟨x,hx,Nat.le_refl _,fun _ b hb=>⟨hb,fun s hs=>by rw [Xeg (w:=w) (w':=w') (by rw [h])]; exact hs⟩⟩,by rw [h]; exact Nat.le_refl _,fun b hb=>⟨by rw [h],hb.2⟩,ho,ht,hp⟩,fun _ _ h=>h⟩
theorem Rel.quiet (r:Rel g η H w) (h:w'.heap=w.heap) (ho:w'.os=w.os) (ht:w'.tape=w.tape) (hp:w'.output=w.output):Rel g η H w' :=
 r.step (Ext.quiet h ho ht hp).toExtW (fun id b hb=>by rw [h]; exact r.dom id b hb) r.inj r.low fun id x b h1 h2=>.inl ⟨h1,h2,by rw [h]⟩
def upd (η:Nat→Option Nat) (id b:Nat):Nat→Option Nat:=fun i=>if i=id then some b else η i
theorem Xkk {id b:Nat}:upd η id b id=some b:=by simp [upd]
theorem Xlk {id b i:Nat} (h:i≠id):upd η id b i=η i:=by simp [upd,h]
theorem Xb1 (w:World) (o:Obj) (k:Nat) (h:k<w.heap.size):(w.alloc o).heap[k]? = w.heap[k]?:=by
 show (w.heap.push o)[k]? = _
 rw [Array.getElem?_push,if_neg (by omega)]
theorem Xcq (w:World) (o:Obj):(w.alloc o).heap[w.heap.size]? = some o:=by
 show (w.heap.push o)[w.heap.size]? = _
 simp
theorem Ext.alloc (r:Rel g η H w) (x:Blk) (o:Obj):Ext η H w (upd η H.length w.heap.size) (H++[x]) (w.alloc o):=by
 refine ⟨⟨by simp,fun id y hy=>?_,by simp,fun b hb=>?_,rfl,rfl,rfl⟩,fun id hid h=>by rw [Xlk (by omega)]; exact h⟩
 ·have hlt:=(List.getElem?_eq_some_iff.1 hy).1
  refine ⟨y,by rw [List.getElem?_append_left hlt]; exact hy,Nat.le_refl _,fun _ b hb=>⟨by rw [Xlk (by omega)]; exact hb,fun s hs=>?_⟩⟩
  rw [Xeg (Xb1 w o b (r.dom id b hb).2)]; exact hs
 ·refine ⟨Xb1 w o b hb.1,fun id h=>?_⟩
  unfold upd at h
  split at h
  ·injection h with h; exact absurd hb.1 (by omega)
  ·exact hb.2 id h
theorem Rel.alloc (r:Rel g η H w) (x:Blk) (o:Obj) (hx:Xcn (H.length+1) x=true) (hb:∀ η' H' w',Ext η H w η' H' w'→w'.heap[w.heap.size]? = some o→BlkR η' H' w' w.heap.size x) :
  Rel g (upd η H.length w.heap.size) (H++[x]) (w.alloc o):=by
 have e:=Ext.alloc r x o
 refine r.step e.toExtW (fun id b h=>?_) (fun i j b h1 h2=>?_) (fun y hy=>?_) fun id y b h1 h2=>?_
 ·unfold upd at h
  split at h
  ·rename_i h'; injection h with h; subst h'; subst h; simp
  ·have:=r.dom id b h; simp; omega
 ·unfold upd at h1 h2
  split at h1 <;> split at h2
  ·omega
  ·injection h1 with h1; have:=(r.dom j b h2).2; omega
  ·injection h2 with h2; have:=(r.dom i b h1).2; omega
  ·exact r.inj i j b h1 h2
 ·rcases List.mem_append.1 hy with h | h
  ·exact Xej (by simp) (r.low y h)
  ·simp at h; subst h; simpa using hx
 ·unfold upd at h2
  split at h2
  ·rename_i h'
   subst h'
   injection h2 with h2
   subst h2
   simp at h1
   subst h1
   exact .inr (hb _ _ _ e (Xcq w o))
  ·rename_i h'
   have hlt:=(r.dom id b h2).1
   rw [List.getElem?_append_left hlt] at h1
   exact .inl ⟨h1,h2,Xb1 w o b (r.dom id b h2).2⟩
end
end Go.Proofs.YtmhhddhbdbcmbaaGreatDoor.Ev
