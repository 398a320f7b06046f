/- Parts of one proof. -/
import Derived.Test.YtmhhddhbdbcmbaaGreatDoorMbf
import Derived.Test.YtmhhddhbdbcmbaaGreatDoorMab
set_option linter.all false
namespace Go.Proofs.YtmhhddhbdbcmbaaGreatDoor.Ev
mutual
theorem Xoy:∀ {a b:AV},eqv a b=true→a=b
 | a,b,h=>by
  cases a <;> cases b <;> simp [eqv] at h
  case bad.bad=>rfl
  case bool.bool=>rw [h]
  case int.int=>rw [h.1,h.2]
  case str.str=>rw [h]
  case nilP.nilP=>rfl
  case ptr.ptr=>rw [h.1.1,h.1.2,h.2]
  case iptr.iptr=>rw [eqvL_eq h]
  case nilS.nilS=>rfl
  case slc.slc=>rw [h.1.1.1.1,h.1.1.1.2,h.1.1.2,h.1.2,h.2]
  case lst.lst=>rw [h.1,eqvL_eq h.2]
  case nilM.nilM=>rfl
  case map.map=>rw [h]
  case fn.fn=>rw [h.1,eqvL_eq h.2]
  case nilF.nilF=>rfl
  case iface.iface=>rw [h.1,Xoy h.2]
  case nilI.nilI=>rfl
  case agg.agg=>rw [eqvL_eq h]
  case tup.tup=>rw [eqvL_eq h]
theorem eqvL_eq:∀ {a b:List AV},eqvL a b=true→a=b
 | [],[],_=>rfl
 | [],_::_,h=>by simp [eqvL] at h
 | _::_,[],h=>by simp [eqvL] at h
 | x::a,y::b,h=>by
  simp only [eqvL,Bool.and_eq_true] at h
  rw [Xoy h.1,eqvL_eq h.2]
end
theorem eqE_eq:∀ {a b:List (AV × AV)},eqE a b=true→a=b
 | [],[],_=>rfl
 | [],_::_,h=>by simp [eqE] at h
 | _::_,[],h=>by simp [eqE] at h
 | (x1,x2)::a,(y1,y2)::b,h=>by
  simp only [eqE,Bool.and_eq_true] at h
  have h1:=Xoy h.1.1
  have h2:=Xoy h.1.2
  rw [h1,h2,eqE_eq h.2]
theorem eqB_eq {a b:Blk} (h:eqB a b=true):a=b:=by
 cases a <;> cases b <;> simp [eqB] at h
 ·rw [h.1.1,h.1.2,eqvL_eq h.2]
 ·rw [eqE_eq h]
 ·rw [h.1,h.2]
 ·rw [h.1,h.2]
theorem Xfh:∀ {a b:Mem},eqM a b=true→a=b
 | [],[],_=>rfl
 | [],_::_,h=>by simp [eqM] at h
 | _::_,[],h=>by simp [eqM] at h
 | x::a,y::b,h=>by
  simp only [eqM,Bool.and_eq_true] at h
  rw [eqB_eq h.1,Xfh h.2]
mutual
theorem Xjj:∀ (a:AV),eqv a a=true
 | .bad | .nilP | .nilS | .nilM | .nilF | .nilI=>rfl
 | .bool _ | .int _ _ | .str _ | .ptr _ _ _ | .slc _ _ _ _ _ | .map _=>by simp [eqv]
 | .iptr x=>by simp only [eqv]; exact eqvL_refl x
 | .lst n x=>by simp only [eqv,ZA,ZH]; exact eqvL_refl x
 | .fn f x=>by simp only [eqv,ZP,ZH]; exact eqvL_refl x
 | .iface t x=>by simp only [eqv,ZA,ZH]; exact Xjj x
 | .agg x=>by simp only [eqv]; exact eqvL_refl x
 | .tup x=>by simp only [eqv]; exact eqvL_refl x
theorem eqvL_refl:∀ (a:List AV),eqvL a a=true
 | []=>rfl
 | x::a=>by simp only [eqvL,Bool.and_eq_true]; exact ⟨Xjj x,eqvL_refl a⟩
end
theorem Xwp:∀ (a:List (AV × AV)),eqE a a=true
 | []=>rfl
 | x::a=>by simp only [eqE,Bool.and_eq_true]; exact ⟨⟨Xjj _,Xjj _⟩,Xwp a⟩
theorem eqB_refl (a:Blk):eqB a a=true:=by
 cases a with
 | row c s ty=>simp only [eqB,ZA,ZH]; exact eqvL_refl c
 | map e=>exact Xwp e
 | siter s p=>simp [eqB]
 | miter s p=>simp [eqB]
theorem Xb0:∀ (a:Mem),eqM a a=true
 | []=>rfl
 | x::a=>by simp only [eqM,Bool.and_eq_true]; exact ⟨eqB_refl x,Xb0 a⟩
variable {P:Program} {g:Cfg} {η η1:Nat→Option Nat} {H H1:Mem} {w w1:World}
def Xv9 (n:Nat) (η:Nat→Option Nat):Nat→Option Nat:=fun i=>if i<n then η i else none
theorem Xdt {n i b:Nat} (h:Xv9 n η i=some b):i<n∧η i=some b:=by
 unfold Xv9 at h
 split at h
 ·exact ⟨by assumption,h⟩
 ·cases h
theorem Xkb {n i:Nat} (h:i<n):Xv9 n η i=η i:=by simp [Xv9,h]
theorem Imm.cut {n b:Nat} (h:Imm η w b):Imm (Xv9 n η) w b:=⟨h.1,fun i hi=>h.2 i (Xdt hi).2⟩
theorem Xk2 {n id st:Nat} (h:id<n):Live (H.take n) id st↔Live H id st:=by
 unfold Live
 rw [List.getElem?_take,if_pos h]
theorem Xwn {n id:Nat} (h:id<n):Xor (H.take n) id=Xor H id:=by
 unfold Xor
 rw [List.getElem?_take,if_pos h]
theorem VR.cut {n:Nat} (hn:n≤H.length) {x:AV} {v:Value} (h:VR η H w x v) (hl:Ev.low n x=true):VR (Xv9 n η) (H.take n) w x v:=by
 induction h with
 | bad v=>exact .bad v
 | bool b=>exact .bool b
 | int k n=>exact .int k n
 | str l s h=>exact .str l s h
 | nilP=>exact .nilP
 | ptr id off st a h hs hlv =>
  simp [Ev.low] at hl
  refine .ptr id off st a (by simp; omega) (by rw [Xwn hl]; exact hs) fun h'=>?_
  rw [Xkb hl]
  exact hlv ((Xk2 hl).1 h')
 | iptr cells a us ha hv ih=>exact .iptr cells a us (fun j c hc=>⟨(ha j c hc).1.cut,(ha j c hc).2⟩) fun j c hc=>ih j c hc (Xb3.1 hl j c hc)
 | nilS=>exact .nilS
 | slc id off len sz st a cap h hs hc hlv =>
  simp [Ev.low] at hl
  refine .slc id off len sz st a cap (by simp; omega) (by rw [Xwn hl]; exact hs) hc fun h'=>?_
  rw [Xkb hl]
  exact hlv ((Xk2 hl).1 h')
 | lst len cells a cap us hc ha hv ih=>exact .lst len cells a cap us hc (fun j c hc=>by obtain ⟨ad,h1,h2,h3⟩:=ha j c hc; exact ⟨ad,h1,h2.cut,h3⟩) fun j c hc=>ih j c hc (Xb3.1 hl j c hc)
 | nilM=>exact .nilM
 | map id b h hlv =>
  simp [Ev.low] at hl
  refine .map id b (by simp; omega) fun h'=>?_
  rw [Xkb hl]
  exact hlv ((Xk2 hl).1 h')
 | fn f cs vs hn' hv ih=>exact .fn f cs vs hn' fun j c u h1 h2=>ih j c u h1 h2 (Xb3.1 hl j c h1)
 | nilF=>exact .nilF
 | iface t x v h ih=>exact .iface t x v (ih hl)
 | nilI=>exact .nilI
 | agg cs vs hn' hv ih=>exact .agg cs vs hn' fun j c u h1 h2=>ih j c u h1 h2 (Xb3.1 hl j c h1)
 | tup cs vs hn' hv ih=>exact .tup cs vs hn' fun j c u h1 h2=>ih j c u h1 h2 (Xb3.1 hl j c h1)
theorem BlkR.cut {n b:Nat} (hn:n≤H.length) {x:Blk} (h:BlkR η H w b x) (hl:Xcn n x=true):BlkR (Xv9 n η) (H.take n) w b x:=by
 cases x with
 | row cs st ty =>
  obtain ⟨c,t,fz,h1,h2,h3,h4⟩:=h
  exact ⟨c,t,fz,h1,h2,fun j x u hx hu=>(h3 j x u hx hu).cut hn (Xb3.1 hl j x hx),h4⟩
 | map es =>
  obtain ⟨ents,clk,h1,h2,h3,h4⟩:=h
  refine ⟨ents,clk,h1,h2,fun j k v e hj he=>?_,h4⟩
  simp only [Xcn,lowE,List.all_eq_true,Bool.and_eq_true] at hl
  have:=hl (k,v) (List.mem_of_getElem? hj)
  exact ⟨(h3 j k v e hj he).1.cut hn this.1,(h3 j k v e hj he).2.cut hn this.2⟩
 | siter s pos=>exact h
 | miter m k =>
  obtain ⟨mb,since,seen,last,h1,h2,h3⟩:=h
  simp [Xcn] at hl
  refine ⟨mb,since,seen,last,h1,by simp; omega,fun h'=>?_⟩
  rw [Xkb hl]
  exact h3 ((Xk2 hl).1 h')
theorem Xsi (r0:Rel g η H w) (e:Ext η H w η1 H1 w1) (r1:Rel g η1 H1 w1) (hc:Xce H H1=true) :
  Ext η H w (Xv9 H.length η1) (H1.take H.length) w1∧Rel g (Xv9 H.length η1) (H1.take H.length) w1:=by
 have hlen:=e.len
 have htl:(H1.take H.length).length=H.length:=by simp; omega
 have hlow:∀ x ∈ H1.take H.length,Xcn H.length x=true:=by
  simp only [Xce,Bool.or_eq_true] at hc
  rcases hc with hc | hc
  ·rw [Xfh hc]; exact r0.low
  ·simpa [Xb6] using hc
 have he:Ext η H w (Xv9 H.length η1) (H1.take H.length) w1:=by
  refine ⟨⟨by rw [htl]; exact Nat.le_refl _,fun id x hx=>?_,e.size,fun b hb=>⟨(e.imm b hb).1,fun i hi=>(e.imm b hb).2 i (Xdt hi).2⟩,e.os,e.tape,e.output⟩,fun id hid h=>by rw [Xkb hid]; exact e.unm id hid h⟩
  have hid:=(List.getElem?_eq_some_iff.1 hx).1
  obtain ⟨y,hy,h1,h2⟩:=e.blk id x hx
  refine ⟨y,by rw [List.getElem?_take,if_pos hid]; exact hy,h1,fun hs b hb=>?_⟩
  rw [Xkb hid]
  exact h2 hs b hb
 refine ⟨he,⟨fun id b h=>?_,fun i j b h1 h2=>r1.inj i j b (Xdt h1).2 (Xdt h2).2,by rw [htl]; exact hlow,fun id x b h1 h2=>?_,fun k cs h=>(r0.glob k cs h).ext he⟩⟩
 ·rw [htl]; exact ⟨(Xdt h).1,(r1.dom id b (Xdt h).2).2⟩
 ·have hid:=(Xdt h2).1
  have hm:x ∈ H1.take H.length:=List.mem_of_getElem? h1
  rw [List.getElem?_take,if_pos hid] at h1
  exact (r1.blk id x b h1 (Xdt h2).2).cut hlen (hlow x hm)
theorem Xqz {f:AV→Option AV}:∀ {cs xs:List AV},Xel f cs=some xs→xs.length=cs.length∧∀ (j:Nat) x,xs[j]? = some x→∃ c,cs[j]? = some c∧f c=some x
 | [],xs,h=>by simp [Xel] at h; subst h; exact ⟨rfl,fun j x hx=>by simp at hx⟩
 | c::cs,xs,h=>by
  simp only [Xel] at h
  split at h
  ·rename_i x xs' h1 h2
   injection h with h; subst h
   obtain ⟨h3,h4⟩:=Xqz h2
   refine ⟨by simp [h3],fun j y hy=>?_⟩
   cases j with
   | zero=>simp at hy; subst hy; exact ⟨c,rfl,h1⟩
   | succ j=>simpa using h4 j y (by simpa using hy)
  ·cases h
theorem Xs3 (r:Rel g η H w) {n:Nat} (hn:n≤H.length):∀ (k:Nat) {x y:AV} {v:Value},frz n H k x=some y→Ev.low n y=true→VR η H w x v→VR (Xv9 n η) (H.take n) w y v
 | 0,_,_,_,h,_,_=>by simp [frz] at h
 | k+1,x,y,v,h,hl,hv=>by
  have ih:=fun {x y v}=>Xs3 r hn k (x:=x) (y:=y) (v:=v)
  have each:∀ (cs xs:List AV) (vs:Array Value),Xel (frz n H k) cs=some xs→lowL n xs=true→VRs η H w cs vs→VRs (Xv9 n η) (H.take n) w xs vs:=by
   intro cs xs vs h1 h2 h3
   obtain ⟨h4,h5⟩:=Xqz h1
   refine ⟨by rw [h3.1,h4],fun j c u hc hu=>?_⟩
   obtain ⟨c0,h6,h7⟩:=h5 j c hc
   exact ih h7 (Xb3.1 h2 j c hc) (h3.2 j c0 u h6 hu)
  unfold frz at h
  split at h
  ·injection h with h; subst h
   cases hv
   exact .lst 0 [] none 0 (fun _=>.nilFunc) (Nat.le_refl _) (fun j c hc=>by simp at hc) fun j c hc=>by simp at hc
  ·rename_i cs
   obtain ⟨xs,h1,rfl⟩:=Option.map_eq_some_iff.1 h
   cases hv with
   | agg _ vs hn' hc=>have:=each cs xs vs h1 hl ⟨hn',hc⟩; exact .agg _ _ this.1 this.2
  ·rename_i cs
   obtain ⟨xs,h1,rfl⟩:=Option.map_eq_some_iff.1 h
   cases hv with
   | tup _ vs hn' hc=>have:=each cs xs vs h1 hl ⟨hn',hc⟩; exact .tup _ _ this.1 this.2
  ·rename_i t z
   obtain ⟨xs,h1,rfl⟩:=Option.map_eq_some_iff.1 h
   cases hv with
   | iface _ _ u hx=>exact .iface _ _ _ (ih h1 hl hx)
  ·rename_i id off len sz st
   split at h
   ·injection h with h; subst h
    exact hv.cut hn hl
   ·rename_i hid
    split at h
    ·rename_i cs st' _ hb
     split at h
     ·rename_i hc
      obtain ⟨rfl,hle⟩:=hc
      obtain ⟨xs,h1,rfl⟩:=Option.map_eq_some_iff.1 h
      cases hv with
      | slc _ _ _ _ _ a cap hidl hst hcap hlv =>
       obtain ⟨b,o,hη,rfl,ho,_⟩:=hlv ⟨_,hb,rfl⟩
       obtain ⟨c,t,fz,hh,hcl,hcv,hfz,hty⟩:=r.blk id _ b hb hη
       obtain ⟨h4,h5⟩:=Xqz h1
       have himm:Imm (Xv9 n η) w b:=⟨(r.dom id b hη).2,fun i hi=>by
        obtain ⟨h6,h7⟩:=Xdt hi
        have:=r.inj i id b h7 hη
        omega⟩
       have hxl:xs.length=len*sz:=by rw [h4]; simp; omega
       have hgo:∀ (j:Nat) x,xs[j]? = some x→∃ c0 u,cs[off+j]? = some c0∧c[off+j]? = some u∧frz n H k c0=some x:=by
        intro j x hx
        obtain ⟨c0,h6,h7⟩:=h5 j x hx
        rw [List.getElem?_take] at h6
        split at h6
        ·rw [List.getElem?_drop] at h6
         have hj:=(List.getElem?_eq_some_iff.1 h6).1
         exact ⟨c0,c[off+j]'(by omega),h6,Array.getElem?_eq_getElem _,h7⟩
        ·cases h6
       refine .lst len xs _ cap (fun j=>c.getD (off+j) .nilFunc) hcap (fun j x hx=>?_) fun j x hx=>?_
       ·obtain ⟨c0,u,h6,h7,_⟩:=hgo j x hx
        have hj:=(List.getElem?_eq_some_iff.1 hx).1
        have hlen0:0<len:=by
         rcases Nat.eq_zero_or_pos len with h | h
         ·subst h; omega
         ·exact h
        refine ⟨_,rfl,himm,?_⟩
        rw [ho (.inl hlen0),Xee]
        simp [World.cell?,hh,h7]
       ·obtain ⟨c0,u,h6,h7,h8⟩:=hgo j x hx
        have:c.getD (off+j) .nilFunc=u:=by simp [h7]
        rw [this]
        exact ih h8 (Xb3.1 hl j x hx) (hcv _ _ _ h6 h7)
     ·cases h
    ·cases h
  ·split at h
   ·injection h with h; subst h
    exact hv.cut hn hl
   ·cases h
theorem Xhj (r0:Rel g η H w) (e:Ext η H w η1 H1 w1) (r1:Rel g η1 H1 w1) (keep:Bool) {x:AV} {v:Value} (hv:VR η1 H1 w1 x v) :
  ∃ η2,Ext η H w η2 (Xao keep H x H1).2 w1∧Rel g η2 (Xao keep H x H1).2 w1∧VR η2 (Xao keep H x H1).2 w1 (Xao keep H x H1).1 v:=by
 unfold Xao
 split
 ·rename_i v' hv'
  split
  ·rename_i hc
   simp only [Bool.and_eq_true] at hc
   obtain ⟨h1,h2⟩:=Xsi r0 e r1 hc.2
   refine ⟨_,h1,h2,?_⟩
   split at hv'
   ·injection hv' with hv'; subst hv'
    exact hv.cut e.len hc.1
   ·exact Xs3 r1 e.len 12 hv' hc.1 hv
  ·exact ⟨η1,e,r1,hv⟩
 ·exact ⟨η1,e,r1,hv⟩
end Go.Proofs.YtmhhddhbdbcmbaaGreatDoor.Ev
