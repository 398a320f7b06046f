/- Parts of one proof. -/
import Derived.Test.YtmhhddhbdbcmbaaGreatDoorMaj
import Derived.Laws.MakeOwn
set_option linter.all false
namespace Go.Proofs.YtmhhddhbdbcmbaaGreatDoor.Ev
variable {P:Program} {g:Cfg} {η:Nat→Option Nat} {H:Mem} {w:World}
theorem Xqg (r:Rel g η H w) {t:TypeId} {ts:Array TypeId} {ty:TypeId} {s x:AV} {sv xv:Value} {y:AV × Mem} (hs:VR η H w s sv) (hx:VR η H w x xv) (ht:ts[0]? = some t) (h:Xqi P H t ts[1]? s x=some y) :
  Xe8 P g η H w (Builtin.append_ ts ty #[sv,xv]) y:=by
 unfold Xqi at h
 split at h
 ·rename_i elem hu
  obtain ⟨i,hi,h'⟩:=Option.bind_eq_some_iff.1 h
  clear h
  split at h'
  ·rename_i hxt
   obtain ⟨p,hp,h⟩:=Option.bind_eq_some_iff.1 h'
   clear h'
   obtain ⟨n,new⟩:=p
   split at h
   ·rename_i hc
    obtain ⟨hone,hby,hzo⟩:=hc
    cases h1:ts[1]? with
    | none=>simp [h1,srcT] at hxt
    | some xt =>
     rw [h1] at hxt
     obtain ⟨hnl,vs,hsrc,hvv⟩:=mk_src r hx hp hxt hone
     rw [append_ts ht h1]
     exact Xxt r hu hi hs hnl hsrc hvv hby hzo h
   ·cases h
  ·cases h'
 ·cases h
def OptR (η:Nat→Option Nat) (H:Mem) (w:World) (o:Option AV) (o':Option Value):Prop:=match o,o' with
 | none,none=>True
 | some x,some v=>VR η H w x v
 | _,_=>False
theorem Xdg {d n:Nat} {o:Option AV} {o':Option Value} (h:Xdn d o=some n) (ho:OptR η H w o o'):(o=none∧o'=none∧n=d)∨∃ k,o'=some (.int k n):=by
 cases o with
 | none =>
  cases o' with
  | none=>simp [Xdn] at h; exact .inl ⟨rfl,rfl,h.symm⟩
  | some v=>exact ho.elim
 | some x =>
  cases o' with
  | none=>exact ho.elim
  | some v =>
   obtain ⟨k,rfl⟩:=Xfg ho h
   exact .inr ⟨k,rfl⟩
theorem Xgl {l h len cap:Nat} {lo hi:Option Value} (isS:Bool) (hl:(lo=none∧l=0)∨∃ k,lo=some (.int k l)) (hh:(hi=none∧h=len)∨∃ k,hi=some (.int k h)) (h1:l≤h) (h2:h≤cap) :
  (Instr.sliceBounds isS len cap lo hi none).run P w=.ok (l,h,cap) w:=by
 rcases hl with ⟨rfl,rfl⟩ | ⟨k,rfl⟩ <;> rcases hh with ⟨rfl,rfl⟩ | ⟨k',rfl⟩ <;> simp [Instr.sliceBounds,Instr.sliceBound,asIntOf,h1,h2]
theorem Xmm {l h m len cap:Nat} {lo:Option Value} {k1 k2:IntKind} (isS:Bool) (hl:(lo=none∧l=0)∨∃ k,lo=some (.int k l)) (h1:l≤h) (h2:h≤m) (h3:m≤cap) :
  (Instr.sliceBounds isS len cap lo (some (.int k1 h)) (some (.int k2 m))).run P w=.ok (l,h,m) w:=by
 rcases hl with ⟨rfl,rfl⟩ | ⟨k,rfl⟩ <;> simp [Instr.sliceBounds,Instr.sliceBound,asIntOf,h1,h2,h3]
theorem Xqq (r:Rel g η H w) {t:TypeId} {x y hx mx:AV} {v hv' mv:Value} {lo:Option AV} {lo':Option Value} (hv:VR η H w x v) (hl:OptR η H w lo lo') (hh:VR η H w hx hv') (hm:VR η H w mx mv) (h:Xip P t x lo hx mx=some y) :
  ∃ u,(Instr.sliceAt t v lo' (some hv') (some mv)).run P w=.ok u w∧VR η H w y u:=by
 unfold Xip at h
 obtain ⟨m,hmm,h'⟩:=Option.bind_eq_some_iff.1 h
 clear h
 obtain ⟨e,hee,h⟩:=Option.bind_eq_some_iff.1 h'
 clear h'
 obtain ⟨l,hlo,h'⟩:=Option.bind_eq_some_iff.1 h
 clear h
 obtain ⟨k1,rfl⟩:=Xfg hh hee
 obtain ⟨k2,rfl⟩:=Xfg hm hmm
 have hlo':(lo'=none∧l=0)∨∃ k,lo'=some (.int k l):=by
  rcases Xdg hlo hl with ⟨_,h1,h2⟩ | h
  ·exact .inl ⟨h1,h2⟩
  ·exact .inr h
 have h:=h'
 clear h'
 split at h
 ·rename_i el id off len sz st hu
  split at h
  ·rename_i hc
   obtain ⟨h1,h2,h3,hsz⟩:=hc
   injection h with h
   subst h
   cases hv with
   | slc _ _ _ _ _ a cap hid hst hcap hlv =>
    have hb:=Xmm (P:=P) (w:=w) (len:=len) (cap:=cap) (k1:=k1) (k2:=k2) true hlo' h1 h2 (by omega)
    refine ⟨.slice (some (if m=l then a else a.add (l*sz))) (e-l) (m-l),?_,?_⟩
    ·simp [Instr.sliceAt,Instr.slice,Xas hu,hb,Xbl hsz]
     split <;> rfl
    ·refine .slc _ _ _ _ _ _ _ hid hst (by omega) fun hl'=>?_
     obtain ⟨b,o,hη,rfl,ho,tt,n,hn,hroom⟩:=hlv hl'
     have hmul:(m-l)*sz=m*sz-l*sz:=Nat.sub_mul ..
     have hle:l*sz≤m*sz:=Nat.mul_le_mul_right _ (by omega)
     have hle2:m*sz≤cap*sz:=Nat.mul_le_mul_right _ (by omega)
     by_cases hcl:m=l
     ·rw [if_pos hcl]
      refine ⟨b,o,hη,rfl,fun h3=>?_,tt,n,hn,?_⟩
      ·rcases h3 with h3 | h3
       ·omega
       ·have h4:off=0∧l*sz=0:=by omega
        rw [ho (.inr h4.1)]; omega
      ·rw [hmul]; omega
     ·rw [if_neg hcl,Xee]
      refine ⟨b,_,hη,rfl,fun h3=>?_,tt,n,hn,by rw [hmul]; omega⟩
      have:0<len∨off=0:=by
       rcases h3 with h3 | h3
       ·exact .inl (by omega)
       ·exact .inr (by omega)
      rw [ho this]
  ·cases h
 ·rename_i el hu
  split at h
  ·rename_i hc
   obtain ⟨rfl,rfl,rfl,hss⟩:=hc
   injection h with h
   subst h
   cases hv with
   | nilS =>
    have hb:=Xmm (P:=P) (w:=w) (len:=0) (cap:=0) (k1:=k1) (k2:=k2) true hlo' (Nat.le_refl _) (Nat.le_refl _) (Nat.le_refl _)
    cases hsz:szT P el with
    | none=>rw [hsz] at hss; cases hss
    | some sz =>
     refine ⟨.slice none 0 0,?_,.nilS⟩
     have hb':(Instr.sliceBounds true 0 0 lo' (some (.int k1 0)) (some (.int k2 0))).run P w=.ok (0,0,0) w:=hb
     simp [Instr.sliceAt,Instr.slice,Xas hu,hb',Xbl hsz]
  ·cases h
 ·cases h
theorem Xq7 (r:Rel g η H w) {t:TypeId} {x y:AV} {v:Value} {lo hi:Option AV} {lo' hi':Option Value} (hv:VR η H w x v) (hl:OptR η H w lo lo') (hh:OptR η H w hi hi') (h:Xko P H t x lo hi=some y) :
  ∃ u,(Instr.sliceAt t v lo' hi' none).run P w=.ok u w∧VR η H w y u:=by
 unfold Xko at h
 obtain ⟨l,hlo,h'⟩:=Option.bind_eq_some_iff.1 h
 clear h
 have hlo':(lo'=none∧l=0)∨∃ k,lo'=some (.int k l):=by
  rcases Xdg hlo hl with ⟨_,h1,h2⟩ | h
  ·exact .inl ⟨h1,h2⟩
  ·exact .inr h
 split at h'
 ·rename_i s hu
  obtain ⟨e,he,h⟩:=Option.bind_eq_some_iff.1 h'
  have hhi':(hi'=none∧e=s.length)∨∃ k,hi'=some (.int k e):=by
   rcases Xdg he hh with ⟨_,h1,h2⟩ | h
   ·exact .inl ⟨h1,h2⟩
   ·exact .inr h
  split at h
  ·rename_i hc
   obtain ⟨h1,h2⟩:=hc
   injection h with h
   subst h
   cases hv with
   | str _ s' hs =>
    have hsz:s'.size=s.length:=by rw [← hs]; exact (Array.length_toList ..).symm
    have hb:=Xgl (P:=P) (w:=w) (len:=s'.size) (cap:=s'.size) false hlo' (by rw [hsz]; exact hhi') h1 (by omega)
    refine ⟨.string (s'.extract l e),by simp [Instr.sliceAt,Instr.slice,Xas hu,hb],.str _ _ ?_⟩
    simp [hs]
  ·cases h
 ·rename_i el id off len sz st hu
  obtain ⟨e,he,h⟩:=Option.bind_eq_some_iff.1 h'
  have hhi':(hi'=none∧e=len)∨∃ k,hi'=some (.int k e):=by
   rcases Xdg he hh with ⟨_,h1,h2⟩ | h
   ·exact .inl ⟨h1,h2⟩
   ·exact .inr h
  split at h
  ·rename_i hc
   obtain ⟨h1,h2,hsz⟩:=hc
   injection h with h
   subst h
   cases hv with
   | slc _ _ _ _ _ a cap hid hst hcap hlv =>
    have hb:=Xgl (P:=P) (w:=w) (len:=len) (cap:=cap) true hlo' hhi' h1 (by omega)
    refine ⟨.slice (some (if cap=l then a else a.add (l*sz))) (e-l) (cap-l),?_,?_⟩
    ·simp [Instr.sliceAt,Instr.slice,Xas hu,hb,Xbl hsz]
     split <;> rfl
    ·refine .slc _ _ _ _ _ _ _ hid hst (by omega) fun hl'=>?_
     obtain ⟨b,o,hη,rfl,ho,tt,n,hn,hroom⟩:=hlv hl'
     have hmul:(cap-l)*sz=cap*sz-l*sz:=Nat.sub_mul ..
     have hle:l*sz≤cap*sz:=Nat.mul_le_mul_right _ (by omega)
     by_cases hcl:cap=l
     ·rw [if_pos hcl]
      refine ⟨b,o,hη,rfl,fun h3=>?_,tt,n,hn,?_⟩
      ·rcases h3 with h3 | h3
       ·omega
       ·have h4:off=0∧l*sz=0:=by omega
        rw [ho (.inr h4.1)]; omega
      ·rw [hmul]; omega
     ·rw [if_neg hcl,Xee]
      refine ⟨b,_,hη,rfl,fun h3=>?_,tt,n,hn,by rw [hmul]; omega⟩
      have:0<len∨off=0:=by
       rcases h3 with h3 | h3
       ·exact .inl (by omega)
       ·exact .inr (by omega)
      rw [ho this]
  ·cases h
 ·rename_i el len cs hu
  obtain ⟨sz,hsz,h⟩:=Option.bind_eq_some_iff.1 h'
  obtain ⟨e,he,h⟩:=Option.bind_eq_some_iff.1 h
  clear h'
  have hhi':(hi'=none∧e=len)∨∃ k,hi'=some (.int k e):=by
   rcases Xdg he hh with ⟨_,h1,h2⟩ | h
   ·exact .inl ⟨h1,h2⟩
   ·exact .inr h
  split at h
  ·rename_i hc
   obtain ⟨h1,h2,hlen⟩:=hc
   injection h with h
   subst h
   cases hv with
   | lst _ _ a cap us hcap ha hcv =>
    have hb:=Xgl (P:=P) (w:=w) (len:=len) (cap:=cap) true hlo' hhi' h1 (by omega)
    refine ⟨.slice (if cap=l then a else a.map (·.add (l*sz))) (e-l) (cap-l),?_,?_⟩
    ·simp [Instr.sliceAt,Instr.slice,Xas hu,hb,Xbl hsz]
    ·refine .lst _ _ _ _ (fun j=>us (l*sz+j)) (by omega) (fun j c hc=>?_) fun j c hc=>?_
     ·have hj:=(List.getElem?_eq_some_iff.1 hc).1
      rw [List.length_take] at hj
      rw [List.getElem?_take] at hc
      split at hc
      ·rw [List.getElem?_drop] at hc
       obtain ⟨ad,rfl,h3,h4⟩:=ha _ _ hc
       have hel:0<(e-l)*sz:=by omega
       have:e≠l:=fun h=>by subst h; simp at hel
       rw [if_neg (by omega)]
       refine ⟨_,rfl,by simpa using h3,?_⟩
       by_cases hz:l*sz=0
       ·rw [hz] at h4 ⊢; simpa [Addr.add] using h4
       ·exact add_add ad _ j _ h4 (by omega)
      ·cases hc
     ·rw [List.getElem?_take] at hc
      split at hc
      ·rw [List.getElem?_drop] at hc
       exact hcv _ _ hc
      ·cases hc
  ·cases h
 ·rename_i el hu
  obtain ⟨sz,hsz,h⟩:=Option.bind_eq_some_iff.1 h'
  obtain ⟨e,he,h⟩:=Option.bind_eq_some_iff.1 h
  clear h'
  have hhi':(hi'=none∧e=0)∨∃ k,hi'=some (.int k e):=by
   rcases Xdg he hh with ⟨_,h1,h2⟩ | h
   ·exact .inl ⟨h1,h2⟩
   ·exact .inr h
  split at h
  ·rename_i hc
   obtain ⟨rfl,rfl⟩:=hc
   have h5:some AV.nilS=some y:=by assumption
   injection h5 with h5
   subst h5
   cases hv with
   | nilS =>
    have hb:=Xgl (P:=P) (w:=w) (len:=0) (cap:=0) true hlo' hhi' (Nat.le_refl _) (Nat.le_refl _)
    refine ⟨.slice none 0 0,?_,.nilS⟩
    simp [Instr.sliceAt,Instr.slice,Xas hu,hb,Xbl hsz]
  ·cases h
 ·rename_i n el id off st hu
  obtain ⟨sz,hsz,h⟩:=Option.bind_eq_some_iff.1 h'
  obtain ⟨e,he,h⟩:=Option.bind_eq_some_iff.1 h
  clear h'
  have hhi':(hi'=none∧e=n)∨∃ k,hi'=some (.int k e):=by
   rcases Xdg he hh with ⟨_,h1,h2⟩ | h
   ·exact .inl ⟨h1,h2⟩
   ·exact .inr h
  cases hb:H[id]? with
  | none=>simp [hb] at h
  | some blk =>
   cases blk with
   | row cs st' ty =>
    simp only [hb] at h
    split at h
    ·rename_i hc
     obtain ⟨h1,h2,rfl,hle⟩:=hc
     injection h with h
     subst h
     cases hv with
     | ptr _ _ _ a hid hst hl' =>
      obtain ⟨b,hη,rfl⟩:=hl' ⟨_,hb,rfl⟩
      obtain ⟨c,te,fz,hh',hcc,hcv,hfz,hty⟩:=r.blk id _ b hb hη
      have hbd:=Xgl (P:=P) (w:=w) (len:=n) (cap:=n) false hlo' hhi' h1 h2
      refine ⟨.slice (some (if n=l then ⟨b,off,none⟩ else (Addr.mk b off none).add (l*sz))) (e-l) (n-l),by simp [Instr.sliceAt,Xas hu,Instr.sureAddr,hbd,Xbl hsz],?_⟩
      refine .slc _ _ _ _ _ _ _ hid hst (by omega) fun _=>?_
      have hmul:(n-l)*sz=n*sz-l*sz:=Nat.sub_mul ..
      have hle2:l*sz≤n*sz:=Nat.mul_le_mul_right _ (by omega)
      have hsh:w.shape? b=some (te,c.size):=by simp [World.shape?,hh']
      by_cases hcl:n=l
      ·rw [if_pos hcl]
       refine ⟨b,off,hη,rfl,fun h3=>?_,te,c.size,hsh,by rw [hmul]; omega⟩
       rcases h3 with h3 | h3
       ·omega
       ·omega
      ·rw [if_neg hcl,Xee]
       exact ⟨b,_,hη,rfl,fun _=>rfl,te,c.size,hsh,by rw [hmul]; omega⟩
    ·cases h
   | map es=>simp [hb] at h
   | siter s p=>simp [hb] at h
   | miter s p=>simp [hb] at h
 ·cases h'
theorem Xk1 (r:Rel g η H w) {t:TypeId} {l c:AV} {lv cv:Value} {y:AV × Mem} (hl:VR η H w l lv) (hc:VR η H w c cv) (h:Xhx P H t l c=some y):Xe8 P g η H w (Instr.makeSlice t lv cv) y:=by
 unfold Xhx at h
 split at h
 ·rename_i elem l c hu
  obtain ⟨i,hi,h'⟩:=Option.bind_eq_some_iff.1 h
  obtain ⟨z,hz,h'⟩:=Option.bind_eq_some_iff.1 h'
  clear h
  split at h'
  ·rename_i hcond
   obtain ⟨h0,h1,h2,h3,hk,hzl⟩:=hcond
   injection h' with h'
   subst h'
   cases hl
   cases hc
   obtain ⟨v,hr,rfl⟩:=Xeq (w:=w) hz
   have hzc:VRs η H w (ofV v).cells v.cells:=(Xf7 v).cells hk
   have hsz:szT P elem=some i.size:=by simp [szT,hi]
   have hwl:IntKind.i64.wrap l=l:=by simp [IntKind.wrap,IntKind.bits,IntKind.signed]; omega
   have hwc:IntKind.i64.wrap c=c:=by simp [IntKind.wrap,IntKind.bits,IntKind.signed]; omega
   have hz0:=Xmk hzc c.toNat
   rw [hzl] at hz0
   have hcs:((Array.range (c.toNat*i.size)).map fun i=>v.cells[i % v.cells.size]!).size=c.toNat*i.size:=by simp
   have hle:l.toNat*i.size≤c.toNat*i.size:=Nat.mul_le_mul_right _ (by omega)
   have hbm:(i.bytes:Int)*c≤2 ^ 10*2 ^ 30:=Int.mul_le_mul (by omega) h2 (by omega) (by omega)
   have htl:¬ ((i.bytes:Int)*c>2 ^ 48):=by omega
   generalize hca:((Array.range (c.toNat*i.size)).map fun i=>v.cells[i % v.cells.size]!)=ca at hz0 hcs
   obtain ⟨η',w',e1,e,r',hv⟩:=Xvd (t:=elem) (len:=l.toNat) (cap:=c.toNat) (sz:=i.size) (cs:=Xe0 (ofV v).cells l.toNat) (c:=ca) r (by rw [Xcs,hzl]; omega) (fun j x u hx hu'=>by
     have hj:j<l.toNat*(ofV v).cells.length:=by have:=(List.getElem?_eq_some_iff.1 hx).1; rwa [Xcs] at this
     have hj2:j<c.toNat*(ofV v).cells.length:=by rw [hzl] at hj ⊢; omega
     rw [Xh0 _ _ _ hj,← Xh0 _ c.toNat _ hj2] at hx
     exact hz0.2 j x u hx hu') (by omega) (by omega)
   refine ⟨η',w',_,?_,e,r',hv⟩
   have hzi:i.zero=some v:=by
    have:Xfz P elem=i.zero.map ofV:=by simp [Xfz,hi]
    rw [this] at hz
    obtain ⟨v',h4,h5⟩:=Option.map_eq_some_iff.1 hz
    obtain ⟨v'',h6⟩ : ∃ v'',(zeroValue elem).run P w=.ok v'' w∧v''=v':=⟨v',by simp [zeroValue,Xph hi,h4],rfl⟩
    rw [hr] at h6
    obtain ⟨h6,h7⟩:=h6
    injection h6 with h6
    rw [h4,← h7,← h6]
   have hrun:=run_make (P:=P) w t elem i v hu hi hzi .i64 .i64 l c h0 h1 (by omega) (by omega)
   have hmc:madeCells v.cells (c.toNat*i.size)=ca:=hca
   rw [hmc] at hrun
   rw [hrun,e1]
  ·cases h'
 ·cases h
end Go.Proofs.YtmhhddhbdbcmbaaGreatDoor.Ev
