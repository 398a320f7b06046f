/- Parts of one proof. -/
import Derived.Test.YtmhhddhbdbcmbaaGreatDoorMbb
import Derived.Laws.IdiomStrings
import Derived.Laws.BytesArg
import Derived.MapKept
set_option linter.all false
namespace Go.Proofs.YtmhhddhbdbcmbaaGreatDoor.Ev
variable {P:Program} {g:Cfg} {η:Nat→Option Nat} {H:Mem} {w:World}
theorem Xu3 (r:Rel g η H w) {src dst:TypeId} {x:AV} {v:Value} {y:AV × Mem} (hv:VR η H w x v) (h:Xnr P H src dst x=some y):Xe8 P g η H w (convert src dst v) y:=by
 unfold Xnr at h
 split at h
 ·rename_i d k j n hs hd
  injection h with h
  subst h
  cases hv
  exact Xe8.same r ⟨_,by simp [convert,Xas hs,Xas hd,Conv.intToInt],.int _ _⟩
 ·rename_i d j n hs hd
  injection h with h
  subst h
  cases hv
  exact Xe8.same r ⟨_,by simp [convert,Xas hs,Xas hd,Conv.intToString],.str _ _ rfl⟩
 ·rename_i d s hs hd
  injection h with h
  subst h
  cases hv with
  | str _ s' hs' =>
   refine Xe8.same r ⟨.string s',?_,.str _ _ hs'⟩
   cases d <;> simp [convert,Xas hs,Xas hd]
 ·rename_i e s hs hd
  split at h
  ·rename_i he
   split at h
   ·rename_i hle
    injection h with h
    subst h
    cases hv with
    | str _ s' hs' =>
      have hrun:=run_bytes_of_string (P:=P) w src dst e s' hs hd he
      have hsz:s'.size=s.length:=by rw [← hs']; exact (Array.length_toList ..).symm
      have hcap:s'.size≤grownCap w s'.size 0 e:=by simp [grownCap,Question.cut]
      generalize grownCap w s'.size 0 e=cap at hrun hcap
      have hbs:(bytesRow s' cap).size=cap:=by
       have:s'.data.size=s'.size:=rfl
       simp [bytesRow,this]; omega
      have hcell:∀ (j:Nat) x u,(Xal s)[j]? = some x→(bytesRow s' cap)[j]? = some u→VR η H w x u:=by
       intro j x u hx hu
       obtain ⟨b,hb,rfl⟩:=Xio hx
       have hj:j<s'.data.size:=by have:=(List.getElem?_eq_some_iff.1 hb).1; rw [← hs'] at this; simpa using this
       rw [bytesRow_at s' cap j hj] at hu
       injection hu with hu
       subst hu
       have:s'.data[j]=b:=by
        rw [← hs'] at hb
        rw [Array.getElem?_toList,Array.getElem?_eq_getElem hj] at hb
        injection hb
       rw [this]
       exact .int _ _
      have r':=r.quiet (w':=w.drew) rfl rfl rfl rfl
      have e':Ext η H w η H w.drew:=Ext.quiet rfl rfl rfl rfl
      have hofl:(Xal s).length=s'.size:=by simp [Xal,hsz]
      have e2:=Ext.alloc r' (.row (Xal s) 0 (e+1)) (.cells (bytesRow s' cap) e ((bytesRow s' cap).size,(bytesRow s' cap).size+1))
      have r2:=r'.alloc (.row (Xal s) 0 (e+1)) (.cells (bytesRow s' cap) e ((bytesRow s' cap).size,(bytesRow s' cap).size+1)) (Xb3.2 fun j x hx=>by
        obtain ⟨b,_,rfl⟩:=Xio hx
        rfl) fun η' H' w' e3 hw=>⟨_,e,_,hw,by omega,fun j x u hx hu=>(hcell j x u hx hu).ext (e'.trans e3),.inr (Nat.le_refl _),fun T hT=>Nat.succ.inj hT⟩
      refine ⟨_,_,_,hrun,e'.trans e2,r2,?_⟩
      rw [hsz]
      refine .slc _ _ _ _ _ _ _ (by simp) (Nat.zero_le _) (by omega) fun _=>⟨_,0,Xkk,rfl,fun _=>rfl,e,(bytesRow s' cap).size,?_,by omega⟩
      simp only [World.shape?,Xcq]
   ·cases h
  ·cases h
 ·rename_i e0 e id off len sz st hs hd
  split at h
  ·rename_i he
   split at h
   ·rename_i cs st' ty hb
    split at h
    ·rename_i hc
     obtain ⟨rfl,rfl,hl0⟩:=hc
     injection h with h
     subst h
     cases hv with
     | slc _ _ _ _ _ a cap hid hst hcl hl =>
      obtain ⟨b,o,hη,rfl,ho,t,n,hsh,hcap⟩:=hl ⟨_,hb,rfl⟩
      obtain ⟨c,te,fz,hh,hcc,hcv,hfz,hty⟩:=r.blk id _ b hb hη
      have hlt:b<w.heap.size:=(Array.getElem?_eq_some_iff.1 hh).1
      have hsh':w.shape? b=some (te,c.size):=by simp [World.shape?,hh]
      have hfr:w.freeze ⟨b,c.size,none⟩ 1=Xbi w b (.cells c te (if fz.1 == fz.2 then (c.size,c.size+1) else (min fz.1 c.size,max fz.2 (c.size+1)))):=by
       unfold World.freeze Xbi
       rw [if_neg (by decide)]
       congr 1
       apply Array.ext_getElem?
       intro i
       rw [Array.getElem?_modify]
       by_cases hi:b=i
       ·subst hi
        rw [if_pos rfl,hh,Array.getElem?_setIfInBounds_self_of_lt hlt]
        rfl
       ·rw [if_neg hi,Array.getElem?_setIfInBounds_ne hi]
      have hrow:=Rel.frost r hb hη hh (fz':=if fz.1 == fz.2 then (c.size,c.size+1) else (min fz.1 c.size,max fz.2 (c.size+1))) (by
       rcases hfz with hfz | hfz
       ·rw [if_pos (by simpa using hfz)]; exact .inr (Nat.le_refl _)
       ·split
        ·exact .inr (Nat.le_refl _)
        ·exact .inr (by simp; omega)) hcc hty hcv
      refine ⟨η,_,.slice (some ⟨b,o,none⟩) len cap,?_,hrow.1,hrow.2,.slc _ _ _ _ _ _ _ hid hst hcl fun _=>⟨b,o,hη,rfl,ho,t,n,?_,hcap⟩⟩
      ·rw [← hfr]
       simp [convert,Xas hd,Xas he,markStringish,hsh']
      ·rw [Xj2] at hsh ⊢
       exact Xm1 hh rfl _ hsh
    ·cases h
   ·cases h
  ·cases h
 ·rename_i e hs hd _ _
  split at h
  ·rename_i he
   obtain ⟨p,hp,h'⟩:=Option.bind_eq_some_iff.1 h
   clear h
   obtain ⟨s,hsb,rfl⟩:=Option.map_eq_some_iff.1 h'
   obtain ⟨n,cs⟩:=p
   obtain ⟨hl,a,cap,rfl,hcap,vs,hvl,hvs,hvv⟩:=Xn2 r hv hp
   obtain ⟨h1,h2⟩:=Xil hsb
   simp only at h1 h2
   refine Xe8.same r ⟨.string ⟨s.toArray⟩,?_,.str _ _ (by simp)⟩
   cases a with
   | none =>
    have:vs=[]:=by
     cases vs with
     | nil=>rfl
     | cons u vs=>obtain ⟨ad,e,_⟩:=hvs 0 u rfl; cases e
    subst this
    have:s=[]:=List.eq_nil_of_length_eq_zero (by simp at hvl; omega)
    subst this
    exact run_convert_bytes_nil w src e hs he n cap dst hd
   | some ad =>
    have hn:s.length=n:=by omega
    subst hn
    refine run_convert_bytes_back w src dst e ad cap s hs he hd fun j hj=>?_
    have h3:=h2 j s[j] (List.getElem?_eq_getElem hj)
    have hj':j<vs.length:=by omega
    obtain ⟨ad',e',h4⟩:=hvs j vs[j] (List.getElem?_eq_getElem hj')
    injection e' with e'
    subst e'
    have h5:=hvv j _ vs[j] h3 (List.getElem?_eq_getElem hj')
    rw [h4]
    generalize vs[j]=z at h5 ⊢
    cases h5
    rfl
  ·cases h
 ·rename_i t id off st hs hd
  split at h
  ·rename_i cs st' ty hb
   split at h
   ·rename_i hc
    injection h with h; subst h
    exact Xnv r hs hd hb hc hv
   ·cases h
  ·cases h
 ·rename_i u id off st hs hd
  split at h
  ·rename_i cs st' T hb
   split at h
   ·rename_i hc
    injection h with h; subst h
    exact Xnj r hs hd hb hc hv
   ·cases h
  ·cases h
 ·cases h
theorem Xul (r:Rel g η H w) {t:TypeId} {ts:Array TypeId} {ty:TypeId} {s x:AV} {sv xv:Value} {y:AV × Mem} (hs:VR η H w s sv) (hx:VR η H w x xv) (ht:ts[0]? = some t) (h:copyA P H t s x=some y) :
  Xe8 P g η H w (Builtin.copy_ ts ty #[sv,xv]) y:=by
 unfold copyA at h
 split at h
 ·rename_i elem hu
  obtain ⟨sz,hsz,h'⟩:=Option.bind_eq_some_iff.1 h
  obtain ⟨p,hp,h'⟩:=Option.bind_eq_some_iff.1 h'
  clear h
  obtain ⟨n,cs⟩:=p
  obtain ⟨hcl,hlen,vs,hvl,hvv,hfirst⟩:=Xog (P:=P) r hx hp
  cases hs with
  | slc id off len sz' st a cap hid hst hcap hl =>
   simp only at h'
   cases hb:H[id]? with
   | none=>simp [hb] at h'
   | some blk =>
    cases blk with
    | row cs0 st' ty =>
     simp only [hb] at h'
     split at h'
     ·rename_i hc
      obtain ⟨rfl,rfl,hle,hone,hlt⟩:=hc
      injection h' with h'
      subst h'
      obtain ⟨b,o,hη,rfl,ho,tt,nn,hshape,hroom⟩:=hl ⟨_,hb,rfl⟩
      obtain ⟨c,te,fz,hh,hcc,hcv,hfz,hty⟩:=r.blk id _ b hb hη
      have hf:=hfirst w rfl (min n len) (by omega)
      have hm:min n len*sz'≤n*sz':=Nat.mul_le_mul_right _ (by omega)
      have hm2:min n len*sz'≤len*sz':=Nat.mul_le_mul_right _ (by omega)
      have hvv':∀ (j:Nat) c u,(cs.take (min n len*sz'))[j]? = some c→(vs.take (min n len*sz'))[j]? = some u→VR η H w c u:=by
       intro j c u h1 h2
       rw [List.getElem?_take] at h1 h2
       split at h1
       ·rename_i hj; rw [if_pos hj] at h2; exact hvv j c u h1 h2
       ·cases h1
      have hone':=all_one (by simp; omega) hone hvv'
      have hlv:(vs.take (min n len*sz')).length=min n len*sz':=by simp; omega
      have hlc:(cs.take (min n len*sz')).length=min n len*sz':=by simp; omega
      obtain ⟨M,hM⟩ : ∃ M,M=min n len*sz':=⟨_,rfl⟩
      have hM0:0<M→0<len:=fun h=>by
       rcases Nat.eq_zero_or_pos len with h0 | h0
       ·subst h0; simp at hM; omega
       ·exact h0
      rw [← hM] at hf hvv' hone' hlv hlc hone hm hm2 ⊢
      generalize vs.take M=vt at hf hvv' hone' hlv
      generalize cs.take M=ct at hvv' hone hlc ⊢
      have hsame:0<vt.length→o=off:=fun h0=>ho (.inl (hM0 (by omega)))
      have hput:(storeCells ⟨b,o,none⟩ vt).run P w=.ok () (Xbi w b (.cells (spl c off vt) te fz)):=by
       rcases Nat.eq_zero_or_pos vt.length with h0 | h0
       ·have:vt=[]:=List.eq_nil_of_length_eq_zero h0
        subst this
        simp [storeCells,spl,Xli hh]
       ·rw [hsame h0]
        have:=Xef (P:=P) vt w off 0 c hh (by omega) hfz.not hone'
        simpa using this
      have hrow:=Rel.row r (cs':=Xd4 cs0 off ct) (c':=spl c off vt) hb hη hh hfz (Xfo _ _ _) (Xdq (by omega)) hcc hty fun j z q hz hq=>by
       rw [Xjp (by omega)] at hz
       rw [Xna _ _ _ _ (by omega)] at hq
       rw [hlv,← hlc] at hq
       split at hz
       ·rename_i hin; rw [if_pos hin] at hq; exact hvv' _ z q hz hq
       ·rename_i hin; rw [if_neg hin] at hq; exact hcv j z q hz hq
      refine ⟨η,_,.int .i64 (min n len:Nat),?_,hrow.1,hrow.2,.int _ _⟩
      have hf':(Builtin.firstCells sz' (Nat.min n len) xv).run P w=.ok vt.toArray w:=hf
      simp [Builtin.copy_,ht,Xas hu,hlen,Xbl hsz,hf',hput,goInt]
     ·cases h'
    | map es=>simp [hb] at h'
    | siter s p=>simp [hb] at h'
    | miter s p=>simp [hb] at h'
  | _=>simp at h'
 ·cases h
end Go.Proofs.YtmhhddhbdbcmbaaGreatDoor.Ev
