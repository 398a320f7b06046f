/- Parts of one proof. -/
import Derived.Test.YtmhhddhbdbcmbaaGreatDoorMba
import Derived.Lib.Builder
import Derived.Lib.UnsafeStr
import Derived.Laws.Externs
import GoSem.Extern.Table
set_option linter.all false
namespace Go.Proofs.YtmhhddhbdbcmbaaGreatDoor.Ev
variable {P:Program} {g:Cfg} {η:Nat→Option Nat} {H:Mem} {w:World}
theorem Xxu {x:AV} {b:UInt8} (h:Xwy x=some b):x=.int .u8 (b.toNat:Int):=by
 unfold Xwy at h
 split at h
 ·rename_i n
  split at h
  ·rename_i hn
   injection h with h
   subst h
   congr 1
   have:n.toNat<256:=by omega
   rw [UInt8.toNat_ofNat']
   omega
  ·cases h
 ·cases h
theorem Xil:∀ {cs:List AV} {bs:List UInt8},Xe3 cs=some bs→cs.length=bs.length∧∀ (j:Nat) b,bs[j]? = some b→cs[j]? = some (.int .u8 (b.toNat:Int))
 | [],bs,h=>by simp [Xe3] at h; subst h; exact ⟨rfl,fun j b h=>by simp at h⟩
 | c::cs,bs,h=>by
  simp only [Xe3] at h
  split at h
  ·rename_i b bs' hb hbs
   injection h with h
   subst h
   obtain ⟨h1,h2⟩:=Xil hbs
   refine ⟨by simp [h1],fun j y hy=>?_⟩
   cases j with
   | zero=>simp at hy; subst hy; simp [Xxu hb]
   | succ j=>simpa using h2 j y (by simpa using hy)
  ·cases h
theorem Xw7 (p:Program) (fits:TypeId→Bool):∀ (d:Nat) (e:TypeId) (n m off k:Nat),n≤m→rowAt p fits d e n off k=true→rowAt p fits d e m off k=true
 | 0,_,_,_,_,_,_,h=>by simp [rowAt] at h
 | d+1,e,n,m,off,k,hnm,h=>by
  simp only [rowAt] at h ⊢
  split
  ·rename_i h0; rw [if_pos h0] at h; exact h
  ·rename_i h0
   rw [if_neg h0] at h
   simp only [Bool.or_eq_true,Bool.and_eq_true,decide_eq_true_eq] at h ⊢
   rcases h with ⟨⟨h1,h2⟩,h3⟩ | ⟨h1,h2⟩
   ·exact .inl ⟨⟨h1,by omega⟩,h3⟩
   ·exact .inr ⟨by omega,h2⟩
theorem Xmp (p:Program):∀ (d:Nat) (e n m off u k:Nat),n≤m→liesAt p d e n off u k=true→liesAt p d e m off u k=true
 | 0,_,_,_,_,_,_,_,h=>by simp [liesAt] at h
 | d+1,e,n,m,off,u,k,hnm,h=>by
  simp only [liesAt,Bool.or_eq_true] at h ⊢
  rcases h with h | h
  ·exact .inl (Xw7 p _ _ e n m off k hnm h)
  ·right
   split
   ·rename_i mm u' hu
    rw [hu] at h
    exact Xmp p d e n m off u' (k*mm) hnm h
   ·rename_i hu
    split at h
    ·exact absurd (by assumption) (hu _ _)
    ·cases h
theorem Xnv (r:Rel g η H w) {src dst t id off st st' ty:Nat} {cs:List AV} {v:Value} (hs:P.underlying src=some (.pointer t)) (hd:P.underlying dst=some .unsafePointer) (hb:H[id]? = some (.row cs st' ty))
  (hc:st=st'∧off<cs.length∧((P.info? t).map fun j=>decide (j.size≠0))=some true) (hv:VR η H w (.ptr id off st) v):Xe8 P g η H w (convert src dst v) (.ptr id off st,H):=by
 obtain ⟨rfl,hlt,hj⟩:=hc
 obtain ⟨j,hi,hj⟩:=Option.map_eq_some_iff.1 hj
 have hj':j.size≠0:=by simpa using hj
 have hv':=hv
 cases hv with
 | ptr _ _ _ a hid hst hl =>
  obtain ⟨b,hη,rfl⟩:=hl ⟨_,hb,rfl⟩
  obtain ⟨c,te,fz,hh,hcc,hcv,hfz,hty⟩:=r.blk id _ b hb hη
  exact Xe8.same r ⟨_,Lib.run_to_unsafe w ⟨b,off,none⟩ hs hd hi hj' (e:=te) (cells:=c.size) (by simp [World.shape?,hh]) (by simp only; omega),hv'⟩
theorem Xnj (r:Rel g η H w) {src dst u id off st st' T:Nat} {cs:List AV} {v:Value} (hs:P.underlying src=some .unsafePointer) (hd:P.underlying dst=some (.pointer u)) (hb:H[id]? = some (.row cs st' (T+1)))
  (hc:st=st'∧(P.info? u).isSome=true∧liesAt P P.depth T (cs.length / P.cellsOf T) off u 1=true) (hv:VR η H w (.ptr id off st) v):Xe8 P g η H w (convert src dst v) (.ptr id off st,H):=by
 obtain ⟨rfl,hj,hlies⟩:=hc
 obtain ⟨j,hi⟩:=Option.isSome_iff_exists.1 hj
 have hv':=hv
 cases hv with
 | ptr _ _ _ a hid hst hl =>
  obtain ⟨b,hη,rfl⟩:=hl ⟨_,hb,rfl⟩
  obtain ⟨c,te,fz,hh,hcc,hcv,hfz,hty⟩:=r.blk id _ b hb hη
  have hte:=hty T rfl
  subst hte
  exact Xe8.same r ⟨_,Lib.run_from_unsafe w ⟨b,off,none⟩ hs hd hi (e:=te) (cells:=c.size) (by simp [World.shape?,hh]) (Xmp P _ _ _ _ _ _ _ (Nat.div_le_div_right hcc) hlies),hv'⟩
theorem Xuf (w:World) (a:Addr) (n b:Nat) (h:b≠a.block):(w.freeze a n).heap[b]? = w.heap[b]?:=by
 unfold World.freeze
 split
 ·rfl
 ·simp [Array.getElem?_modify,Ne.symm h]
theorem Xus (w:World) (a:Addr) (n:Nat):(w.freeze a n).heap.size=w.heap.size:=by
 unfold World.freeze
 split <;> simp
def Xtz (id:Nat) (η:Nat→Option Nat):Nat→Option Nat:=fun i=>if i=id then none else η i
theorem Xf3 {id i b:Nat} (h:Xtz id η i=some b):i≠id∧η i=some b:=by
 unfold Xtz at h
 split at h
 ·cases h
 ·exact ⟨by assumption,h⟩
theorem Rel.drop (r:Rel g η H w) {id b st ty:Nat} {cs:List AV} {w':World} (hx:H[id]? = some (.row cs st ty)) (hη:η id=some b) (hh:∀ k,k≠b→w'.heap[k]? = w.heap[k]?) (hs:w'.heap.size=w.heap.size) (ho:w'.os=w.os) (ht:w'.tape=w.tape) (hp:w'.output=w.output) :
  Ext η H w (Xtz id η) (H.set id (.row [] (st+1) 0)) w'∧Rel g (Xtz id η) (H.set id (.row [] (st+1) 0)) w':=by
 have hid:id<H.length:=(List.getElem?_eq_some_iff.1 hx).1
 have e:Ext η H w (Xtz id η) (H.set id (.row [] (st+1) 0)) w':=by
  refine ⟨⟨by simp,fun i z hz=>?_,by rw [hs]; exact Nat.le_refl _,fun k hk=>⟨hh k fun e=>hk.2 id (e ▸ hη),fun i hi=>hk.2 i (Xf3 hi).2⟩,ho,ht,hp⟩,fun i _ h=>by unfold Xtz; split <;> simp [*]⟩
  by_cases hi:i=id
  ·subst hi
   rw [hx] at hz
   injection hz with hz
   subst hz
   exact ⟨_,by rw [List.getElem?_set_self hid],by simp [Xk0],fun h=>by simp [Xk0] at h⟩
  ·refine ⟨z,by rw [List.getElem?_set_ne (Ne.symm hi)]; exact hz,Nat.le_refl _,fun _ k hk=>⟨by simp [Xtz,hi,hk],fun s hs'=>?_⟩⟩
   rw [Xeg (hh k fun e=>hi (r.inj i id b (e ▸ hk) hη))]
   exact hs'
 refine ⟨e,r.step e.toExtW (fun i k h=>?_) (fun i j k h1 h2=>r.inj i j k (Xf3 h1).2 (Xf3 h2).2) (fun z hz=>?_) fun i z k h1 h2=>?_⟩
 ·have:=r.dom i k (Xf3 h).2
  rw [hs]; simpa using this
 ·rw [List.length_set]
  rcases List.mem_or_eq_of_mem_set hz with h | h
  ·exact r.low z h
  ·subst h; rfl
 ·obtain ⟨h3,h4⟩:=Xf3 h2
  rw [List.getElem?_set_ne (Ne.symm h3)] at h1
  exact .inl ⟨h1,h4,hh k fun e=>h3 (r.inj i id b (e ▸ h4) hη)⟩
theorem Xky {x y:AV} {v:Value} {ts:Array TypeId} {ty:TypeId} (hv:VR η H w x v) (h:Xf2 x=some y):∃ u,(Builtin.unsafeSliceData_ ts ty #[v]).run P w=.ok u w∧VR η H w y u:=by
 unfold Xf2 at h
 split at h
 ·injection h with h; subst h
  cases hv
  exact ⟨_,Lib.run_unsafeSliceData_nil w ts ty 0 0,.nilP⟩
 ·split at h
  ·rename_i hlen
   injection h with h; subst h
   cases hv with
   | slc _ _ _ _ _ a cap hid hst hcap hl =>
    refine ⟨_,Lib.run_unsafeSliceData_row w ts ty a _ cap (by omega),.ptr _ _ _ _ hid hst fun hlv=>?_⟩
    obtain ⟨b,o,hη,rfl,ho,_⟩:=hl hlv
    exact ⟨b,hη,by rw [ho (.inl hlen)]⟩
  ·cases h
 ·cases h
theorem add0 (b j:Nat):(Addr.add ⟨b,0,none⟩ j)=⟨b,j,none⟩:=by unfold Addr.add; split <;> simp_all
theorem Xku (r:Rel g η H w) {x n:AV} {v u:Value} {ts:Array TypeId} {ty:TypeId} {y:AV × Mem} (hv:VR η H w x v) (hu:VR η H w n u) (h:Xgd P H ts.toList x n=some y):Xe8 P g η H w (Builtin.unsafeString_ ts ty #[v,u]) y:=by
 unfold Xgd at h
 split at h
 ·rename_i pt it hts
  injection h with h; subst h
  cases hv; cases hu
  have:ts = #[pt,it]:=by apply Array.ext'; simpa using hts
  subst this
  exact ⟨η,w,_,Lib.run_unsafeString_none w pt it ty none,Ext.refl,r,.str _ _ rfl⟩
 ·rename_i pt it id st n hts
  have:ts = #[pt,it]:=by apply Array.ext'; simpa using hts
  subst this
  split at h
  ·rename_i cs st' T e hb hpt
   split at h
   ·rename_i hc
    obtain ⟨rfl,rfl,hce,h0,hle,h60⟩:=hc
    obtain ⟨s,hs,rfl⟩:=Option.map_eq_some_iff.1 h
    obtain ⟨h1,h2⟩:=Xil hs
    cases hu
    cases hv with
    | ptr _ _ _ a hid hst hl =>
     obtain ⟨b,hη,rfl⟩:=hl ⟨_,hb,rfl⟩
     obtain ⟨c,te,fz,hh,hcc,hcv,hfz,hty⟩:=r.blk id _ b hb hη
     have hte:=hty _ rfl
     subst hte
     have hsl:s.length=n.toNat:=by rw [List.length_take] at h1; omega
     have hn:n=(s.length:Int):=by omega
     have hrun:=Lib.run_unsafeString_row w pt it ty te hpt hce b c.size (by simp [World.shape?,hh]) s (by intro e; subst e; simp at hsl; omega) (by omega) (by omega) fun j x hx=>by
      have hj:j<s.length:=(List.getElem?_eq_some_iff.1 hx).1
      have h3:=h2 j x hx
      rw [List.getElem?_take,if_pos (by omega)] at h3
      have hjc:j<c.size:=by omega
      have h4:=hcv j _ c[j] h3 (Array.getElem?_eq_getElem hjc)
      have ha:(Addr.add ⟨b,0,none⟩ j)=⟨b,j,none⟩:=add0 b j
      rw [ha]
      have h5:c[j]=.int .u8 x.toNat:=by
       generalize c[j]=z at h4
       cases h4; rfl
      simp [World.cell?,hh,hjc,h5]
     rw [← hn] at hrun
     have hd:=Rel.drop (w':=w.freeze ⟨b,0,none⟩ s.length) r hb hη (fun k hk=>Xuf w _ _ k hk) (Xus w _ _) (by unfold World.freeze; split <;> rfl) (by unfold World.freeze; split <;> rfl) (by unfold World.freeze; split <;> rfl)
     exact ⟨_,_,_,hrun,hd.1,hd.2,.str _ _ (by simp)⟩
   ·cases h
  ·cases h
 ·cases h
theorem noEsc_run {k:FuncId} (h:noEsc P k=true) (v:Value):(callFunc k #[v]).run P w=.ok (.value v) w:=by
 unfold noEsc at h
 cases hf:P.funcs[k]? with
 | none=>simp [hf] at h
 | some fn =>
  simp only [hf,Bool.and_eq_true] at h
  obtain ⟨⟨h1,h2⟩,h3⟩:=h
  have hname:fn.name = "internal/abi.NoEscape" := by simpa using h2
  have e1:Extern.allGenericRows.lookup "internal/abi.NoEscape" = none:=by kernel_rfl
  have e2:Extern.allTypedRows.lookup "internal/abi.NoEscape" = none:=by kernel_rfl
  have e3:Extern.allRows.lookup "internal/abi.NoEscape" = some Extern.AbiNoEscape.same:=by kernel_rfl
  rw [run_callFunc_extern hf (by rw [hname]; rfl) h1 (by simpa using h3) (e:=Extern.AbiNoEscape.same) (by simp [Extern.find,hname,e1,e2,e3]),Lib.run_noEscape]
  rfl
end Go.Proofs.YtmhhddhbdbcmbaaGreatDoor.Ev
