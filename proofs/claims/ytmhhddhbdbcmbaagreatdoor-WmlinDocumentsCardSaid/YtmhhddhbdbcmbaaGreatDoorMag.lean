/- Parts of one proof. -/
import Derived.Test.YtmhhddhbdbcmbaaGreatDoorMaf
set_option linter.all false
namespace Go.Proofs.YtmhhddhbdbcmbaaGreatDoor.Ev
variable {P:Program} {g:Cfg} {η:Nat→Option Nat} {H:Mem} {w:World}
theorem VR_leaf (v:Value):VR η H w (Xco v) v:=by
 cases v with
 | bool b=>exact .bool _
 | int k n=>exact .int _ _
 | string s=>exact .str _ _ rfl
 | pointer a=>cases a with
  | none=>exact .nilP
  | some a=>exact .bad _
 | slice a l c=>cases a with
  | none=>cases l with
   | zero=>cases c with
    | zero=>exact .nilS
    | succ c=>exact .bad _
   | succ l=>exact .bad _
  | some a=>exact .bad _
 | map r=>cases r with
  | none=>exact .nilM
  | some r=>exact .bad _
 | func f x y=>match x,y with
  | ⟨[]⟩,⟨[]⟩=>exact .fn _ [] #[] rfl (fun j c u h=>by simp at h)
  | ⟨_::_⟩,_=>exact .bad _
  | ⟨[]⟩,⟨_::_⟩=>exact .bad _
 | nilFunc=>exact .nilF
 | nilIface=>exact .nilI
 | _=>exact .bad _
theorem Xjm (cs:Array Value):cs.size=(cs.toList.map Xco).length∧∀ (j:Nat) c u,(cs.toList.map Xco)[j]? = some c→cs[j]? = some u→VR η H w c u:=by
 refine ⟨by simp,fun j c u hc hu=>?_⟩
 rw [List.getElem?_map] at hc
 simp [hu] at hc
 rw [← hc]; exact VR_leaf u
theorem Xf7 (v:Value):VR η H w (ofV v) v:=by
 unfold ofV
 split
 ·exact .agg _ _ (Xjm (η:=η) (H:=H) (w:=w) _).1 (Xjm _).2
 ·exact .tup _ _ (Xjm (η:=η) (H:=H) (w:=w) _).1 (Xjm _).2
 ·exact VR_leaf _
theorem Xeq {t:TypeId} {z:AV} (h:Xfz P t=some z):∃ v,(zeroValue t).run P w=.ok v w∧z=ofV v:=by
 unfold Xfz at h
 cases hi:P.info? t with
 | none=>simp [hi] at h
 | some i =>
  cases hz:i.zero with
  | none=>simp [hi,hz] at h
  | some v=>simp [hi,hz] at h; exact ⟨v,by simp [zeroValue,Xph hi,hz],h.symm⟩
theorem Xpc (r:Rel g η H w) {x:AV} {v:Value} (t:TypeId) (hv:VR η H w x v) (hk:Xev x=true) :
  ∃ η' w',(newVar t v).run P w=.ok ⟨w.heap.size,0,none⟩ w'∧Ext η H w η' (newA H t x.cells).2 w'∧Rel g η' (newA H t x.cells).2 w'∧VR η' (newA H t x.cells).2 w' (newA H t x.cells).1 (.pointer (some ⟨w.heap.size,0,none⟩)):=by
 obtain ⟨hn,hc⟩:=hv.cells hk
 have hr:=Rel.newRow r x.cells 0 (t+1) v.cells t (fun T hT=>Nat.succ.inj hT) (by omega) hc
 refine ⟨upd η H.length w.heap.size,_,by simp [newVar,newRow],hr.1,hr.2,?_⟩
 exact .ptr _ _ _ _ (by simp [newA]) (Nat.zero_le _) fun _=>⟨_,Xkk,rfl⟩
theorem Xgr {t:TypeId} {cs:List AV} {vs:Array Value} {off:Nat} {y:AV} (hv:VRs η H w cs vs) (h:Xl9 P t cs off=some y):∃ u,(part t vs off).run P w=.ok u w∧VR η H w y u:=by
 unfold Xl9 at h
 split at h
 ·rename_i hag
  obtain ⟨s,hs,h'⟩:=Option.bind_eq_some_iff.1 h
  clear h; have h:=h'; clear h'
  split at h
  ·rename_i hle
   injection h with h
   refine ⟨.agg (vs.extract off (off+s)),by simp [part,Xi9 hag,Xbl hs],?_⟩
   subst h
   refine .agg _ _ (by simp [hv.1]; omega) fun j c u hc hu=>?_
   rw [List.getElem?_take] at hc
   split at hc
   ·rw [List.getElem?_drop] at hc
    rename_i hj
    refine hv.2 (off+j) c u hc ?_
    rw [Array.getElem?_extract] at hu
    split at hu
    ·exact hu
    ·cases hu
   ·cases hc
  ·cases h
 ·rename_i hag
  have hj:=(List.getElem?_eq_some_iff.1 h).1
  have hu:vs[off]? = some (vs[off]'(by rw [hv.1]; exact hj)):=Array.getElem?_eq_getElem _
  exact ⟨_,by simp [part,Xi9 hag,hu],hv.2 off y _ h hu⟩
 ·cases h
theorem Xsj {t:TypeId} {x y:AV} {v:Value} {i:Nat} (hv:VR η H w x v) (h:Xrr P t x i=some y):∃ u,(Instr.field t v i).run P w=.ok u w∧VR η H w y u:=by
 unfold Xrr at h
 split at h
 ·rename_i fields cs hu
  cases hv with
  | agg _ vs hn hc =>
   obtain ⟨f,hf,h'⟩:=Option.bind_eq_some_iff.1 h
   clear h; have h:=h'; clear h'
   obtain ⟨u,hr,hy⟩:=Xgr (vs:=vs) ⟨hn,hc⟩ h
   exact ⟨u,by simp [Instr.field,Xas hu,hf,asAgg,hr],hy⟩
 ·cases h
theorem Xee (b o n:Nat):(Addr.add ⟨b,o,none⟩ n)=⟨b,o+n,none⟩:=by unfold Addr.add; split <;> simp_all
theorem add_add (a:Addr) (m n:Nat) (v:Value) (h:w.cell? (a.add (m+n))=some v) (hm:0<m):w.cell? ((a.add m).add n)=some v:=by
 unfold Addr.add at *
 simp only [show ¬ (m+n=0) by omega,show ¬ m=0 by omega,if_false] at *
 split
 ·rename_i hn; subst hn; exact h
 ·simpa [Nat.add_assoc] using h
theorem VR.iptr_drop {cs:List AV} {a:Addr} {k:Nat} (h:VR η H w (.iptr cs) (.pointer (some a))):VR η H w (.iptr (cs.drop k)) (.pointer (some (a.add k))):=by
 cases h with
 | iptr _ _ us ha hv =>
  refine .iptr _ _ (fun j=>us (k+j)) (fun j c hc=>?_) fun j c hc=>?_
  ·rw [List.getElem?_drop] at hc
   obtain ⟨h1,h2⟩:=ha _ _ hc
   refine ⟨by simpa using h1,?_⟩
   by_cases hk:k=0
   ·subst hk; simpa [Addr.add] using h2
   ·exact add_add a k j _ h2 (by omega)
  ·rw [List.getElem?_drop] at hc
   exact hv _ _ hc
theorem Xkz {s:TypeId} {x y:AV} {v:Value} {i:Nat} (hv:VR η H w x v) (h:Xh5 P s x i=some y):∃ u,(Instr.fieldAt s v i).run P w=.ok u w∧VR η H w y u:=by
 unfold Xh5 at h
 split at h
 ·rename_i fields hu
  obtain ⟨f,hf,h'⟩:=Option.bind_eq_some_iff.1 h
  clear h; have h:=h'; clear h'
  split at h
  ·rename_i n id off st hs
   injection h with h
   subst h
   cases hv with
   | ptr _ _ _ a hid hst hl =>
    refine ⟨.pointer (some (a.add f.offset)),by simp [Instr.fieldAt,Xas hu,hf,Instr.sureAddr,fieldPlace,Xbl hs],.ptr _ _ _ _ hid hst fun hl'=>?_⟩
    obtain ⟨b,hb,rfl⟩:=hl hl'
    exact ⟨b,hb,Xee _ _ _⟩
  ·rename_i n cs hs
   split at h
   ·injection h with h
    subst h
    cases hv with
    | iptr _ a us ha hv'=>exact ⟨.pointer (some (a.add f.offset)),by simp [Instr.fieldAt,Xas hu,hf,Instr.sureAddr,fieldPlace,Xbl hs],VR.iptr_drop (.iptr _ a us ha hv')⟩
   ·cases h
  ·cases h
 ·cases h
theorem Xfg {x:AV} {v:Value} {n:Nat} (hv:VR η H w x v) (h:Xfb x=some n):∃ k,v=.int k n:=by
 unfold Xfb at h
 split at h
 ·split at h
  ·rename_i hn
   injection h with h
   cases hv
   exact ⟨_,by congr 1; omega⟩
  ·cases h
 ·cases h
theorem Xqb {t:TypeId} {x i y:AV} {v j:Value} (hv:VR η H w x v) (hj:VR η H w i j) (h:Xmn P t x i=some y):∃ u,(Instr.indexAt t v j).run P w=.ok u w∧VR η H w y u:=by
 unfold Xmn at h
 obtain ⟨n,hn,h'⟩:=Option.bind_eq_some_iff.1 h
 clear h; have h:=h'; clear h'
 obtain ⟨k,rfl⟩:=Xfg hj hn
 split at h
 ·rename_i e id off len s st hu
  split at h
  ·rename_i hc
   obtain ⟨hlt,hs⟩:=hc
   injection h with h
   subst h
   cases hv with
   | slc _ _ _ _ _ a cap hid hst hcap hl =>
    refine ⟨.pointer (some (a.add (n*s))),?_,.ptr _ _ _ _ hid hst fun hl'=>?_⟩
    ·simp [Instr.indexAt,asIntOf,Xas hu,Xbl hs,hlt]
    ·obtain ⟨b,o,hb,rfl,ho,_⟩:=hl hl'
     exact ⟨b,hb,by rw [Xee,ho (.inl (by omega))]⟩
  ·cases h
 ·rename_i e len cs hu
  obtain ⟨s,hs,h'⟩:=Option.bind_eq_some_iff.1 h
  clear h; have h:=h'; clear h'
  split at h
  ·rename_i hc
   obtain ⟨hlt,hle,h0⟩:=hc
   injection h with h
   subst h
   cases hv with
   | lst _ _ a cap us hcap ha hcv =>
    obtain ⟨ad,rfl,h1,h2⟩:=ha (n*s) cs[n*s] (List.getElem?_eq_getElem (by omega))
    refine ⟨.pointer (some (ad.add (n*s))),?_,VR.iptr_drop (.iptr _ ad us (fun j c hc=>?_) hcv)⟩
    ·simp [Instr.indexAt,asIntOf,Xas hu,Xbl hs,hlt]
    ·obtain ⟨ad',e,h3,h4⟩:=ha j c hc
     injection e with e
     subst e
     exact ⟨h3,h4⟩
  ·cases h
 ·rename_i len e id off st hu
  obtain ⟨s,hs,h'⟩:=Option.bind_eq_some_iff.1 h
  clear h; have h:=h'; clear h'
  split at h
  ·rename_i hlt
   injection h with h
   subst h
   cases hv with
   | ptr _ _ _ a hid hst hl =>
    refine ⟨.pointer (some (a.add (n*s))),?_,.ptr _ _ _ _ hid hst fun hl'=>?_⟩
    ·simp [Instr.indexAt,asIntOf,Xas hu,Xbl hs,hlt,Instr.sureAddr]
    ·obtain ⟨b,hb,rfl⟩:=hl hl'
     exact ⟨b,hb,Xee _ _ _⟩
  ·cases h
 ·rename_i len e cs hu
  obtain ⟨s,hs,h'⟩:=Option.bind_eq_some_iff.1 h
  clear h; have h:=h'; clear h'
  split at h
  ·rename_i hc
   obtain ⟨hlt,hle,h0⟩:=hc
   injection h with h
   subst h
   cases hv with
   | iptr _ a us ha hv' =>
    refine ⟨.pointer (some (a.add (n*s))),?_,VR.iptr_drop (.iptr _ a us ha hv')⟩
    simp [Instr.indexAt,asIntOf,Xas hu,Xbl hs,hlt,Instr.sureAddr]
  ·cases h
 ·cases h
theorem ixA_sound {t:TypeId} {x i y:AV} {v j:Value} (hv:VR η H w x v) (hj:VR η H w i j) (h:ixA P t x i=some y):∃ u,(Instr.index t v j).run P w=.ok u w∧VR η H w y u:=by
 unfold ixA at h
 obtain ⟨n,hn,h'⟩:=Option.bind_eq_some_iff.1 h
 clear h; have h:=h'; clear h'
 obtain ⟨k,rfl⟩:=Xfg hj hn
 split at h
 ·rename_i s hu
  obtain ⟨b,hb,rfl⟩:=Option.map_eq_some_iff.1 h
  cases hv with
  | str _ s' hs =>
   refine ⟨.int .u8 b.toNat,?_,.int _ _⟩
   have hsb:s'[n]? = some b:=by
    subst hs
    have:s'.data[n]? = some b:=by simpa using hb
    obtain ⟨hl,e⟩:=Array.getElem?_eq_some_iff.1 this
    have hl':n<s'.size:=hl
    rw [getElem?_pos s' n hl']
    exact congrArg some e
   simp [Instr.index,asIntOf,Xas hu,hsb]
 ·rename_i len e cs hu
  split at h
  ·rename_i hlt
   obtain ⟨s,hs,h'⟩:=Option.bind_eq_some_iff.1 h
   clear h; have h:=h'; clear h'
   cases hv with
   | agg _ vs hn' hc =>
    obtain ⟨u,hr,hy⟩:=Xgr (vs:=vs) ⟨hn',hc⟩ h
    exact ⟨u,by simp [Instr.index,asIntOf,Xas hu,Xbl hs,hlt,hr],hy⟩
  ·cases h
 ·cases h
theorem Xqa {y:AV} {v:Value} {i:Nat} {vs:List AV} (hv:VR η H w (.tup vs) v) (h:vs[i]? = some y):∃ u,(Instr.extract v i).run P w=.ok u w∧VR η H w y u:=by
 cases hv with
 | tup _ us hn hc =>
  have hi:i<us.size:=by rw [hn]; exact (List.getElem?_eq_some_iff.1 h).1
  exact ⟨us[i],by simp [Instr.extract,Array.getElem?_eq_getElem hi],hc i y _ h (Array.getElem?_eq_getElem hi)⟩
theorem fold_spl (c:Array Value) (off:Nat) (vs:List Value) (k:Nat):(vs.zipIdx k).foldl (fun cs (x:Value × Nat)=>cs.setIfInBounds (off+x.2) x.1) c=spl c (off+k) vs:=by
 induction vs generalizing c k with
 | nil=>rfl
 | cons v vs ih=>simp only [List.zipIdx_cons,List.foldl_cons,spl]; rw [ih]; rfl
theorem VRs_spl {cs xs:List AV} {c:Array Value} {vs:List Value} {off:Nat} (hc:VRs η H w cs c) (hn:vs.length=xs.length) (hv:∀ (j:Nat) z u,xs[j]? = some z→vs[j]? = some u→VR η H w z u) (hle:off+xs.length≤cs.length) :
  VRs η H w (Xd4 cs off xs) (spl c off vs):=by
 refine ⟨by rw [Xfo,Xdq hle]; exact hc.1,fun j z q hz hq=>?_⟩
 rw [Xjp hle] at hz
 rw [Xna _ _ _ _ (by rw [hn,hc.1]; exact hle),hn] at hq
 split at hz
 ·rename_i hin
  rw [if_pos hin] at hq
  exact hv _ z q hz hq
 ·rename_i hin
  rw [if_neg hin] at hq
  exact hc.2 j z q hz hq
theorem Xgo {pa pc:Nat→Option (Nat × Nat)} (hp:∀ i p,pa i=some p→pc i=some p):∀ (parts:List (Nat × AV)) (parts':List (Nat × Value)) (cs res:List AV) (c:Array Value),parts'.length=parts.length →
  (∀ (j:Nat) p q,parts[j]? = some p→parts'[j]? = some q→p.1=q.1∧VR η H w p.2 q.2)→VRs η H w cs c→Xhs pa cs parts=some res→∃ c',Instr.fill pc c parts'=some c'∧VRs η H w res c'
 | [],parts',cs,res,c,hl,_,hc,h=>by
  obtain rfl:parts'=[]:=List.eq_nil_of_length_eq_zero hl
  simp [Xhs] at h
  subst h
  exact ⟨c,rfl,hc⟩
 | _::parts,[],cs,res,c,hl,_,_,_=>by simp at hl
 | (i,x)::parts,(i',v)::parts',cs,res,c,hl,hr,hc,h=>by
  obtain ⟨e,hv⟩:=hr 0 _ _ rfl rfl
  simp only at e hv
  subst e
  simp only [Xhs] at h
  cases hpi:pa i with
  | none=>simp [hpi] at h
  | some p =>
   obtain ⟨off,size⟩:=p
   simp only [hpi] at h
   split at h
   ·rename_i hcond
    obtain ⟨hk,hs,hle⟩:=hcond
    obtain ⟨hn,hcell⟩:=hv.cells hk
    have hstep:=VRs_spl (off:=off) (vs:=v.cells.toList) hc (by simp [hn]) (fun j a u ha hu=>hcell j a u ha (by simpa using hu)) (by omega)
    obtain ⟨c',h1,h2⟩:=Xgo hp parts parts' _ res _ (by simpa using hl) (fun j p q hp' hq=>hr (j+1) p q (by simpa using hp') (by simpa using hq)) hstep h
    refine ⟨c',?_,h2⟩
    simp only [Instr.fill,hp i _ hpi]
    have hsz:=hc.1
    rw [if_neg (by simp; omega)]
    have:=fold_spl c off v.cells.toList 0
    rw [Nat.add_zero] at this
    rw [← h1]
    congr 1
    rw [← this]
    rw [← Array.foldl_toList]
    simp
   ·cases h
end Go.Proofs.YtmhhddhbdbcmbaaGreatDoor.Ev
