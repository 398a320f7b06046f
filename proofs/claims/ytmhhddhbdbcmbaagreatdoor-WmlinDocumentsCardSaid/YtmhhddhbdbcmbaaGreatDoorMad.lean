/- Parts of one proof. -/
import Derived.Test.YtmhhddhbdbcmbaaGreatDoorMac
set_option linter.all false
namespace Go.Proofs.YtmhhddhbdbcmbaaGreatDoor.Ev
variable {P:Program} {g:Cfg} {F:Xc5} {H:Mem}
theorem evI_arg (a:AAct) (x:Operand):a.evI g (Xb4 x)=a.eval g x:=by cases x <;> rfl
section
variable {ρ:Operand→AV} {σ:IArg→AV} (hσ:∀ x,σ (Xb4 x)=ρ x) {o:Oper} {r:Res1}
include hσ
theorem Xu0 {t a} (ho:o.op=.load t a) (h:opI P ρ σ (loadR P t a o) H=some r):Xar P ρ o H=some r:=by
 unfold loadR at h
 split at h
 ·rename_i hag
  split at h
  ·rename_i n hn
   simp only [opI,hσ] at h
   simp only [Xar,ho,Xqd,hag,hn,Xbe,Zo]
   rw [Option.map_map]
   exact h
  ·exact h
 ·rename_i hag
  simp only [opI,hσ] at h
  simp only [Xar,ho,Xqd,hag,Xbe] at h ⊢
  rw [Option.map_bind]
  exact h
 ·exact h
theorem Xhq (place:Nat→Option (Nat × Nat)):∀ (l:List (Nat × Operand)) (q:List (Nat × Nat × IArg)) (cells:List AV),Xoi place l=some q→∀ cs,Xt0 cells (q.map fun p=>(p.1,p.2.1,σ p.2.2))=some cs→Xhs place cells (l.map fun p=>(p.1,ρ p.2))=some cs
 | [],q,cells,h,cs,h2=>by
  simp only [Xoi] at h
  injection h with h; subst h
  exact h2
 | (i,x)::rest,q,cells,h,cs,h2=>by
  simp only [Xoi] at h
  split at h
  ·rename_i off size l hp hl
   injection h with h; subst h
   simp only [Zv,Xt0,hσ] at h2
   simp only [Zv,Xhs,hp]
   split at h2
   ·rename_i hc
    rw [if_pos hc]
    exact Xhq place rest l _ hl cs h2
   ·cases h2
  ·cases h
theorem Xyf {t parts} (ho:o.op=.build t parts) (h:opI P ρ σ (bldR P t parts.toList o) H=some r):Xar P ρ o H=some r:=by
 unfold bldR at h
 split at h
 ·exact h
 ·rename_i z hz
  split at h
  ·exact h
  ·rename_i hk
   split at h
   ·rename_i fields hu
    split at h
    ·rename_i hall
     split at h
     ·rename_i l hl
      simp only [opI] at h
      obtain ⟨cs,h1,rfl⟩:=Option.map_eq_some_iff.1 h
      have h2:=Xhq hσ _ _ _ _ hl _ h1
      have hbl:Xrp P t (parts.toList.map fun p=>(p.1,ρ p.2))=some (.agg cs):=by
       simp only [Xrp,hz,Zo,hu,if_neg hk,if_pos hall,h2,Zh]
      simp only [Xar,ho,hbl,Xbe,Zh]
     ·exact h
    ·exact h
   ·exact h
theorem Xub {t n parts} (ho:o.op=.buildSlice t n parts) (h:opI P ρ σ (bldSR P t n parts.toList o) H=some r):Xar P ρ o H=some r:=by
 unfold bldSR at h
 split at h
 ·rename_i elem hu
  split at h
  ·rename_i s z hs hz
   split at h
   ·rename_i hc
    split at h
    ·rename_i l hl
     simp only [opI] at h
     obtain ⟨cs,h1,rfl⟩:=Option.map_eq_some_iff.1 h
     have h2:=Xhq hσ _ _ _ _ hl _ h1
     have hbl:Xe6 P H t n (parts.toList.map fun p=>(p.1,ρ p.2))=some (.slc H.length 0 n s 0,H++[.row cs 0 (elem+1)]):=by
      simp only [Xe6,hz,hs,Zo,hu,if_pos hc,h2,Zh]
     simp only [Xar,ho,hbl,Xlc,Zh]
    ·exact h
   ·exact h
  ·exact h
 ·exact h
theorem Xq9 {s x i} (ho:o.op=.fieldAddr s x i) (h:opI P ρ σ (faddrR P s x i o) H=some r):Xar P ρ o H=some r:=by
 unfold faddrR at h
 split at h
 ·rename_i fields hu
  split at h
  ·rename_i f hf
   split at h
   ·rename_i m hm
    simp only [opI,hσ] at h
    simp only [Xar,ho,Xh5,hu,hf,Zo,hm,Xbe]
    split at h
    ·rename_i e; simp only [e,Zh]; exact h
    ·rename_i cs e
     split at h
     ·rename_i hc; simp only [e,if_pos hc,Zh]; exact h
     ·cases h
    ·cases h
   ·exact h
  ·exact h
 ·exact h
theorem Xxh {t x i} (ho:o.op=.field t x i) (h:opI P ρ σ (fldR P t x i o) H=some r):Xar P ρ o H=some r:=by
 unfold fldR at h
 split at h
 ·rename_i fields hu
  split at h
  ·rename_i f hf
   split at h
   ·rename_i n hag hn
    simp only [opI,hσ] at h
    simp only [Xar,ho,Xrr,hu,Xbe]
    split at h
    ·rename_i cs e
     split at h
     ·rename_i hc; simp only [e,hf,Zo,Xl9,hag,hn,if_pos hc,Zh]; exact h
     ·cases h
    ·cases h
   ·rename_i hag
    simp only [opI,hσ] at h
    simp only [Xar,ho,Xrr,hu,Xbe] at h ⊢
    split at h
    ·rename_i cs e
     simp only [e,hf,Zo,Xl9,hag]; exact h
    ·cases h
   ·exact h
  ·exact h
 ·exact h
theorem Xrl {t x i} (ho:o.op=.indexAddr t x i) (h:opI P ρ σ (iaddrR P t x i o) H=some r):Xar P ρ o H=some r:=by
 unfold iaddrR at h
 split at h
 ·rename_i len e hu
  split at h
  ·rename_i s hs
   simp only [opI,hσ] at h
   obtain ⟨j,hj,h⟩:=Option.bind_eq_some_iff.1 h
   simp only [Xar,ho,Xmn,hu,hj,Zo,Xbe]
   split at h
   ·rename_i e'
    split at h
    ·rename_i hc; simp only [e',hs,Zo,if_pos hc,Zh]; exact h
    ·cases h
   ·rename_i e'
    split at h
    ·rename_i hc; simp only [e',hs,Zo,if_pos hc,Zh]; exact h
    ·cases h
   ·cases h
  ·exact h
 ·rename_i e hu
  split at h
  ·rename_i s hs
   simp only [opI,hσ] at h
   obtain ⟨j,hj,h⟩:=Option.bind_eq_some_iff.1 h
   simp only [Xar,ho,Xmn,hu,hj,Zo,Xbe]
   split at h
   ·rename_i e'
    split at h
    ·rename_i hc; simp only [e',hs,hc.2,hc.1,and_self,if_true,Zh]; simpa only [hc.2] using h
    ·cases h
   ·rename_i e'
    split at h
    ·rename_i hc; simp only [e',hs,Zo,if_pos hc,Zh]; exact h
    ·cases h
   ·cases h
  ·exact h
 ·exact h
theorem ixR_sound {t x i} (ho:o.op=.index t x i) (h:opI P ρ σ (ixR P t x i o) H=some r):Xar P ρ o H=some r:=by
 unfold ixR at h
 split at h
 ·rename_i hu
  simp only [opI,hσ] at h
  obtain ⟨j,hj,h⟩:=Option.bind_eq_some_iff.1 h
  simp only [Xar,ho,ixA,hu,hj,Zo,Xbe]
  split at h
  ·rename_i e'
   simp only [e',Option.map_map]; exact h
  ·cases h
 ·exact h
theorem Xsv {op t x y b} (ho:o.op=.binOp op t x y b) (h:opI P ρ σ (.bin op (Xb4 x) (Xb4 y)) H=some r):Xar P ρ o H=some r:=by
 simp only [opI,hσ] at h
 simp only [Xar,ho]
 split at h
 ·rename_i e1 e2
  simp only [e1,e2,Xgz,Xxs,if_true]; exact h
 ·rename_i e1 e2
  simp only [e1,e2,Xgz,Xxs,if_true]; exact h
 ·cases h
theorem Xsn {neg:Bool} {op t x y b} (ho:o.op=.binOp op t x y b) (hu:P.underlying t=some .bool) (hop:op=if neg then .neq else .eql) (h:opI P ρ σ (.eqb neg (Xb4 x) (Xb4 y)) H=some r):Xar P ρ o H=some r:=by
 simp only [opI,hσ] at h
 split at h
 ·rename_i a c e1 e2
  simp only [Xar,ho,e1,e2,Xgz,if_true,Xxs]
  subst hop
  cases neg <;> simp [cmpA,Xu8,hu,eqA,Xbe] <;> simpa using h
 ·cases h
omit hσ in
theorem Xho {op t x y b} (ho:o.op=.binOp op t x y b) (hny:∀ j p q,ρ y≠.ptr j p q):Xar P ρ o H=if Xgz x y (ρ x) (ρ y) then Xbe (Xxs P op t (ρ x) (ρ y)) H else none:=by
 simp only [Xar,ho]
 split
 ·rename_i e; exact absurd e (hny _ _ _)
 ·rfl
theorem Xoe {neg:Bool} {op t x y b d w} (ho:o.op=.binOp op t x y b) (hu:P.underlying t=some d) (hw:nilR d y=some w) (hy:∀ v,ρ (.const v)=ofV v) (hop:op=if neg then .neq else .eql) (h:opI P ρ σ (.nilT neg w (Xb4 x)) H=some r):Xar P ρ o H=some r:=by
 simp only [opI,hσ] at h
 obtain ⟨c,hc,rfl⟩:=Option.map_eq_some_iff.1 h
 unfold nilR at hw
 split at hw
 ·rename_i v
  have hg:∀ z,Xgz x (.const v) (ρ x) z=true:=fun z=>by
   unfold Xgz; split <;> simp
  subst hop
  split at hw
  ·rename_i hv
   injection hw with hw; subst hw
   rw [Xho ho (by rw [hy,hv]; intros; simp)]
   simp only [hg,if_true,hy,hv,Xxs]
   cases neg <;> simp [cmpA,Xu8,hu,Xbe] <;> (generalize ρ x=q at hc ⊢; cases q <;> simp_all [Xhg,Xkr])
  ·rename_i hv
   injection hw with hw; subst hw
   rw [Xho ho (by rw [hy,hv]; intros; simp)]
   simp only [hg,if_true,hy,hv,Xxs]
   cases neg <;> simp [cmpA,Xu8,hu,Xbe] <;> (generalize ρ x=q at hc ⊢; cases q <;> simp_all [Xhg,Xrd])
  ·rename_i hv
   injection hw with hw; subst hw
   rw [Xho ho (by rw [hy,hv]; intros; simp)]
   simp only [hg,if_true,hy,hv,Xxs]
   cases neg <;> simp [cmpA,Xu8,hu,Xbe] <;> (generalize ρ x=q at hc ⊢; cases q <;> simp_all [Xhg,Xl6])
  ·rename_i hv
   injection hw with hw; subst hw
   rw [Xho ho (by rw [hy,hv]; intros; simp)]
   simp only [hg,if_true,hy,hv,Xxs]
   cases neg <;> simp [cmpA,Xu8,hu,Xbe] <;> (generalize ρ x=q at hc ⊢; cases q <;> simp_all [Xhg,Xu5])
  ·rename_i hv
   injection hw with hw; subst hw
   rw [Xho ho (by rw [hy,hv]; intros; simp)]
   simp only [hg,if_true,hy,hv,Xxs]
   cases neg <;> simp [cmpA,Xu8,hu,Xbe] <;> (generalize ρ x=q at hc ⊢; cases q <;> simp_all [Xhg,Xrk])
  ·cases hw
 ·cases hw
omit hσ in
theorem Xge:∀ (fs:List Field) (d:Nat) (pl:List (Nat × Nat)) (xs ys:List AV),Xny P fs=some pl→fs.length<d→∀ b,Xhn pl xs ys=some b→eqFA P d fs xs ys=some b
 | [],d,pl,xs,ys,h,_,b,hb=>by
  simp only [Xny] at h
  injection h with h; subst h
  simp only [Xhn] at hb
  unfold eqFA; exact hb
 | f::fs,0,_,_,_,_,h,_,_=>by omega
 | f::fs,d+1,pl,xs,ys,h,hd,b,hb=>by
  simp only [Zf] at hd
  simp only [Xny] at h
  unfold eqFA
  split at h
  ·rename_i hn
   rw [if_pos hn]
   exact Xge fs d pl xs ys h (by omega) b hb
  ·rename_i hn
   rw [if_neg hn]
   split at h
   ·rename_i r hag hu hr
    injection h with h; subst h
    simp only [Xhn] at hb
    simp only [Xl9,hag]
    obtain ⟨d',rfl⟩ : ∃ d',d=d'+1:=⟨d-1,by omega⟩
    cases hx:xs[f.offset]? with
    | none=>rw [hx] at hb; simp [Xg8] at hb
    | some x=>cases hy:ys[f.offset]? with
     | none=>rw [hx,hy] at hb; cases x <;> simp [Xg8] at hb
     | some y =>
      rw [hx,hy] at hb
      cases x <;> cases y <;> simp only [Xg8] at hb <;> first | cases hb | skip
      simp only [eqA,hu]
      split at hb
      ·rename_i hc
       simp only [Option.some.injEq] at hc
       simp only [hc]
       exact Xge fs (d'+1) r xs ys hr (by omega) b hb
      ·rename_i hc
       split
       ·rename_i h1; exact absurd h1 hc
       ·exact hb
   ·rename_i k r hag hu hr
    injection h with h; subst h
    simp only [Xhn] at hb
    simp only [Xl9,hag]
    obtain ⟨d',rfl⟩ : ∃ d',d=d'+1:=⟨d-1,by omega⟩
    cases hx:xs[f.offset]? with
    | none=>rw [hx] at hb; simp [Xg8] at hb
    | some x=>cases hy:ys[f.offset]? with
     | none=>rw [hx,hy] at hb; cases x <;> simp [Xg8] at hb
     | some y =>
      rw [hx,hy] at hb
      cases x <;> cases y <;> simp only [Xg8] at hb <;> first | cases hb | skip
      simp only [eqA,hu]
      split at hb
      ·rename_i hc
       simp only [hc]
       exact Xge fs (d'+1) r xs ys hr (by omega) b hb
      ·rename_i hc
       split
       ·rename_i h1; exact absurd h1 hc
       ·exact hb
   ·rename_i r hag hu hr
    injection h with h; subst h
    simp only [Xhn] at hb
    simp only [Xl9,hag]
    obtain ⟨d',rfl⟩ : ∃ d',d=d'+1:=⟨d-1,by omega⟩
    cases hx:xs[f.offset]? with
    | none=>rw [hx] at hb; simp [Xg8] at hb
    | some x=>cases hy:ys[f.offset]? with
     | none=>rw [hx,hy] at hb; cases x <;> simp [Xg8] at hb
     | some y =>
      rw [hx,hy] at hb
      cases x <;> cases y <;> simp only [Xg8] at hb <;> first | cases hb | skip
      simp only [eqA,hu]
      split at hb
      ·rename_i hc
       simp only [hc]
       exact Xge fs (d'+1) r xs ys hr (by omega) b hb
      ·rename_i hc
       split
       ·rename_i h1; exact absurd h1 hc
       ·exact hb
   ·cases h
theorem Xxv {neg:Bool} {op t x y b} (ho:o.op=.binOp op t x y b) (hop:op=if neg then .neq else .eql) (h:opI P ρ σ (eqSR P neg t x y o) H=some r):Xar P ρ o H=some r:=by
 unfold eqSR at h
 split at h
 ·rename_i fields hu
  split at h
  ·rename_i pl hpl
   split at h
   ·rename_i hc
    simp only [opI,hσ] at h
    split at h
    ·rename_i xs ys e1 e2
     obtain ⟨c,hcc,rfl⟩:=Option.map_eq_some_iff.1 h
     have he:eqA P 60 t (.agg xs) (.agg ys)=some c:=by
      simp only [eqA,hu,hc.2.1,Ze,if_false]
      exact Xge _ _ _ _ _ hpl (by simp; omega) _ hcc
     simp only [Xar,ho,e1,e2,Xgz,if_true,Xxs]
     subst hop
     cases neg <;> simp [cmpA,Xu8,hu,hc.1,he,Xbe]
    ·cases h
   ·exact h
  ·exact h
 ·exact h
theorem Xn7 {neg:Bool} {op t x y b} (ho:o.op=.binOp op t x y b) (hop:op=if neg then .neq else .eql) (h:opI P ρ σ (eqPR P neg t x y o) H=some r):Xar P ρ o H=some r:=by
 unfold eqPR at h
 split at h
 ·rename_i e hu
  split at h
  ·rename_i hs
   simp only [opI,hσ] at h
   split at h
   ·rename_i i oo s j p q e1 e2
    split at h
    ·rename_i cs st ty hb
     split at h
     ·rename_i hc
      simp only [Xar,ho,e1,e2,Xot,hu,hb]
      rw [if_pos ⟨hc.1,hc.2.1,hc.2.2.1,hc.2.2.2,hs⟩]
      subst hop
      cases neg <;> exact h
     ·cases h
    ·cases h
   ·cases h
  ·exact h
 ·exact Xxv hσ ho hop h
theorem Xx6 {op t x y b} (hy:∀ v,ρ (.const v)=ofV v) (ho:o.op=.binOp op t x y b) (h:opI P ρ σ (binR P op t x y o) H=some r):Xar P ρ o H=some r:=by
 unfold binR at h
 split at h
 ·exact Xsv hσ ho h
 ·exact Xsv hσ ho h
 ·rename_i hu
  split at h
  ·exact Xsn (neg:=false) hσ ho hu rfl h
  ·exact Xsn (neg:=true) hσ ho hu rfl h
  ·exact h
 ·rename_i d _ _ _ hu
  split at h
  ·rename_i w _ hw; exact Xoe (neg:=false) hσ ho hu hw hy rfl h
  ·rename_i w _ hw; exact Xoe (neg:=true) hσ ho hu hw hy rfl h
  ·exact Xn7 (neg:=false) hσ ho rfl h
  ·exact Xn7 (neg:=true) hσ ho rfl h
  ·exact h
 ·exact h
theorem Xye {c d x} (ho:o.op=.call c) (hc:c.callee=.builtin .copy) (hx:c.args.toList=[d,x]) (h:opI P ρ σ (cpyR P c.argTypes d x o) H=some r):Xar P ρ o H=some r:=by
 unfold cpyR at h
 split at h
 ·rename_i t ht
  split at h
  ·rename_i elem hu
   split at h
   ·rename_i s hs
    simp only [opI,hσ] at h
    simp only [Xar,ho,hc,Xc0,hx,Zv,Zz,ht,Zo,copyA,hu,hs]
    exact h
   ·exact h
  ·exact h
 ·exact h
theorem Xux {c} (ho:o.op=.call c) (h:opI P ρ σ (callR P c o) H=some r) (hf:∀ k,ρ (.func k)=.fn (.func k) []):Xar P ρ o H=some r:=by
 unfold callR at h
 split at h
 ·rename_i k hc
  split at h
  ·rename_i hk
   simp only [opI,List.map_map] at h
   simp only [Xar,ho,hc,hf,if_pos hk,Zs]
   rw [← h]
   congr 2
   exact List.map_congr_left fun x _=>by simp [hσ]
  ·rename_i hk
   split at h
   ·rename_i hne
    split at h
    ·rename_i x hx
     simp only [opI,hσ] at h
     simp only [Xar,ho,hc,hf,if_neg hk,if_pos hne,hx,Zv,Zz]
     exact h
    ·exact h
   ·exact h
 ·rename_i t hc
  simp only [opI,List.map_map] at h
  have ht:σ (.tmp t)=ρ (.tmp t):=hσ (.tmp t)
  rw [ht] at h
  have hm:c.args.toList.map (σ ∘ Xb4)=c.args.toList.map ρ:=List.map_congr_left fun x _=>by simp [hσ]
  rw [hm] at h
  simp only [Xar,ho,hc]
  split at h
  ·rename_i k cap e
   rw [e]
   simp only
   split at h
   ·rename_i hk; rw [if_pos hk]; exact h
   ·cases h
  ·cases h
 ·rename_i hc
  split at h
  ·rename_i x hx
   unfold lenR at h
   split at h
   ·rename_i t ht
    split at h
    ·rename_i hu
     simp only [opI,hσ] at h
     simp only [Xar,ho,hc,Xc0,hx,Zv,Zz,ht,Zo,lenA,hu,Xbe]
     split at h
     ·rename_i e; simp only [e,Zh]; exact h
     ·cases h
    ·rename_i hu
     simp only [opI,hσ] at h
     simp only [Xar,ho,hc,Xc0,hx,Zv,Zz,ht,Zo,lenA,hu,Xbe]
     split at h
     ·rename_i e; simp only [e,Zh]; exact h
     ·rename_i e; simp only [e,Zh]; exact h
     ·rename_i e; simp only [e,Zh]; exact h
     ·cases h
    ·rename_i hu
     simp only [opI,hσ] at h
     simp only [Xar,ho,hc,Xc0,hx,Zv,Zz,ht,Zo]
     rw [← h]
     congr 1
     generalize ρ x=q
     unfold lenA lenMD
     rw [hu]
     cases q <;> rfl
    ·exact h
   ·exact h
  ·exact h
 ·rename_i hc
  split at h
  ·rename_i s x hx
   unfold appR at h
   split at h
   ·rename_i t ht
    split at h
    ·rename_i elem hu
     split at h
     ·rename_i i hi
      split at h
      ·rename_i hcond
       simp only [opI,hσ] at h
       simp only [Xar,ho,hc,Xc0,hx,Zv,Zz,ht,Zo,Xqi,hu,hi,hcond.1,if_true]
       obtain ⟨p,hp,h⟩:=Option.bind_eq_some_iff.1 h
       simp only [hp,Zo]
       split at h
       ·rename_i hall
        rw [if_pos ⟨hall,hcond.2⟩]; exact h
       ·cases h
      ·exact h
     ·exact h
    ·exact h
   ·exact h
  ·exact h
 ·rename_i hc
  split at h
  ·rename_i d x hx
   exact Xye hσ ho hc hx h
  ·exact h
 ·rename_i hc
  have hm:c.args.toList.map (σ ∘ Xb4)=c.args.toList.map ρ:=List.map_congr_left fun x _=>by simp [hσ]
  simp only [opI,List.map_map,Ze,if_false] at h
  rw [hm] at h
  simp only [Xar,ho,hc,Xc0]
  exact h
 ·rename_i hc
  have hm:c.args.toList.map (σ ∘ Xb4)=c.args.toList.map ρ:=List.map_congr_left fun x _=>by simp [hσ]
  simp only [opI,List.map_map,if_true] at h
  rw [hm] at h
  simp only [Xar,ho,hc,Xc0]
  exact h
 ·exact h
theorem Xup {s d x} (ho:o.op=.convert s d x) (h:opI P ρ σ (convR P s d x o) H=some r):Xar P ρ o H=some r:=by
 unfold convR at h
 split at h
 ·rename_i ts k hs hd
  simp only [opI,hσ] at h
  split at h
  ·rename_i n e
   simp only [Xar,ho,Xnr,hs,hd,e,Xlc,Zh]; exact h
  ·cases h
 ·rename_i hs hd
  simp only [opI,hσ] at h
  split at h
  ·rename_i n e
   simp only [Xar,ho,Xnr,hs,hd,e,Xlc,Zh]; exact h
  ·cases h
 ·rename_i el hs hd
  split at h
  ·rename_i he
   simp only [opI,hσ] at h
   split at h
   ·rename_i l e
    split at h
    ·rename_i hl
     simp only [Xar,ho,Xnr,hs,hd,e,he,if_pos hl,Xlc,Zh]; exact h
    ·cases h
   ·cases h
  ·exact h
 ·rename_i el hs hd
  split at h
  ·rename_i he
   simp only [opI,hσ] at h
   obtain ⟨p,hp,h⟩:=Option.bind_eq_some_iff.1 h
   obtain ⟨l,hl,rfl⟩:=Option.map_eq_some_iff.1 h
   have key:Xnr P H s d (ρ x)=some (.str l,H):=by
    generalize ρ x=q at hp
    unfold Xnr
    rw [hs,hd]
    cases q <;> simp [Xcd] at hp <;> simp [Xcd,he,hp,hl] <;> first | rfl | skip
   simp only [Xar,ho,key,Xlc,Zh]
  ·exact h
 ·exact h
theorem Xxw {t m k ok} (ho:o.op=.lookup t m k ok) (h:opI P ρ σ (lkpR P t m k ok o) H=some r):Xar P ρ o H=some r:=by
 unfold lkpR at h
 split at h
 ·rename_i key elem hu
  split at h
  ·rename_i d z hd hz
   simp only [opI,hσ] at h
   simp only [Xar,ho]
   rw [← h]
   congr 1
   simp only [Xqu,hu,hd,Zo,Xj1,hz,Zh]
   rfl
  ·exact h
 ·exact h
theorem Xyi {t m k v} (ho:o.op=.mapUpdate t m k v) (h:opI P ρ σ (updR P t m k v o) H=some r):Xar P ρ o H=some r:=by
 unfold updR at h
 split at h
 ·rename_i key elem hu
  split at h
  ·rename_i d hd
   simp only [opI,hσ] at h
   simp only [Xar,ho]
   rw [← h]
   congr 1
   generalize ρ m=q
   unfold Xj0 Xjs
   rw [hu]
   cases q with
   | map id =>
    simp only [hd,Zo]
    cases hb:H[id]? with
    | none=>rfl
    | some x=>cases x <;> rfl
   | _=>rfl
  ·exact h
 ·exact h
theorem Xuy {t m k v} (ho:o.op=.insert t m k v) (h:opI P ρ σ (updR P t m k v o) H=some r):Xar P ρ o H=some r:=by
 unfold updR at h
 split at h
 ·rename_i key elem hu
  split at h
  ·rename_i d hd
   simp only [opI,hσ] at h
   simp only [Xar,ho]
   rw [← h]
   congr 1
   generalize ρ m=q
   unfold Xj0 Xjs
   rw [hu]
   cases q with
   | map id =>
    simp only [hd,Zo]
    cases hb:H[id]? with
    | none=>rfl
    | some x=>cases x <;> rfl
   | _=>rfl
  ·exact h
 ·exact h
theorem Xw8 {t x} (ho:o.op=.range t x) (h:opI P ρ σ (rngR P t x o) H=some r):Xar P ρ o H=some r:=by
 unfold rngR at h
 split at h
 ·rename_i hu
  simp only [opI,hσ] at h
  split at h
  ·rename_i s e
   simp only [Xar,ho,Xwh,hu,e,Xlc,Zh]; exact h
  ·cases h
 ·exact h
theorem Xyh {t l c} (ho:o.op=.makeSlice t l c) (h:opI P ρ σ (mksR P t l c o) H=some r):Xar P ρ o H=some r:=by
 unfold mksR at h
 split at h
 ·rename_i elem hu
  split at h
  ·rename_i i z hi hz
   split at h
   ·rename_i hc
    simp only [opI,hσ] at h
    obtain ⟨p,hp,rfl⟩:=Option.map_eq_some_iff.1 h
    unfold makeD at hp
    split at hp
    ·rename_i l0 c0 e1 e2
     split at hp
     ·rename_i hlc
      injection hp with hp; subst hp
      simp only [Xar,ho,Xhx,hu,e1,e2,hi,hz,Zo]
      rw [if_pos ⟨hlc.1,hlc.2.1,hlc.2.2,hc.1,hc.2.1,hc.2.2⟩]
      rfl
     ·cases hp
    ·cases hp
   ·exact h
  ·exact h
 ·exact h
theorem Xvg {x t a ok} (ho:o.op=.typeAssert x t a ok) (hl:∀ v,σ (.lit v)=v) (h:opI P ρ σ (asrtR P x a ok o) H=some r):Xar P ρ o H=some r:=by
 unfold asrtR at h
 split at h
 ·exact h
 ·rename_i d hni hu
  split at h
  ·rename_i z hz
   simp only [opI,hσ,hl] at h
   obtain ⟨p,hp,rfl⟩:=Option.map_eq_some_iff.1 h
   have key:Xmz P (ρ x) a ok=some p:=by
    generalize ρ x=q at hp
    unfold Xmz
    rw [hu]
    cases d <;> first | exact (hni _ rfl).elim | (cases q <;> simp [Xuu,hz] at hp ⊢ <;> exact hp)
   simp only [Xar,ho,key,Xbe,Zh]
  ·exact h
 ·exact h
theorem Xu1 {t x} (ho:o.op=.makeInterface t x) (h:opI P ρ σ (mkifR P t x o) H=some r):Xar P ρ o H=some r:=by
 unfold mkifR at h
 split at h
 ·exact h
 ·rename_i d hd hu
  simp only [opI,hσ] at h
  simp only [Xar,ho,hu]; exact h
 ·exact h
omit hσ in
theorem Xyj {elem} (ho:o.op=.alloc elem) (h:opI P ρ σ (newR P elem o) H=some r):Xar P ρ o H=some r:=by
 unfold newR at h
 split at h
 ·rename_i z hz
  split at h
  ·rename_i hk
   simp only [opI] at h
   simp only [Xar,ho,hz,Zo,if_pos hk,newA]; exact h
  ·exact h
 ·exact h
theorem Xri {t a x} (ho:o.op=.store t a x) (h:opI P ρ σ (storeR P t a x o) H=some r):Xar P ρ o H=some r:=by
 unfold storeR at h
 split at h
 ·rename_i n hn
  simp only [opI,hσ] at h
  split at h
  ·rename_i id off st e
   split at h
   ·rename_i cs st' ty hb
    split at h
    ·rename_i hc
     simp only [Xar,ho,Xth,e,hb,hn]
     rw [if_pos ⟨hc.1,by rw [hc.2.1],hc.2.2.1,hc.2.2.2⟩]
     exact h
    ·cases h
   ·cases h
  ·cases h
 ·exact h
theorem Xyk {t x lo hi} (ho:o.op=.slice t x lo hi none) (h:opI P ρ σ (cutR P t x lo hi o) H=some r):Xar P ρ o H=some r:=by
 have hm:∀ y:Option Operand,(y.map Xb4).map σ=y.map ρ:=fun y=>by cases y <;> simp [hσ]
 unfold cutR at h
 split at h
 ·rename_i hu
  simp only [opI,hσ,hm] at h
  obtain ⟨l,hl,h⟩:=Option.bind_eq_some_iff.1 h
  simp only [Xar,ho,Xko,hl,Zo,hu,Xbe]
  split at h
  ·rename_i s e
   obtain ⟨j,hj,h⟩:=Option.bind_eq_some_iff.1 h
   split at h
   ·rename_i hc
    simp only [e,hj,Zo,if_pos hc,Zh]; exact h
   ·cases h
  ·cases h
 ·rename_i el hu
  split at h
  ·rename_i s hs
   simp only [opI,hσ,hm] at h
   obtain ⟨p,hp,rfl⟩:=Option.map_eq_some_iff.1 h
   unfold cutSD at hp
   obtain ⟨l,hl,hp⟩:=Option.bind_eq_some_iff.1 hp
   simp only [Xar,ho,Xko,hl,Zo,hu,Xbe]
   split at hp
   ·rename_i id off len sz st e
    obtain ⟨j,hj,hp⟩:=Option.bind_eq_some_iff.1 hp
    split at hp
    ·rename_i hc
     simp only [e,hj,Zo]
     rw [if_pos ⟨hc.1,hc.2.1,by rw [hs,hc.2.2]⟩]
     simp only [Zh]
     injection hp with hp
     rw [hp]
    ·cases hp
   ·rename_i len cs e
    obtain ⟨j,hj,hp⟩:=Option.bind_eq_some_iff.1 hp
    split at hp
    ·rename_i hc
     simp only [e,hs,hj,Zo,if_pos hc,Zh]
     injection hp with hp
     rw [hp]
    ·cases hp
   ·rename_i e
    obtain ⟨j,hj,hp⟩:=Option.bind_eq_some_iff.1 hp
    split at hp
    ·rename_i hc
     simp only [e,hs,hj,Zo,if_pos hc,Zh]
     injection hp with hp
     rw [hp]
    ·cases hp
   ·cases hp
  ·exact h
 ·rename_i n el hu
  split at h
  ·rename_i s hs
   simp only [opI,hσ,hm] at h
   obtain ⟨p,hp,rfl⟩:=Option.map_eq_some_iff.1 h
   unfold cutAD at hp
   obtain ⟨l,hl,hp⟩:=Option.bind_eq_some_iff.1 hp
   simp only [Xar,ho,Xko,hl,Zo,hu,Xbe]
   split at hp
   ·rename_i id off st e
    obtain ⟨j,hj,hp⟩:=Option.bind_eq_some_iff.1 hp
    simp only [e,hs,hj,Zo]
    cases hb:H[id]? with
    | none=>rw [hb] at hp; cases hp
    | some x =>
     rw [hb] at hp
     cases x with
     | row cs st' ty =>
      simp only at hp ⊢
      rw [hp]; rfl
     | _=>cases hp
   ·cases hp
  ·exact h
 ·exact h
theorem Xuc {t x lo hi mx} (ho:o.op=.slice t x lo (some hi) (some mx)) (h:opI P ρ σ (cut3R P t x lo hi mx o) H=some r):Xar P ρ o H=some r:=by
 have hm:∀ y:Option Operand,(y.map Xb4).map σ=y.map ρ:=fun y=>by cases y <;> simp [hσ]
 unfold cut3R at h
 split at h
 ·rename_i el hu
  split at h
  ·rename_i s hs
   simp only [opI,hσ,hm] at h
   obtain ⟨p,hp,rfl⟩:=Option.map_eq_some_iff.1 h
   have key:Xip P t (ρ x) (lo.map ρ) (ρ hi) (ρ mx)=some p:=by
    unfold cut3D at hp
    unfold Xip
    obtain ⟨m,hmm,hp⟩:=Option.bind_eq_some_iff.1 hp
    obtain ⟨e,hee,hp⟩:=Option.bind_eq_some_iff.1 hp
    obtain ⟨l,hll,hp⟩:=Option.bind_eq_some_iff.1 hp
    simp only [hmm,hee,hll,Zo,hu]
    split at hp
    ·rename_i e1
     split at hp
     ·rename_i hc
      simp only [e1]
      rw [if_pos ⟨hc.1,hc.2.1,hc.2.2.1,by rw [hs,hc.2.2.2]⟩]; exact hp
     ·cases hp
    ·rename_i e1
     split at hp
     ·rename_i hc
      simp only [e1]
      rw [if_pos ⟨hc.1,hc.2.1,hc.2.2,by rw [hs]; rfl⟩]; exact hp
     ·cases hp
    ·cases hp
   simp only [Xar,ho,key,Xbe,Zh]
  ·exact h
 ·exact h
theorem Xm8 (hlit:∀ v,σ (.lit v)=v) (hy:∀ v,ρ (.const v)=ofV v) (hf:∀ k,ρ (.func k)=.fn (.func k) []) (h:opI P ρ σ (Xhk P o) H=some r):Xar P ρ o H=some r:=by
 unfold Xhk at h
 split at h
 ·rename_i ho; simp only [opI,hσ] at h; simp only [Xar,ho]; exact h
 ·rename_i ho; simp only [opI,hσ] at h; simp only [Xar,ho]; exact h
 ·rename_i c a b ho
  simp only [opI,hσ] at h
  simp only [Xar,ho]
  split at h
  ·rename_i e; simp only [e,if_true]; exact h
  ·rename_i e; simp only [e]; exact h
  ·cases h
 ·rename_i ho; exact Xyj ho h
 ·rename_i ho
  simp only [opI,hσ] at h
  simp only [Xar,ho,newA]; exact h
 ·rename_i ho; exact Xyf hσ ho h
 ·rename_i ho; exact Xub hσ ho h
 ·rename_i ho; exact Xu0 hσ ho h
 ·rename_i ho; exact Xri hσ ho h
 ·rename_i ho; exact Xx6 hσ hy ho h
 ·rename_i ho; simp only [opI,hσ] at h; simp only [Xar,ho]; exact h
 ·rename_i ho; exact Xup hσ ho h
 ·rename_i ho; exact Xu1 hσ ho h
 ·rename_i ho; exact Xyk hσ ho h
 ·rename_i ho; exact Xq9 hσ ho h
 ·rename_i ho; exact Xxh hσ ho h
 ·rename_i ho; exact Xrl hσ ho h
 ·rename_i ho; exact ixR_sound hσ ho h
 ·rename_i ho; exact Xux hσ ho h hf
 ·rename_i ho
  simp only [opI,hσ] at h
  simp only [Xar,ho]; exact h
 ·rename_i ho; simp only [opI,hσ] at h; simp only [Xar,ho]; exact h
 ·rename_i f first cap ho
  split at h
  ·rename_i hc
   simp only [opI,List.map_map] at h
   have hm:cap.toList.map (σ ∘ Xb4)=cap.toList.map ρ:=List.map_congr_left fun x _=>by simp [hσ]
   rw [hm] at h
   simp only [Xar,ho,if_pos hc]; exact h
  ·exact h
 ·rename_i ho; exact Xuc hσ ho h
 ·rename_i ho; exact Xxw hσ ho h
 ·rename_i ho; exact Xyi hσ ho h
 ·rename_i ho; exact Xuy hσ ho h
 ·rename_i ho; simp only [opI] at h; simp only [Xar,ho]; exact h
 ·rename_i ho; exact Xw8 hσ ho h
 ·rename_i ho; simp only [opI,hσ] at h; simp only [Xar,ho]; exact h
 ·rename_i ho; simp only [opI,hσ] at h; simp only [Xar,ho]; exact h
 ·rename_i ho; exact Xyh hσ ho h
 ·rename_i ho; simp only [opI,hσ] at h; simp only [Xar,ho]; exact h
 ·rename_i ho; exact Xvg hσ ho hlit h
 ·exact h
end
end Go.Proofs.YtmhhddhbdbcmbaaGreatDoor.Ev
