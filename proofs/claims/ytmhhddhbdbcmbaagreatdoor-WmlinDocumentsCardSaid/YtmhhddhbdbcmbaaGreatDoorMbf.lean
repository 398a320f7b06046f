/- Parts of one proof. -/
import Derived.Test.YtmhhddhbdbcmbaaGreatDoorMbe
set_option linter.all false
namespace Go.Proofs.YtmhhddhbdbcmbaaGreatDoor.Ev
variable {P:Program} {g:Cfg} {η:Nat→Option Nat} {H:Mem} {w:World}
theorem Xrh (r:Rel g η H w) {t:TypeId} {x:AV} {v:Value} {y:AV × Mem} (hv:VR η H w x v) (h:Xwh P H t x=some y):Xe8 P g η H w (Instr.range t v) y:=by
 unfold Xwh at h
 split at h
 ·rename_i s hu
  injection h with h; subst h
  cases hv with
  | str _ s' hs =>
   have e:=Ext.alloc r (.siter s 0) (.stringIter s' 0)
   have hs':(⟨s.toArray⟩ : ByteArray)=s':=by subst hs; rfl
   refine ⟨_,_,.pointer (some ⟨w.heap.size,0,none⟩),by simp [Instr.range,Xas hu],e,r.alloc _ _ rfl fun η' H' w' e hw=>by rw [← hs'] at hw; exact hw,.ptr _ _ _ _ (by simp) (Nat.zero_le _) fun _=>⟨_,Xkk,rfl⟩⟩
 ·rename_i kt et m hu
  cases hv with
  | map _ b hid hl =>
   have key:∀ (es:List (AV × AV)) (k:Nat),H[m]? = some (.map es)→(es=[]∧k=2∨∃ e,es=[e]∧k=0)→Xe8 P g η H w (Instr.range t (.map (some b))) (.ptr H.length 0 0,H++[.miter m k]):=by
    intro es k hm hk
    have hη:=hl ⟨_,hm,rfl⟩
    obtain ⟨ents,clk,h1,h2,h3,h4,_⟩:=r.blk m _ b hm hη
    have e:=Ext.alloc r (.miter m k) (.mapIter (some b) clk #[] clk)
    refine ⟨_,_,.pointer (some ⟨w.heap.size,0,none⟩),by simp [Instr.range,Xas hu,MapKept.run_getObj_map h1],e,r.alloc _ _ (by simp [Xcn]; omega) fun η' H' w' e hw=>?_,.ptr _ _ _ _ (by simp) (Nat.zero_le _) fun _=>⟨_,Xkk,rfl⟩⟩
    refine ⟨b,clk,#[],clk,hw,Nat.lt_of_lt_of_le hid e.len,fun hl'=>?_⟩
    obtain ⟨_,h6⟩:=Xhr e.toExtW hid (Nat.zero_le _) hl'
    obtain ⟨h7,h8⟩:=h6 b hη
    refine ⟨h7,fun hk0=>⟨rfl,?_⟩,fun hk1=>?_,fun _=>rfl⟩
    ·rcases hk with ⟨_,rfl⟩ | ⟨e0,rfl,_⟩
     ·cases hk0
     ·have hs:0<ents.size:=by rw [h2]; exact Nat.lt_succ_self _
      refine ⟨ents[0].born,h8 _ ?_,h4 0 _ (Array.getElem?_eq_getElem hs)⟩
      rw [Xet h1,Array.getElem?_eq_getElem hs]; rfl
    ·rcases hk with ⟨_,rfl⟩ | ⟨_,_,rfl⟩ <;> cases hk1
   split at h
   ·rename_i hm
    injection h with h; subst h
    exact key [] 2 hm (.inl ⟨rfl,rfl⟩)
   ·rename_i e hm
    injection h with h; subst h
    exact key [e] 0 hm (.inr ⟨e,rfl,rfl⟩)
   ·cases h
 ·cases h
theorem Xuk (r:Rel g η H w) {t:TypeId} {x:AV} {v:Value} {s:Bool} {y:AV × Mem} (hv:VR η H w x v) (h:nextA H x s=some y):Xe8 P g η H w (Instr.next v s t) y:=by
 unfold nextA at h
 split at h
 ·rename_i id st
  cases hv with
  | ptr _ _ _ a hid hst hl =>
   split at h
   ·rename_i s pos hb
    have hst0:st=0:=by
     have:Xor H id=0:=by simp [Xor,hb,Xk0]
     omega
    subst hst0
    obtain ⟨b,hη,rfl⟩:=hl ⟨_,hb,rfl⟩
    have hh:w.heap[b]? = some (.stringIter ⟨s.toArray⟩ pos):=r.blk id _ b hb hη
    have hlt:b<w.heap.size:=(Array.getElem?_eq_some_iff.1 hh).1
    have hsz:(⟨s.toArray⟩ : ByteArray).size=s.length:=by show s.toArray.size=_; simp
    split at h
    ·rename_i hp
     injection h with h; subst h
     have e1:Ext η H w η (H.set id (.siter s (pos+(Utf8.decode ⟨s.toArray⟩ pos).2))) (Xbi w b (.stringIter ⟨s.toArray⟩ (pos+(Utf8.decode ⟨s.toArray⟩ pos).2))):=Ext.put r hb hη (Nat.le_refl _) fun _ q hq=>by rw [Xn9 hh (fun _ _ _ h=>by cases h) (fun _ _ h=>by cases h)] at hq; cases hq
     refine ⟨η,_,.tuple #[.bool true,goInt pos,.int .i32 (Utf8.decode ⟨s.toArray⟩ pos).1],?_,e1,r.put hb hη e1 rfl (Xcy hlt),.tup _ _ rfl fun j c u hc hu=>?_⟩
     ·simp [Instr.next,getObj,Sem.run,hh,hsz,hp,setObj,Xbi]
     ·match j with
      | 0=>simp at hc hu; subst hc hu; exact .bool _
      | 1=>simp at hc hu; subst hc hu; exact .int _ _
      | 2=>simp at hc hu; subst hc hu; exact .int _ _
      | j+3=>simp at hc
    ·rename_i hp
     injection h with h; subst h
     refine ⟨η,w,.tuple #[.bool false],?_,Ext.refl,r,.tup _ _ rfl fun j c u hc hu=>?_⟩
     ·simp [Instr.next,getObj,Sem.run,hh,hsz,hp]
     ·match j with
      | 0=>simp at hc hu; subst hc hu; exact .bool _
      | j+1=>simp at hc
   ·cases h
 ·rename_i id st
  cases hv with
  | ptr _ _ _ a hid hst hl =>
   split at h
   ·rename_i m k hb
    have hst0:st=0:=by
     have:Xor H id=0:=by simp [Xor,hb,Xk0]
     omega
    subst hst0
    obtain ⟨b,hη,rfl⟩:=hl ⟨_,hb,rfl⟩
    obtain ⟨mb,since,seen,last,hh,hmlt,hr⟩:=r.blk id _ b hb hη
    have hlt:b<w.heap.size:=(Array.getElem?_eq_some_iff.1 hh).1
    split at h
    ·rename_i e hm
     injection h with h; subst h
     obtain ⟨hmη,hk0,_,_⟩:=hr ⟨_,hm,rfl⟩
     obtain ⟨rfl,b0,hs0,hb0⟩:=hk0 rfl
     obtain ⟨ents,clk,h1,h2,h3,h4,hcz⟩:=r.blk m _ mb hm hmη
     have hsz:ents.size=1:=h2
     obtain ⟨e0,he0⟩ : ∃ e0,ents = #[e0]:=by
      obtain ⟨l⟩:=ents
      match l,hsz with
      | [x],_=>exact ⟨x,rfl⟩
     subst he0
     rw [Xet h1] at hs0
     simp at hs0
     subst hs0
     have hc:=h4 0 e0 rfl
     have hkv:=h3 0 e.1 e.2 e0 rfl rfl
     have e1:Ext η H w η (H.set id (.miter m 1)) (Xbi w b (.mapIter (some mb) since #[e0.born] clk)):=Ext.put r hb hη (Nat.le_refl _) fun _ q hq=>by rw [Xn9 hh (fun _ _ _ h=>by cases h) (fun _ _ h=>by cases h)] at hq; cases hq
     have hne:b≠mb:=by
      intro e'; subst e'; rw [hh] at h1; cases h1
     refine ⟨η,_,.tuple #[.bool true,e0.key,e0.val],?_,e1,r.put hb hη e1 (by simp [Xcn]; exact hmlt) ⟨mb,since,#[e0.born],clk,Xcy hlt,by simpa using hmlt,fun _=>⟨hmη,fun h=>(by cases h),fun _=>⟨e0.born,rfl,?_,hc,hcz⟩,fun h=>(by cases h)⟩⟩,.tup _ _ rfl fun j c u hc hu=>?_⟩
     ·simp [Instr.next,getObj,Sem.run,hh,h1,hb0,choose,Question.forced,setObj,Xbi,Nat.not_le.2 hb0]
     ·rw [Xeg (Xjk hne.symm),Xet h1]; rfl
     ·match j with
      | 0=>simp at hc hu; subst hc hu; exact .bool _
      | 1=>simp at hc hu; subst hc hu; exact hkv.1.ext e1
      | 2=>simp at hc hu; subst hc hu; exact hkv.2.ext e1
      | j+3=>simp at hc
    ·rename_i e hm
     injection h with h; subst h
     obtain ⟨hmη,_,hk1,_⟩:=hr ⟨_,hm,rfl⟩
     obtain ⟨b0,rfl,hs0,hb0,_⟩:=hk1 rfl
     obtain ⟨ents,clk,h1,h2,h3,h4,hcz⟩:=r.blk m _ mb hm hmη
     have hsz:ents.size=1:=h2
     obtain ⟨e0,he0⟩ : ∃ e0,ents = #[e0]:=by
      obtain ⟨l⟩:=ents
      match l,hsz with
      | [x],_=>exact ⟨x,rfl⟩
     subst he0
     rw [Xet h1] at hs0
     simp at hs0
     subst hs0
     refine ⟨η,w,.tuple #[.bool false],?_,Ext.refl,r,.tup _ _ rfl fun j c u hc hu=>?_⟩
     ·simp [Instr.next,getObj,Sem.run,hh,h1,choose,Question.forced,Nat.not_le.2 hb0]
     ·match j with
      | 0=>simp at hc hu; subst hc hu; exact .bool _
      | j+1=>simp at hc
    ·rename_i hm
     injection h with h; subst h
     obtain ⟨hmη,_,_,hk2⟩:=hr ⟨_,hm,rfl⟩
     obtain rfl:=hk2 rfl
     obtain ⟨ents,clk,h1,h2,h3,h4,hcz⟩:=r.blk m _ mb hm hmη
     have he:ents = #[]:=Array.eq_empty_of_size_eq_zero h2
     subst he
     refine ⟨η,w,.tuple #[.bool false],?_,Ext.refl,r,.tup _ _ rfl fun j c u hc hu=>?_⟩
     ·simp [Instr.next,getObj,Sem.run,hh,h1,choose,Question.forced]
     ·match j with
      | 0=>simp at hc hu; subst hc hu; exact .bool _
      | j+1=>simp at hc
    ·cases h
   ·cases h
 ·cases h
theorem Xs2 (r:Rel g η H w) {op:BinOp} {t:TypeId} {X Y:Operand} {i o s j p q:Nat} {v u:Value} {res:Res1} (hx:VR η H w (.ptr i o s) v) (hy:VR η H w (.ptr j p q) u) (h:Xot P H op t i o s j p q=some res) :
  ∃ z,res=.val z H∧∃ c,((do eqGuard op t X Y v u; binOp op t v u:Sem Value)).run P w=.ok c w∧VR η H w z c:=by
 unfold Xot at h
 split at h
 ·rename_i e cs st ty hu hb
  split at h
  ·rename_i hc
   obtain ⟨rfl,rfl,rfl,rfl,hs⟩:=hc
   cases hx with
   | ptr _ _ _ a hid hst hl =>
    cases hy with
    | ptr _ _ _ a' hid' hst' hl' =>
     obtain ⟨b,hη,rfl⟩:=hl ⟨_,hb,rfl⟩
     obtain ⟨b',hη',rfl⟩:=hl' ⟨_,hb,rfl⟩
     rw [hη] at hη'
     injection hη' with hη'
     subst hη'
     obtain ⟨k,hk⟩:=Option.isSome_iff_exists.1 hs
     have hi:∃ ji,P.info? e=some ji:=by
      unfold szT at hk
      obtain ⟨ji,h1,_⟩:=Option.map_eq_some_iff.1 hk
      exact ⟨ji,h1⟩
     obtain ⟨ji,hi⟩:=hi
     have hd:∀ d:Nat,(Op.equalIn (d+1) t (.pointer (some ⟨b,o,none⟩)) (.pointer (some ⟨b,o,none⟩))).run P w=.ok true w:=fun d=>by
      simp [Op.equalIn,Xas hu,sizeOf,typeInfo,hi,sameAddr]
     have hE:(Op.equal t (.pointer (some ⟨b,o,none⟩)) (.pointer (some ⟨b,o,none⟩))).run P w=.ok true w:=by simp [Op.equal,Op.maxDepth,hd 9999]
     cases op <;> simp only at h <;> first | (cases h; done) | skip
     ·injection h with h; subst h
      exact ⟨_,rfl,.bool true,by
       have hg:(eqGuard .eql t X Y (.pointer (some ⟨b,o,none⟩)) (.pointer (some ⟨b,o,none⟩))).run P w=.ok () w:=rfl
       simp [hg,Xtr (u:=.pointer (some ⟨b,o,none⟩)) trivial,hE],.bool _⟩
     ·injection h with h; subst h
      exact ⟨_,rfl,.bool false,by
       have hg:(eqGuard .neq t X Y (.pointer (some ⟨b,o,none⟩)) (.pointer (some ⟨b,o,none⟩))).run P w=.ok () w:=rfl
       simp [hg,Xr8 (u:=.pointer (some ⟨b,o,none⟩)) trivial,hE],.bool _⟩
  ·cases h
 ·cases h
theorem Xtv (r:Rel g η H w) {x y:AV} {v:Value} (hv:VR η H w x v) (h:Xw3 H x=some y):∃ u,(Instr.entry v).run P w=.ok u w∧VR η H w y u:=by
 unfold Xw3 at h
 split at h
 ·rename_i id st
  cases hv with
  | ptr _ _ _ a hid hst hl =>
   split at h
   ·rename_i m hb
    have hst0:st=0:=by
     have:Xor H id=0:=by simp [Xor,hb,Xk0]
     omega
    subst hst0
    obtain ⟨b,hη,rfl⟩:=hl ⟨_,hb,rfl⟩
    obtain ⟨mb,since,seen,last,hh,hmlt,hr⟩:=r.blk id _ b hb hη
    split at h
    ·rename_i e hm
     injection h with h; subst h
     obtain ⟨hmη,_,hk1,_⟩:=hr ⟨_,hm,rfl⟩
     obtain ⟨b0,rfl,hs0,hb0,rfl⟩:=hk1 rfl
     obtain ⟨ents,clk,h1,h2,h3,h4,hcz⟩:=r.blk m _ mb hm hmη
     have hsz:ents.size=1:=h2
     obtain ⟨e0,he0⟩ : ∃ e0,ents = #[e0]:=by
      obtain ⟨l⟩:=ents
      match l,hsz with
      | [x],_=>exact ⟨x,rfl⟩
     subst he0
     rw [Xet h1] at hs0
     simp at hs0
     subst hs0
     have hcz:clk=1:=hcz
     subst hcz
     have hkv:=h3 0 e.1 e.2 e0 rfl rfl
     refine ⟨.tuple #[e0.key,e0.val],by simp [Instr.entry,getObj,Sem.run,hh,h1],.tup _ _ rfl fun j c u hc hu=>?_⟩
     match j with
     | 0=>simp at hc hu; subst hc hu; exact hkv.1
     | 1=>simp at hc hu; subst hc hu; exact hkv.2
     | j+2=>simp at hc
    ·cases h
   ·cases h
 ·cases h
theorem tup2 {x y:AV} {v u:Value} (hx:VR η H w x v) (hy:VR η H w y u):VR η H w (.tup [x,y]) (.tuple #[v,u]) :=
 .tup _ _ rfl fun j c q hc hu=>by
  match j with
  | 0=>simp at hc hu; subst hc hu; exact hx
  | 1=>simp at hc hu; subst hc hu; exact hy
  | j+2=>simp at hc
theorem Xq0 {x y:AV} {v:Value} {xt a:TypeId} {ok:Bool} (hv:VR η H w x v) (h:Xmz P x a ok=some y):∃ u,(Instr.typeAssert v xt a ok).run P w=.ok u w∧VR η H w y u:=by
 unfold Xmz at h
 split at h
 ·cases h
 ·rename_i d hn hu
  split at h
  ·rename_i hok
   obtain ⟨z,hz,rfl⟩:=Option.map_eq_some_iff.1 h
   obtain ⟨zv,hzr,rfl⟩:=Xeq (w:=w) hz
   cases hv
   refine ⟨.tuple #[zv,.bool false],?_,tup2 (Xf7 _) (.bool _)⟩
   cases d <;> first | exact (hn _ rfl).elim | simp [Instr.typeAssert,Xas hu,hok,hzr]
  ·cases h
 ·rename_i d t x hn hu
  split at h
  ·rename_i ht
   subst ht
   injection h with h; subst h
   cases hv with
   | iface _ _ u hx =>
    refine ⟨if ok then .tuple #[u,.bool true] else u,?_,?_⟩
    ·cases d <;> first | exact (hn _ rfl).elim | (cases ok <;> simp [Instr.typeAssert,Xas hu])
    ·cases ok
     ·exact hx
     ·exact tup2 hx (.bool _)
  ·rename_i ht
   split at h
   ·rename_i hok
    obtain ⟨z,hz,rfl⟩:=Option.map_eq_some_iff.1 h
    obtain ⟨zv,hzr,rfl⟩:=Xeq (w:=w) hz
    cases hv with
    | iface _ _ u hx =>
     refine ⟨.tuple #[zv,.bool false],?_,tup2 (Xf7 _) (.bool _)⟩
     cases d <;> first | exact (hn _ rfl).elim | simp [Instr.typeAssert,Xas hu,hok,hzr,ht]
   ·cases h
 ·cases h
theorem Xmq {ρ:Operand→AV} {ρ':Operand→Value} (hρ:∀ x,VR η H w (ρ x) (ρ' x)) (l:Array Operand):VRs η H w (l.toList.map ρ) (l.map ρ'):=by
 refine ⟨by simp,fun j c u hc hu=>?_⟩
 rw [List.getElem?_map] at hc
 rw [Array.getElem?_map] at hu
 obtain ⟨x,hx,rfl⟩:=Option.map_eq_some_iff.1 hc
 obtain ⟨y,hy,rfl⟩:=Option.map_eq_some_iff.1 hu
 have:x=y:=by
  rw [Array.getElem?_toList,hy] at hx
  injection hx with hx
  exact hx.symm
 subst this
 exact hρ x
theorem Xom {ρ:Operand→AV} {ρ':Operand→Value} (hρ:∀ x,VR η H w (ρ x) (ρ' x)) (l:Array (Nat × Operand)):Xvm η H w (l.toList.map fun p=>(p.1,ρ p.2)) (l.map fun (i,x)=>(i,ρ' x)):=by
 refine ⟨by simp,fun j p q hp hq=>?_⟩
 rw [List.getElem?_map] at hp
 rw [Array.getElem?_toList,Array.getElem?_map] at hq
 obtain ⟨x,hx,rfl⟩:=Option.map_eq_some_iff.1 hp
 obtain ⟨y,hy,rfl⟩:=Option.map_eq_some_iff.1 hq
 have:x=y:=by
  rw [Array.getElem?_toList,hy] at hx
  injection hx with hx
  exact hx.symm
 subst this
 exact ⟨rfl,hρ _⟩
theorem Xpz {ρ:Operand→AV} {ρ':Operand→Value} (hρ:∀ x,VR η H w (ρ x) (ρ' x)) (o:Option Operand):OptR η H w (o.map ρ) (o.map ρ'):=by
 cases o with
 | none=>trivial
 | some x=>exact hρ x
theorem VRs.append {xs ys:List AV} {vs us:Array Value} (h1:VRs η H w xs vs) (h2:VRs η H w ys us):VRs η H w (xs++ys) (vs++us):=by
 refine ⟨by simp [h1.1,h2.1],fun j c u hc hu=>?_⟩
 by_cases hj:j<xs.length
 ·rw [List.getElem?_append_left hj] at hc
  rw [Array.getElem?_append_left (by rw [h1.1]; exact hj)] at hu
  exact h1.2 j c u hc hu
 ·rw [List.getElem?_append_right (by omega)] at hc
  rw [Array.getElem?_append_right (by rw [h1.1]; omega),h1.1] at hu
  exact h2.2 _ c u hc hu
def Xck (P:Program) (g:Cfg) (η:Nat→Option Nat) (H:Mem) (w:World) (s:Sem Next):Res1→Prop
 | .val v H'=>∃ η' w' u,(s.run P w=.ok (.value u) w'∨(s.run P w=.ok .skip w'∧u=undef))∧Ext η H w η' H' w'∧Rel g η' H' w'∧VR η' H' w' v u
 | .pan v=>∃ u,s.run P w=.halt (.panic u) w∧VR η H w v u
 | .call f args=>∃ us,s.run P w=.ok (.enter f us) w∧VRs η H w args us
 | .dfr f args=>∃ k caps us,s.run P w=.ok (.defer { target:=.fn (.func k) caps,args:=us }) w∧VR η H w f (.func (.func k) #[] caps)∧VRs η H w args us
theorem Xck.ofMakes {s:Sem Value} {y:AV × Mem} (h:Xe8 P g η H w s y):Xck P g η H w (do pure (.value (← s))) (.val y.1 y.2):=by
 obtain ⟨η',w',u,h1,h2,h3,h4⟩:=h
 exact ⟨η',w',u,.inl (by simp [h1]),h2,h3,h4⟩
theorem Xck.ofVal (r:Rel g η H w) {s:Sem Value} {y:AV} (h:∃ u,s.run P w=.ok u w∧VR η H w y u):Xck P g η H w (do pure (.value (← s))) (.val y H) :=
 Xck.ofMakes (y:=(y,H)) (Xe8.same r h)
theorem Xck.ofUnit {s:Sem Unit} {H':Mem} (h:∃ w',s.run P w=.ok () w'∧Ext η H w η H' w'∧Rel g η H' w'):Xck P g η H w (do s; pure .skip) (.val (.tup []) H'):=by
 obtain ⟨w',h1,h2,h3⟩:=h
 exact ⟨η,w',undef,.inr ⟨by simp [h1],rfl⟩,h2,h3,.tup _ _ rfl fun j c u hc=>by simp at hc⟩
theorem Xa9 {r:Option AV} {H:Mem} {res:Res1} (h:Xbe r H=some res):∃ y,r=some y∧res=.val y H:=by
 obtain ⟨y,h1,h2⟩:=Option.map_eq_some_iff.1 h
 exact ⟨y,h1,h2.symm⟩
theorem Xeh {r:Option (AV × Mem)} {res:Res1} (h:Xlc r=some res):∃ y,r=some y∧res=.val y.1 y.2:=by
 obtain ⟨y,h1,h2⟩:=Option.map_eq_some_iff.1 h
 exact ⟨y,h1,h2.symm⟩
theorem Xpv {r:Option Mem} {res:Res1} (h:mkM r=some res):∃ y,r=some y∧res=.val (.tup []) y:=by
 obtain ⟨y,h1,h2⟩:=Option.map_eq_some_iff.1 h
 exact ⟨y,h1,h2.symm⟩
theorem Xok:∀ (xs:List AV) (vs:List Value) (x:Option AV) (v:Value) (y:AV),vs.length=xs.length→(∀ (j:Nat) c u,xs[j]? = some c→vs[j]? = some u→VR η H w c u)→(∀ x',x=some x'→VR η H w x' v) →
  xs.foldl Xkg x=some y→∃ u,(vs.foldlM Builtin.min2 v).run P w=.ok u w∧VR η H w y u
 | [],vs,x,v,y,hl,_,hx,h=>by
  obtain rfl:vs=[]:=List.eq_nil_of_length_eq_zero hl
  simp at h
  exact ⟨v,by simp,hx y h⟩
 | c::xs,[],x,v,y,hl,_,_,_=>by simp at hl
 | c::xs,u::vs,x,v,y,hl,hv,hx,h=>by
  have hc:=hv 0 c u rfl rfl
  simp only [List.foldl_cons] at h
  have hnone:∀ xs:List AV,xs.foldl Xkg none=none:=by
   intro xs; induction xs with
   | nil=>rfl
   | cons _ _ ih=>simpa [Xkg] using ih
  unfold Xkg at h
  split at h
  ·rename_i k a j b
   have h0:=hx _ rfl
   cases h0; cases hc
   obtain ⟨q,h1,h2⟩:=Xok xs vs (some (.int k (if b<a then b else a))) (.int k (if b<a then b else a)) y (by simpa using hl) (fun j c u hc hu=>hv (j+1) c u (by simpa using hc) (by simpa using hu)) (fun x' hx'=>by injection hx' with hx'; subst hx'; exact .int _ _) h
   exact ⟨q,by simp [List.foldlM_cons,Builtin.min2,h1],h2⟩
  ·have h':=hnone xs
   unfold Xkg at h'
   rw [h'] at h; cases h
theorem Xn5:∀ (xs:List AV) (vs:List Value) (x:Option AV) (v:Value) (y:AV),vs.length=xs.length→(∀ (j:Nat) c u,xs[j]? = some c→vs[j]? = some u→VR η H w c u)→(∀ x',x=some x'→VR η H w x' v) →
  xs.foldl Xgp x=some y→∃ u,(vs.foldlM Builtin.max2 v).run P w=.ok u w∧VR η H w y u
 | [],vs,x,v,y,hl,_,hx,h=>by
  obtain rfl:vs=[]:=List.eq_nil_of_length_eq_zero hl
  simp at h
  exact ⟨v,by simp,hx y h⟩
 | c::xs,[],x,v,y,hl,_,_,_=>by simp at hl
 | c::xs,u::vs,x,v,y,hl,hv,hx,h=>by
  have hc:=hv 0 c u rfl rfl
  simp only [List.foldl_cons] at h
  have hnone:∀ xs:List AV,xs.foldl Xgp none=none:=by
   intro xs; induction xs with
   | nil=>rfl
   | cons _ _ ih=>simpa [Xgp] using ih
  unfold Xgp at h
  split at h
  ·rename_i k a j b
   have h0:=hx _ rfl
   cases h0; cases hc
   obtain ⟨q,h1,h2⟩:=Xn5 xs vs (some (.int k (if b>a then b else a))) (.int k (if b>a then b else a)) y (by simpa using hl) (fun j c u hc hu=>hv (j+1) c u (by simpa using hc) (by simpa using hu)) (fun x' hx'=>by injection hx' with hx'; subst hx'; exact .int _ _) h
   exact ⟨q,by simp [List.foldlM_cons,Builtin.max2,h1],h2⟩
  ·have h':=hnone xs
   unfold Xgp at h'
   rw [h'] at h; cases h
theorem Xm2 (r:Rel g η H w) {o:Oper} {x:Operand} {a y:AV} {ρ':Operand→Value} (ho:o.op=.nilCheck x) (hv:VR η H w a (ρ' x)) (h:Xdz a=some y):Xck P g η H w (execOp ρ' o) (.val y H):=by
 unfold Xdz at h
 generalize hρ:ρ' x=v at hv
 split at h
 ·injection h with h; subst h
  refine ⟨η,w,v,.inl ?_,Ext.refl,r,hv⟩
  cases hv
  simp [execOp,ho,hρ]
 ·injection h with h; subst h
  refine ⟨η,w,v,.inl ?_,Ext.refl,r,hv⟩
  cases hv
  simp [execOp,ho,hρ]
 ·injection h with h; subst h
  refine ⟨η,w,v,.inl ?_,Ext.refl,r,hv⟩
  cases hv
  simp [execOp,ho,hρ]
 ·injection h with h; subst h
  refine ⟨η,w,v,.inl ?_,Ext.refl,r,hv⟩
  cases hv
  simp [execOp,ho,hρ]
 ·cases h
theorem Xnk (r:Rel g η H w) {b:Builtin} {ts:Array TypeId} {ty:TypeId} {cs:Array Bool} {args:List AV} {vs:Array Value} {res:Res1} (hv:VRs η H w args vs) (h:Xc0 P H b ts args=some res) :
  Xck P g η H w (builtin b ts ty cs vs) res:=by
 have vs1:∀ x,args=[x]→∃ v,vs = #[v]∧VR η H w x v:=by
  intro x e
  subst e
  have hl:=hv.1
  obtain ⟨l⟩:=vs
  match l,hl with
  | [v],_=>exact ⟨v,rfl,hv.2 0 x v rfl rfl⟩
 have vs2:∀ x y,args=[x,y]→∃ v u,vs = #[v,u]∧VR η H w x v∧VR η H w y u:=by
  intro x y e
  subst e
  have hl:=hv.1
  obtain ⟨l⟩:=vs
  match l,hl with
  | [v,u],_=>exact ⟨v,u,rfl,hv.2 0 x v rfl rfl,hv.2 1 y u rfl rfl⟩
 unfold Xc0 at h
 split at h
 ·rename_i x
  obtain ⟨v,rfl,hx⟩:=vs1 x rfl
  obtain ⟨t,ht,h⟩:=Option.bind_eq_some_iff.1 h
  obtain ⟨y,hy,rfl⟩:=Xa9 h
  exact Xck.ofVal r (Xx5 r hx ht hy)
 ·rename_i s x
  obtain ⟨v,u,rfl,hs,hx⟩:=vs2 s x rfl
  obtain ⟨t,ht,h⟩:=Option.bind_eq_some_iff.1 h
  obtain ⟨y,hy,rfl⟩:=Xeh h
  exact Xck.ofMakes (Xqg r hs hx ht hy)
 ·rename_i s x
  obtain ⟨v,u,rfl,hs,hx⟩:=vs2 s x rfl
  obtain ⟨t,ht,h⟩:=Option.bind_eq_some_iff.1 h
  obtain ⟨y,hy,rfl⟩:=Xeh h
  exact Xck.ofMakes (Xul r hs hx ht hy)
 ·obtain ⟨y,hy,rfl⟩:=Xa9 h
  refine Xck.ofVal r ?_
  obtain ⟨l⟩:=vs
  match args,l,hv with
  | x::xs,v::vs,hv =>
   obtain ⟨u,h1,h2⟩:=Xok (P:=P) (η:=η) (H:=H) (w:=w) xs vs (some x) v y (by simpa using hv.1) (fun j c u hc hu=>hv.2 (j+1) c u (by simpa using hc) (by simpa using hu)) (fun x' hx'=>by injection hx' with hx'; subst hx'; exact hv.2 0 x v rfl rfl) hy
   exact ⟨u,h1,h2⟩
  | [],_,_=>simp [minA] at hy
  | x::xs,[],hv=>have:=hv.1; simp at this
 ·obtain ⟨y,hy,rfl⟩:=Xa9 h
  refine Xck.ofVal r ?_
  obtain ⟨l⟩:=vs
  match args,l,hv with
  | x::xs,v::vs,hv =>
   obtain ⟨u,h1,h2⟩:=Xn5 (P:=P) (η:=η) (H:=H) (w:=w) xs vs (some x) v y (by simpa using hv.1) (fun j c u hc hu=>hv.2 (j+1) c u (by simpa using hc) (by simpa using hu)) (fun x' hx'=>by injection hx' with hx'; subst hx'; exact hv.2 0 x v rfl rfl) hy
   exact ⟨u,h1,h2⟩
  | [],_,_=>simp [maxA] at hy
  | x::xs,[],hv=>have:=hv.1; simp at this
 ·rename_i x
  obtain ⟨v,rfl,hx⟩:=vs1 x rfl
  obtain ⟨y,hy,rfl⟩:=Xa9 h
  exact Xck.ofVal r (Xky hx hy)
 ·rename_i s x
  obtain ⟨v,u,rfl,hs,hx⟩:=vs2 s x rfl
  obtain ⟨y,hy,rfl⟩:=Xeh h
  exact Xck.ofMakes (Xku r hs hx hy)
 ·cases h
theorem Xki {k:FuncId} {args:Array Value} (h:Xa1 P k=true):(callFunc k args).run P w=.ok (.enter k args) w:=by
 unfold Xa1 at h
 cases hf:P.funcs[k]? with
 | none=>simp [hf] at h
 | some fn =>
  simp [hf] at h
  simp [callFunc,hf,h.2]
  intro hn
  simp [hn] at h
theorem Xm4 (r:Rel g η H w) {ρ:Operand→AV} {ρ':Operand→Value} (hρ:∀ x,VR η H w (ρ x) (ρ' x)) {o:Oper} {res:Res1} (h:Xar P ρ o H=some res):Xck P g η H w (execOp ρ' o) res:=by
 unfold Xar at h
 split at h
 case h_1 x ho=>injection h with h; subst h; exact ⟨η,w,_,.inl (by simp only [execOp,ho]; rfl),Ext.refl,r,hρ x⟩
 case h_2 x ho=>injection h with h; subst h; exact ⟨η,w,_,.inl (by simp only [execOp,ho]; rfl),Ext.refl,r,hρ x⟩
 case h_3 c a b ho =>
  split at h
  ·rename_i t hc
   injection h with h; subst h
   have hcr:=hρ c
   rw [hc] at hcr
   refine ⟨η,w,if t then ρ' a else ρ' b,.inl ?_,Ext.refl,r,by cases t <;> exact hρ _⟩
   generalize hq:ρ' c=q at hcr
   cases hcr
   simp [execOp,ho,hq,asBool]
  ·cases h
 case h_4 elem ho =>
  obtain ⟨z,hz,h⟩:=Option.bind_eq_some_iff.1 h
  split at h
  ·rename_i hk
   injection h with h; subst h
   obtain ⟨zv,hzr,rfl⟩:=Xeq (w:=w) hz
   obtain ⟨η',w',h1,h2,h3,h4⟩:=Xpc (P:=P) r elem (Xf7 zv) hk
   exact ⟨η',w',_,.inl (by simp [execOp,ho,Instr.alloc,hzr,h1]),h2,h3,h4⟩
  ·cases h
 case h_5 elem x ho =>
  split at h
  ·rename_i hk
   injection h with h; subst h
   obtain ⟨η',w',h1,h2,h3,h4⟩:=Xpc (P:=P) r elem (hρ x) hk
   exact ⟨η',w',_,.inl (by simp [execOp,ho,Instr.box,h1]),h2,h3,h4⟩
  ·cases h
 case h_6 t parts ho =>
  obtain ⟨y,hy,rfl⟩:=Xa9 h
  have:=Xck.ofVal r (Xsa (Xom hρ parts) hy)
  simpa only [execOp,ho] using this
 case h_7 t n parts ho =>
  obtain ⟨y,hy,rfl⟩:=Xeh h
  have:=Xck.ofMakes (Xjw r (Xom hρ parts) hy)
  simpa only [execOp,ho] using this
 case h_8 t a ho =>
  obtain ⟨y,hy,rfl⟩:=Xa9 h
  have:=Xck.ofVal r (Xma r (hρ a) hy)
  simpa only [execOp,ho] using this
 case h_9 t a x ho =>
  obtain ⟨y,hy,rfl⟩:=Xpv h
  have:=Xck.ofUnit (Xsh (P:=P) r (hρ a) (hρ x) hy)
  simpa only [execOp,ho] using this
 case h_10 x ho =>
  obtain ⟨y,hy,rfl⟩:=Xa9 h
  exact Xm2 r ho (hρ x) hy
 case h_11 op t x y _ ho =>
  split at h
  ·rename_i i o s j p q e1 e2
   have h1:=hρ x
   have h2:=hρ y
   rw [e1] at h1
   rw [e2] at h2
   have:=Xs2 (X:=x) (Y:=y) r h1 h2 h
   obtain ⟨z,rfl,hz⟩:=this
   have:=Xck.ofVal r hz
   simpa only [execOp,ho] using this
  ·split at h
   ·rename_i hg
    obtain ⟨z,hz,rfl⟩:=Xa9 h
    have:=Xck.ofVal r (Xxx (hρ x) (hρ y) hg hz)
    simpa only [execOp,ho] using this
   ·cases h
 case h_12 op t x ho =>
  obtain ⟨y,hy,rfl⟩:=Xa9 h
  have:=Xck.ofVal r (unA_sound (P:=P) (hρ x) hy)
  simpa only [execOp,ho] using this
 case h_13 s d x ho =>
  obtain ⟨y,hy,rfl⟩:=Xeh h
  have:=Xck.ofMakes (Xu3 r (hρ x) hy)
  simpa only [execOp,ho] using this
 case h_14 t x ho =>
  split at h
  ·cases h
  ·rename_i d hn hu
   injection h with h; subst h
   refine ⟨η,w,.iface t (ρ' x),.inl ?_,Ext.refl,r,.iface _ _ _ (hρ x)⟩
   cases d <;> first | exact (hn _ rfl).elim | simp [execOp,ho,Instr.makeInterface,Xas hu]
  ·cases h
 case h_15 f first cap ho =>
  split at h
  ·rename_i h0
   injection h with h; subst h
   have hv:=Xmq hρ cap
   refine ⟨η,w,.func f #[] (cap.map ρ'),.inl ?_,Ext.refl,r,.fn _ _ _ hv.1 hv.2⟩
   have:first = #[]:=Array.eq_empty_of_size_eq_zero h0
   subst this
   simp [execOp,ho,Instr.makeFunc]
  ·cases h
 case h_16 t ho =>
  injection h with h; subst h
  have:=Xck.ofMakes (Xp4 (P:=P) r t)
  simpa only [execOp,ho,Option.map_none] using this
 case h_17 t l c ho =>
  obtain ⟨y,hy,rfl⟩:=Xeh h
  have:=Xck.ofMakes (Xk1 r (hρ l) (hρ c) hy)
  simpa only [execOp,ho] using this
 case h_18 t x lo hi ho =>
  obtain ⟨y,hy,rfl⟩:=Xa9 h
  have:=Xck.ofVal r (Xq7 r (hρ x) (Xpz hρ lo) (Xpz hρ hi) hy)
  simpa only [execOp,ho,Option.map_none] using this
 case h_19 s x i ho =>
  obtain ⟨y,hy,rfl⟩:=Xa9 h
  have:=Xck.ofVal r (Xkz (P:=P) (hρ x) hy)
  simpa only [execOp,ho] using this
 case h_20 t x i ho =>
  obtain ⟨y,hy,rfl⟩:=Xa9 h
  have:=Xck.ofVal r (Xsj (P:=P) (hρ x) hy)
  simpa only [execOp,ho] using this
 case h_21 t x i ho =>
  obtain ⟨y,hy,rfl⟩:=Xa9 h
  have:=Xck.ofVal r (Xqb (P:=P) (hρ x) (hρ i) hy)
  simpa only [execOp,ho] using this
 case h_22 t x i ho =>
  obtain ⟨y,hy,rfl⟩:=Xa9 h
  have:=Xck.ofVal r (ixA_sound (P:=P) (hρ x) (hρ i) hy)
  simpa only [execOp,ho] using this
 case h_23 t x i ok ho =>
  obtain ⟨y,hy,rfl⟩:=Xa9 h
  have:=Xck.ofVal r (Xpo r (hρ x) (hρ i) hy)
  simpa only [execOp,ho] using this
 case h_24 t m k v ho =>
  obtain ⟨y,hy,rfl⟩:=Xpv h
  have:=Xck.ofUnit (Xje (P:=P) r (hρ m) (hρ k) (hρ v) hy)
  simpa only [execOp,ho] using this
 case h_25 t x ho =>
  obtain ⟨y,hy,rfl⟩:=Xeh h
  have:=Xck.ofMakes (Xrh r (hρ x) hy)
  simpa only [execOp,ho] using this
 case h_26 it s ho =>
  obtain ⟨y,hy,rfl⟩:=Xeh h
  have:=Xck.ofMakes (Xuk (P:=P) (t:=o.type) r (hρ it) hy)
  simpa only [execOp,ho] using this
 case h_27 x xt a ok ho =>
  obtain ⟨y,hy,rfl⟩:=Xa9 h
  have:=Xck.ofVal r (Xq0 (P:=P) (xt:=xt) (hρ x) hy)
  simpa only [execOp,ho] using this
 case h_28 t i ho =>
  split at h
  ·rename_i vs ht
   obtain ⟨y,hy,rfl⟩:=Xa9 h
   have hr:=hρ t
   rw [ht] at hr
   have:=Xck.ofVal r (Xqa (P:=P) hr hy)
   simpa only [execOp,ho] using this
  ·cases h
 case h_29 x ho =>
  split at h
  ·rename_i t v hx
   injection h with h; subst h
   have hr:=hρ x
   rw [hx] at hr
   refine ⟨ρ' x,?_,hr⟩
   generalize hq:ρ' x=q at hr
   cases hr
   simp [execOp,ho,hq,Instr.panic]
  ·cases h
 case h_30 c ho =>
  split at h
  ·rename_i b hc
   have:=Xnk (P:=P) r (ty:=o.type) (cs:=c.args.map fun | .const _=>true | _=>false) (Xmq hρ c.args) h
   have he:execOp ρ' o=builtin b c.argTypes o.type (c.args.map fun | .const _=>true | _=>false) (c.args.map ρ'):=by
    simp only [execOp,ho,resolve,hc]; rfl
   rw [he]; exact this
  ·rename_i f hc
   split at h
   ·rename_i k cap hf
    split at h
    ·rename_i hk
     injection h with h; subst h
     have hr:=hρ f
     rw [hf] at hr
     generalize hq:ρ' f=q at hr
     cases hr with
     | fn _ _ vs hn hv =>
      refine ⟨c.args.map ρ'++vs,?_,(Xmq hρ c.args).append ⟨hn,hv⟩⟩
      have he:execOp ρ' o=callFunc k (c.args.map ρ'++vs):=by
       simp only [execOp,ho,resolve,hc,hq,Deferred.ofValue]
       simp [invoke]
      rw [he]; exact Xki hk
    ·split at h
     ·rename_i hk
      split at h
      ·rename_i x hx
       injection h with h; subst h
       have hr:=hρ f
       rw [hf] at hr
       generalize hq:ρ' f=q at hr
       cases hr with
       | fn _ _ vs hn hv =>
        have hva:=Xmq hρ c.args
        rw [hx] at hva
        have hvs:vs = #[]:=by apply Array.eq_empty_of_size_eq_zero; simpa using hn
        obtain ⟨y,hy⟩ : ∃ y,c.args.map ρ' = #[y]:=by
         have h1:=hva.1
         generalize c.args.map ρ'=l at h1
         obtain ⟨l⟩:=l
         match l,h1 with
         | [y],_=>exact ⟨y,rfl⟩
        rw [hy] at hva
        refine ⟨η,w,y,.inl ?_,Ext.refl,r,hva.2 0 x y rfl rfl⟩
        have he:execOp ρ' o=callFunc k (c.args.map ρ'++vs):=by
         simp only [execOp,ho,resolve,hc,hq,Deferred.ofValue]
         simp [invoke]
        rw [he,hy,hvs]
        exact noEsc_run hk y
      ·cases h
     ·cases h
   ·cases h
  ·cases h
 case h_31 c ho =>
  split at h
  ·rename_i f hc
   split at h
   ·rename_i k cap hf
    injection h with h; subst h
    have hr:=hρ f
    rw [hf] at hr
    generalize hq:ρ' f=q at hr
    cases hr with
    | fn _ _ vs hn hv =>
     refine ⟨k,vs,c.args.map ρ',?_,.fn _ _ vs hn hv,Xmq hρ c.args⟩
     simp [execOp,ho,resolve,hc,hq,Deferred.ofValue]
   ·cases h
  ·cases h
 case h_32 t m k v ho =>
  obtain ⟨y,hy,rfl⟩:=Xpv h
  have:=Xck.ofUnit (Xje (P:=P) r (hρ m) (hρ k) (hρ v) hy)
  simpa only [execOp,ho] using this
 case h_33 t x lo hi mx ho =>
  obtain ⟨y,hy,rfl⟩:=Xa9 h
  have:=Xck.ofVal r (Xqq r (hρ x) (Xpz hρ lo) (hρ hi) (hρ mx) hy)
  simpa only [execOp,ho,Option.map_some] using this
 case h_34 it ho =>
  obtain ⟨y,hy,rfl⟩:=Xa9 h
  have:=Xck.ofVal r (Xtv (P:=P) r (hρ it) hy)
  simpa only [execOp,ho] using this
 case h_35=>cases h
end Go.Proofs.YtmhhddhbdbcmbaaGreatDoor.Ev
