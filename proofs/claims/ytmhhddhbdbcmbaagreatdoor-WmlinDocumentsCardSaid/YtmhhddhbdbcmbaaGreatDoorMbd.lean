/- Parts of one proof. -/
import Derived.Test.YtmhhddhbdbcmbaaGreatDoorMbc
import Derived.Laws.StructEq
import Derived.WalkSpells
set_option linter.all false
namespace Go.Proofs.YtmhhddhbdbcmbaaGreatDoor.Ev
variable {P:Program} {g:Cfg} {η:Nat→Option Nat} {H:Mem} {w:World}
theorem Xxo {op:BinOp} {k:IntKind} {a b:Int} {y:AV} (h:Xns op k a b=some y) (t:TypeId) (hsh:op≠.shl∧op≠.shr):∃ u,(binOp op t (.int k a) (.int k b)).run P w=.ok u w∧VR η H w y u:=by
 unfold Xns at h
 split at h
 case h_4 =>
  split at h
  ·cases h
  ·rename_i hb
   injection h with h; subst h
   exact ⟨_,by simp [binOp,Op.intDiv,hb],.int _ _⟩
 case h_5 =>
  split at h
  ·cases h
  ·rename_i hb
   injection h with h; subst h
   exact ⟨_,by simp [binOp,Op.intDiv,hb],.int _ _⟩
 all_goals first
  | (injection h with h; subst h; refine ⟨_,?_,.int _ _⟩; simp only [binOp,ne_eq,not_true_eq_false,if_false]; rfl)
  | (injection h with h; subst h; refine ⟨_,?_,.bool _⟩; simp only [binOp,ne_eq,not_true_eq_false,if_false]; rfl)
  | (simp at hsh; done)
  | cases h
theorem Xkf (s:ByteArray):s.toList=s.data.toList:=ByteArray.toList_eq ..
theorem Xxz {op:BinOp} {a b:List UInt8} {s s':ByteArray} {y:AV} (hs:s.data.toList=a) (hs':s'.data.toList=b) (h:Xyn op a b=some y) (t:TypeId):∃ u,(binOp op t (.string s) (.string s')).run P w=.ok u w∧VR η H w y u:=by
 subst hs hs'
 unfold Xyn at h
 split at h
 case h_1 =>
  split at h
  ·rename_i hle
   injection h with h; subst h
   refine ⟨.string (s++s'),?_,.str _ _ (by simp)⟩
   have h1:s.size=s.data.toList.length:=(Array.length_toList ..).symm
   have h2:s'.size=s'.data.toList.length:=(Array.length_toList ..).symm
   have hn:¬ (((s.size+s'.size:Nat):Int)>IntKind.i64.max):=by simp [IntKind.max,IntKind.bits,IntKind.signed]; omega
   simp only [binOp,Op.stringOp]
   rw [if_neg hn]
   rfl
  ·cases h
 all_goals first
  | (injection h with h; subst h; refine ⟨_,?_,.bool _⟩; simp only [binOp,Op.stringOp,Xkf]; rfl)
  | (injection h with h; subst h; refine ⟨_,?_,.bool _⟩; simp [binOp,Op.stringOp,Xkf]; done)
  | cases h
theorem Xks {op:BinOp} {k j:IntKind} {a b:Int} {y:AV} (h:Xlf op k a b=some y) (t:TypeId) (hop:op=.shl∨op=.shr):∃ u,(binOp op t (.int k a) (.int j b)).run P w=.ok u w∧VR η H w y u:=by
 unfold Xlf at h
 split at h
 ·cases h
 ·rename_i hb
  rcases hop with rfl | rfl
  ·injection h with h; subst h
   refine ⟨_,?_,.int _ _⟩
   simp only [binOp,Op.shift,hb,if_false]; rfl
  ·injection h with h; subst h
   refine ⟨_,?_,.int _ _⟩
   simp only [binOp,Op.shift,hb,if_false]; rfl
theorem unA_sound {op:UnOp} {x y:AV} {v:Value} (hv:VR η H w x v) (h:unA op x=some y):∃ u,(Op.unary op v).run P w=.ok u w∧VR η H w y u:=by
 unfold unA at h
 split at h
 ·injection h with h; subst h
  cases hv
  exact ⟨_,rfl,.int _ _⟩
 ·cases hv
  simp only [Xns] at h
  injection h with h; subst h
  exact ⟨_,rfl,.int _ _⟩
 ·injection h with h; subst h
  cases hv
  exact ⟨_,rfl,.bool _⟩
 ·cases h
theorem Xl8 (w:World):∀ d:Nat,(∀ (t:TypeId) (x y:AV) (v u:Value) (b:Bool),VR η H w x v→VR η H w y u→eqA P d t x y=some b→∀ D,d≤D→(Op.equalIn D t v u).run P w=.ok b w) ∧
  (∀ (fs:List Field) (xs ys:List AV) (vs us:Array Value) (b:Bool),VRs η H w xs vs→VRs η H w ys us→eqFA P d fs xs ys=some b→∀ D,d≤D→(Op.eqFields D vs us fs).run P w=.ok b w)
 | 0=>⟨fun t x y v u b _ _ h=>by simp [eqA] at h,fun fs xs ys vs us b _ _ h D _=>by
   cases fs with
   | nil=>simp [eqFA] at h; subst h; simp [Op.eqFields]
   | cons f fs=>simp [eqFA] at h⟩
 | d+1=>by
  obtain ⟨ih1,ih2⟩:=Xl8 w d
  refine ⟨fun t x y v u b hx hy h D hD=>?_,fun fs xs ys vs us b hxs hys h D hD=>?_⟩
  ·obtain ⟨D,rfl⟩ : ∃ k,D=k+1:=⟨D-1,by omega⟩
   unfold eqA at h
   split at h
   ·rename_i hu
    injection h with h; subst h
    cases hx; cases hy
    simp [Op.equalIn,Xas hu]
   ·rename_i hu
    split at h
    ·rename_i hk
     injection h with h; subst h
     cases hx; cases hy
     simp [Op.equalIn,Xas hu,hk]
    ·cases h
   ·rename_i hu
    injection h with h; subst h
    cases hx with
    | str _ s hs =>
     cases hy with
     | str _ s' hs' =>
      subst hs hs'
      rw [run_equalIn_string w D t s s' hu,Xkf,Xkf]
   ·rename_i fields xs ys hu
    split at h
    ·cases h
    ·rename_i hst
     cases hx with
     | agg _ vs hn hc =>
      cases hy with
      | agg _ us hn' hc' =>
       have:=ih2 _ _ _ vs us b ⟨hn,hc⟩ ⟨hn',hc'⟩ h D (by omega)
       have hfo:P.fieldsOf t=fields:=by simp [Program.fieldsOf,hu]
       rw [run_equalIn_struct w D t vs us (by rw [hfo]; exact hu) (by simpa using hst),hfo]
       exact this
   ·cases h
  ·cases fs with
   | nil=>simp [eqFA] at h; subst h; simp [Op.eqFields]
   | cons f fs =>
    simp only [eqFA] at h
    split at h
    ·rename_i hf
     have:=ih2 fs xs ys vs us b hxs hys h D (by omega)
     simp [Op.eqFields,hf,this]
    ·rename_i hf
     split at h
     ·rename_i a c ha hc
      obtain ⟨ua,hra,hva⟩:=Xgr (P:=P) hxs ha
      obtain ⟨uc,hrc,hvc⟩:=Xgr (P:=P) hys hc
      split at h
      ·rename_i he
       have h1:=ih1 _ _ _ ua uc true hva hvc he D (by omega)
       have h2:=ih2 fs xs ys vs us b hxs hys h D (by omega)
       simp [Op.eqFields,hf,hra,hrc,h1,h2]
      ·rename_i hne
       cases b with
       | true=>exact absurd h hne
       | false =>
        have h1:=ih1 _ _ _ ua uc false hva hvc h D (by omega)
        simp [Op.eqFields,hf,hra,hrc,h1]
     ·cases h
section
variable {t e k:TypeId}
theorem Xu6 (d:Nat) {v:Option Addr} (hu:P.underlying t=some (.pointer e)):(Op.equalIn (d+1) t (.pointer v) (.pointer none)).run P w=.ok v.isNone w:=by
 cases v <;> (simp only [Op.equalIn,Sem.run_bind,Xas hu,Result.andThen_ok]; rfl)
theorem eqd_sl (d:Nat) {v:Option Addr} {l c:Nat} (hu:P.underlying t=some (.slice e)):(Op.equalIn (d+1) t (.slice v l c) (.slice none 0 0)).run P w=.ok v.isNone w:=by
 cases v <;> (simp only [Op.equalIn,Sem.run_bind,Xas hu,Result.andThen_ok]; rfl)
theorem eqd_map (d:Nat) {v:Option Nat} (hu:P.underlying t=some (.map k e)):(Op.equalIn (d+1) t (.map v) (.map none)).run P w=.ok v.isNone w:=by
 cases v <;> (simp only [Op.equalIn,Sem.run_bind,Xas hu,Result.andThen_ok]; rfl)
theorem eqd_fn (d:Nat) {v:Value} {a b:Array TypeId} {c:Bool} (hu:P.underlying t=some (.func a b c)) (hv:v=.nilFunc∨∃ f x y,v=.func f x y):(Op.equalIn (d+1) t v .nilFunc).run P w=.ok (match v with | .nilFunc=>true | _=>false) w:=by
 rcases hv with rfl | ⟨f,x,y,rfl⟩ <;> (simp only [Op.equalIn,Sem.run_bind,Xas hu,Result.andThen_ok]; rfl)
theorem eqd_if (d:Nat) {v:Value} {a:Array (String × TypeId)} (hu:P.underlying t=some (.interface a)) (hv:v=.nilIface∨∃ x y,v=.iface x y):(Op.equalIn (d+1) t v .nilIface).run P w=.ok (match v with | .nilIface=>true | _=>false) w:=by
 rcases hv with rfl | ⟨x,y,rfl⟩ <;> (simp only [Op.equalIn,Sem.run_bind,Xas hu,Result.andThen_ok]; rfl)
end
theorem Xo4 {t:TypeId} {x y:AV} {v u:Value} {b:Bool} (hx:VR η H w x v) (hy:VR η H w y u) (h:Xu8 P t x y=some b):(Op.equal t v u).run P w=.ok b w:=by
 unfold Xu8 at h
 split at h
 ·rename_i e hu
  cases hy
  unfold Xkr at h
  split at h
  ·injection h with h; subst h; cases hx; exact Xu6 9999 hu
  ·injection h with h; subst h; cases hx; exact Xu6 9999 hu
  ·injection h with h; subst h; cases hx; exact Xu6 9999 hu
  ·cases h
 ·rename_i e hu
  cases hy
  unfold Xrd at h
  split at h
  ·injection h with h; subst h; cases hx; exact eqd_sl 9999 hu
  ·injection h with h; subst h; cases hx; exact eqd_sl 9999 hu
  ·injection h with h; subst h
   cases hx with
   | lst n cells a cap us hc ha hv =>
    obtain ⟨ad,rfl,_⟩:=ha 0 _ rfl
    exact eqd_sl 9999 hu
  ·cases h
 ·rename_i e hu
  cases hy
  unfold Xl6 at h
  split at h
  ·injection h with h; subst h; cases hx; exact eqd_map 9999 hu
  ·injection h with h; subst h; cases hx; exact eqd_map 9999 hu
  ·cases h
 ·rename_i e hu
  cases hy
  unfold Xu5 at h
  split at h
  ·injection h with h; subst h; cases hx; exact eqd_fn 9999 hu (.inl rfl)
  ·injection h with h; subst h; cases hx; exact eqd_fn 9999 hu (.inr ⟨_,_,_,rfl⟩)
  ·cases h
 ·rename_i e hu
  cases hy
  unfold Xrk at h
  split at h
  ·injection h with h; subst h; cases hx; exact eqd_if 9999 hu (.inl rfl)
  ·injection h with h; subst h; cases hx; exact eqd_if 9999 hu (.inr ⟨_,_,rfl⟩)
  ·cases h
 ·split at h
  ·cases h
  ·exact (Xl8 w 60).1 _ _ _ _ _ _ hx hy h 10000 (by omega)
 ·exact (Xl8 w 1).1 _ _ _ _ _ _ hx hy h 10000 (by omega)
 ·cases h
theorem Xr2 {op:BinOp} {k j:IntKind} {a b:Int} {y:AV} (h:Xmv op k j a b=some y) (t:TypeId):∃ u,(binOp op t (.int k a) (.int j b)).run P w=.ok u w∧VR η H w y u:=by
 unfold Xmv at h
 split at h
 ·exact Xks h t (.inl rfl)
 ·exact Xks h t (.inr rfl)
 ·rename_i hn1 hn2
  split at h
  ·rename_i hk
   subst hk
   exact Xxo h t ⟨hn1,hn2⟩
  ·cases h
def Odd:Value→Prop
 | .int _ _ | .float _ _ | .complex _ _ _ | .string _=>False
 | _=>True
theorem Xtr {t:TypeId} {v u:Value} (hu:Odd u):binOp .eql t v u=(do pure (.bool (← Op.equal t v u))):=by
 cases u <;> simp only [Odd] at hu <;> cases v <;> rfl
theorem Xr8 {t:TypeId} {v u:Value} (hu:Odd u):binOp .neq t v u=(do pure (.bool (!(← Op.equal t v u)))):=by
 cases u <;> simp only [Odd] at hu <;> cases v <;> rfl
theorem Xvr {t:TypeId} {x y:AV} {u:Value} {b:Bool} (hy:VR η H w y u) (h:Xu8 P t x y=some b):Odd u:=by
 unfold Xu8 at h
 split at h <;> first
  | (cases h; done)
  | (cases hy; trivial)
theorem Xlo {op:BinOp} {t:TypeId} {X Y:Operand} {v u:Value} (h:match u with | .nilIface | .agg _=>False | _=>True):(eqGuard op t X Y v u).run P w=.ok () w:=by
 cases u <;> simp only at h <;> cases v <;> cases op <;> rfl
theorem Xo7 {op:BinOp} {t:TypeId} {X Y:Operand} {x y:AV} {v u:Value} {b:Bool} (hx:VR η H w x v) (hy:VR η H w y u) (hg:Xgz X Y x y=true) (h:Xu8 P t x y=some b):(eqGuard op t X Y v u).run P w=.ok () w:=by
 unfold Xu8 at h
 split at h
 ·cases hy; exact Xlo trivial
 ·cases hy; exact Xlo trivial
 ·cases hy; exact Xlo trivial
 ·cases hy; exact Xlo trivial
 ·cases hy
  cases hx <;> simp [Xrk] at h
  ·cases op <;> rfl
  ·cases X <;> cases Y <;> simp [Xgz] at hg <;> cases op <;> simp [eqGuard]
 ·split at h
  ·cases h
  ·rename_i hm
   cases hy
   cases hx with
   | agg _ vs _ _=>exact run_eqGuard_agg w op t X Y vs _ (by simpa using hm)
   | _=>simp [eqA] at h; try (split at h <;> simp at h)
 ·cases hy; exact Xlo trivial
 ·cases h
theorem Xxr {op:BinOp} {t:TypeId} {X Y:Operand} {x y z:AV} {v u:Value} (hx:VR η H w x v) (hy:VR η H w y u) (hg:Xgz X Y x y=true) (h:cmpA P op t x y=some z) :
  ∃ q,((do eqGuard op t X Y v u; binOp op t v u:Sem Value)).run P w=.ok q w∧VR η H w z q:=by
 unfold cmpA at h
 split at h
 ·obtain ⟨b,hb,rfl⟩:=Option.map_eq_some_iff.1 h
  exact ⟨.bool b,by simp [Xo7 hx hy hg hb,Xtr (Xvr hy hb),Xo4 hx hy hb],.bool _⟩
 ·obtain ⟨b,hb,rfl⟩:=Option.map_eq_some_iff.1 h
  exact ⟨.bool !b,by simp [Xo7 hx hy hg hb,Xr8 (Xvr hy hb),Xo4 hx hy hb],.bool _⟩
 ·cases h
theorem Xxx {op:BinOp} {t:TypeId} {X Y:Operand} {x y z:AV} {v u:Value} (hx:VR η H w x v) (hy:VR η H w y u) (hg:Xgz X Y x y=true) (h:Xxs P op t x y=some z) :
  ∃ q,((do eqGuard op t X Y v u; binOp op t v u:Sem Value)).run P w=.ok q w∧VR η H w z q:=by
 unfold Xxs at h
 split at h
 ·rename_i k a j b
  cases hx; cases hy
  obtain ⟨q,h1,h2⟩:=Xr2 (P:=P) (η:=η) (H:=H) (w:=w) h t
  refine ⟨q,?_,h2⟩
  have:eqGuard op t X Y (.int k a) (.int j b)=pure ():=by cases op <;> rfl
  rw [this]
  simpa using h1
 ·cases hx with
  | str _ s hs =>
   cases hy with
   | str _ s' hs' =>
    obtain ⟨q,h1,h2⟩:=Xxz (P:=P) (η:=η) (H:=H) (w:=w) hs hs' h t
    refine ⟨q,?_,h2⟩
    have:eqGuard op t X Y (.string s) (.string s')=pure ():=by cases op <;> rfl
    rw [this]
    simpa using h1
 ·exact Xxr hx hy hg h
end Go.Proofs.YtmhhddhbdbcmbaaGreatDoor.Ev
