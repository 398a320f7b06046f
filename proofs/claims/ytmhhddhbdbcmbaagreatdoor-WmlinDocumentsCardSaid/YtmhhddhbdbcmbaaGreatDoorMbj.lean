/- Parts of one proof. -/
import Derived.Test.YtmhhddhbdbcmbaaGreatDoorMbi
import Derived.Still
set_option linter.all false
namespace Go.Proofs.YtmhhddhbdbcmbaaGreatDoor.Ev
variable {P:Program} {g:Cfg} {F:Xc5} {η η' η'':Nat→Option Nat} {H H' H'':Mem} {w w' w'':World}
theorem Xlu {ρ ρ':Operand→AV} {o:Oper} (h:∀ x ∈ o.op.operands,ρ x=ρ' x) (H:Mem):Xar P ρ o H=Xar P ρ' o H:=by
 obtain ⟨dst,op,type,pos,after,guard⟩:=o
 have opt:∀ q:Option Operand,(∀ x ∈ q.toArray,ρ x=ρ' x)→q.map ρ=q.map ρ':=by
  intro q hq
  cases q with
  | none=>rfl
  | some x=>simp [hq x (by simp)]
 have arr:∀ q:Array Operand,(∀ x ∈ q,ρ x=ρ' x)→q.toList.map ρ=q.toList.map ρ':=fun q hq=>List.map_congr_left fun x hx=>hq x (by simpa using hx)
 have prs:∀ q:Array (Nat × Operand),(∀ x ∈ (q.toList.map (·.2)).toArray,ρ x=ρ' x)→(q.toList.map fun p=>(p.1,ρ p.2))=(q.toList.map fun p=>(p.1,ρ' p.2)):=fun q hq=>List.map_congr_left fun p hp=>by rw [hq p.2 (by simp; exact ⟨p.1,by simpa using hp⟩)]
 cases op <;> simp only [Op.operands] at h <;> simp only [Xar]
 case build t ps=>rw [prs ps h]
 case buildSlice t n ps=>rw [prs ps h]
 case makeFunc f a b=>rw [arr b fun x hx=>h x (by simp [hx])]
 case makeMap t q=>cases q <;> rfl
 case slice t x lo hi mx =>
  cases mx with
  | some m=>cases hi with
   | none=>rfl
   | some hh =>
    show Xbe (Xip P t (ρ x) (lo.map ρ) (ρ hh) (ρ m)) H=Xbe (Xip P t (ρ' x) (lo.map ρ') (ρ' hh) (ρ' m)) H
    rw [h x (by simp),opt lo fun y hy=>h y (by simp at hy ⊢; simp [hy]),h hh (by simp),h m (by simp)]
  | none =>
   show Xbe (Xko P H t (ρ x) (lo.map ρ) (hi.map ρ)) H=Xbe (Xko P H t (ρ' x) (lo.map ρ') (hi.map ρ')) H
   rw [h x (by simp),opt lo fun y hy=>h y (by simp at hy ⊢; exact .inr (.inl hy)),opt hi fun y hy=>h y (by simp at hy ⊢; exact .inr (.inr hy))]
 case call c =>
  have ha:=arr c.args fun x hx=>h x (by simp [Call.operands,hx])
  cases hc:c.callee with
  | value f =>
   have hf:ρ f=ρ' f:=h f (by simp [Call.operands,hc])
   simp only [ha,hf]
  | invoke r m=>rfl
  | builtin b=>simp only [ha]
 case defer c =>
  have ha:=arr c.args fun x hx=>h x (by simp [Call.operands,hx])
  cases hc:c.callee with
  | value f =>
   have hf:ρ f=ρ' f:=h f (by simp [Call.operands,hc])
   simp only [ha,hf]
  | invoke r m=>rfl
  | builtin b=>rfl
 all_goals first
  | rfl
  | (simp only [h _ (by simp:_ ∈ #[_])]; done)
  | (simp [h]; done)
  | (rw [h _ (by simp)])
theorem Xja {ops:Array Oper} {o:Oper} {a a':AAct} (h:∀ t ∈ Xe9 ops o,Xad a.t t=Xad a'.t t):Xdf ops a o=Xdf ops a' o:=by
 unfold Xdf
 cases hg:o.guard with
 | none=>rfl
 | some p =>
  obtain ⟨j,want⟩:=p
  simp only
  cases hd:(ops[j]?).bind (·.dst) with
  | none=>rfl
  | some d =>
   have:=h d (by simp [Xe9,hg,hd])
   simp only [this]
theorem Xoq {ops:Array Oper} {o:Oper} {a a':AAct} (h:∀ t ∈ Xe9 ops o,Xad a.t t=Xad a'.t t):∀ x ∈ o.op.operands,a.eval g x=a'.eval g x:=by
 intro x hx
 cases x with
 | tmp t=>exact h t (by unfold Xe9; rw [List.mem_append,List.mem_filterMap]; exact .inl ⟨.tmp t,by simpa using hx,rfl⟩)
 | _=>rfl
theorem Xdk {ops:Array Oper} {id:Nat} {o:Oper} {a a':AAct} (h:∀ t ∈ Xe9 ops o,Xad a.t t=Xad a'.t t) (H:Mem):Xea P g F ops id o a H=Xea P g F ops id o a' H:=by
 unfold Xea
 rw [Xja h,Xlu (P:=P) (Xoq (g:=g) h)]
theorem Xos {op:BinOp} {t:TypeId} {i o s j p q:Nat} {H:Mem} {r:Res1} (hs:(match op with | .eql | .neq=>false | _=>true)=true) (h:Xot P H op t i o s j p q=some r):False:=by
 unfold Xot at h
 split at h
 ·split at h
  ·split at h
   ·cases hs
   ·cases hs
   ·cases h
  ·cases h
 ·cases h
theorem Xts {o:Oper} (hs:Xbp o=true):Xaz o=false:=by
 unfold Xaz
 cases ho:o.op <;> simp [Xbp,ho] at hs <;> rfl
theorem Xuj {ρ:Operand→AV} {o:Oper} (hs:Xbp o=true) {v:AV} {H H1:Mem} (h:Xar P ρ o H=some (.val v H1)):H1=H∧∀ H',Xar P ρ o H'=some (.val v H'):=by
 obtain ⟨dst,op,type,pos,after,guard⟩:=o
 have mk:∀ (r:Option AV) (H:Mem),Xbe r H=some (.val v H1)→H1=H∧r=some v:=fun r H h=>by
  obtain ⟨y,h1,h2⟩:=Xa9 h
  injection h2 with h2 h3
  exact ⟨h3,by rw [h1,h2]⟩
 have mk':∀ (r:Option AV) (H:Mem),r=some v→Xbe r H=some (.val v H):=fun r H h=>by rw [h]; rfl
 cases op <;> simp only [Xbp] at hs <;> first
  | cases hs
  | skip
 all_goals simp only [Xar] at h ⊢
 case move x=>injection h with h; injection h with h1 h2; subst h1 h2; exact ⟨rfl,fun _=>rfl⟩
 case assign x=>injection h with h; injection h with h1 h2; subst h1 h2; exact ⟨rfl,fun _=>rfl⟩
 case pick c a b =>
  split at h
  ·injection h with h; injection h with h1 h2; subst h1 h2; exact ⟨rfl,fun _=>rfl⟩
  ·cases h
 case binOp op t x y yt =>
  split at h
  ·exact (Xos hs h).elim
  ·rename_i hne
   split at h
   ·rename_i hg
    obtain ⟨h1,h2⟩:=mk _ _ h
    refine ⟨h1,fun H'=>?_⟩
    rw [if_pos hg]; exact mk' _ H' h2
   ·cases h
 case makeInterface t x =>
  split at h
  ·cases h
  ·injection h with h; injection h with h1 h2; subst h1 h2; exact ⟨rfl,fun _=>rfl⟩
  ·cases h
 case makeFunc f a b =>
  split at h
  ·rename_i hg
   injection h with h; injection h with h1 h2; subst h1 h2; exact ⟨rfl,fun _=>by rw [if_pos hg]⟩
  ·cases h
 case extract t i =>
  split at h
  ·obtain ⟨h1,h2⟩:=mk _ _ h; exact ⟨h1,fun H'=>mk' _ H' h2⟩
  ·cases h
 all_goals
  obtain ⟨h1,h2⟩:=mk _ _ h
  exact ⟨h1,fun H'=>mk' _ H' h2⟩
theorem Xum {ρ:Operand→AV} {o:Oper} (hs:Xbp o=true) {res:Res1} {H:Mem} (h:Xar P ρ o H=some res):∃ v H1,res=.val v H1:=by
 obtain ⟨dst,op,type,pos,after,guard⟩:=o
 have mk:∀ (r:Option AV) (H:Mem),Xbe r H=some res→∃ v H1,res=.val v H1:=fun r H h=>by
  obtain ⟨y,h1,h2⟩:=Xa9 h
  exact ⟨_,_,h2⟩
 cases op <;> simp only [Xbp] at hs <;> first
  | cases hs
  | skip
 all_goals simp only [Xar] at h
 case move x=>injection h with h; exact ⟨_,_,h.symm⟩
 case assign x=>injection h with h; exact ⟨_,_,h.symm⟩
 case pick c a b =>
  split at h
  ·injection h with h; exact ⟨_,_,h.symm⟩
  ·cases h
 case binOp op t x y yt =>
  split at h
  ·exact (Xos hs h).elim
  ·split at h
   ·exact mk _ _ h
   ·cases h
 case makeInterface t x =>
  split at h
  ·cases h
  ·injection h with h; exact ⟨_,_,h.symm⟩
  ·cases h
 case makeFunc f a b =>
  split at h
  ·injection h with h; exact ⟨_,_,h.symm⟩
  ·cases h
 case extract t i =>
  split at h
  ·exact mk _ _ h
  ·cases h
 all_goals exact mk _ _ h
theorem Xd7 {ops:Array Oper} {id:Nat} {o:Oper} {a:AAct} (hs:Xbp o=true) {v:AV} {H H1:Mem} (h:Xea P g F ops id o a H=some (v,H1)):H1=H∧∀ H',Xea P g F ops id o a H'=some (v,H'):=by
 unfold Xea at h ⊢
 cases hw:Xdf ops a o with
 | none=>simp [hw] at h
 | some b =>
  cases b with
  | false =>
   simp only [hw] at h
   injection h with h; injection h with h1 h2
   subst h1 h2
   exact ⟨rfl,fun _=>rfl⟩
  | true =>
   simp only [hw,Xts hs,Ze,if_false] at h ⊢
   cases hx:Xar P (a.eval g) o H with
   | none=>simp [hx] at h
   | some res =>
    obtain ⟨v',H2,rfl⟩:=Xum (P:=P) hs hx
    simp only [hx] at h
    injection h with h; injection h with h1 h2
    subst h1 h2
    obtain ⟨h3,h4⟩:=Xuj (P:=P) hs hx
    exact ⟨h3,fun H'=>by rw [h4 H']⟩
end Go.Proofs.YtmhhddhbdbcmbaaGreatDoor.Ev
