/- Parts of one proof. -/
import Derived.Test.YtmhhddhbdbcmbaaGreatDoorMbg
set_option linter.all false
namespace Go.Proofs.YtmhhddhbdbcmbaaGreatDoor.Ev
variable {P:Program} {g:Cfg} {η η' η'':Nat→Option Nat} {H H' H'':Mem} {w w' w'':World}
def DefR (η:Nat→Option Nat) (H:Mem) (w:World) (d:AV × List AV) (d':Deferred):Prop :=
 ∃ k caps,d'.target=.fn (.func k) caps∧VR η H w d.1 (.func (.func k) #[] caps)∧VRs η H w d.2 d'.args
def Xkw (η:Nat→Option Nat) (H:Mem) (w:World):List (AV × List AV)→List Deferred→Prop
 | [],[]=>True
 | d::ds,e::es=>DefR η H w d e∧Xkw η H w ds es
 | _,_=>False
structure ActR (η:Nat→Option Nat) (H:Mem) (w:World) (a:AAct) (act:Act):Prop where
 size:act.tmps.size=a.n
 tmp:∀ i,VR η H w (Xad a.t i) (act.tmps.getD i undef)
 def_:Xkw η H w a.d act.defers
theorem Xkw.ext:∀ {ds:List (AV × List AV)} {es:List Deferred},Xkw η H w ds es→Ext η H w η' H' w'→Xkw η' H' w' ds es
 | [],[],_,_=>trivial
 | _::_,_::_,⟨⟨k,caps,h1,h2,h3⟩,h4⟩,x=>⟨⟨k,caps,h1,h2.ext x,h3.ext x⟩,h4.ext x⟩
 | [],_::_,h,_=>h.elim
 | _::_,[],h,_=>h.elim
theorem ActR.ext {a:AAct} {act:Act} (h:ActR η H w a act) (e:Ext η H w η' H' w'):ActR η' H' w' a act:=⟨h.size,fun i=>(h.tmp i).ext e,h.def_.ext e⟩
theorem undefR:VR η H w (.tup []) undef:=.tup _ _ rfl fun j c u hc=>by simp at hc
theorem getD_set (t:Array Value) (d i:Nat) (v:Value):(t.setIfInBounds d v).getD i undef=if d=i∧d<t.size then v else t.getD i undef:=by
 by_cases h:d=i
 ·subst h
  by_cases hl:d<t.size <;> simp [hl]
 ·simp [h,Array.getElem?_setIfInBounds_ne h]
theorem ActR.put {a:AAct} {act:Act} {x:AV} {v:Value} (h:ActR η H w a act) (hx:VR η H w x v) (dst:Option Tmp):ActR η H w (a.put dst x) (act.put dst v):=by
 cases dst with
 | none=>exact h
 | some d =>
  refine ⟨by simp [Act.put,AAct.put,h.size],fun i=>?_,h.def_⟩
  simp only [AAct.put,Act.put,Xad]
  rw [getD_set,h.size]
  by_cases hi:i=d
  ·subst hi
   simp only [if_true,true_and]
   split
   ·exact hx
   ·exact .bad _
  ·rw [if_neg hi,if_neg (fun h=>hi h.1.symm)]
   exact h.tmp i
theorem ActR.eval {a:AAct} {act:Act} (r:Rel g η H w) (h:ActR η H w a act) (x:Operand):VR η H w (a.eval g x) (act.eval x):=by
 cases x with
 | tmp t=>exact h.tmp t
 | const v=>exact Xf7 v
 | global k =>
  simp only [AAct.eval,Act.eval]
  split
  ·rename_i cs hk; exact r.glob k cs hk
  ·exact .bad _
 | func f=>exact .fn _ [] #[] rfl (fun j c u hc=>by simp at hc)
def ExitR (η:Nat→Option Nat) (H:Mem) (w:World):Out→Exit→Prop
 | .normal,.normal=>True
 | .exit i,.exit j=>i=j
 | .ret,.ret=>True
 | .pan v,.panic ch=>∃ u,ch=[{ v:=u,recovered:=false }]∧VR η H w v u
 | _,_=>False
def Xsw (g:Cfg) (η:Nat→Option Nat) (H:Mem) (w:World) (o:Out) (a:AAct) (H':Mem):Exit→Act→World→Prop :=
 fun e act w'=>∃ η',Ext η H w η' H' w'∧Rel g η' H' w'∧ActR η' H' w' a act∧ExitR η' H' w' o e
theorem Xsw.from {o:Out} {a:AAct} {H2:Mem} (x:Ext η H w η' H' w') {e:Exit} {act:Act} {w2:World} (h:Xsw g η' H' w' o a H2 e act w2):Xsw g η H w o a H2 e act w2:=by
 obtain ⟨η2,h1,h2,h3,h4⟩:=h
 exact ⟨η2,x.trans h1,h2,h3,h4⟩
def EndR (η:Nat→Option Nat) (H:Mem) (w:World):End→Ending→Prop
 | .ret v,.returned u=>VR η H w v u
 | .pan v,.panicked ch=>∃ u,ch=[{ v:=u,recovered:=false }]∧VR η H w v u
 | _,_=>False
def FOk (P:Program) (g:Cfg) (F:Xc5):Prop:=∀ f args H r H',F f args H=some (r,H')→∀ η w us,Rel g η H w→VRs η H w args us →
 Calls P f us w fun e w'=>∃ η',Ext η H w η' H' w'∧Rel g η' H' w'∧EndR η' H' w' r e
theorem Xx4 {ops:Array Oper} {tmps:Array Value} {j d:Nat} (h:(ops[j]?).bind (·.dst)=some d):yielded ops tmps j=match tmps[d]? with | some (.bool b)=>some b | _=>none:=by
 simp [yielded,h]
 rfl
theorem Xgs {ops:Array Oper} {a:AAct} {act:Act} {o:Oper} {b:Bool} (h:ActR η H w a act) (hw:Xdf ops a o=some b):Region.wanted o (yielded ops act.tmps)=b:=by
 unfold Xdf at hw
 unfold Region.wanted
 split at hw
 ·rename_i hg
  injection hw with hw; subst hw
  simp [hg]
 ·rename_i j want hg
  simp only [hg]
  split at hw
  ·rename_i hd
   injection hw with hw; subst hw
   have:yielded ops act.tmps j=none:=by simp [yielded,hd]
   rw [this]; cases want <;> rfl
  ·rename_i d hd
   rw [Xx4 hd]
   have ht:=h.tmp d
   cases hv:act.tmps[d]? with
   | none =>
    have hu:act.tmps.getD d undef=undef:=by simp [hv]
    rw [hu] at ht
    split at hw
    ·cases hw
    ·rename_i c hc; rw [hc] at ht; cases ht
    ·injection hw
   | some v =>
    have hu:act.tmps.getD d undef=v:=by simp [hv]
    rw [hu] at ht
    split at hw
    ·cases hw
    ·rename_i c hc
     injection hw with hw; subst hw
     rw [hc] at ht
     cases ht
     cases c <;> cases want <;> rfl
    ·rename_i hn1 hn2
     injection hw with hw; subst hw
     cases v with
     | bool c =>
      generalize Xad a.t d=x at ht hn1 hn2
      cases ht with
      | bad=>exact absurd rfl hn1
      | bool=>exact absurd rfl (hn2 c)
     | _=>cases want <;> rfl
theorem Xl1 {F:Xc5} (hF:FOk P g F) {ops:Array Oper} {o:Oper} {a a1:AAct} {H1:Mem} {out:Out} {act:Act} (r:Rel g η H w) (ha:ActR η H w a act) (h:Xnm P g F ops o a H=some (out,a1,H1)) :
  ∃ b,Region.wanted o (yielded ops act.tmps)=b∧if b then
   ∀ (K:Act→World→Prop) (Q:Exit→Act→World→Prop),(∀ act1 w1,out=.normal→(∃ η1,Ext η H w η1 H1 w1∧Rel g η1 H1 w1∧ActR η1 H1 w1 a1 act1)→K act1 w1)→(∀ e act1 w1,out≠.normal→Xsw g η H w out a1 H1 e act1 w1→Q e act1 w1)→o.wp P act w K Q
  else out=.normal∧H1=H∧ActR η H w a1 (act.put o.dst undef):=by
 unfold Xnm at h
 split at h
 ·cases h
 ·rename_i hw
  injection h with h; injection h with h1 h; injection h with h2 h3
  subst h1 h2 h3
  refine ⟨false,Xgs ha hw,?_⟩
  exact ⟨rfl,rfl,ha.put undefR _⟩
 ·rename_i hw
  refine ⟨true,Xgs ha hw,?_⟩
  intro K Q hK hQ
  unfold Oper.wp
  cases hx:Xar P (a.eval g) o H with
  | none=>simp [hx] at h
  | some res =>
   have hs:=Xm4 (P:=P) r (fun x=>ha.eval r x) hx
   cases res with
   | val v H2 =>
    simp only [hx] at h
    injection h with h; injection h with h1 h; injection h with h2 h3
    subst h1 h2 h3
    obtain ⟨η',w',u,h1,h2,h3,h4⟩:=hs
    rcases h1 with h1 | ⟨h1,rfl⟩
    ·rw [h1]
     exact hK _ _ rfl ⟨η',h2,h3,(ha.ext h2).put h4 _⟩
    ·rw [h1]
     exact hK _ _ rfl ⟨η',h2,h3,(ha.ext h2).put h4 _⟩
   | pan v =>
    simp only [hx] at h
    injection h with h; injection h with h1 h; injection h with h2 h3
    subst h1 h2 h3
    obtain ⟨u,h1,h2⟩:=hs
    rw [h1]
    exact hQ _ _ _ (by simp) ⟨η,Ext.refl,r,ha,u,rfl,h2⟩
   | dfr f args =>
    simp only [hx] at h
    injection h with h; injection h with h1 h; injection h with h2 h3
    subst h1 h2 h3
    obtain ⟨k,caps,us,h1,h2,h3⟩:=hs
    rw [h1]
    refine hK _ _ rfl ⟨η,Ext.refl,r,?_⟩
    have:ActR η H w { a with d:=(f,args)::a.d } { act with defers:={ target:=.fn (.func k) caps,args:=us }::act.defers }:=⟨ha.size,ha.tmp,⟨k,caps,rfl,h2,h3⟩,ha.def_⟩
    exact this.put undefR _
   | call f args =>
    simp only [hx] at h
    obtain ⟨us,h1,h2⟩:=hs
    rw [h1]
    cases hf:F f args H with
    | none=>simp [hf] at h
    | some p =>
     obtain ⟨en,H2⟩:=p
     have hc:=hF f args H en H2 hf η w us r h2
     refine Calls.mono hc fun e w' he=>?_
     obtain ⟨η',h3,h4,h5⟩:=he
     cases en with
     | ret v =>
      simp only [hf] at h
      injection h with h; injection h with h1 h; injection h with h6 h7
      subst h1 h6 h7
      cases e with
      | returned u=>exact hK _ _ rfl ⟨η',h3,h4,(ha.ext h3).put h5 _⟩
      | panicked ch=>exact h5.elim
      | outgrown=>exact h5.elim
     | pan v =>
      simp only [hf] at h
      injection h with h; injection h with h1 h; injection h with h6 h7
      subst h1 h6 h7
      cases e with
      | returned u=>exact h5.elim
      | panicked ch=>exact hQ _ _ _ (by simp) ⟨η',h3,h4,ha.ext h3,h5⟩
      | outgrown=>exact h5.elim
theorem Xkd {F:Xc5} (hF:FOk P g F) (ops:Array Oper) {η0:Nat→Option Nat} {H0:Mem} {w0:World}:∀ (l:List Oper) (k:Nat) (a a1:AAct) (H H1:Mem) (out:Out) (η:Nat→Option Nat) (w:World) (act:Act),(∀ j,l[j]? = ops[k+j]?)→Ext η0 H0 w0 η H w→Rel g η H w→ActR η H w a act →
  opsA P g F ops l a H=some (out,a1,H1)→wpOps P ops (Xsw g η0 H0 w0 out a1 H1) ((List.range' k l.length)) act w
 | [],k,a,a1,H,H1,out,η,w,act,_,x,r,ha,h=>by
  simp only [opsA] at h
  injection h with h; injection h with h1 h; injection h with h2 h3
  subst h1 h2 h3
  exact ⟨η,x,r,ha,trivial⟩
 | o::l,k,a,a1,H,H1,out,η,w,act,hl,x,r,ha,h=>by
  have ho:ops[k]? = some o:=by simpa using (hl 0).symm
  simp only [Zf,List.range'_succ,wpOps,ho]
  simp only [opsA] at h
  cases hs:Xnm P g F ops o a H with
  | none=>simp [hs] at h
  | some p =>
   obtain ⟨out1,a2,H2⟩:=p
   have hst:=Xl1 hF r ha hs
   obtain ⟨b,hb,hst⟩:=hst
   have hrest:∀ j,l[j]? = ops[k+1+j]?:=fun j=>by have:=hl (j+1); simpa [Nat.add_assoc,Nat.add_comm 1 j] using this
   cases b with
   | true =>
    simp only [hb,if_true] at hst ⊢
    refine .inl (hst _ _ (fun act1 w1 hn ⟨η1,h1,h2,h3⟩=>?_) fun e act1 w1 hn hp=>?_)
    ·subst hn
     simp only [hs] at h
     exact Xkd hF ops l (k+1) a2 a1 H2 H1 out η1 w1 act1 hrest (x.trans h1) h2 h3 h
    ·cases out1 with
     | normal=>exact absurd rfl hn
     | _ =>
      simp only [hs] at h
      injection h with h; injection h with h1 h; injection h with h2 h3
      subst h1 h2 h3
      exact hp.from x
   | false =>
    simp only [hb,Ze,if_false] at hst ⊢
    obtain ⟨rfl,rfl,h1⟩:=hst
    simp only [hs] at h
    exact Xkd hF ops l (k+1) a2 a1 _ H1 out η w _ hrest x r h1 h
theorem ActR.keepT {a:AAct} {act:Act} (h:ActR η H w a act) (l:List Tmp):ActR η H w (a.keepT l) act:=by
 refine ⟨h.size,fun i=>?_,h.def_⟩
 have:Xad (a.keepT l).t i=.bad∨Xad (a.keepT l).t i=Xad a.t i:=by
  simp only [AAct.keepT]
  induction l with
  | nil=>exact .inl rfl
  | cons j l ih =>
   simp only [Zv,Xad]
   by_cases hi:i=j
   ·subst hi; rw [if_pos rfl]; exact .inr rfl
   ·rw [if_neg hi]; exact ih
 rcases this with h1 | h1
 ·rw [h1]; exact .bad _
 ·rw [h1]; exact h.tmp i
theorem Xwt {n:Nat}:∀ {t:List (Nat × AV)} {i:Nat},Xto n t=true→low n (Xad t i)=true
 | [],_,_=>rfl
 | (j,v)::t,i,h=>by
  simp only [Xto,Zx,Bool.and_eq_true] at h
  simp only [Xad]
  split
  ·exact h.1
  ·exact Xwt (t:=t) h.2
theorem Xkw.cut {n:Nat} (hn:n≤H.length):∀ {ds:List (AV × List AV)} {es:List Deferred},Xkw η H w ds es→lowD n ds=true→Xkw (Xv9 n η) (H.take n) w ds es
 | [],[],_,_=>trivial
 | _::_,_::_,⟨⟨k,caps,h1,h2,h3⟩,h4⟩,hl=>by
  simp only [lowD,Zx,Bool.and_eq_true] at hl
  exact ⟨⟨k,caps,h1,h2.cut hn hl.1.1,h3.1,fun j c u hc hu=>(h3.2 j c u hc hu).cut hn (Xb3.1 hl.1.2 j c hc)⟩,h4.cut hn hl.2⟩
 | [],_::_,h,_=>h.elim
 | _::_,[],h,_=>h.elim
theorem Xnp (r0:Rel g η H w) (e:Ext η H w η' H' w') (r1:Rel g η' H' w') (live:Option (List Tmp)) {a:AAct} {act:Act} (ha:ActR η' H' w' a act) :
  ∃ η2,Ext η H w η2 (Xbk live H a H').2 w'∧Rel g η2 (Xbk live H a H').2 w'∧ActR η2 (Xbk live H a H').2 w' (Xbk live H a H').1 act:=by
 unfold Xbk
 cases live with
 | none=>exact ⟨η',e,r1,ha⟩
 | some l =>
  simp only
  split
  ·rename_i hc
   simp only [Bool.and_eq_true] at hc
   obtain ⟨h1,h2⟩:=Xsi r0 e r1 hc.2
   have hk:=ha.keepT l
   exact ⟨_,h1,h2,hk.size,fun i=>(hk.tmp i).cut e.len (Xwt hc.1.1),hk.def_.cut e.len hc.1.2⟩
  ·exact ⟨η',e,r1,ha.keepT l⟩
theorem Xl3 {body:AAct→Mem→Option (Out × AAct × Mem)} {c:Code} (live:Option (List Tmp))
  (hb:∀ (a a1:AAct) (H H1:Mem) (out:Out) (η:Nat→Option Nat) (w:World) (act:Act),Rel g η H w→ActR η H w a act→body a H=some (out,a1,H1)→c.wp P (Xsw g η H w out a1 H1) act w)
  {η0:Nat→Option Nat} {H0:Mem} {w0:World}:∀ (n:Nat) (a a1:AAct) (H H1:Mem) (out:Out) (η:Nat→Option Nat) (w:World) (act:Act),Ext η0 H0 w0 η H w→Rel g η H w→ActR η H w a act→Xa6 body live n a H=some (out,a1,H1) →
   Code.rounds P c (Xsw g η0 H0 w0 out a1 H1) n act w
 | 0,a,a1,H,H1,out,η,w,act,_,_,_,h=>by simp [Xa6] at h
 | n+1,a,a1,H,H1,out,η,w,act,x,r,ha,h=>by
  simp only [Xa6] at h
  cases hs:body a H with
  | none=>simp [hs] at h
  | some p =>
   obtain ⟨out1,a2,H2⟩:=p
   refine wp_mono (hb a a2 H H2 out1 η w act r ha hs) fun e act2 w2 hp=>?_
   cases out1 with
   | normal =>
    simp only [hs] at h
    obtain ⟨η1,h1,h2,h3,h4⟩:=hp
    cases e with
    | normal =>
     obtain ⟨η2,h5,h6,h7⟩:=Xnp r h1 h2 live h3
     exact Xl3 live hb n _ a1 _ H1 out η2 w2 act2 (x.trans h5) h6 h7 h
    | _=>exact h4.elim
   | _ =>
    simp only [hs] at h
    injection h with h; injection h with h5 h; injection h with h6 h7
    subst h5 h6 h7
    cases e with
    | normal=>obtain ⟨_,_,_,_,h4⟩:=hp; exact h4.elim
    | _=>exact hp.from x
theorem Xca {F:Xc5} (hF:FOk P g F) (hD:∀ (id:Nat) (ops:Array Oper) (a a1:AAct) (H H1:Mem) (out:Out) (η:Nat→Option Nat) (w:World) (act:Act),Rel g η H w→ActR η H w a act→Xnf P g F ops a H=some (out,a1,H1)→(Code.region id ops true).wp P (Xsw g η H w out a1 H1) act w)
  (fid:FuncId) (N:Nat):∀ (c:Code) (a a1:AAct) (H H1:Mem) (out:Out) (η:Nat→Option Nat) (w:World) (act:Act),Rel g η H w→ActR η H w a act→Xbt P g F fid N c a H=some (out,a1,H1)→c.wp P (Xsw g η H w out a1 H1) act w
 | .skip,a,a1,H,H1,out,η,w,act,r,ha,h=>by
  simp only [Xbt] at h
  injection h with h; injection h with h1 h; injection h with h2 h3
  subst h1 h2 h3
  exact wp_skip ⟨η,Ext.refl,r,ha,trivial⟩
 | .label _,a,a1,H,H1,out,η,w,act,r,ha,h=>by
  simp only [Xbt] at h
  injection h with h; injection h with h1 h; injection h with h2 h3
  subst h1 h2 h3
  exact wp_label ⟨η,Ext.refl,r,ha,trivial⟩
 | .region id ops draw,a,a1,H,H1,out,η,w,act,r,ha,h=>by
  simp only [Xbt] at h
  cases draw with
  | true=>exact hD id ops a a1 H H1 out η w act r ha (by simpa using h)
  | false =>
   have:=Xkd hF ops ops.toList 0 a a1 H H1 out η w act (by simp) Ext.refl r ha (by simpa using h)
   exact wp_region (by simpa [List.range_eq_range'] using this)
 | .seq x y,a,a1,H,H1,out,η,w,act,r,ha,h=>by
  simp only [Xbt] at h
  cases hs:Xbt P g F fid N x a H with
  | none=>simp [hs] at h
  | some p =>
   obtain ⟨out1,a2,H2⟩:=p
   refine wp_seq (wp_mono (Xca hF hD fid N x a a2 H H2 out1 η w act r ha hs) fun e act2 w2 hp=>?_)
   cases out1 with
   | normal =>
    simp only [hs] at h
    obtain ⟨η1,h1,h2,h3,h4⟩:=hp
    cases e with
    | normal=>exact wp_mono (Xca hF hD fid N y a2 a1 H2 H1 out η1 w2 act2 h2 h3 h) fun e a w hp=>hp.from h1
    | _=>exact h4.elim
   | _ =>
    simp only [hs] at h
    injection h with h; injection h with h5 h; injection h with h6 h7
    subst h5 h6 h7
    cases e with
    | normal=>obtain ⟨_,_,_,_,h4⟩:=hp; exact h4.elim
    | _=>exact hp
 | .cond c x y,a,a1,H,H1,out,η,w,act,r,ha,h=>by
  simp only [Xbt] at h
  have hc:=ha.eval r c
  split at h
  ·rename_i hb
   rw [hb] at hc
   generalize hq:act.eval c=q at hc
   cases hc
   exact wp_cond_true hq (Xca hF hD fid N x a a1 H H1 out η w act r ha h)
  ·rename_i hb
   rw [hb] at hc
   generalize hq:act.eval c=q at hc
   cases hc
   exact wp_cond_false hq (Xca hF hD fid N y a a1 H H1 out η w act r ha h)
  ·cases h
 | .block id c,a,a1,H,H1,out,η,w,act,r,ha,h=>by
  simp only [Xbt] at h
  cases hs:Xbt P g F fid N c a H with
  | none=>simp [hs] at h
  | some p =>
   obtain ⟨out1,a2,H2⟩:=p
   refine wp_block (wp_mono (Xca hF hD fid N c a a2 H H2 out1 η w act r ha hs) fun e act2 w2 hp=>?_)
   cases out1 with
   | exit id' =>
    simp only [hs] at h
    obtain ⟨η1,h1,h2,h3,h4⟩:=hp
    cases e with
    | exit j =>
     have hj:id'=j:=h4
     subst hj
     simp only [Exit.inBlock]
     split at h
     ·rename_i hid
      injection h with h; injection h with h5 h; injection h with h6 h7
      subst h5 h6 h7
      rw [if_pos hid]
      exact ⟨η1,h1,h2,h3,trivial⟩
     ·rename_i hid
      injection h with h; injection h with h5 h; injection h with h6 h7
      subst h5 h6 h7
      rw [if_neg hid]
      exact ⟨η1,h1,h2,h3,rfl⟩
    | _=>exact h4.elim
   | _ =>
    simp only [hs] at h
    injection h with h; injection h with h5 h; injection h with h6 h7
    subst h5 h6 h7
    cases e with
    | exit j=>obtain ⟨_,_,_,_,h4⟩:=hp; exact h4.elim
    | _=>exact hp
 | .loop c,a,a1,H,H1,out,η,w,act,r,ha,h=>by
  simp only [Xbt] at h
  refine wp_loop_rounds N (Xl3 (g.live fid (Xue c)) (fun a a1 H H1 out η w act r ha h=>Xca hF hD fid N c a a1 H H1 out η w act r ha h) N _ a1 H H1 out η w act Ext.refl r ?_ h)
  split
  ·exact ha.keepT _
  ·exact ha
 | .exit id,a,a1,H,H1,out,η,w,act,r,ha,h=>by
  simp only [Xbt] at h
  injection h with h; injection h with h1 h; injection h with h2 h3
  subst h1 h2 h3
  exact wp_exit ⟨η,Ext.refl,r,ha,rfl⟩
 | .ret,a,a1,H,H1,out,η,w,act,r,ha,h=>by
  simp only [Xbt] at h
  injection h with h; injection h with h1 h; injection h with h2 h3
  subst h1 h2 h3
  exact wp_ret ⟨η,Ext.refl,r,ha,trivial⟩
 | .rangeFunc _ _ _ _,_,_,_,_,_,_,_,_,_,_,h=>by simp [Xbt] at h
 | .scope _,_,_,_,_,_,_,_,_,_,_,h=>by simp [Xbt] at h
 | .goto _,_,_,_,_,_,_,_,_,_,_,h=>by simp [Xbt] at h
 | .refuse _,_,_,_,_,_,_,_,_,_,_,h=>by simp [Xbt] at h
end Go.Proofs.YtmhhddhbdbcmbaaGreatDoor.Ev
