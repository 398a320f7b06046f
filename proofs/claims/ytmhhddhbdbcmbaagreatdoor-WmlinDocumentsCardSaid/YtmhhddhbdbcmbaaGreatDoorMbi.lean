/- Parts of one proof. -/
import Derived.Test.YtmhhddhbdbcmbaaGreatDoorMbh
import Derived.Recover
import Derived.Defers
set_option linter.all false
namespace Go.Proofs.YtmhhddhbdbcmbaaGreatDoor.Ev
variable {P:Program} {g:Cfg} {η η' η'':Nat→Option Nat} {H H' H'':Mem} {w w' w'':World}
def Xow (tmps:Array Value):ResultVar→Sem Value
 | .tmp t=>pure (tmps.getD t undef)
 | .cell a t=>do loadVar t (← asAddr (tmps.getD a undef))
theorem Xxf (fn:Func) (tmps:Array Value):results fn tmps=(do let vs ← fn.results.mapM (Xow tmps); pure (if h:vs.size=1 then vs[0] else .tuple vs)):=by
 unfold results
 have:(fun (x:ResultVar)=>(match x with | .tmp t=>pure (tmps.getD t undef) | .cell a t=>do loadVar t (← asAddr (tmps.getD a undef)):Sem Value))=Xow tmps:=by
  funext x; cases x <;> rfl
 rw [← this]
 rfl
theorem Xgn (r:Rel g η H w) {a:AAct} {act:Act} (ha:ActR η H w a act):∀ (rs:List ResultVar) (l:List AV),Xe7 P a H rs=some l →
  ∃ vs:List Value,(rs.mapM (Xow act.tmps)).run P w=.ok vs w∧vs.length=l.length∧∀ (j:Nat) c u,l[j]? = some c→vs[j]? = some u→VR η H w c u
 | [],l,h=>by
  simp [Xe7] at h; subst h
  exact ⟨[],by simp,rfl,fun j c u h=>by simp at h⟩
 | .tmp t::rs,l,h=>by
  simp only [Xe7] at h
  obtain ⟨l',hl,rfl⟩:=Option.map_eq_some_iff.1 h
  obtain ⟨vs,h1,h2,h3⟩:=Xgn r ha rs l' hl
  refine ⟨act.tmps.getD t undef::vs,by simp [List.mapM_cons,Xow,h1],by simp [h2],fun j c u hc hu=>?_⟩
  cases j with
  | zero=>simp at hc hu; subst hc hu; simpa using ha.tmp t
  | succ j=>exact h3 j c u (by simpa using hc) (by simpa using hu)
 | .cell t ty::rs,l,h=>by
  simp only [Xe7] at h
  split at h
  ·cases h
  ·rename_i p hp
   obtain ⟨v,hv,h'⟩:=Option.bind_eq_some_iff.1 h
   obtain ⟨l',hl,rfl⟩:=Option.map_eq_some_iff.1 h'
   obtain ⟨vs,h1,h2,h3⟩:=Xgn r ha rs l' hl
   have ht:=ha.tmp t
   obtain ⟨u,h4,h5⟩:=Xma (P:=P) r ht hv
   have h6:∃ ad,act.tmps.getD t undef=.pointer (some ad):=by
    generalize act.tmps.getD t undef=q at ht h4
    generalize Xad a.t t=x at ht hv
    cases ht with
    | ptr _ _ _ ad _ _ _=>exact ⟨ad,rfl⟩
    | iptr _ ad _ _ _=>exact ⟨ad,rfl⟩
    | _=>(unfold Xqd at hv; split at hv <;> simp [Xdc] at hv)
   obtain ⟨ad,h7⟩:=h6
   rw [h7] at h4
   have h8:(loadVar ty ad).run P w=.ok u w:=by simpa [Instr.loadAt,Instr.sureAddr] using h4
   refine ⟨u::vs,?_,by simp [h2],fun j c u hc hu=>?_⟩
   ·simp only [List.mapM_cons,Xow,h7,asAddr]
    simp [h8,h1]
   ·cases j with
    | zero=>simp at hc hu; subst hc hu; exact h5
    | succ j=>exact h3 j c u (by simpa using hc) (by simpa using hu)
theorem Xjy (r:Rel g η H w) {a:AAct} {act:Act} (ha:ActR η H w a act) {fn:Func} {v:AV} (h:resA P fn a H=some v):∃ u,(results fn act.tmps).run P w=.ok u w∧VR η H w v u:=by
 unfold resA at h
 obtain ⟨l,hl,rfl⟩:=Option.map_eq_some_iff.1 h
 obtain ⟨vs,h1,h2,h3⟩:=Xgn (P:=P) r ha _ l hl
 have hm:(fn.results.mapM (Xow act.tmps)).run P w=.ok vs.toArray w:=by
  rw [Array.mapM_eq_mapM_toList,Sem.run_map,h1]
  rfl
 refine ⟨if h:vs.toArray.size=1 then vs.toArray[0] else .tuple vs.toArray,?_,?_⟩
 ·rw [Xxf,Sem.run_bind,hm]
  rfl
 ·match l,vs,h2 with
  | [x],[u],_=>exact h3 0 x u rfl rfl
  | [],[],_=>exact .tup _ _ rfl fun j c u hc=>by simp at hc
  | x::y::l,u::q::vs,h2 =>
   have:¬ ((u::q::vs).toArray.size=1):=by simp
   rw [dif_neg this]
   exact .tup _ _ (by simpa using h2) fun j c u hc hu=>h3 j c u hc (by simpa using hu)
theorem Xv7:∀ (l:List AV) (k i:Nat),Xad (idx k l) i=if k≤i then (l[i-k]?).getD .bad else .bad
 | [],k,i=>by simp [idx,Xad]
 | x::l,k,i=>by
  simp only [idx,Xad]
  rw [Xv7 l (k+1) i]
  by_cases h:i=k
  ·subst h; simp
  ·rw [if_neg h]
   by_cases h2:k≤i
   ·rw [if_pos h2,if_pos (by omega),show i-k=(i-(k+1))+1 by omega]; simp
   ·rw [if_neg h2,if_neg (by omega)]
def LibOk (P:Program) (g:Cfg):Prop:=∀ f s,g.lib f=some s→∀ args H v H',s args H=some (v,H')→∀ η w us,Rel g η H w→VRs η H w args us →
 Calls P f us w fun e w'=>∃ η',Ext η H w η' H' w'∧Rel g η' H' w'∧EndR η' H' w' (.ret v) e
theorem Xkw.nil {es:List Deferred} (h:Xkw η H w [] es):es=[]:=by
 cases es with
 | nil=>rfl
 | cons _ _=>exact h.elim
theorem Xnw {args:List AV} {us:Array Value} (n:Nat) (hv:VRs η H w args us):ActR η H w ⟨max args.length n,idx 0 args,[]⟩ { tmps:=us++Array.replicate (n-us.size) undef,defers:=[] }:=by
 refine ⟨by simp [hv.1]; omega,fun i=>?_,trivial⟩
 simp only [Xv7,Nat.zero_le,if_true,Nat.sub_zero]
 by_cases hi:i<args.length
 ·have h1:args[i]? = some args[i]:=List.getElem?_eq_getElem hi
  have hi2:i<us.size:=by rw [hv.1]; exact hi
  have h2:us[i]? = some us[i]:=Array.getElem?_eq_getElem hi2
  have h3:(us++Array.replicate (n-us.size) undef).getD i undef=us[i]:=by
   simp [Array.getElem?_append_left hi2,h2]
  simp only [h1,Option.getD_some]
  rw [h3]
  exact hv.2 i _ _ h1 h2
 ·have h1:args[i]? = none:=List.getElem?_eq_none (by omega)
  simp only [h1,Option.getD_none]
  exact .bad _
def RaisedR (η:Nat→Option Nat) (H:Mem) (w:World):Option AV→FrameMode→Prop
 | none,u=>u=.returning
 | some v,u=>∃ q,u=.panicking [{ v:=q,recovered:=false }]∧VR η H w v q
theorem Xl5 {o:Oper} (h:Xhm o=true) (ρ:Operand→Value):(execOp ρ o).run P w=.ok .recover w:=by
 unfold Xhm at h
 simp only [Bool.and_eq_true] at h
 obtain ⟨_,h⟩:=h
 split at h
 ·rename_i c ho
  simp only [Bool.and_eq_true] at h
  obtain ⟨h1,h2⟩:=h
  split at h2
  ·rename_i hc
   have:c.args = #[]:=by simpa using h1
   simp [execOp,ho,resolve,hc,invoke,builtin,this]
  ·cases h2
 ·cases h
def Xt4 (P:Program) (g:Cfg):Prop:=∀ F,FOk P g F→∀ (id:Nat) (ops:Array Oper) (a a1:AAct) (H H1:Mem) (out:Out) (η:Nat→Option Nat) (w:World) (act:Act),Rel g η H w→ActR η H w a act→Xnf P g F ops a H=some (out,a1,H1)→(Code.region id ops true).wp P (Xsw g η H w out a1 H1) act w
theorem Xut (hD:Xt4 P g) {F:Xc5} (hF:FOk P g F) {N:Nat} {k:FuncId} {args:List AV} {m:Option AV} {H2:Mem} {us:Array Value} {u:FrameMode} (r:Rel g η H w) (hv:VRs η H w args us) (hm:RaisedR η H w m u)
  (h:evDef P g F N k args m H=some H2):CallsD P k us u w fun e u' w'=>∃ v,e=.returned v∧settle u'=.returning∧∃ η',Ext η H w η' H2 w'∧Rel g η' H2 w':=by
 unfold evDef at h
 split at h
 ·cases h
 ·rename_i fn hf
  split at h
  ·rename_i id ops rest hb
   split at h
   ·rename_i o ho
    split at h
    ·rename_i hrec
     have hops:ops = #[o]:=by apply Array.ext'; simpa using ho
     refine callsD_of_wpS hf hb fun c₀ cs hu=>wpS_seq (wpS_region ?_)
     have hw:Region.wanted o=fun _=>true:=by
      unfold Xhm at hrec
      simp only [Bool.and_eq_true] at hrec
      funext y
      simp [Region.wanted,Option.isNone_iff_eq_none.1 hrec.1]
     have key:∀ (x:Value) (u1:FrameMode),VR η H w (m.getD .nilI) x→settle u1=.returning →
       rest.wpS P (bodyPostS P fn c₀ cs fun e u' w'=>∃ v,e=.returned v∧settle u'=.returning∧∃ η',Ext η H w η' H2 w'∧Rel g η' H2 w')
        ((({ tmps:=us++Array.replicate (fn.ntmps-us.size) undef,defers:=[] }:Act)).put o.dst x) ({ c₀ with mode:=u1 }::cs) w:=by
      intro x u1 hx hu1
      have hact:=(Xnw fn.ntmps hv).put hx o.dst
      have fin:∀ (out:Out) (a:AAct) (H1:Mem),(out=.normal∨out=.ret)→Xbt P g F k N rest ((⟨max args.length fn.ntmps,idx 0 args,[]⟩ : AAct).put o.dst (m.getD .nilI)) H=some (out,a,H1)→(if a.d.isEmpty then (resA P fn a H1).map fun _=>H1 else none)=some H2 →
        rest.wpS P (bodyPostS P fn c₀ cs fun e u' w'=>∃ v,e=.returned v∧settle u'=.returning∧∃ η',Ext η H w η' H2 w'∧Rel g η' H2 w')
        ((({ tmps:=us++Array.replicate (fn.ntmps-us.size) undef,defers:=[] }:Act)).put o.dst x) ({ c₀ with mode:=u1 }::cs) w:=by
       intro out a H1 hout hev h
       split at h
       ·rename_i hd
        obtain ⟨v,hres,rfl⟩:=Option.map_eq_some_iff.1 h
        refine wpS_of_wp (wp_mono (Xca hF (hD _ hF) k N rest _ a H _ out η w _ r hact hev) ?_)
        rintro e act1 w1 ⟨η1,h1,h2,h3,h4⟩
        obtain ⟨q,h5,h6⟩:=Xjy (P:=P) h2 h3 hres
        have hdn:act1.defers=[]:=by
         have:=h3.def_
         rw [List.isEmpty_iff.1 hd] at this
         exact this.nil
        rcases hout with rfl | rfl <;> cases e <;> first
         | exact h4.elim
         | exact ⟨hdn,u1,rfl,q,h5,q,rfl,hu1,η1,h1,h2⟩
       ·cases h
      split at h
      ·rename_i a H1 hev; exact fin .normal a H1 (.inl rfl) hev h
      ·rename_i a H1 hev; exact fin .ret a H1 (.inr rfl) hev h
      ·cases h
     subst hops
     have hr1:List.range (#[o]:Array Oper).size=[0]:=rfl
     rw [hr1]
     cases m with
     | none =>
      have hu':u=.returning:=hm
      subst hu'
      have hrd:recoverD (c₀::cs)=none:=by simp [recoverD,hu]
      have hc:({ c₀ with mode:=c₀.mode }:Frame)=c₀:=rfl
      have:=key .nilIface c₀.mode .nilI (by rw [hu]; rfl)
      rw [hc] at this
      simpa [wpOpsS,hw,Xl5 hrec,hrd,Exit.thenS] using this
     | some v =>
      obtain ⟨q,rfl,hq⟩:=hm
      have hrd:recoverD (c₀::cs)=some (q,{ c₀ with mode:=.panicking [{ v:=q,recovered:=true }] }::cs):=by simp [recoverD,hu]
      have:=key q (.panicking [{ v:=q,recovered:=true }]) hq (by rfl)
      simpa [wpOpsS,hw,Xl5 hrec,hrd,Exit.thenS] using this
    ·cases h
   ·cases h
  ·cases h
theorem Xm3 (hD:Xt4 P g) {F:Xc5} (hF:FOk P g F) {N:Nat} {fn:Func} {keep:Bool} {H1 H':Mem} {a:AAct} {m:Option AV} {res:End} {η1:Nat→Option Nat} {w1:World} {act:Act} {u:FrameMode} (hu:u≠.run)
  (r0:Rel g η H w) (x:Ext η H w η1 H1 w1) (r:Rel g η1 H1 w1) (ha:ActR η1 H1 w1 a act) (hm:RaisedR η1 H1 w1 m u) (h:Xrz P g F N fn keep H a m H1=some (res,H')) :
  Leaves P fn act.tmps (fun e w'=>∃ η',Ext η H w η' H' w'∧Rel g η' H' w'∧EndR η' H' w' res e) act.defers u w1:=by
 unfold Xrz at h
 split at h
 ·rename_i k cap dargs hd
  split at h
  ·rename_i hk
   obtain ⟨H2,hev,h⟩:=Option.bind_eq_some_iff.1 h
   obtain ⟨v,hres,h⟩:=Option.map_eq_some_iff.1 h
   injection h with h1 h2
   subst h1 h2
   have hds:=ha.def_
   rw [hd] at hds
   match hde:act.defers,hds with
   | [d],hds =>
    obtain ⟨⟨k',caps,ht,hc,hda⟩,_⟩:=hds
    obtain ⟨tgt,dv⟩:=d
    simp only at ht hda
    subst ht
    cases hc with
    | fn _ _ _ hn hvv =>
     refine leaves_cons hu (f:=k) (args:=dv++caps) ?_ ?_
     ·simp only [invoke]
      simpa using Xki (w:=w1) (args:=dv++caps) hk
     ·refine (Xut hD hF r (hda.append ⟨hn,hvv⟩) hm hev).mono ?_
      rintro e u' w' ⟨q,rfl,hs,η2,x2,r2⟩
      simp only
      rw [hs]
      obtain ⟨q2,h5,h6⟩:=Xjy (P:=P) r2 (ha.ext x2) hres
      obtain ⟨η3,h7,h8,h9⟩:=Xhj r0 (x.trans x2) r2 keep h6
      exact ⟨q2,h5,η3,h7,h8,h9⟩
  ·cases h
 ·cases h
theorem Xst (hL:LibOk P g) (hD:Xt4 P g)
  (N:Nat):∀ n,FOk P g (evF P g N n)
 | 0=>fun f args H r H' h=>by simp [evF] at h
 | n+1=>fun f args H r H' h η w us hr hv=>by
  have hF:=Xst hL hD N n
  simp only [evF] at h
  cases hl:g.lib f with
  | some s =>
   simp only [hl] at h
   obtain ⟨p,hp,h⟩:=Option.map_eq_some_iff.1 h
   injection h with h1 h2
   subst h1 h2
   exact hL f s hl args H p.1 p.2 hp η w us hr hv
  | none =>
   simp only [hl] at h
   cases hf:P.funcs[f]? with
   | none=>simp [hf] at h
   | some fn =>
    simp only [hf] at h
    cases hb:fn.body with
    | none=>simp [hb] at h
    | some c =>
     simp only [hb] at h
     have hact:=Xnw (η:=η) (H:=H) (w:=w) fn.ntmps hv
     have go:∀ (out:Out) (a:AAct) (H1:Mem),Xbt P g (evF P g N n) f N c ⟨max args.length fn.ntmps,idx 0 args,[]⟩ H=some (out,a,H1)→(∀ η1 w1 e act1,Ext η H w η1 H1 w1→Rel g η1 H1 w1→ActR η1 H1 w1 a act1→ExitR η1 H1 w1 out e→bodyPost P fn (fun e w'=>∃ η',Ext η H w η' H' w'∧Rel g η' H' w'∧EndR η' H' w' r e) e act1 w1) →
       Calls P f us w fun e w'=>∃ η',Ext η H w η' H' w'∧Rel g η' H' w'∧EndR η' H' w' r e:=by
      intro out a H1 hev hpost
      exact calls_of_wp hf hb (wp_mono (Xca hF (hD _ hF) f N c _ a H H1 out η w _ hr hact hev) fun e act1 w1 ⟨η1,h1,h2,h3,h4⟩=>hpost η1 w1 e act1 h1 h2 h3 h4)
     have goD:∀ (out:Out) (a:AAct) (H1:Mem),Xbt P g (evF P g N n) f N c ⟨max args.length fn.ntmps,idx 0 args,[]⟩ H=some (out,a,H1)→(∀ η1 w1 e act1,Ext η H w η1 H1 w1→Rel g η1 H1 w1→ActR η1 H1 w1 a act1→ExitR η1 H1 w1 out e→bodyPostD P fn (fun e w'=>∃ η',Ext η H w η' H' w'∧Rel g η' H' w'∧EndR η' H' w' r e) e act1 w1) →
       Calls P f us w fun e w'=>∃ η',Ext η H w η' H' w'∧Rel g η' H' w'∧EndR η' H' w' r e:=by
      intro out a H1 hev hpost
      exact calls_of_wp_defers hf hb (wp_mono (Xca hF (hD _ hF) f N c _ a H H1 out η w _ hr hact hev) fun e act1 w1 ⟨η1,h1,h2,h3,h4⟩=>hpost η1 w1 e act1 h1 h2 h3 h4)
     have ret:∀ (out:Out) (a:AAct) (H1:Mem),(out=.normal∨out=.ret)→Xbt P g (evF P g N n) f N c ⟨max args.length fn.ntmps,idx 0 args,[]⟩ H=some (out,a,H1)→(if a.d.isEmpty then (resA P fn a H1).map fun v=>(End.ret (Xao (g.keep f) H v H1).1,(Xao (g.keep f) H v H1).2) else Xrz P g (evF P g N n) N fn (g.keep f) H a none H1)=some (r,H') →
       Calls P f us w fun e w'=>∃ η',Ext η H w η' H' w'∧Rel g η' H' w'∧EndR η' H' w' r e:=by
      intro out a H1 ho hev h
      split at h
      ·rename_i hd
       obtain ⟨v,hres,h⟩:=Option.map_eq_some_iff.1 h
       injection h with h1 h2
       subst h1 h2
       refine go out a H1 hev fun η1 w1 e act1 h1 h2 h3 h4=>?_
       obtain ⟨u,h5,h6⟩:=Xjy (P:=P) h2 h3 hres
       have hdn:act1.defers=[]:=by
        have:=h3.def_
        rw [List.isEmpty_iff.1 hd] at this
        exact this.nil
       obtain ⟨η2,h7,h8,h9⟩:=Xhj hr h1 h2 (g.keep f) h6
       rcases ho with rfl | rfl <;> cases e <;> first
        | exact h4.elim
        | exact ⟨hdn,u,h5,η2,h7,h8,h9⟩
      ·refine goD out a H1 hev fun η1 w1 e act1 h1 h2 h3 h4=>?_
       rcases ho with rfl | rfl <;> cases e <;> first
        | exact h4.elim
        | exact Xm3 (m:=none) hD hF (by simp) hr h1 h2 h3 rfl h
     cases hev:Xbt P g (evF P g N n) f N c ⟨max args.length fn.ntmps,idx 0 args,[]⟩ H with
     | none=>simp [hev] at h
     | some p =>
      obtain ⟨out,a,H1⟩:=p
      rw [hev] at h
      cases out with
      | normal=>exact ret .normal a H1 (.inl rfl) hev h
      | ret=>exact ret .ret a H1 (.inr rfl) hev h
      | exit id=>simp at h
      | pan v =>
       simp only at h
       split at h
       ·rename_i hd
        injection h with h; injection h with h1 h2
        subst h1 h2
        refine go (.pan v) a H1 hev fun η1 w1 e act1 h1 h2 h3 h4=>?_
        have hdn:act1.defers=[]:=by
         have:=h3.def_
         rw [List.isEmpty_iff.1 hd] at this
         exact this.nil
        cases e with
        | panic ch =>
         obtain ⟨u,rfl,h6⟩:=h4
         obtain ⟨η2,h7,h8,h9⟩:=Xhj hr h1 h2 false h6
         exact ⟨hdn,η2,h7,h8,u,rfl,h9⟩
        | _=>exact h4.elim
       ·refine goD (.pan v) a H1 hev fun η1 w1 e act1 h1 h2 h3 h4=>?_
        cases e with
        | panic ch =>
         obtain ⟨u,rfl,h6⟩:=h4
         exact Xm3 (m:=some v) hD hF (by simp) hr h1 h2 h3 ⟨u,rfl,h6⟩ h
        | _=>exact h4.elim
end Go.Proofs.YtmhhddhbdbcmbaaGreatDoor.Ev
