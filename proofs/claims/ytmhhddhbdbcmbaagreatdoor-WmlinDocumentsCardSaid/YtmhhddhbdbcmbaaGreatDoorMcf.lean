/- Parts of one proof. -/
import Derived.Test.YtmhhddhbdbcmbaaGreatDoorMad
import Derived.Test.YtmhhddhbdbcmbaaGreatDoorMcd
import Derived.Test.YtmhhddhbdbcmbaaGreatDoorMce
set_option linter.all false
namespace Go.Proofs.YtmhhddhbdbcmbaaGreatDoor.Ev
variable {P:Program} {g:Cfg} {F F':Xc5}
theorem Xit {ops:Array Oper} {o:Oper} {s:IS} (h:Xx3 P ops o=some s) (a:AAct):s.dst=o.dst∧s.op=Xhk P o∧Xya s a=Xdf ops a o:=by
 unfold Xx3 at h
 obtain ⟨gd,hg,rfl⟩:=Option.map_eq_some_iff.1 h
 refine ⟨rfl,rfl,?_⟩
 unfold Xya
 unfold guardR at hg
 unfold Xdf
 split at hg
 ·rename_i e; injection hg with hg; subst hg; rw [e]
 ·rename_i j want e
  rw [e]
  split at hg
  ·rename_i d hd
   injection hg with hg; subst hg
   simp only [hd]
   rfl
  ·cases hg
theorem Xh8 {o:Oper} {a:AAct} {H:Mem} {r:Res1} (h:opI P (a.eval g) (a.evI g) (Xhk P o) H=some r):Xar P (a.eval g) o H=some r :=
 Xm8 (fun x=>evI_arg a x) (fun _=>rfl) (fun _=>rfl) (fun _=>rfl) h
def Xv1 (F F':Xc5):Prop:=∀ f args H r,F f args H=some r→F' f args H=some r
theorem Xiv (hF:Xv1 F F') {ops:Array Oper} {o:Oper} {s:IS} (hs:Xx3 P ops o=some s) {a:AAct} {H:Mem} {r:Out × AAct × Mem} (h:stepI P g F s a H=some r):Xnm P g F' ops o a H=some r:=by
 obtain ⟨h1,h2,h3⟩:=Xit hs a
 unfold stepI at h
 rw [h3,h1,h2] at h
 unfold Xnm
 split at h
 ·cases h
 ·rename_i e; rw [e]; exact h
 ·rename_i e
  rw [e]
  simp only
  split at h
  ·cases h
  ·rename_i v H' e2; rw [Xh8 e2]; exact h
  ·rename_i v e2; rw [Xh8 e2]; exact h
  ·rename_i f args e2; rw [Xh8 e2]; exact h
  ·rename_i f args e2
   rw [Xh8 e2]
   simp only
   split at h
   ·rename_i v H' e3; rw [hF _ _ _ _ e3]; exact h
   ·rename_i v H' e3; rw [hF _ _ _ _ e3]; exact h
   ·cases h
theorem Xn6 (hF:Xv1 F F') {ops:Array Oper}:∀ {l:List Oper} {q:List IS},Xr1 P ops l=some q→∀ {a:AAct} {H:Mem} {r:Out × AAct × Mem},opsI P g F q a H=some r→opsA P g F' ops l a H=some r
 | [],q,hq,a,H,r,h=>by
  simp only [Xr1] at hq
  injection hq with hq; subst hq
  exact h
 | o::l,q,hq,a,H,r,h=>by
  simp only [Xr1] at hq
  split at hq
  ·rename_i s rest hs hrest
   injection hq with hq; subst hq
   simp only [opsI] at h
   simp only [opsA]
   split at h
   ·rename_i a' H' e
    rw [Xiv hF hs e]
    exact Xn6 hF hrest h
   ·rename_i hne
    have h':=Xiv hF hs h
    rw [h']
    match r,h with
    | (.normal,a',H'),h=>exact absurd h (hne a' H')
    | (.exit _,_,_),_=>rfl
    | (.ret,_,_),_=>rfl
    | (.pan _,_,_),_=>rfl
  ·cases hq
theorem Xxi (hF:Xv1 F F') {ops:Array Oper} {o:Oper} {s:IS} {id:Nat} (hna:Xaz o=false) (hs:Xx3 P ops o=some s) {a:AAct} {H:Mem} {r:AV × Mem} (h:valI P g F s a H=some r):Xea P g F' ops id o a H=some r:=by
 obtain ⟨h1,h2,h3⟩:=Xit hs a
 unfold valI at h
 rw [h3,h2] at h
 unfold Xea
 split at h
 ·cases h
 ·rename_i e; rw [e]; exact h
 ·rename_i e
  rw [e]
  have key:(match Xar P (a.eval g) o H with
    | some (.val v H')=>some (v,H')
    | some (.call f args)=>match F' f args H with
     | some (.ret v,H')=>some (v,H')
     | _=>none
    | _=>none)=some r:=by
   split at h
   ·rename_i v H' e2; rw [Xh8 e2]; exact h
   ·rename_i f args e2
    rw [Xh8 e2]
    simp only
    split at h
    ·rename_i v H' e3; rw [hF _ _ _ _ e3]; exact h
    ·cases h
   ·cases h
  simp only [hna,Ze,if_false]
  exact key
theorem mkVal_q {r:Option AV} {H:Mem} {res:Res1} (h:Xbe r H=some res):∃ v,res=.val v H:=by
 obtain ⟨v,_,h⟩:=Option.map_eq_some_iff.1 h
 exact ⟨v,h.symm⟩
theorem Xr6 {σ:IArg→AV} {ρ:Operand→AV} {o:IOp} {H:Mem} {res:Res1} (hq:Xkp o=true) (h:opI P ρ σ o H=some res):∃ v,res=.val v H:=by
 cases o <;> first | (simp only [Xkp,Ze] at hq; done) | skip
 all_goals simp only [opI] at h
 all_goals repeat' first
  | exact ⟨_,(Option.some.inj h).symm⟩
  | exact mkVal_q h
  | (cases h; done)
  | (obtain ⟨_,_,h⟩:=Option.map_eq_some_iff.1 h; exact ⟨_,h.symm⟩)
  | (obtain ⟨_,_,h⟩:=Option.bind_eq_some_iff.1 h; revert h; clear h; intro h)
  | split at h
theorem quiet_mem {σ:IArg→AV} {ρ:Operand→AV} {o:IOp} {H H':Mem} {v:AV} (hq:Xkp o=true) (h:opI P ρ σ o H=some (.val v H')):H'=H:=by
 obtain ⟨v',e⟩:=Xr6 hq h
 injection e
theorem Xx7 {σ:IArg→AV} {ρ:Operand→AV} {o:IOp} {H:Mem} {f:FuncId} {l:List AV} (hq:Xkp o=true) (h:opI P ρ σ o H=some (.call f l)):False:=by
 obtain ⟨v',e⟩:=Xr6 hq h
 cases e
theorem Xx0 {s:IS} {a:AAct} {H:Mem} {r:AV × Mem} (hq:Xkp s.op=true) (h:valI P g F s a H=some r):r.2=H:=by
 unfold valI at h
 split at h
 ·cases h
 ·injection h with h; subst h; rfl
 ·split at h
  ·rename_i v H' e
   injection h with h; subst h
   exact quiet_mem hq e
  ·rename_i f args e
   exact (Xx7 hq e).elim
  ·cases h
def DOk (P:Program) (g:Cfg) (F F':Xc5) (ops:Array Oper) (n:Nat) (d:ID) (o:Oper) (k:Nat):Prop :=
 d.s.dst=o.dst∧∀ (a:AAct) (M:Mem) (r:AV × Mem),Xtw P g F n d a M=some r→Xea P g F' ops (n+k) o a M=some r
theorem Xe2 (hF:Xv1 F F') {ops:Array Oper} {tab:List (Nat × Oper × Nat)} {n:Nat}:∀ {l:List (Nat × Oper × Nat)} {k:Nat} {q:List ID},Xf8 P ops tab k l=some q →
  q.length=l.length∧∀ (i:Nat) e,l[i]? = some e→∃ d,q[i]? = some d∧DOk P g F F' ops n d e.2.1 (k+Xbz (l.map (·.2.1)) i)∧(∀ (a:AAct) (M:Mem) (r:AV × Mem),Xtw P g F n d a M=some r→(d.free || eqM r.2 M || d.conf.all fun _=>false)=true→eqM r.2 M=true∨Xg5 tab e.1 e.2.2=[])∧(d.free=false→d.conf=Xg5 tab e.1 e.2.2)
 | [],k,q,hq=>by
  simp only [Xf8] at hq
  injection hq with hq; subst hq
  exact ⟨rfl,fun i e h=>by simp at h⟩
 | (j,x,b)::l,k,q,hq=>by
  simp only [Xf8] at hq
  cases hal:Xaz x with
  | true =>
   simp only [hal,if_true] at hq
   split at hq
   ·rename_i z rest hg hz hrest
    injection hq with hq; subst hq
    obtain ⟨h1,h2⟩:=Xe2 hF (n:=n) hrest
    refine ⟨by simp [h1],fun i e he=>?_⟩
    cases i with
    | zero =>
     simp at he; subst he
     refine ⟨_,rfl,⟨rfl,fun a M r h=>?_⟩,fun a M r h _=>?_,fun h=>by cases h⟩
     ·simp only [Xtw] at h
      have hw:Xdf ops a x=some true:=by simp [Xdf,hg]
      have hc0:Xbz (List.map (·.2.1) ((j,x,b)::l)) 0=0:=by simp [Xbz]
      rw [hc0,Nat.add_zero]
      split at h
      ·rename_i blk hb
       split at h
       ·rename_i heq
        injection h with h; subst h
        simp [Xea,hw,hal,hz,hb,heq]
       ·cases h
      ·cases h
     ·simp only [Xtw] at h
      split at h
      ·split at h
       ·injection h with h; subst h
        exact .inl (Xb0 _)
       ·cases h
      ·cases h
    | succ i =>
     obtain ⟨d,h3,h4,h5⟩:=h2 i e (by simpa using he)
     refine ⟨d,by simpa using h3,?_,h5⟩
     have:Xbz (List.map (·.2.1) ((j,x,b)::l)) (i+1)=1+Xbz (List.map (·.2.1) l) i:=by
      simp [Xbz,hal]; omega
     rw [this,← Nat.add_assoc]
     exact h4
   ·cases hq
  | false =>
   simp only [hal,Ze,if_false] at hq
   split at hq
   ·rename_i s rest hs hrest
    injection hq with hq; subst hq
    have hna:Xaz x=false:=hal
    obtain ⟨h1,h2⟩:=Xe2 hF (n:=n) hrest
    refine ⟨by simp [h1],fun i e he=>?_⟩
    cases i with
    | zero =>
     simp at he; subst he
     refine ⟨_,rfl,⟨(Xit hs ⟨0,[],[]⟩).1,fun a M r h=>Xxi hF hna hs h⟩,fun a M r h hd=>?_,fun h=>?_⟩
     ·cases hq:Xkp s.op with
      | true=>left; rw [Xx0 hq h]; exact Xb0 _
      | false =>
       simp only [hq,Bool.or_false,Ze,if_false,Bool.or_eq_true] at hd
       rcases hd with (hd | hd) | hd
       ·exact .inr (List.isEmpty_iff.1 hd)
       ·exact .inl hd
       ·right
        cases hc:Xg5 tab j b with
        | nil=>rfl
        | cons y ys=>rw [hc] at hd; simp at hd
     ·simp only [Bool.or_eq_false_iff] at h
      simp [h.2]
    | succ i =>
     obtain ⟨d,h3,h4,h5⟩:=h2 i e (by simpa using he)
     refine ⟨d,by simpa using h3,?_,h5⟩
     have:Xbz (List.map (·.2.1) ((j,x,b)::l)) (i+1)=Xbz (List.map (·.2.1) l) i:=by
      simp [Xbz,hna]
     rw [this]
     exact h4
   ·cases hq
theorem Xwa:∀ (l:List Oper) (acc:List Nat),(Xp8 l acc).length=acc.length+l.length
 | [],acc=>by simp [Xp8]
 | o::l,acc=>by simp [Xp8,Xwa l]; omega
theorem Xjh (ops:Array Oper):(Xa2 ops).map (·.2.1)=ops.toList:=by
 have hl:(Xp8 ops.toList []).length=ops.toList.length:=by simp [Xwa]
 apply List.ext_getElem
 ·simp [Xa2,hl]
 ·intro i h1 h2
  simp [Xa2]
theorem Xpk {l:List (Nat × Oper × Nat)} {q:List ID} (hl:q.length=l.length) (h:∀ (i:Nat) e,l[i]? = some e→∃ d,q[i]? = some d∧d.s.dst=e.2.1.dst):∀ (tr:List (AV × Mem)) (a:AAct),Xpp q tr a=Xcv (l.map (·.2.1)) tr a:=by
 induction l generalizing q with
 | nil =>
  obtain rfl:q=[]:=List.eq_nil_of_length_eq_zero hl
  intro tr a; cases tr <;> rfl
 | cons e l ih =>
  cases q with
  | nil=>simp at hl
  | cons d q =>
   intro tr a
   obtain ⟨d',h1,h2⟩:=h 0 e rfl
   simp at h1; subst h1
   cases tr with
   | nil=>rfl
   | cons p tr =>
    obtain ⟨v,M⟩:=p
    simp only [Xpp,Zv,Xcv,h2]
    exact ih (by simpa using hl) (fun i e' he=>by have:=h (i+1) e' (by simpa using he); simpa using this) tr _
theorem Xjt {ops:Array Oper} {n:Nat} {F':Xc5}:∀ {l:List (Nat × Oper × Nat)} {q:List ID} {k:Nat},q.length=l.length→(∀ (i:Nat) e,l[i]? = some e→∃ d,q[i]? = some d∧DOk P g F F' ops n d e.2.1 (k+Xbz (l.map (·.2.1)) i)) →
  ∀ {a:AAct} {H:Mem} {tr:List (AV × Mem)},Xr7 P g F n q a H=some tr→Xyo P g F' ops (n+k) (l.map (·.2.1)) a H=some tr
 | [],q,k,hl,h,a,H,tr,ht=>by
  obtain rfl:q=[]:=List.eq_nil_of_length_eq_zero hl
  exact ht
 | e::l,[],k,hl,_,_,_,_,_=>by simp at hl
 | e::l,d::q,k,hl,h,a,H,tr,ht=>by
  obtain ⟨d',h1,h2,h3⟩:=h 0 e rfl
  simp at h1; subst h1
  simp only [Xr7] at ht
  split at ht
  ·rename_i v H' hv
   obtain ⟨tr',ht',rfl⟩:=Option.map_eq_some_iff.1 ht
   have hc0:Xbz (List.map (·.2.1) (e::l)) 0=0:=by simp [Xbz]
   rw [hc0,Nat.add_zero] at h3
   simp only [Zv,Xyo,h3 _ _ _ hv]
   have ih:=Xjt (ops:=ops) (n:=n) (F':=F') (l:=l) (q:=q) (k:=if Xaz e.2.1 then k+1 else k) (by simpa using hl) (fun i e' he=>by
    obtain ⟨d',h5,h6⟩:=h (i+1) e' (by simpa using he)
    refine ⟨d',by simpa using h5,?_⟩
    have hc:k+Xbz (List.map (·.2.1) (e::l)) (i+1)=(if Xaz e.2.1 then k+1 else k)+Xbz (List.map (·.2.1) l) i:=by
     cases ha:Xaz e.2.1 <;> simp [Xbz,ha]; omega
    rw [← hc]; exact h6) ht'
   rw [← h2]
   have hk:(if Xaz e.2.1=true then n+k+1 else n+k)=n+(if Xaz e.2.1 then k+1 else k):=by split <;> omega
   rw [hk,ih]
   rfl
  ·cases ht
theorem Xpj {tr:List (AV × Mem)} {M:Mem} {p:Nat} (hp:p≤tr.length) (k:Nat):(Xq6 tr M p)[k]? = if k<p then tr[k]? else (tr[k]?).map fun z=>(z.1,M):=by
 unfold Xq6
 by_cases hk:k<p
 ·rw [if_pos hk,List.getElem?_append_left (by simp; omega),List.getElem?_take,if_pos hk]
 ·rw [if_neg hk,List.getElem?_append_right (by simp; omega),List.getElem?_map,List.getElem?_drop]
  congr 2
  simp; omega
theorem Xxb {tr:List (AV × Mem)} {H M:Mem} {p k:Nat} (hp:p≤tr.length) (hk:k≤p):Xai (Xq6 tr M p) H k=Xai tr H k:=by
 cases k with
 | zero=>rfl
 | succ k=>simp only [Xai,Xpj hp,if_pos (show k<p by omega)]
theorem Xyb {tr:List (AV × Mem)} {H M:Mem} {p k:Nat} (hp:p≤tr.length) (hk:p<k) (hkl:k≤tr.length):Xai (Xq6 tr M p) H k=M:=by
 obtain ⟨k,rfl⟩ : ∃ k',k=k'+1:=⟨k-1,by omega⟩
 have:k<tr.length:=by omega
 simp only [Xai,Xpj hp,if_neg (show ¬ k<p by omega),List.getElem?_eq_getElem this,Zh]
theorem Xve {ops:Array Oper} {rows:Mem} {q:List ID} {a:AAct} {H:Mem} {tr:List (AV × Mem)} (hl:q.length=(Xa2 ops).length) (hsp:∀ (i:Nat) e,(Xa2 ops)[i]? = some e→∃ d,q[i]? = some d∧DOk P g F F' ops H.length d e.2.1 (0+Xbz ((Xa2 ops).map (·.2.1)) i))
  (htl:tr.length=q.length) (hfree:∀ (i:Nat) e,(Xa2 ops)[i]? = some e→∃ d,q[i]? = some d∧(d.free=true→∀ p,tr[i]? = some p→eqM p.2 (Xai tr (H++rows) i)=true∨Xg5 (Xa2 ops) e.1 e.2.2=[])∧(d.free=false→d.conf=Xg5 (Xa2 ops) e.1 e.2.2))
  (hok:okD (roD P g F H.length q a (H++rows) tr) q tr (H++rows)=true):Xkx (roA P g F' ops H.length a (H++rows) tr) (Xa2 ops) (Xa2 ops) tr (H++rows)=true:=by
 have hmap:=Xjh ops
 have hro:∀ (x:Nat) (e:Nat × Oper × Nat) (M:Mem),(Xa2 ops)[x]? = some e→roD P g F H.length q a (H++rows) tr x M=true→roA P g F' ops H.length a (H++rows) tr x e.2.1 M=true:=by
  intro x e M he hx
  obtain ⟨d,h1,h2⟩:=hsp x e he
  unfold roD at hx
  simp only [Bool.and_eq_true] at hx
  unfold roA
  simp only [Bool.and_eq_true]
  refine ⟨hx.1,?_⟩
  have h3:=hx.2
  rw [h1] at h3
  split at h3
  ·rename_i d' p hd' hp
   injection hd' with hd'; subst hd'
   split at h3
   ·rename_i r hr
    have h4:=h2.2 _ _ _ hr
    have h5:Xpp (q.take x) (tr.take x) a=Xcv (ops.toList.take x) (tr.take x) a:=by
     have hl2:(q.take x).length=((Xa2 ops).take x).length:=by simp [hl]
     rw [Xpk hl2 (fun i e' he'=>?_),List.map_take,hmap]
     rw [List.getElem?_take] at he'
     split at he'
     ·rename_i hi
      obtain ⟨d,h6,h7⟩:=hsp i e' he'
      exact ⟨d,by rw [List.getElem?_take,if_pos hi]; exact h6,h7.1⟩
     ·cases he'
    rw [h5,Nat.zero_add,hmap] at h4
    rw [hp,h4]
    exact h3
   ·cases h3
  ·cases h3
 have go:∀ (l:List (Nat × Oper × Nat)) (qs:List ID) (t:List (AV × Mem)) (M:Mem),qs.length=l.length→t.length=l.length →
   (∀ (i:Nat) e,l[i]? = some e→∃ d,qs[i]? = some d∧(d.free=true→∀ p,t[i]? = some p→eqM p.2 (Xai t M i)=true∨Xg5 (Xa2 ops) e.1 e.2.2=[])∧(d.free=false→d.conf=Xg5 (Xa2 ops) e.1 e.2.2)) →
   okD (roD P g F H.length q a (H++rows) tr) qs t M=true→Xkx (roA P g F' ops H.length a (H++rows) tr) (Xa2 ops) l t M=true:=by
  intro l
  induction l with
  | nil=>intro qs t M _ _ _ _; cases t <;> rfl
  | cons e l ih =>
   intro qs t M h1 h2 h3 h4
   match qs,t,h1,h2 with
   | d::qs,(v,M')::t,h1,h2 =>
    simp only [okD,Bool.and_eq_true] at h4
    obtain ⟨i,x,b⟩:=e
    simp only [Xkx,Bool.and_eq_true]
    refine ⟨?_,ih qs t M' (by simpa using h1) (by simpa using h2) (fun j e' he'=>?_) h4.2⟩
    ·obtain ⟨d',h5,h6,h7⟩:=h3 0 _ rfl
     simp at h5; subst h5
     have htab:∀ q ∈ Xa2 ops,q.1 ∉ Xg5 (Xa2 ops) i b→(Xbp q.2.1 || q.1 == i || b.testBit q.1 || q.2.2.testBit i)=true:=by
      intro y hy hn
      cases hc:(Xbp y.2.1 || y.1 == i || b.testBit y.1 || y.2.2.testBit i) with
      | true=>rfl
      | false=>exact absurd (List.mem_map.2 ⟨y,List.mem_filter.2 ⟨hy,by simp [hc]⟩,rfl⟩) hn
     have h8:=h4.1
     simp only [Bool.or_eq_true] at h8
     have conf_all:(∀ y ∈ Xg5 (Xa2 ops) i b,(roD P g F H.length q a (H++rows) tr y M && roD P g F H.length q a (H++rows) tr y M')=true)→(eqM M' M || (Xa2 ops).all fun q=>Xbp q.2.1 || q.1 == i || b.testBit q.1 || q.2.2.testBit i || (roA P g F' ops H.length a (H++rows) tr q.1 q.2.1 M && roA P g F' ops H.length a (H++rows) tr q.1 q.2.1 M'))=true:=by
      intro hall
      rw [Bool.or_eq_true]
      refine .inr (List.all_eq_true.2 fun y hy=>?_)
      rw [Bool.or_eq_true]
      by_cases hm:y.1 ∈ Xg5 (Xa2 ops) i b
      ·right
       have h9:=hall _ hm
       simp only [Bool.and_eq_true] at h9 ⊢
       obtain ⟨m,hm1⟩:=List.getElem?_of_mem hy
       have hm2:y.1=m:=by
        have hx:=tab_mem hy
        have:m<ops.size:=by
         have:=(List.getElem?_eq_some_iff.1 hm1).1
         simpa [Xa2,Xda] using this
        have h10:=Xdv (ops:=ops) (i:=m) (Array.getElem?_eq_getElem this)
        rw [hm1] at h10
        injection h10 with h10
        rw [h10]
       rw [hm2] at h9 ⊢
       exact ⟨hro m y M hm1 h9.1,hro m y M' hm1 h9.2⟩
      ·left; exact htab y hy hm
     rcases h8 with (h8 | h8) | h8
     ·rcases h6 h8 (v,M') rfl with h9 | h9
      ·have:eqM M' M=true:=h9
       rw [this]; rfl
      ·exact conf_all (by rw [h9]; intro y hy; cases hy)
     ·rw [h8]; rfl
     ·cases hfr:d.free with
      | true =>
       rcases h6 hfr (v,M') rfl with h9 | h9
       ·have:eqM M' M=true:=h9
        rw [this]; rfl
       ·exact conf_all (by rw [h9]; intro y hy; cases hy)
      | false =>
       rw [h7 hfr] at h8
       exact conf_all (List.all_eq_true.1 h8)
    ·obtain ⟨d',h5,h6,h7⟩:=h3 (j+1) e' (by simpa using he')
     refine ⟨d',by simpa using h5,fun hf p hp=>?_,h7⟩
     have:=h6 hf p (by simpa using hp)
     have e3:Xai ((v,M')::t) M (j+1)=Xai t M' j:=by cases j <;> simp [Xai]
     rwa [e3] at this
 exact go (Xa2 ops) q tr (H++rows) hl (by rw [htl,hl]) hfree hok
theorem Xse (hF:Xv1 F F') {ops:Array Oper} (hst:Xif ops=true) {rows:Mem} (hrows:Xcg P ops.toList=some rows) {q:List ID} (hq:Xf8 P ops (Xa2 ops) 0 (Xa2 ops)=some q) {a:AAct} {H:Mem} {r:Out × AAct × Mem} (h:Xw1 P g F H.length q a (H++rows)=some r) :
  Xmc P g F' ops a H=some r:=by
 obtain ⟨hl,hsp⟩:=Xe2 (g:=g) (n:=H.length) hF hq
 unfold Xw1 at h
 obtain ⟨tr,htr,h⟩:=Option.bind_eq_some_iff.1 h
 have hmap:=Xjh ops
 have hput:∀ (tr:List (AV × Mem)) (a:AAct),Xpp q tr a=Xcv ops.toList tr a:=by
  intro tr a
  rw [Xpk hl (fun i e he=>let ⟨d,h1,h2,_⟩:=hsp i e he; ⟨d,h1,h2.1⟩),hmap]
 have hlex:Xyo P g F' ops H.length ops.toList a (H++rows)=some tr:=by
  have:=Xjt (ops:=ops) (n:=H.length) (F':=F') (k:=0) hl (fun i e he=>let ⟨d,h1,h2,_⟩:=hsp i e he; ⟨d,h1,h2⟩) htr
  rwa [hmap] at this
 split at h
 ·rename_i hok
  injection h with h; subst h
  have htl:tr.length=q.length:=by
   have:∀ (l:List ID) (a:AAct) (M:Mem) (t:List (AV × Mem)),Xr7 P g F H.length l a M=some t→t.length=l.length:=by
    intro l
    induction l with
    | nil=>intro a M t h; simp only [Xr7] at h; injection h with h; subst h; rfl
    | cons d l ih =>
     intro a M t h
     simp only [Xr7] at h
     split at h
     ·obtain ⟨t',h1,rfl⟩:=Option.map_eq_some_iff.1 h
      simp [ih _ _ _ h1]
     ·cases h
   exact this _ _ _ _ htr
  have hfree:∀ (i:Nat) e,(Xa2 ops)[i]? = some e→∃ d,q[i]? = some d∧(d.free=true→∀ p,tr[i]? = some p→eqM p.2 (Xai tr (H++rows) i)=true∨Xg5 (Xa2 ops) e.1 e.2.2=[])∧(d.free=false→d.conf=Xg5 (Xa2 ops) e.1 e.2.2):=by
   intro i e he
   obtain ⟨d,h1,h2,h3,h4⟩:=hsp i e he
   refine ⟨d,h1,fun hf p hp=>?_,h4⟩
   have hi:i<q.length:=(List.getElem?_eq_some_iff.1 h1).1
   have hval:Xtw P g F H.length d (Xpp (q.take i) (tr.take i) a) (Xai tr (H++rows) i)=some p:=by
    have:∀ (l:List ID) (a:AAct) (M:Mem) (t:List (AV × Mem)),Xr7 P g F H.length l a M=some t→∀ (i:Nat) d p,l[i]? = some d→t[i]? = some p→Xtw P g F H.length d (Xpp (l.take i) (t.take i) a) (Xai t M i)=some p:=by
     intro l
     induction l with
     | nil=>intro a M t h i d p h1; simp at h1
     | cons y l ih =>
      intro a M t h i d p h1 h2
      simp only [Xr7] at h
      split at h
      ·rename_i v H' hv
       obtain ⟨t',h3,rfl⟩:=Option.map_eq_some_iff.1 h
       cases i with
       | zero=>simp at h1 h2; subst h1 h2; exact hv
       | succ i =>
        have:=ih _ _ _ h3 i d p (by simpa using h1) (by simpa using h2)
        have e3:Xai ((v,H')::t') M (i+1)=Xai t' H' i:=by cases i <;> simp [Xai]
        rw [e3]
        exact this
      ·cases h
    exact this q a (H++rows) tr htr i d p h1 hp
   rcases h3 _ _ _ hval (by rw [hf]; rfl) with h5 | h5
   ·exact .inl h5
   ·exact .inr h5
  have heff:=Xve (ops:=ops) (rows:=rows) hl (fun i e he=>let ⟨d,h1,h2,_⟩:=hsp i e he; ⟨d,h1,h2⟩) htl hfree hok
  simp only [Xmc,if_pos hst,hrows,Zo,hlex,if_pos heff,hput]
 ·cases h
theorem Xqw (hF:Xv1 F F') {ops:Array Oper} (hst:Xif ops=true) {rows:Mem} (hrows:Xcg P ops.toList=some rows) {x y:Nat} (htw:twoW ops=some (x,y)) (htt:twoT ops x y=true) {q:List ID} (hq:Xf8 P ops (Xa2 ops) 0 (Xa2 ops)=some q) {a:AAct} {H:Mem} {r:Out × AAct × Mem} (h:Xqx P g F H.length x y q a (H++rows)=some r) :
  Xmc P g F' ops a H=some r:=by
 obtain ⟨hl,hsp⟩:=Xe2 (g:=g) (n:=H.length) hF hq
 unfold Xqx at h
 obtain ⟨tr,htr,h⟩:=Option.bind_eq_some_iff.1 h
 have hmap:=Xjh ops
 have hput:∀ (tr:List (AV × Mem)) (a:AAct),Xpp q tr a=Xcv ops.toList tr a:=by
  intro tr a
  rw [Xpk hl (fun i e he=>let ⟨d,h1,h2,_⟩:=hsp i e he; ⟨d,h1,h2.1⟩),hmap]
 have hlex:Xyo P g F' ops H.length ops.toList a (H++rows)=some tr:=by
  have:=Xjt (ops:=ops) (n:=H.length) (F':=F') (k:=0) hl (fun i e he=>let ⟨d,h1,h2,_⟩:=hsp i e he; ⟨d,h1,h2⟩) htr
  rwa [hmap] at this
 have htl:tr.length=q.length:=by
  have:∀ (l:List ID) (a:AAct) (M:Mem) (t:List (AV × Mem)),Xr7 P g F H.length l a M=some t→t.length=l.length:=by
   intro l
   induction l with
   | nil=>intro a M t h; simp only [Xr7] at h; injection h with h; subst h; rfl
   | cons d l ih =>
    intro a M t h
    simp only [Xr7] at h
    split at h
    ·obtain ⟨t',h1,rfl⟩:=Option.map_eq_some_iff.1 h
     simp [ih _ _ _ h1]
    ·cases h
  exact this _ _ _ _ htr
 have hfree:∀ (i:Nat) e,(Xa2 ops)[i]? = some e→∃ d,q[i]? = some d∧(d.free=true→∀ p,tr[i]? = some p→eqM p.2 (Xai tr (H++rows) i)=true∨Xg5 (Xa2 ops) e.1 e.2.2=[])∧(d.free=false→d.conf=Xg5 (Xa2 ops) e.1 e.2.2):=by
  intro i e he
  obtain ⟨d,h1,h2,h3,h4⟩:=hsp i e he
  refine ⟨d,h1,fun hf p hp=>?_,h4⟩
  have hi:i<q.length:=(List.getElem?_eq_some_iff.1 h1).1
  have hval:Xtw P g F H.length d (Xpp (q.take i) (tr.take i) a) (Xai tr (H++rows) i)=some p:=by
   have:∀ (l:List ID) (a:AAct) (M:Mem) (t:List (AV × Mem)),Xr7 P g F H.length l a M=some t→∀ (i:Nat) d p,l[i]? = some d→t[i]? = some p→Xtw P g F H.length d (Xpp (l.take i) (t.take i) a) (Xai t M i)=some p:=by
    intro l
    induction l with
    | nil=>intro a M t h i d p h1; simp at h1
    | cons y l ih =>
     intro a M t h i d p h1 h2
     simp only [Xr7] at h
     split at h
     ·rename_i v H' hv
      obtain ⟨t',h3,rfl⟩:=Option.map_eq_some_iff.1 h
      cases i with
      | zero=>simp at h1 h2; subst h1 h2; exact hv
      | succ i =>
       have:=ih _ _ _ h3 i d p (by simpa using h1) (by simpa using h2)
       have e3:Xai ((v,H')::t') M (i+1)=Xai t' H' i:=by cases i <;> simp [Xai]
       rw [e3]
       exact this
     ·cases h
   exact this q a (H++rows) tr htr i d p h1 hp
  rcases h3 _ _ _ hval (by rw [hf]; rfl) with h5 | h5
  ·exact .inl h5
  ·exact .inr h5
 split at h
 ·rename_i hok
  injection h with h; subst h
  have heff:=Xve (ops:=ops) (rows:=rows) hl (fun i e he=>let ⟨d,h1,h2,_⟩:=hsp i e he; ⟨d,h1,h2⟩) htl hfree hok
  simp only [Xmc,if_pos hst,hrows,Zo,hlex,if_pos heff,hput]
 ·split at h
  ·rename_i hno hcond
   injection h with h; subst h
   simp only [Bool.and_eq_true] at hcond
   obtain ⟨hok,hsw⟩:=hcond
   have hno':¬ Xkx (roA P g F' ops H.length a (H++rows) tr) (Xa2 ops) (Xa2 ops) tr (H++rows)=true∨Xkx (roA P g F' ops H.length a (H++rows) tr) (Xa2 ops) (Xa2 ops) tr (H++rows)=true:=by
    cases Xkx (roA P g F' ops H.length a (H++rows) tr) (Xa2 ops) (Xa2 ops) tr (H++rows) <;> simp
   rcases hno' with hno' | hyes
   rotate_left
   ·simp only [Xmc,if_pos hst,hrows,Zo,hlex,if_pos hyes,hput]
   have htls:tr.length=ops.size:=by rw [htl,hl]; simp [Xa2,Xda]
   have hxs:x≤tr.length:=by
    obtain ⟨hxy,ox,oy,hox,_⟩:=Xm5 htt
    have hxn:x<ops.size:=(Array.getElem?_eq_some_iff.1 hox).1
    omega
   have hget:=fun k=>Xpj (tr:=tr) (M:=Xai tr (H++rows) x) (p:=x) hxs k
   have htl2:(Xq6 tr (Xai tr (H++rows) x) x).length=q.length:=by rw [← htl]; unfold Xq6; simp; omega
   have hmem1:∀ k,k≤x→Xai (Xq6 tr (Xai tr (H++rows) x) x) (H++rows) k=Xai tr (H++rows) k:=fun k hk=>Xxb hxs hk
   have hfree2:∀ (i:Nat) e,(Xa2 ops)[i]? = some e→∃ d,q[i]? = some d∧(d.free=true→∀ p,(Xq6 tr (Xai tr (H++rows) x) x)[i]? = some p→eqM p.2 (Xai (Xq6 tr (Xai tr (H++rows) x) x) (H++rows) i)=true∨Xg5 (Xa2 ops) e.1 e.2.2=[])∧(d.free=false→d.conf=Xg5 (Xa2 ops) e.1 e.2.2):=by
    intro i e he
    obtain ⟨d,h1,h2,h3⟩:=hfree i e he
    refine ⟨d,h1,fun hf p hp=>?_,h3⟩
    rw [hget] at hp
    by_cases hk:i<x
    ·rw [if_pos hk] at hp
     rw [hmem1 i (by omega)]
     exact h2 hf p hp
    ·rw [if_neg hk] at hp
     obtain ⟨z,hz,rfl⟩:=Option.map_eq_some_iff.1 hp
     left
     rcases Nat.lt_or_ge x i with h | h
     ·rw [Xyb hxs h (by have:=(List.getElem?_eq_some_iff.1 hz).1; omega)]
      exact Xb0 _
     ·obtain rfl:i=x:=by omega
      rw [hmem1 i (Nat.le_refl _)]
      exact Xb0 _
   have heff:=Xve (ops:=ops) (rows:=rows) hl (fun i e he=>let ⟨d,h1,h2,_⟩:=hsp i e he; ⟨d,h1,h2⟩) htl2 hfree2 hok
   have hswA:swapA P g F' ops H.length a (H++rows) tr x y=true:=by
    obtain ⟨hxy,ox,oy,hox,hoy,_⟩:=Xm5 htt
    have hxn:x<ops.size:=(Array.getElem?_eq_some_iff.1 hox).1
    have hyn:y<ops.size:=(Array.getElem?_eq_some_iff.1 hoy).1
    obtain ⟨d1,g1,g2,_⟩:=hsp x _ (Xdv hox)
    obtain ⟨d2,g3,g4,_⟩:=hsp y _ (Xdv hoy)
    have hpt:∀ k,k≤ops.size→Xpp (q.take k) (tr.take k) a=Xcv (ops.toList.take k) (tr.take k) a:=by
     intro k hk
     have hl2:(q.take k).length=((Xa2 ops).take k).length:=by simp [hl]
     rw [Xpk hl2 (fun i e' he'=>?_),List.map_take,hmap]
     rw [List.getElem?_take] at he'
     split at he'
     ·rename_i hi
      obtain ⟨d,h6,h7,_⟩:=hsp i e' he'
      exact ⟨d,by rw [List.getElem?_take,if_pos hi]; exact h6,h7.1⟩
     ·cases he'
    unfold swapD at hsw
    rw [g1,g3] at hsw
    simp only at hsw
    unfold swapA
    rw [hox,hoy]
    simp only
    split at hsw
    ·rename_i v3 M h3
     have h5:=g4.2 _ _ _ h3
     rw [hpt y (by omega),Nat.zero_add,hmap] at h5
     rw [h5]
     simp only
     split at hsw
     ·rename_i v4 M' h4
      have h6:=g2.2 _ _ _ h4
      rw [hpt x (by omega),Nat.zero_add,hmap] at h6
      rw [h6]
      exact hsw
     ·cases hsw
    ·cases hsw
   simp only [Xmc,if_pos hst,hrows,Zo,hlex,if_neg hno',htw,htt,heff,hswA,ZJ,if_true,hput]
  ·cases h
theorem pan_val {ops:Array Oper} {o:Oper} {a:AAct} {M:Mem} {r:AV × Mem} {id:Nat} (hna:Xaz o=false) (h:Xx2 P g F ops o a M=some r):Xea P g F ops id o a M=none:=by
 unfold Xx2 Xnm at h
 unfold Xea
 cases hw:Xdf ops a o with
 | none=>rfl
 | some b =>
  rw [hw] at h
  cases b with
  | false=>simp at h
  | true =>
   simp only [hna,Ze,if_false] at h ⊢
   cases hx:Xar P (a.eval g) o M with
   | none=>rfl
   | some e =>
    rw [hx] at h
    cases e with
    | val v H'=>simp at h
    | pan v=>rfl
    | dfr f l=>rfl
    | call f l =>
     simp only at h ⊢
     cases hf:F f l M with
     | none=>rfl
     | some q =>
      obtain ⟨en,H'⟩:=q
      rw [hf] at h
      cases en with
      | ret v=>simp at h
      | pan v=>rfl
theorem Xju (hF:Xv1 F F') {ops:Array Oper} {tab:List (Nat × Oper × Nat)}:∀ {l:List (Nat × Oper × Nat)} {k:Nat} {q:List ID},Xf8 P ops tab k l=some q →
  ∀ (i:Nat) e,l[i]? = some e→∃ d,q[i]? = some d∧∀ (a:AAct) (M:Mem) (r:AV × Mem),panD P g F d a M=some r→Xaz e.2.1=false∧Xx2 P g F' ops e.2.1 a M=some r∧d.lat=latR tab e.1
 | [],k,q,hq=>fun i e h=>by simp at h
 | (j,x,b)::l,k,q,hq=>by
  simp only [Xf8] at hq
  cases hal:Xaz x with
  | true =>
   simp only [hal,if_true] at hq
   split at hq
   ·rename_i z rest hg hz hrest
    injection hq with hq; subst hq
    have h2:=Xju hF hrest
    intro i e he
    cases i with
    | zero=>exact ⟨_,rfl,fun a M r h=>by simp [panD] at h⟩
    | succ i =>
     obtain ⟨d,h3,h4⟩:=h2 i e (by simpa using he)
     exact ⟨d,by simpa using h3,h4⟩
   ·cases hq
  | false =>
   simp only [hal,Ze,if_false] at hq
   split at hq
   ·rename_i s rest hs hrest
    injection hq with hq; subst hq
    have h2:=Xju hF hrest
    intro i e he
    cases i with
    | zero =>
     simp at he; subst he
     refine ⟨_,rfl,fun a M r h=>⟨hal,?_,?_⟩⟩
     ·unfold panD at h
      simp only at h
      split at h
      ·split at h
       ·rename_i v a' H' hst
        injection h with h; subst h
        have:=Xiv hF hs hst
        unfold Xx2
        rw [this]
       ·cases h
      ·cases h
     ·unfold panD at h
      simp only at h
      split at h
      ·rename_i hm
       simp only [Option.isNone_none,ZH] at hm
       simp [hm]
      ·cases h
    | succ i =>
     obtain ⟨d,h3,h4⟩:=h2 i e (by simpa using he)
     exact ⟨d,by simpa using h3,h4⟩
   ·cases hq
theorem Xke {ops:Array Oper} {n p:Nat} {M:Mem} {q:List ID} (hsp:∀ (i:Nat) o,ops[i]? = some o→∃ d,q[i]? = some d∧DOk P g F F' ops n d o (Xbz ops.toList i)):∀ (m k:Nat),k+m=ops.size→∀ (a:AAct),seqD P g F n q M ((((Xa2 ops).drop k).filter fun z=>decide (p<z.1) && !z.2.2.testBit p).map (·.1)) a=true→Xyq P g F' ops n p M ((Xa2 ops).drop k) a=true
 | 0,k,hk,a,h=>by
  rw [List.drop_eq_nil_of_le (by rw [tab_len]; omega)]; rfl
 | m+1,k,hk,a,h=>by
  have hks:k<ops.size:=by omega
  have ho:ops[k]? = some ops[k]:=Array.getElem?_eq_getElem hks
  rw [Xq2 ho] at h ⊢
  simp only [Xyq]
  rw [List.filter_cons] at h
  cases hc:(decide (p<k) && !(Xcw ops k).testBit p) with
  | false =>
   simp only [hc,Ze,if_false] at h ⊢
   exact Xke hsp m (k+1) (by omega) a h
  | true =>
   simp only [hc,if_true,Zv,seqD] at h ⊢
   obtain ⟨d,hd,h1,h2⟩:=hsp k _ ho
   rw [hd] at h
   simp only at h
   cases hv:Xtw P g F n d a M with
   | none=>simp [hv] at h
   | some r =>
    obtain ⟨v,M'⟩:=r
    simp only [hv,Bool.and_eq_true] at h
    rw [h2 _ _ _ hv]
    simp only [Bool.and_eq_true]
    rw [h1] at h
    exact ⟨h.1,Xke hsp m (k+1) (by omega) _ h.2⟩
theorem badD_eq {ops:Array Oper} {q:List ID} (hl:q.length=ops.size) (h:∀ (i:Nat) o,ops[i]? = some o→∃ d,q[i]? = some d∧d.s.dst=o.dst) (a:AAct):badD q a=Xyp ops.toList a:=by
 have e:q.map (·.s.dst)=ops.toList.map (·.dst):=by
  apply List.ext_getElem?
  intro i
  rw [List.getElem?_map,List.getElem?_map]
  by_cases hi:i<ops.size
  ·obtain ⟨d,h1,h2⟩:=h i _ (Array.getElem?_eq_getElem hi)
   rw [h1,List.getElem?_eq_getElem (by simpa using hi)]
   simp [h2]
  ·rw [List.getElem?_eq_none (by omega),List.getElem?_eq_none (by simp; omega)]; rfl
 have h1:badD q a=(q.map (·.s.dst)).foldl (fun a d=>a.put d .bad) a:=by rw [List.foldl_map]; rfl
 have h2:Xyp ops.toList a=(ops.toList.map (·.dst)).foldl (fun a d=>a.put d .bad) a:=by rw [List.foldl_map]; rfl
 rw [h1,h2,e]
theorem Xo6 {ops:Array Oper} {n:Nat} {M:Mem} {q:List ID} (hl:q.length=ops.size) (hsp:∀ (i:Nat) o,ops[i]? = some o→∃ d,q[i]? = some d∧DOk P g F F' ops n d o (Xbz ops.toList i)∧∀ (a:AAct) (M:Mem) (r:AV × Mem),panD P g F d a M=some r→Xaz o=false∧Xx2 P g F' ops o a M=some r∧d.lat=latR (Xa2 ops) i) {a0:AAct} {r:Out × AAct × Mem}:∀ (m p:Nat),p+m=ops.size→∀ (a:AAct),panI P g F n q a0 M (q.drop p) a=some r→panO P g F' ops n a0 M p (ops.toList.drop p) a=some r
 | 0,p,hp,a,h=>by
  rw [List.drop_eq_nil_of_le (by omega)] at h
  simp [panI] at h
 | m+1,p,hp,a,h=>by
  have hps:p<ops.size:=by omega
  have ho:ops[p]? = some ops[p]:=Array.getElem?_eq_getElem hps
  have hd1:ops.toList.drop p=ops[p]::ops.toList.drop (p+1):=by
   rw [List.drop_eq_getElem_cons (by simpa using hps)]; simp
  obtain ⟨d,hq,hD,hpan⟩:=hsp p _ ho
  have hd2:q.drop p=d::q.drop (p+1):=by
   obtain ⟨hlt,e⟩:=List.getElem?_eq_some_iff.1 hq
   rw [List.drop_eq_getElem_cons hlt,e]
  rw [hd2] at h
  rw [hd1]
  simp only [panI] at h
  simp only [panO]
  cases hv:Xtw P g F n d a M with
  | some z =>
   obtain ⟨v,M'⟩:=z
   simp only [hv] at h
   rw [hD.2 _ _ _ hv]
   simp only
   split at h
   ·rename_i he
    rw [if_pos he]
    rw [hD.1] at h
    exact Xo6 hl hsp m (p+1) (by omega) _ h
   ·cases h
  | none =>
   simp only [hv] at h
   cases hpd:panD P g F d a M with
   | none=>simp [hpd] at h
   | some z =>
    obtain ⟨v,H'⟩:=z
    simp only [hpd] at h
    obtain ⟨h1,h2,h3⟩:=hpan _ _ _ hpd
    rw [pan_val h1 h2,h2]
    simp only
    split at h
    ·rename_i hs
     rw [h3] at hs
     have:=Xke (F':=F') (fun i o ho=>let ⟨d,h4,h5,_⟩:=hsp i o ho; ⟨d,h4,h5⟩) ops.size 0 (by omega) a (p:=p) (by rw [List.drop_zero]; exact hs)
     rw [List.drop_zero] at this
     rw [if_pos this]
     rw [badD_eq hl fun i o ho=>let ⟨d,h4,h5,_⟩:=hsp i o ho; ⟨d,h4,h5.1⟩] at h
     exact h
    ·cases h
theorem pan_lex {ops:Array Oper} {n:Nat} {M:Mem} {a0:AAct} {r:Out × AAct × Mem}:∀ (m p:Nat),p+m=ops.size→∀ (a:AAct),panO P g F ops n a0 M p (ops.toList.drop p) a=some r→Xyo P g F ops (n+Xbz ops.toList p) (ops.toList.drop p) a M=none
 | 0,p,hp,a,h=>by
  rw [List.drop_eq_nil_of_le (by simp; omega)] at h
  simp [panO] at h
 | m+1,p,hp,a,h=>by
  have hps:p<ops.size:=by omega
  have ho:ops.toList[p]? = some ops[p]:=by simp [hps]
  have hd1:ops.toList.drop p=ops[p]::ops.toList.drop (p+1):=by
   rw [List.drop_eq_getElem_cons (by simpa using hps)]; simp
  rw [hd1] at h ⊢
  simp only [panO] at h
  simp only [Xyo]
  cases hv:Xea P g F ops (n+Xbz ops.toList p) ops[p] a M with
  | none=>rfl
  | some z =>
   obtain ⟨v,M'⟩:=z
   simp only [hv] at h ⊢
   split at h
   ·rename_i he
    have e:=Xfh he
    subst e
    have ih:=pan_lex m (p+1) (by omega) _ h
    rw [Xe5 ho] at ih
    have e2:(if Xaz ops[p]=true then n+Xbz ops.toList p+1 else n+Xbz ops.toList p)=n+(Xbz ops.toList p+if Xaz ops[p]=true then 1 else 0):=by split <;> omega
    rw [e2,ih]; rfl
   ·cases h
theorem Xmt (hF:Xv1 F F') {ops:Array Oper} (hst:Xif ops=true) {rows:Mem} (hrows:Xcg P ops.toList=some rows) {q:List ID} (hq:Xf8 P ops (Xa2 ops) 0 (Xa2 ops)=some q) {a:AAct} {H:Mem} {r:Out × AAct × Mem} (h:panI P g F H.length q a (H++rows) q a=some r) :
  Xnf P g F' ops a H=some r:=by
 obtain ⟨hl,hsp⟩:=Xe2 (g:=g) (n:=H.length) hF hq
 have hpn:=Xju (g:=g) hF hq
 have hmap:=Xjh ops
 have hp:=Xo6 (F':=F') (n:=H.length) (M:=H++rows) (q:=q) (by rw [hl,tab_len]) (fun i o ho=>by
  obtain ⟨d,h1,h2,_⟩:=hsp i _ (Xdv ho)
  obtain ⟨d',h3,h4⟩:=hpn i _ (Xdv ho)
  rw [h1] at h3
  injection h3 with h3
  subst h3
  rw [hmap,Nat.zero_add] at h2
  exact ⟨d,h1,h2,h4⟩) ops.size 0 (by omega) a (by rw [List.drop_zero]; exact h)
 have hx:=pan_lex ops.size 0 (by omega) a hp
 rw [List.drop_zero] at hp hx
 have hc0:Xbz ops.toList 0=0:=by simp [Xbz]
 rw [hc0,Nat.add_zero] at hx
 have hN:Xmc P g F' ops a H=none:=by
  simp only [Xmc,if_pos hst,hrows,Zo,hx,Zq]
 unfold Xnf
 rw [hN]
 simp only [if_pos hst,hrows,Zo]
 exact hp
theorem Xlp (hF:Xv1 F F') {ops:Array Oper} (hst:Xif ops=true) {rows:Mem} (hrows:Xcg P ops.toList=some rows) {q:List ID} (hq:Xf8 P ops (Xa2 ops) 0 (Xa2 ops)=some q) {a:AAct} {H:Mem} {r:Out × AAct × Mem} (h:drawI P g F H.length q a (H++rows)=some r) :
  Xnf P g F' ops a H=some r:=by
 unfold drawI at h
 split at h
 ·rename_i r' h'
  injection h with h; subst h
  have:=Xse hF hst hrows hq h'
  unfold Xnf
  rw [this]
 ·exact Xmt hF hst hrows hq h
theorem Xr9 (hF:Xv1 F F') {ops:Array Oper} (hst:Xif ops=true) {rows:Mem} (hrows:Xcg P ops.toList=some rows) {x y:Nat} (htw:twoW ops=some (x,y)) (htt:twoT ops x y=true) {q:List ID} (hq:Xf8 P ops (Xa2 ops) 0 (Xa2 ops)=some q) {a:AAct} {H:Mem} {r:Out × AAct × Mem} (h:Xwf P g F H.length x y q a (H++rows)=some r) :
  Xnf P g F' ops a H=some r:=by
 unfold Xwf at h
 split at h
 ·rename_i r' h'
  injection h with h; subst h
  have:=Xqw hF hst hrows htw htt hq h'
  unfold Xnf
  rw [this]
 ·exact Xmt hF hst hrows hq h
theorem Xo9 {b1 b2:AAct→Mem→Option (Out × AAct × Mem)} {lv:Option (List Tmp)} (hb:∀ a H r,b1 a H=some r→b2 a H=some r):∀ (n:Nat) (a:AAct) (H:Mem) (r:Out × AAct × Mem),Xa6 b1 lv n a H=some r→Xa6 b2 lv n a H=some r
 | 0,_,_,_,h=>by cases h
 | n+1,a,H,r,h=>by
  simp only [Xa6] at h ⊢
  split at h
  ·rename_i a' H' e
   rw [hb _ _ _ e]
   exact Xo9 hb n _ _ _ h
  ·rename_i hne
   rw [hb _ _ _ h]
   match r,h with
   | (.normal,a',H'),h=>exact absurd h (hne a' H')
   | (.exit _,_,_),_=>rfl
   | (.ret,_,_),_=>rfl
   | (.pan _,_,_),_=>rfl
theorem Xc7 (hF:Xv1 F F') {fid N:Nat}:∀ {c:Code} {ic:IC},Xbn P g fid c=some ic→∀ {a:AAct} {H:Mem} {r:Out × AAct × Mem},evI P g F N ic a H=some r→Xbt P g F' fid N c a H=some r
 | .skip,ic,hc,a,H,r,h=>by simp only [Xbn] at hc; injection hc with hc; subst hc; exact h
 | .label _,ic,hc,a,H,r,h=>by simp only [Xbn] at hc; injection hc with hc; subst hc; exact h
 | .ret,ic,hc,a,H,r,h=>by simp only [Xbn] at hc; injection hc with hc; subst hc; exact h
 | .exit _,ic,hc,a,H,r,h=>by simp only [Xbn] at hc; injection hc with hc; subst hc; exact h
 | .region id ops draw,ic,hc,a,H,r,h=>by
  simp only [Xbn] at hc
  simp only [Xbt]
  split at hc
  ·rename_i hd
   rw [if_pos hd]
   split at hc
   ·rename_i hst
    obtain ⟨rows,hrows,hc⟩:=Option.bind_eq_some_iff.1 hc
    obtain ⟨l,hl,rfl⟩:=Option.map_eq_some_iff.1 hc
    split at h
    ·rename_i x y htw
     split at h
     ·rename_i htt
      simp only [evI] at h
      exact Xr9 hF hst hrows htw htt hl h
     ·simp only [evI] at h
      exact Xlp hF hst hrows hl h
    ·simp only [evI] at h
     exact Xlp hF hst hrows hl h
   ·cases hc
  ·rename_i hd
   rw [if_neg hd]
   obtain ⟨q,hq,rfl⟩:=Option.map_eq_some_iff.1 hc
   simp only [evI] at h
   exact Xn6 hF hq h
 | .seq x y,ic,hc,a,H,r,h=>by
  simp only [Xbn] at hc
  split at hc
  ·rename_i cx cy hx hy
   injection hc with hc; subst hc
   simp only [evI] at h
   simp only [Xbt]
   split at h
   ·rename_i a' H' e
    rw [Xc7 hF hx e]
    exact Xc7 hF hy h
   ·rename_i hne
    rw [Xc7 hF hx h]
    match r,h with
    | (.normal,a',H'),h=>exact absurd h (hne a' H')
    | (.exit _,_,_),_=>rfl
    | (.ret,_,_),_=>rfl
    | (.pan _,_,_),_=>rfl
  ·cases hc
 | .cond c x y,ic,hc,a,H,r,h=>by
  simp only [Xbn] at hc
  split at hc
  ·rename_i cx cy hx hy
   injection hc with hc; subst hc
   simp only [evI,evI_arg] at h
   simp only [Xbt]
   split at h
   ·rename_i e; rw [e]; exact Xc7 hF hx h
   ·rename_i e; rw [e]; exact Xc7 hF hy h
   ·cases h
  ·cases hc
 | .block id c,ic,hc,a,H,r,h=>by
  simp only [Xbn] at hc
  obtain ⟨cx,hx,rfl⟩:=Option.map_eq_some_iff.1 hc
  simp only [evI] at h
  simp only [Xbt]
  split at h
  ·rename_i id' a' H' e
   rw [Xc7 hF hx e]
   exact h
  ·rename_i hne
   rw [Xc7 hF hx h]
   match r,h with
   | (.exit _,a',H'),h=>exact absurd h (hne _ a' H')
   | (.normal,_,_),_=>rfl
   | (.ret,_,_),_=>rfl
   | (.pan _,_,_),_=>rfl
 | .loop c,ic,hc,a,H,r,h=>by
  simp only [Xbn] at hc
  obtain ⟨cx,hx,rfl⟩:=Option.map_eq_some_iff.1 hc
  simp only [evI] at h
  simp only [Xbt]
  exact Xo9 (fun a H r h=>Xc7 hF hx h) N _ _ _ h
 | .goto _,ic,hc,_,_,_,h=>by simp only [Xbn] at hc; injection hc with hc; subst hc; cases h
 | .scope ..,ic,hc,_,_,_,h=>by simp only [Xbn] at hc; injection hc with hc; subst hc; cases h
 | .rangeFunc ..,ic,hc,_,_,_,h=>by simp only [Xbn] at hc; injection hc with hc; subst hc; cases h
end Go.Proofs.YtmhhddhbdbcmbaaGreatDoor.Ev
