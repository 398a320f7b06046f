/- Parts of one proof. -/
import Derived.Test.YtmhhddhbdbcmbaaGreatDoorMcb
set_option linter.all false
namespace Go.Proofs.YtmhhddhbdbcmbaaGreatDoor.Ev
variable {P:Program} {g:Cfg} {F:Xc5} {η η' η'':Nat→Option Nat} {H H' H'':Mem} {w w' w'':World}
theorem Xhl {ops:Array Oper} (hst:Stat ops) {M:Nat→Mem} {RO:Nat→Nat→Prop} (he:Eff ops M RO) {S:Nat→Bool} (hc:Xem ops S) (hs:∀ k,S k=true→k<ops.size) {i:Nat} {o:Oper} (ho:ops[i]? = some o) (hi:S i=false) (hsame:eqM (M (i+1)) (M i)=true) :
  ∀ k,Xed M (fun j=>S j || j == i) k=Xed M S k
 | 0=>rfl
 | k+1=>by
  have ih:=Xhl hst he hc hs ho hi hsame k
  simp only [Xed,ih]
  by_cases hk:k=i
  ·subst hk; simp [hsame]
  ·have:(k == i)=false:=by simpa using hk
   simp [this]
theorem Xl7 {ops:Array Oper} (hst:Stat ops) {M:Nat→Mem} {RO:Nat→Nat→Prop} (he:Eff ops M RO) (hRO:∀ q k,RO q k→eqM (M (q+1)) (M q)=true) {S:Nat→Bool} (hc:Xem ops S) (hs:∀ k,S k=true→k<ops.size) {i:Nat} {o:Oper} (ho:ops[i]? = some o) (hi:S i=false) (hr:∀ e ∈ o.after,Region.binds .any e=true→S e.on=true) (hl:Xbp o=false) (hie:eqM (M (i+1)) (M i)=false) :
  ∀ k,i<k→Xed M (fun j=>S j || j == i) k=M (i+1)
 | 0,h=>by omega
 | k+1,h=>by
  have hat:=Xq4 hst he hRO hc hs ho hi hr hl hie
  have hch:¬ eqM (M (i+1)) (M i)=true:=by rw [hie]; simp
  ·simp only [Xed]
   by_cases hk:k=i
   ·subst hk
    have:eqM (M (k+1)) (M k)=false:=by simpa using hch
    simp [this]
   ·have ih:=Xl7 hst he hRO hc hs ho hi hr hl hie k (by omega)
    have hbe:(k == i)=false:=by simpa using hk
    have h1:=hat (k+1)
    have h2:=hat k
    rw [Nat.min_eq_right (by omega)] at h1 h2
    simp only [Xed] at h1
    simp only [hbe,Bool.or_false]
    by_cases hc2:(S k && !eqM (M (k+1)) (M k))=true
    ·exfalso
     simp only [Bool.and_eq_true,Bool.not_eq_true'] at hc2
     have hkx:=hs k hc2.1
     have hko:ops[k]? = some ops[k]:=Array.getElem?_eq_getElem hkx
     rcases (he k _ hko).resolve_left (by rw [hc2.2]; simp) i o ho with h3 | h3 | h3 | h3 | h3
     ·rw [hl] at h3; cases h3
     ·exact hk h3.symm
     ·have:=Xch hc (k+1) k i _ (by omega) hko (hc k _ hc2.1 hko) hs h3
      rw [hi] at this; cases this
     ·obtain ⟨e,h4,h5,h6⟩:=Xh1 ho h3
      have h7:=hst.edge i o ho e h4 h5
      rcases h6 with h6 | ⟨h6,h8⟩
      ·omega
      ·have:∀ n j,j<n→j<ops.size→(Xcw ops j).testBit k=true→k<j:=by
        intro n
        induction n with
        | zero=>intro j hj; omega
        | succ n ihn =>
         intro j hj hjs hb
         obtain ⟨e',h1',h2',h3'⟩:=Xh1 (Array.getElem?_eq_getElem hjs) hb
         have h4':=hst.edge j _ (Array.getElem?_eq_getElem hjs) e' h1' h2'
         rcases h3' with rfl | ⟨h5',h6'⟩
         ·exact h4'
         ·have:=ihn e'.on (by omega) (by omega) h6'; omega
       have:=this (e.on+1) e.on (by omega) (by have:=(Array.getElem?_eq_some_iff.1 ho).1; omega) h8
       omega
     ·rw [hRO _ _ h3] at hie; cases hie
    ·rw [if_neg hc2]; exact ih
theorem Ext.thenW {η0:Nat→Option Nat} {H0:Mem} {w0:World} (e:Ext η0 H0 w0 η H w) (f:ExtW η H w η' H' w') (hu:∀ id,id<H0.length→η id=none→η' id=none):Ext η0 H0 w0 η' H' w' :=
 ⟨e.toExtW.trans f,fun id h h1=>hu id h (e.unm id h h1)⟩
theorem Xwd {ρ:Operand→Value} (hρ:∀ v,ρ (.const v)=v) {o:Oper} {zc:List AV} {elem:Nat} {sl:Option (Nat × Nat)} (h:resv P o=some (zc,elem,sl)) :
  ∃ (zv:Array Value) (u:Value),(execOp ρ o).run P w=.ok (.value u) (w.alloc (.cells zv elem))∧VRs η H w zc zv ∧
   ∀ (η':Nat→Option Nat) (H':Mem) (w':World) (id:Nat),id<H'.length→η' id=some w.heap.size→w'.shape? w.heap.size=some (elem,zv.size)→VR η' H' w' (resvV id sl) u:=by
 unfold resv at h
 split at h
 ·rename_i e hop
  obtain ⟨z,hz,h⟩:=Option.bind_eq_some_iff.1 h
  split at h
  ·rename_i hk
   injection h with h
   injection h with h1 h2
   injection h2 with h2 h3
   subst h1 h2 h3
   obtain ⟨v,hr,rfl⟩:=Xeq (w:=w) hz
   exact ⟨v.cells,_,by simp [execOp,hop,Instr.alloc,hr,newVar,newRow],(Xf7 v).cells hk,fun η' H' w' id hid hη _=>.ptr id 0 0 _ hid (Nat.zero_le _) fun _=>⟨_,hη,rfl⟩⟩
  ·cases h
 ·rename_i t n parts hop
  split at h
  ·rename_i e hu
   obtain ⟨s,hs,h⟩:=Option.bind_eq_some_iff.1 h
   obtain ⟨z,hz,h⟩:=Option.bind_eq_some_iff.1 h
   split at h
   ·rename_i hc
    obtain ⟨hzl,hk,hle⟩:=hc
    obtain ⟨cs,hcs,h⟩:=Option.map_eq_some_iff.1 h
    injection h with h1 h2
    injection h2 with h2 h3
    subst h1 h2 h3
    obtain ⟨v,hr,rfl⟩:=Xeq (w:=w) hz
    have hzc:VRs η H w (ofV v).cells v.cells:=(Xf7 v).cells hk
    have hz0:=Xmk hzc n
    rw [hzl] at hz0
    have hp:Xvm η H w (parts.toList.map fun p=>(p.1,constA p.2)) (parts.map fun (i,x)=>(i,ρ x)):=by
     refine ⟨by simp,fun j p q h1 h2=>?_⟩
     rw [List.getElem?_map] at h1
     rw [Array.toList_map,List.getElem?_map] at h2
     obtain ⟨z,hz1,rfl⟩:=Option.map_eq_some_iff.1 h1
     rw [hz1] at h2
     injection h2 with h2
     subst h2
     refine ⟨rfl,?_⟩
     obtain ⟨i,x⟩:=z
     cases x with
     | const c=>simp only [constA,hρ]; exact Xf7 c
     | _=>exact .bad _
    generalize hqs:(parts.map fun (i,x)=>(i,ρ x))=qs at hp
    obtain ⟨c',h1,h2⟩:=Xgo (fun i p hi=>hi) _ qs.toList _ _ _ hp.1 hp.2 hz0 hcs
    have hzz:(Xe0 (ofV v).cells n).length=n*s:=by rw [Xcs,hzl]
    have hlen:c'.size=n*s:=by
     have h3:cs.length=n*s:=by
      have:∀ (ps:List (Nat × AV)) (a b:List AV),Xhs (Xjg s) a ps=some b→b.length=a.length:=by
       intro ps
       induction ps with
       | nil=>intro a b h; simp [Xhs] at h; rw [h]
       | cons p ps ih =>
        intro a b h
        obtain ⟨i,x⟩:=p
        simp only [Xhs,Xjg] at h
        split at h
        ·rename_i hc'; rw [ih _ _ h,Xdq (by omega)]
        ·cases h
      rw [this _ _ _ hcs,hzz]
     rw [h2.1,h3]
    refine ⟨c',.slice (some ⟨w.heap.size,0,none⟩) n n,?_,h2,fun η' H' w' id hid hη hsh=>.slc id 0 n s 0 _ _ hid (Nat.zero_le _) (Nat.le_refl _) fun _=>⟨_,0,hη,rfl,fun _=>rfl,e,n*s,by rw [hsh,hlen],by omega⟩⟩
    have hrun:(Instr.buildSlice t n qs).run P w=.ok (.slice (some ⟨w.heap.size,0,none⟩) n n) (w.alloc (.cells c' e)):=by
     by_cases h0:n*s=0
     ·have hr0:∀ f:Nat→Value,(Array.range (n*s)).map f = #[]:=fun f=>by rw [h0]; apply Array.ext'; simp
      rw [hr0] at h1
      have hz1:Instr.fill (fun i=>some (i*s,s)) #[] qs.toList=some c':=h1
      simp only [Instr.buildSlice,Sem.run_bind,Xas hu,Result.andThen_ok,Xbl hs]
      rw [if_neg (by omega),if_pos h0]
      simp only [hr0,hz1]
      simp [newRow]
     ·simp only [Instr.buildSlice,Sem.run_bind,Xas hu,Result.andThen_ok,Xbl hs]
      rw [if_neg (by omega),if_neg h0]
      have h1':Instr.fill (fun i=>some (i*s,s)) ((Array.range (n*s)).map fun i=>v.cells[i % v.cells.size]!) qs.toList=some c':=h1
      simp [newRow,hr,h1']
    have hx:execOp ρ o=(do pure (.value (← Instr.buildSlice t n qs))):=by
     simp only [execOp,hop,hqs]
    rw [hx]
    simp [hrun]
   ·cases h
  ·cases h
 ·cases h
theorem Xms {η0:Nat→Option Nat} {H0:Mem} {w0:World} (hF:FOk P g F) {ops:Array Oper} {i id:Nat} {o:Oper} {a:AAct} {act:Act} {v:AV} {H1:Mem} (ho:ops[i]? = some o) (x:Ext η0 H0 w0 η H w) (r:Rel g η H w) (ha:ActR η H w a act) (hid:H0.length≤id)
  (hp:Xaz o=true→η id=none) (h:Xea P g F ops id o a H=some (v,H1)) {Q:Exit→Act→World→Prop} {K:Act→World→Prop}
  (hK:∀ η1 act1 w1,Ext η0 H0 w0 η1 H1 w1→Rel g η1 H1 w1→ActR η1 H1 w1 (a.put o.dst v) act1→(∀ j,j<H.length→(Xaz o=true→j≠id)→η j=none→η1 j=none)→H.length≤H1.length→K act1 w1):wpOp P ops Q i K act w:=by
 unfold wpOp
 rw [ho]
 simp only
 unfold Xea at h
 cases hw:Xdf ops a o with
 | none=>simp [hw] at h
 | some b =>
  rw [Xgs ha hw]
  cases b with
  | false =>
   simp only [hw] at h
   injection h with h; injection h with h1 h2
   subst h1 h2
   simp only [Ze,if_false]
   exact hK η _ w x r (ha.put undefR _) (fun j _ _ h=>h) (Nat.le_refl _)
  | true =>
   simp only [hw] at h
   simp only [if_true]
   refine .inl ?_
   unfold Oper.wp
   have general:(match Xar P (a.eval g) o H with | some (.val v H')=>some (v,H') | some (.call f args)=>(match F f args H with | some (.ret v,H')=>some (v,H') | _=>none) | _=>none)=some (v,H1)→o.upon P act K Q ((execOp act.eval o).run P w):=by
    intro h
    cases hx:Xar P (a.eval g) o H with
    | none=>simp [hx] at h
    | some res =>
     have hs:=Xm4 (P:=P) r (fun x=>ha.eval r x) hx
     cases res with
     | val v2 H2 =>
      simp only [hx] at h
      injection h with h; injection h with h1 h2
      subst h1 h2
      obtain ⟨η',w',u,h1,h2,h3,h4⟩:=hs
      rcases h1 with h1 | ⟨h1,rfl⟩
      ·rw [h1]
       exact hK η' _ w' (x.trans h2) h3 ((ha.ext h2).put h4 _) (fun j hj _ h=>h2.unm j hj h) h2.len
      ·rw [h1]
       exact hK η' _ w' (x.trans h2) h3 ((ha.ext h2).put h4 _) (fun j hj _ h=>h2.unm j hj h) h2.len
     | pan v2=>simp [hx] at h
     | dfr f args=>simp [hx] at h
     | call f args =>
      simp only [hx] at h
      obtain ⟨us,h1,h2⟩:=hs
      rw [h1]
      cases hf:F f args H with
      | none=>simp [hf] at h
      | some p =>
       obtain ⟨en,H2⟩:=p
       have hc:=hF f args H en H2 hf η w us r h2
       refine Calls.mono hc fun e w' he=>?_
       obtain ⟨η',h3,h4,h5⟩:=he
       cases en with
       | ret v2 =>
        simp only [hf] at h
        injection h with h; injection h with h6 h7
        subst h6 h7
        cases e with
        | returned u=>exact hK η' _ w' (x.trans h3) h4 ((ha.ext h3).put h5 _) (fun j hj _ h=>h3.unm j hj h) h3.len
        | panicked ch=>exact h5.elim
        | outgrown=>exact h5.elim
       | pan v2=>simp [hf] at h
   cases hal:Xaz o with
   | true =>
    simp only [hal,if_true] at h
    obtain ⟨⟨zc,elem,sl⟩,hz,h'⟩:=Option.bind_eq_some_iff.1 h
    have hη:=hp hal
    cases hb:H[id]? with
    | none=>simp [hb] at h'
    | some blk =>
     simp only [hb] at h'
     split at h'
     ·rename_i he
      injection h' with h'; injection h' with h1 h2
      subst h1 h2
      obtain rfl:=eqB_eq he
      obtain ⟨zv,u,hrun,hzc,hres⟩:=Xwd (η:=η) (H:=H) (w:=w) (ρ:=act.eval) (fun _=>rfl) hz
      have hid2:id<H.length:=(List.getElem?_eq_some_iff.1 hb).1
      rw [hrun]
      have eW:ExtW η H w (upd η id w.heap.size) H (w.alloc (.cells zv elem)):=by
       refine ⟨Nat.le_refl _,fun j y hy=>⟨y,hy,Nat.le_refl _,fun _ b hb'=>⟨?_,fun s hs=>?_⟩⟩,by simp,fun b hb'=>⟨Xb1 w _ b hb'.1,fun j hj=>?_⟩,rfl,rfl,rfl⟩
       ·rw [Xlk (fun e=>by rw [e,hη] at hb'; cases hb')]; exact hb'
       ·rw [Xeg (Xb1 w _ b (r.dom j b hb').2)]; exact hs
       ·unfold upd at hj
        split at hj
        ·injection hj with hj; exact absurd hb'.1 (by omega)
        ·exact hb'.2 j hj
      have r1:Rel g (upd η id w.heap.size) H (w.alloc (.cells zv elem)):=by
       refine r.step eW (fun j b hj=>?_) (fun j k b h1 h2=>?_) r.low fun j y b h1 h2=>?_
       ·unfold upd at hj
        split at hj
        ·rename_i e; injection hj with hj; subst e; subst hj; simp [hid2]
        ·have:=r.dom j b hj; simp; omega
       ·unfold upd at h1 h2
        split at h1 <;> split at h2
        ·omega
        ·injection h1 with h1; have:=(r.dom k b h2).2; omega
        ·injection h2 with h2; have:=(r.dom j b h1).2; omega
        ·exact r.inj j k b h1 h2
       ·unfold upd at h2
        split at h2
        ·rename_i e
         subst e
         injection h2 with h2
         subst h2
         rw [hb] at h1
         injection h1 with h1
         subst h1
         exact .inr ⟨zv,elem,(0,0),Xcq w _,by rw [hzc.1]; exact Nat.le_refl _,fun j x u hx hu=>(hzc.2 j x u hx hu).extW eW,.inl rfl,fun T hT=>Nat.succ.inj hT⟩
        ·exact .inl ⟨h1,h2,Xb1 w _ b (r.dom j b h2).2⟩
      have haW:ActR (upd η id w.heap.size) H (w.alloc (.cells zv elem)) a act:=by
       refine ⟨ha.size,fun j=>(ha.tmp j).extW eW,?_⟩
       have:∀ (ds:List (AV × List AV)) (es:List Deferred),Xkw η H w ds es→Xkw (upd η id w.heap.size) H (w.alloc (.cells zv elem)) ds es:=by
        intro ds
        induction ds with
        | nil=>intro es h; cases es <;> first | trivial | exact h.elim
        | cons d ds ih =>
         intro es h
         cases es with
         | nil=>exact h.elim
         | cons e es =>
          obtain ⟨⟨k,caps,h1,h2,h3⟩,h4⟩:=h
          exact ⟨⟨k,caps,h1,h2.extW eW,h3.1,fun j c u hc hu=>(h3.2 j c u hc hu).extW eW⟩,ih es h4⟩
       exact this _ _ ha.def_
      refine hK _ _ _ (x.thenW eW fun j hj h=>by rw [Xlk (by omega)]; exact h) r1 (haW.put (hres _ _ _ id hid2 Xkk (by unfold World.shape?; rw [Xcq])) _) (fun j _ hne h=>by rw [Xlk (hne hal)]; exact h) (Nat.le_refl _)
     ·cases h'
   | false=>exact general (by simp only [hal,Ze,if_false] at h; exact h)
theorem Xds:∀ (l:List Oper) (rows:Mem),Xcg P l=some rows→rows.length=Xbz l l.length∧(∀ x ∈ rows,Xcn 0 x=true)∧∀ (i:Nat) o,l[i]? = some o→Xaz o=true→Xbz l i<rows.length
 | [],rows,h=>by simp [Xcg] at h; subst h; exact ⟨rfl,fun x hx=>by simp at hx,fun i o h=>by simp at h⟩
 | x::l,rows,h=>by
  have shift:∀ k,Xbz (x::l) (k+1)=(if Xaz x then 1 else 0)+Xbz l k:=fun k=>by
   unfold Xbz
   rw [List.take_succ_cons,List.filter_cons]
   cases Xaz x <;> simp; omega
  have h0:Xbz (x::l) 0=0:=by simp [Xbz]
  by_cases hx:Xaz x=true
  ·simp only [Xcg,hx,if_true] at h
   obtain ⟨q,hz,h'⟩:=Option.bind_eq_some_iff.1 h
   obtain ⟨rs,hr,rfl⟩:=Option.map_eq_some_iff.1 h'
   obtain ⟨h1,h2,h3⟩:=Xds l rs hr
   refine ⟨by rw [List.length_cons,List.length_cons,shift,hx,h1]; simp; omega,fun y hy=>?_,fun i o ho ha=>?_⟩
   ·rcases List.mem_cons.1 hy with rfl | hy
    ·obtain ⟨zc,elem,sl⟩:=q
     obtain ⟨zv,u,_,hc,_⟩:=Xwd (η:=fun _=>none) (H:=[]) (w:=default) (ρ:=(⟨#[],[]⟩ : Act).eval) (fun _=>rfl) hz
     exact Xgt hc.1 fun j c u h1 h2=>(hc.2 j c u h1 h2).low
    ·exact h2 y hy
   ·cases i with
    | zero=>rw [h0]; simp
    | succ i=>rw [shift,hx]; have:=h3 i o (by simpa using ho) ha; simp; omega
  ·have hx':Xaz x=false:=by simpa using hx
   have hr:Xcg P l=some rows:=by
    simpa only [Xcg,hx',Bool.false_eq_true,if_false] using h
   obtain ⟨h1,h2,h3⟩:=Xds l rows hr
   refine ⟨by rw [List.length_cons,shift,hx',h1]; simp,h2,fun i o ho ha=>?_⟩
   cases i with
   | zero=>simp at ho; subst ho; rw [hx'] at ha; cases ha
   | succ i=>rw [shift,hx']; have:=h3 i o (by simpa using ho) ha; simp; omega
theorem Xw4 {M:Nat→Mem} {S:Nat→Bool}:∀ k,(∀ j,j<k→S j=true)→Xed M S k=M k
 | 0,_=>rfl
 | k+1,h=>by
  simp only [Xed,h k (by omega),ZH]
  cases hc:eqM (M (k+1)) (M k) with
  | true=>simp [Xw4 k fun j hj=>h j (by omega),Xfh hc]
  | false=>simp
theorem Xsk {M:Nat→Mem} {S:Nat→Bool} {p:Nat} (h1:∀ k,k<p→S k=true) (h2:∀ k,p≤k→S k=false):∀ n,p≤n→Xed M S n=M p
 | 0,h=>by
  obtain rfl:p=0:=by omega
  rfl
 | n+1,h=>by
  rcases Nat.lt_or_ge n p with hn | hn
  ·obtain rfl:p=n+1:=by omega
   exact Xw4 (n+1) h1
  ·simp only [Xed,h2 n hn,ZE,Ze,if_false]
   exact Xsk h1 h2 n hn
theorem Xvl {f:Nat→Bool} {p:Nat} (h1:∀ k,k<p→f k=true) (h2:∀ k,p≤k→f k=false):∀ n,p≤n→((List.range n).filter fun k=>!f k).length=n-p
 | 0,h=>by simp
 | n+1,h=>by
  rw [List.range_succ,List.filter_append,List.length_append]
  rcases Nat.lt_or_ge n p with hn | hn
  ·obtain rfl:p=n+1:=by omega
   have:((List.range n).filter fun k=>!f k)=[]:=by
    rw [List.filter_eq_nil_iff]
    intro k hk
    rw [h1 k (by have:=List.mem_range.1 hk; omega)]; simp
   rw [this,List.filter_cons,h1 n hn]; simp
  ·rw [Xvl h1 h2 n hn,List.filter_cons,h2 n hn]; simp; omega
theorem Xly (l:Array Bool) (i k:Nat) (hi:i<l.size):(l.setIfInBounds i true).getD k false=(l.getD k false || k == i):=by
 by_cases h:i=k
 ·subst h; simp [hi]
 ·have:(k == i)=false:=by simpa using fun e=>h e.symm
  simp [this,Array.getElem?_setIfInBounds_ne h]
section
variable {ops:Array Oper} {a:AAct} {tr:List (AV × Mem)} {η0:Nat→Option Nat} {H0:Mem} {w0:World} {rows:Mem}
theorem any_upto (hF:FOk P g F) (hst:Stat ops) {RO:Nat→Nat→Prop} (he:Eff ops (Xai tr (H0++rows)) RO)
  (hRO:∀ q k,RO q k→eqM (Xai tr (H0++rows) (q+1)) (Xai tr (H0++rows) q)=true∧∀ o,ops[q]? = some o→(Xea P g F ops (H0.length+Xbz ops.toList q) o (Xb5 ops (vAt tr) a (fun j=>decide (j<q)) ops.size) (Xai tr (H0++rows) k)=some (vAt tr q,Xai tr (H0++rows) k))∧Xea P g F ops (H0.length+Xbz ops.toList q) o (Xb5 ops (vAt tr) a (fun j=>decide (j<q)) ops.size) (Xai tr (H0++rows) (k+1))=some (vAt tr q,Xai tr (H0++rows) (k+1)))
  {p:Nat} (hpn:p≤ops.size) (Q:Exit→Act→World→Prop)
  (hlast:∀ (listed:Array Bool) (i:Nat),listed.size=ops.size→Xem ops (fun k=>listed.getD k false)→p≤i→i ∈ Region.ready .any ops listed→∀ j,j<p→listed.getD j false=true)
  (hfact:∀ (i:Nat) o,i<p→ops[i]? = some o→Xea P g F ops (H0.length+Xbz ops.toList i) o (Xb5 ops (vAt tr) a (fun j=>decide (j<i)) ops.size) (Xai tr (H0++rows) i)=some (vAt tr i,Xai tr (H0++rows) (i+1)))
  (hrows:∀ (i:Nat) o,ops[i]? = some o→Xaz o=true→Xbz ops.toList i<rows.length)
  (hend:∀ (listed:Array Bool) (η:Nat→Option Nat) (w:World) (act:Act),listed.size=ops.size→(∀ k,k<p→listed.getD k false=true)→(∀ k,p≤k→listed.getD k false=false) →
   Ext η0 H0 w0 η (Xai tr (H0++rows) p) w→Rel g η (Xai tr (H0++rows) p) w→ActR η (Xai tr (H0++rows) p) w (Xb5 ops (vAt tr) a (fun k=>decide (k<p)) ops.size) act→wpAny P .any ops Q (ops.size-p) listed act w) :
  ∀ (fuel:Nat) (listed:Array Bool) (η:Nat→Option Nat) (w:World) (act:Act),listed.size=ops.size→Xem ops (fun k=>listed.getD k false)→(∀ k,p≤k→listed.getD k false=false)→((List.range ops.size).filter fun k=>!listed.getD k false).length=fuel →
   Ext η0 H0 w0 η (Xed (Xai tr (H0++rows)) (fun k=>listed.getD k false) ops.size) w→Rel g η (Xed (Xai tr (H0++rows)) (fun k=>listed.getD k false) ops.size) w →
   ActR η (Xed (Xai tr (H0++rows)) (fun k=>listed.getD k false) ops.size) w (Xb5 ops (vAt tr) a (fun k=>listed.getD k false) ops.size) act →
   (∀ (i:Nat) o,ops[i]? = some o→Xaz o=true→listed.getD i false=false→η (H0.length+Xbz ops.toList i)=none)→(H0++rows).length≤(Xed (Xai tr (H0++rows)) (fun k=>listed.getD k false) ops.size).length →
   wpAny P .any ops Q fuel listed act w:=by
 have done:∀ (listed:Array Bool),Region.ready .any ops listed=[]→listed.size=ops.size→∀ k,k<ops.size→listed.getD k false=true:=by
  intro listed hr hsz
  have:∀ n k,k<n→k<ops.size→listed.getD k false=true:=by
   intro n
   induction n with
   | zero=>intro k hk; omega
   | succ n ih =>
    intro k hk hks
    cases hS:listed.getD k false with
    | true=>rfl
    | false =>
     exfalso
     have:k ∈ Region.ready .any ops listed:=mem_ready.2 ⟨by
       have hk2:k<listed.size:=by omega
       simp [hk2] at hS ⊢; exact hS,ops[k],Array.getElem?_eq_getElem hks,fun e h1 h2=>ih e.on (by have:=hst.edge k _ (Array.getElem?_eq_getElem hks) e h1 h2; omega) (by have:=hst.edge k _ (Array.getElem?_eq_getElem hks) e h1 h2; omega)⟩
     rw [hr] at this; cases this
  exact fun k hk=>this (k+1) k (by omega) hk
 have full:∀ (listed:Array Bool) (η:Nat→Option Nat) (w:World) (act:Act) (fuel:Nat),listed.size=ops.size→(∀ k,k<p→listed.getD k false=true)→(∀ k,p≤k→listed.getD k false=false)→((List.range ops.size).filter fun k=>!listed.getD k false).length=fuel →
   Ext η0 H0 w0 η (Xed (Xai tr (H0++rows)) (fun k=>listed.getD k false) ops.size) w→Rel g η (Xed (Xai tr (H0++rows)) (fun k=>listed.getD k false) ops.size) w →
   ActR η (Xed (Xai tr (H0++rows)) (fun k=>listed.getD k false) ops.size) w (Xb5 ops (vAt tr) a (fun k=>listed.getD k false) ops.size) act→wpAny P .any ops Q fuel listed act w:=by
  intro listed η w act fuel hsz hall hlo hcnt x r ha
  rw [Xsk hall hlo ops.size hpn] at x r ha
  rw [Xcz (T:=fun k=>decide (k<p)) ops.size (fun k _=>by
   by_cases hk:k<p
   ·rw [hall k hk]; simp [hk]
   ·rw [hlo k (by omega)]; simp [hk])] at ha
  rw [Xvl (f:=fun k=>listed.getD k false) hall hlo ops.size hpn] at hcnt
  rw [← hcnt]
  exact hend listed η w act hsz hall hlo x r ha
 intro fuel
 induction fuel with
 | zero =>
  intro listed η w act hsz hc hlo hcnt x r ha hp hlen
  have hall:∀ k,k<ops.size→listed.getD k false=true:=by
   intro k hk
   cases hS:listed.getD k false with
   | true=>rfl
   | false =>
    have:k ∈ (List.range ops.size).filter fun k=>!listed.getD k false:=by
     rw [List.mem_filter]; exact ⟨List.mem_range.2 hk,by simp only [hS]; rfl⟩
    rw [List.eq_nil_of_length_eq_zero hcnt] at this; cases this
  exact full listed η w act 0 hsz (fun k hk=>hall k (by omega)) hlo hcnt x r ha
 | succ fuel ih =>
  intro listed η w act hsz hc hlo hcnt x r ha hp hlen
  by_cases hall:∀ k,k<p→listed.getD k false=true
  ·exact full listed η w act _ hsz hall hlo hcnt x r ha
  refine ⟨fun hr=>(hall fun k hk=>done listed hr hsz k (by omega)).elim,fun i hi=>?_⟩
  have hip:i<p:=by
   rcases Nat.lt_or_ge i p with h | h
   ·exact h
   ·exact (hall (hlast listed i hsz hc h hi)).elim
  obtain ⟨h1,o,ho,hr⟩:=mem_ready.1 hi
  have hk:i<ops.size:=(Array.getElem?_eq_some_iff.1 ho).1
  have hk2:i<listed.size:=by omega
  have hiF:listed.getD i false=false:=by simp [hk2] at h1 ⊢; exact h1
  have hs:∀ k,(fun k=>listed.getD k false) k=true→k<ops.size:=by
   intro k h
   rcases Nat.lt_or_ge k ops.size with h' | h'
   ·exact h'
   ·have:¬ k<listed.size:=by omega
    simp [this] at h
  have hS':∀ k,(listed.setIfInBounds i true).getD k false=(listed.getD k false || k == i):=fun k=>Xly listed i k hk2
  have hfun:(fun k=>(listed.setIfInBounds i true).getD k false)=fun k=>listed.getD k false || k == i:=funext hS'
  have hlook:∀ t ∈ Xe9 ops o,Xad (Xb5 ops (vAt tr) a (fun k=>listed.getD k false) ops.size).t t=Xad (Xb5 ops (vAt tr) a (fun j=>decide (j<i)) ops.size).t t:=fun t ht=>Xj4 hst hc hs ho hiF hr ht ops.size
  have hval:Xea P g F ops (H0.length+Xbz ops.toList i) o (Xb5 ops (vAt tr) a (fun k=>listed.getD k false) ops.size) (Xed (Xai tr (H0++rows)) (fun k=>listed.getD k false) ops.size)=some (vAt tr i,Xed (Xai tr (H0++rows)) (fun k=>listed.getD k false || k == i) ops.size):=by
   rw [Xdk hlook]
   have hf:=hfact i o hip ho
   cases hsil:Xbp o with
   | true =>
    obtain ⟨h2,h3⟩:=Xd7 hsil hf
    rw [h3,Xhl hst he hc hs ho hiF (by rw [h2]; exact Xb0 _)]
   | false =>
    have hRO':∀ q k,RO q k→eqM (Xai tr (H0++rows) (q+1)) (Xai tr (H0++rows) q)=true:=fun q k h=>(hRO q k h).1
    cases hie:eqM (Xai tr (H0++rows) (i+1)) (Xai tr (H0++rows) i) with
    | false =>
     rw [Xq4 hst he hRO' hc hs ho hiF hr hsil hie,Nat.min_eq_right (by omega),Xl7 hst he hRO' hc hs ho hiF hr hsil hie ops.size hk]
     exact hf
    | true =>
     rw [Xhl hst he hc hs ho hiF hie]
     rcases Xp2 hst he hRO' hc hs ho hiF hr hsil hie ops.size with h | ⟨j,_,_,h,h3⟩ | ⟨j,_,_,h,h3,_⟩
     ·rw [h,Nat.min_eq_right (by omega)]
      rw [Xfh hie] at hf
      exact hf
     ·rw [h]; exact ((hRO i j h3).2 o ho).2
     ·rw [h]; exact ((hRO i j h3).2 o ho).1
  have hmid:∀ j,Xbz ops.toList j<rows.length→H0.length+Xbz ops.toList j<(Xed (Xai tr (H0++rows)) (fun k=>listed.getD k false) ops.size).length:=by
   intro j hj
   rw [List.length_append] at hlen
   omega
  refine Xms hF ho x r ha (Nat.le_add_right _ _) (fun hal=>hp i o ho hal hiF) hval fun η1 act1 w1 x1 r1 ha1 hun hl1=>?_
  have hcl':Xem ops (fun k=>(listed.setIfInBounds i true).getD k false):=by
   intro j y hj hy e h2 h3
   simp only [hS',Bool.or_eq_true,beq_iff_eq] at hj ⊢
   rcases hj with hj | rfl
   ·exact .inl (hc j y hj hy e h2 h3)
   ·rw [ho] at hy
    injection hy with hy
    subst hy
    exact .inl (hr e h2 h3)
  refine ih (listed.setIfInBounds i true) η1 w1 act1 (by simpa using hsz) hcl' (fun k hk=>by rw [hS',hlo k hk]; simp; omega) ?_ (by rw [hfun]; exact x1) (by rw [hfun]; exact r1) ?_ ?_ (by rw [hfun]; omega)
  ·have hrng:∀ (l:List Nat),l.Nodup→i ∈ l→(l.filter fun k=>!(listed.getD k false || k == i)).length+1=(l.filter fun k=>!listed.getD k false).length:=by
    intro l
    induction l with
    | nil=>intro _ h; cases h
    | cons y l ihl =>
     intro hn hm
     rw [List.nodup_cons] at hn
     by_cases hy:y=i
     ·subst hy
      have hsame:(l.filter fun k=>!(listed.getD k false || k == y))=l.filter fun k=>!listed.getD k false:=by
       apply List.filter_congr
       intro k hk
       have:(k == y)=false:=by simp; exact fun e=>hn.1 (e ▸ hk)
       simp [this]
      simp only [List.filter_cons,hiF,hsame]
      simp
     ·have hm':i ∈ l:=by
       rcases List.mem_cons.1 hm with h | h
       ·exact absurd h.symm hy
       ·exact h
      have:=ihl hn.2 hm'
      have hb:(y == i)=false:=by simpa using hy
      simp only [List.filter_cons,hb,Bool.or_false]
      split
      ·simp only [Zf]; omega
      ·exact this
   have:=hrng (List.range ops.size) List.nodup_range (List.mem_range.2 hk)
   simp only [hS']
   omega
  ·rw [hfun]
   have hn1:=Xez ops (vAt tr) a (fun k=>listed.getD k false || k == i) ops.size
   have hn2:=Xez ops (vAt tr) a (fun k=>listed.getD k false) ops.size
   have hn3:=Xu4 (Xb5 ops (vAt tr) a (fun k=>listed.getD k false) ops.size) o.dst (vAt tr i)
   refine ⟨by rw [hn1.1,← hn2.1,← hn3.1]; exact ha1.size,fun t=>?_,by rw [hn1.2,← hn2.2,← hn3.2]; exact ha1.def_⟩
   have h2:=ha1.tmp t
   rw [Xc3,hn2.1] at h2
   rw [Xi5 hst hc hs ho hiF t ops.size]
   by_cases hd:o.dst=some t
   ·rw [if_pos ⟨hk,hd⟩]; rw [if_pos hd] at h2; exact h2
   ·rw [if_neg (fun h=>hd h.2)]; rw [if_neg hd] at h2; exact h2
  ·intro j y hy hal hj
   simp only [hS',Bool.or_eq_false_iff] at hj
   have hji:j≠i:=by simpa using hj.2
   refine hun _ (hmid j (hrows j y hy hal)) (fun hal2 e=>?_) (hp j y hy hal hj.1)
   have e2:Xbz ops.toList j=Xbz ops.toList i:=by omega
   rcases Nat.lt_or_ge j i with h2 | h2
   ·have h3:=Xe5 (l:=ops.toList) (k:=j) (o:=y) (by simpa using hy)
    have h4:=Xgj (l:=ops.toList) (show j+1≤i by omega)
    rw [hal] at h3; simp at h3; omega
   ·have h3:=Xe5 (l:=ops.toList) (k:=i) (o:=o) (by simpa using ho)
    have h4:=Xgj (l:=ops.toList) (show i+1≤j by omega)
    rw [hal2] at h3; simp at h3; omega
theorem any_sound (hF:FOk P g F) (hst:Stat ops) {RO:Nat→Nat→Prop} (he:Eff ops (Xai tr (H0++rows)) RO)
  (hRO:∀ q k,RO q k→eqM (Xai tr (H0++rows) (q+1)) (Xai tr (H0++rows) q)=true∧∀ o,ops[q]? = some o→(Xea P g F ops (H0.length+Xbz ops.toList q) o (Xb5 ops (vAt tr) a (fun j=>decide (j<q)) ops.size) (Xai tr (H0++rows) k)=some (vAt tr q,Xai tr (H0++rows) k))∧Xea P g F ops (H0.length+Xbz ops.toList q) o (Xb5 ops (vAt tr) a (fun j=>decide (j<q)) ops.size) (Xai tr (H0++rows) (k+1))=some (vAt tr q,Xai tr (H0++rows) (k+1)))
  (hfact:∀ (i:Nat) o,ops[i]? = some o→Xea P g F ops (H0.length+Xbz ops.toList i) o (Xb5 ops (vAt tr) a (fun j=>decide (j<i)) ops.size) (Xai tr (H0++rows) i)=some (vAt tr i,Xai tr (H0++rows) (i+1)))
  (hrows:∀ (i:Nat) o,ops[i]? = some o→Xaz o=true→Xbz ops.toList i<rows.length) :
  ∀ (fuel:Nat) (listed:Array Bool) (η:Nat→Option Nat) (w:World) (act:Act),listed.size=ops.size→Xem ops (fun k=>listed.getD k false)→((List.range ops.size).filter fun k=>!listed.getD k false).length=fuel →
   Ext η0 H0 w0 η (Xed (Xai tr (H0++rows)) (fun k=>listed.getD k false) ops.size) w→Rel g η (Xed (Xai tr (H0++rows)) (fun k=>listed.getD k false) ops.size) w →
   ActR η (Xed (Xai tr (H0++rows)) (fun k=>listed.getD k false) ops.size) w (Xb5 ops (vAt tr) a (fun k=>listed.getD k false) ops.size) act →
   (∀ (i:Nat) o,ops[i]? = some o→Xaz o=true→listed.getD i false=false→η (H0.length+Xbz ops.toList i)=none)→(H0++rows).length≤(Xed (Xai tr (H0++rows)) (fun k=>listed.getD k false) ops.size).length →
   wpAny P .any ops (Xsw g η0 H0 w0 .normal (Xb5 ops (vAt tr) a (fun _=>true) ops.size) (Xai tr (H0++rows) ops.size)) fuel listed act w:=by
 intro fuel listed η w act hsz hc hcnt x r ha hp hlen
 have none_ready:∀ (listed:Array Bool),listed.size=ops.size→(∀ k,k<ops.size→listed.getD k false=true)→Region.ready .any ops listed=[]:=by
  intro listed hsz hall
  cases hr:Region.ready .any ops listed with
  | nil=>rfl
  | cons i l =>
   exfalso
   have hi:i ∈ Region.ready .any ops listed:=by rw [hr]; simp
   obtain ⟨h1,o,h2,_⟩:=mem_ready.1 hi
   have hk:i<ops.size:=(Array.getElem?_eq_some_iff.1 h2).1
   have h3:=hall i hk
   have hk2:i<listed.size:=by omega
   simp [hk2] at h1 h3
   rw [h1] at h3; cases h3
 refine any_upto hF hst he hRO (Nat.le_refl _) _ (fun listed i _ _ hi hr=>?_) (fun i o _ ho=>hfact i o ho) hrows (fun listed η w act hsz hall hlo x r ha=>?_) fuel listed η w act hsz hc (fun k hk=>?_) hcnt x r ha hp hlen
 ·obtain ⟨_,o,h2,_⟩:=mem_ready.1 hr
  have:=(Array.getElem?_eq_some_iff.1 h2).1
  omega
 ·rw [Nat.sub_self]
  refine ⟨none_ready listed hsz hall,?_⟩
  refine ⟨η,x,r,?_,trivial⟩
  rw [Xcz (T:=fun k=>decide (k<ops.size)) ops.size (fun k hk=>by simp [hk])]
  exact ha
 ·have:¬ k<listed.size:=by omega
  simp [this]
def Xqv (M:Nat→Mem) (S:Nat→Bool) (n x y:Nat) (Mx My Me:Mem):Mem:=if S x then (if S y then Me else Mx) else if S y then My else Xed M S n
theorem Xpa {M:Nat→Mem} {S:Nat→Bool}:∀ k,(∀ j,j<k→S j=true∨eqM (M (j+1)) (M j)=true)→Xed M S k=M k
 | 0,_=>rfl
 | k+1,h=>by
  have ih:=Xpa k fun j hj=>h j (by omega)
  simp only [Xed]
  cases hc:eqM (M (k+1)) (M k) with
  | true=>simp [ih,Xfh hc]
  | false =>
   rcases h k (by omega) with h1 | h1
   ·simp [h1]
   ·rw [hc] at h1; cases h1
theorem any_two (hF:FOk P g F) (hst:Stat ops) {RO:Nat→Nat→Prop} (he:Eff ops (Xai tr (H0++rows)) RO)
  (hRO:∀ q k,RO q k→eqM (Xai tr (H0++rows) (q+1)) (Xai tr (H0++rows) q)=true∧∀ o,ops[q]? = some o→(Xea P g F ops (H0.length+Xbz ops.toList q) o (Xb5 ops (vAt tr) a (fun j=>decide (j<q)) ops.size) (Xai tr (H0++rows) k)=some (vAt tr q,Xai tr (H0++rows) k))∧Xea P g F ops (H0.length+Xbz ops.toList q) o (Xb5 ops (vAt tr) a (fun j=>decide (j<q)) ops.size) (Xai tr (H0++rows) (k+1))=some (vAt tr q,Xai tr (H0++rows) (k+1)))
  {x y:Nat} {ox oy:Oper} {Mx My Me:Mem} {v1 v2 v3 v4:AV} (hxy:x≠y) (hox:ops[x]? = some ox) (hoy:ops[y]? = some oy) (hdx:ox.dst=none) (hdy:oy.dst=none) (hax:Xaz ox=false) (hay:Xaz oy=false)
  (hfact:∀ (i:Nat) o,i≠x→i≠y→ops[i]? = some o→Xea P g F ops (H0.length+Xbz ops.toList i) o (Xb5 ops (vAt tr) a (fun j=>decide (j<i)) ops.size) (Xai tr (H0++rows) i)=some (vAt tr i,Xai tr (H0++rows) (i+1)))
  (hrows:∀ (i:Nat) o,ops[i]? = some o→Xaz o=true→Xbz ops.toList i<rows.length)
  (hMx:Xai tr (H0++rows) (x+1)=Xai tr (H0++rows) x) (hMy:Xai tr (H0++rows) (y+1)=Xai tr (H0++rows) y)
  (hsil:∀ (j:Nat) o,ops[j]? = some o→j≠x→j≠y→Xbp o=true∨((Xcw ops x).testBit j=true∧(Xcw ops y).testBit j=true))
  (e1:Xea P g F ops (H0.length+Xbz ops.toList x) ox (Xb5 ops (vAt tr) a (fun j=>decide (j<x)) ops.size) (Xai tr (H0++rows) ops.size)=some (v1,Mx)) (e2:Xea P g F ops (H0.length+Xbz ops.toList y) oy (Xb5 ops (vAt tr) a (fun j=>decide (j<y)) ops.size) Mx=some (v2,Me))
  (e3:Xea P g F ops (H0.length+Xbz ops.toList y) oy (Xb5 ops (vAt tr) a (fun j=>decide (j<y)) ops.size) (Xai tr (H0++rows) ops.size)=some (v3,My)) (e4:Xea P g F ops (H0.length+Xbz ops.toList x) ox (Xb5 ops (vAt tr) a (fun j=>decide (j<x)) ops.size) My=some (v4,Me)) :
  ∀ (fuel:Nat) (listed:Array Bool) (η:Nat→Option Nat) (w:World) (act:Act),listed.size=ops.size→Xem ops (fun k=>listed.getD k false)→((List.range ops.size).filter fun k=>!listed.getD k false).length=fuel →
   Ext η0 H0 w0 η (Xqv (Xai tr (H0++rows)) (fun k=>listed.getD k false) ops.size x y Mx My Me) w→Rel g η (Xqv (Xai tr (H0++rows)) (fun k=>listed.getD k false) ops.size x y Mx My Me) w →
   ActR η (Xqv (Xai tr (H0++rows)) (fun k=>listed.getD k false) ops.size x y Mx My Me) w (Xb5 ops (vAt tr) a (fun k=>listed.getD k false) ops.size) act →
   (∀ (i:Nat) o,ops[i]? = some o→Xaz o=true→listed.getD i false=false→η (H0.length+Xbz ops.toList i)=none)→(H0++rows).length≤(Xqv (Xai tr (H0++rows)) (fun k=>listed.getD k false) ops.size x y Mx My Me).length →
   wpAny P .any ops (Xsw g η0 H0 w0 .normal (Xb5 ops (vAt tr) a (fun _=>true) ops.size) Me) fuel listed act w:=by
 have hxn:x<ops.size:=(Array.getElem?_eq_some_iff.1 hox).1
 have hyn:y<ops.size:=(Array.getElem?_eq_some_iff.1 hoy).1
 have done:∀ (listed:Array Bool),Region.ready .any ops listed=[]→listed.size=ops.size→∀ k,k<ops.size→listed.getD k false=true:=by
  intro listed hr hsz
  have:∀ n k,k<n→k<ops.size→listed.getD k false=true:=by
   intro n
   induction n with
   | zero=>intro k hk; omega
   | succ n ih =>
    intro k hk hks
    cases hS:listed.getD k false with
    | true=>rfl
    | false =>
     exfalso
     have:k ∈ Region.ready .any ops listed:=mem_ready.2 ⟨by
       have hk2:k<listed.size:=by omega
       simp [hk2] at hS ⊢; exact hS,ops[k],Array.getElem?_eq_getElem hks,fun e h1 h2=>ih e.on (by have:=hst.edge k _ (Array.getElem?_eq_getElem hks) e h1 h2; omega) (by have:=hst.edge k _ (Array.getElem?_eq_getElem hks) e h1 h2; omega)⟩
     rw [hr] at this; cases this
  exact fun k hk=>this (k+1) k (by omega) hk
 have post:∀ (listed:Array Bool) (η:Nat→Option Nat) (w:World) (act:Act),(∀ k,k<ops.size→listed.getD k false=true)→Ext η0 H0 w0 η (Xqv (Xai tr (H0++rows)) (fun k=>listed.getD k false) ops.size x y Mx My Me) w→Rel g η (Xqv (Xai tr (H0++rows)) (fun k=>listed.getD k false) ops.size x y Mx My Me) w →
   ActR η (Xqv (Xai tr (H0++rows)) (fun k=>listed.getD k false) ops.size x y Mx My Me) w (Xb5 ops (vAt tr) a (fun k=>listed.getD k false) ops.size) act→Xsw g η0 H0 w0 .normal (Xb5 ops (vAt tr) a (fun _=>true) ops.size) Me .normal act w:=by
  intro listed η w act hall xx r ha
  have hm:(Xqv (Xai tr (H0++rows)) (fun k=>listed.getD k false) ops.size x y Mx My Me)=Me:=by
   unfold Xqv
   rw [if_pos (hall x hxn),if_pos (hall y hyn)]
  rw [hm] at xx r ha
  rw [Xcz (T:=fun _=>true) ops.size hall] at ha
  exact ⟨η,xx,r,ha,trivial⟩
 intro fuel
 induction fuel with
 | zero =>
  intro listed η w act hsz hc hcnt xx r ha hp hlen
  have hall:∀ k,k<ops.size→listed.getD k false=true:=by
   intro k hk
   cases hS:listed.getD k false with
   | true=>rfl
   | false =>
    have:k ∈ (List.range ops.size).filter fun k=>!listed.getD k false:=by
     rw [List.mem_filter]; exact ⟨List.mem_range.2 hk,by simp only [hS]; rfl⟩
    rw [List.eq_nil_of_length_eq_zero hcnt] at this; cases this
  refine ⟨?_,post listed η w act hall xx r ha⟩
  cases hr:Region.ready .any ops listed with
  | nil=>rfl
  | cons i l =>
   exfalso
   have hi:i ∈ Region.ready .any ops listed:=by rw [hr]; simp
   obtain ⟨h1,o,h2,_⟩:=mem_ready.1 hi
   have hk:i<ops.size:=(Array.getElem?_eq_some_iff.1 h2).1
   have h3:=hall i hk
   have hk2:i<listed.size:=by omega
   simp [hk2] at h1 h3
   rw [h1] at h3; cases h3
 | succ fuel ih =>
  intro listed η w act hsz hc hcnt xx r ha hp hlen
  refine ⟨fun hr=>post listed η w act (done listed hr hsz) xx r ha,fun i hi=>?_⟩
  obtain ⟨h1,o,ho,hr⟩:=mem_ready.1 hi
  have hk:i<ops.size:=(Array.getElem?_eq_some_iff.1 ho).1
  have hk2:i<listed.size:=by omega
  have hiF:listed.getD i false=false:=by simp [hk2] at h1 ⊢; exact h1
  have hs:∀ k,(fun k=>listed.getD k false) k=true→k<ops.size:=by
   intro k h
   rcases Nat.lt_or_ge k ops.size with h' | h'
   ·exact h'
   ·have:¬ k<listed.size:=by omega
    simp [this] at h
  have hS':∀ k,(listed.setIfInBounds i true).getD k false=(listed.getD k false || k == i):=fun k=>Xly listed i k hk2
  have hfun:(fun k=>(listed.setIfInBounds i true).getD k false)=fun k=>listed.getD k false || k == i:=funext hS'
  have hlook:∀ t ∈ Xe9 ops o,Xad (Xb5 ops (vAt tr) a (fun k=>listed.getD k false) ops.size).t t=Xad (Xb5 ops (vAt tr) a (fun j=>decide (j<i)) ops.size).t t:=fun t ht=>Xj4 hst hc hs ho hiF hr ht ops.size
  have hrest:i=x∨i=y∨listed.getD x false=true∨listed.getD y false=true→(∀ (j:Nat) z,ops[j]? = some z→j≠x→j≠y→Xbp z=true∨listed.getD j false=true):=by
   intro h j z hz h3 h4
   rcases hsil j z hz h3 h4 with h5 | ⟨h5,h6⟩
   ·exact .inl h5
   ·right
    rcases h with rfl | rfl | h | h
    ·exact Xch hc (i+1) i j o (by omega) ho hr hs h5
    ·exact Xch hc (i+1) i j o (by omega) ho hr hs h6
    ·exact Xch hc (x+1) x j ox (by omega) hox (fun e h7 h8=>hc x ox h hox e h7 h8) hs h5
    ·exact Xch hc (y+1) y j oy (by omega) hoy (fun e h7 h8=>hc y oy h hoy e h7 h8) hs h6
  have hstill:(∀ (j:Nat) z,ops[j]? = some z→j≠x→j≠y→Xbp z=true∨listed.getD j false=true)→Xed (Xai tr (H0++rows)) (fun k=>listed.getD k false) ops.size=Xai tr (H0++rows) ops.size:=by
   intro h
   refine Xpa ops.size fun j hj=>?_
   by_cases hjx:j=x
   ·subst hjx; right; rw [hMx]; exact Xb0 _
   by_cases hjy:j=y
   ·subst hjy; right; rw [hMy]; exact Xb0 _
   rcases h j _ (Array.getElem?_eq_getElem hj) hjx hjy with h3 | h3
   ·right
    obtain ⟨h4,_⟩:=Xd7 h3 (hfact j _ hjx hjy (Array.getElem?_eq_getElem hj))
    rw [h4]; exact Xb0 _
   ·exact .inl h3
  have hval:∃ v,(o.dst=none∨v=vAt tr i)∧Xea P g F ops (H0.length+Xbz ops.toList i) o (Xb5 ops (vAt tr) a (fun k=>listed.getD k false) ops.size) (Xqv (Xai tr (H0++rows)) (fun k=>listed.getD k false) ops.size x y Mx My Me)=some (v,Xqv (Xai tr (H0++rows)) (fun k=>listed.getD k false || k == i) ops.size x y Mx My Me):=by
   by_cases hix:i=x
   ·subst hix
    rw [hox] at ho; injection ho with ho; subst ho
    have hm:=hstill (hrest (.inl rfl))
    have hyi:(y == i)=false:=by simpa using fun e=>hxy e.symm
    cases hy:listed.getD y false with
    | true =>
     refine ⟨v4,.inl hdx,?_⟩
     rw [Xdk hlook]
     simp only [Xqv,hiF,hy,Ze,if_false,if_true,Bool.false_or,ZA,Bool.true_or]
     exact e4
    | false =>
     refine ⟨v1,.inl hdx,?_⟩
     rw [Xdk hlook]
     simp only [Xqv,hiF,hy,Ze,if_false,if_true,Bool.false_or,ZA,hyi,hm]
     exact e1
   by_cases hiy:i=y
   ·subst hiy
    rw [hoy] at ho; injection ho with ho; subst ho
    have hm:=hstill (hrest (.inr (.inl rfl)))
    have hxi:(x == i)=false:=by simpa using hxy
    cases hx:listed.getD x false with
    | true =>
     refine ⟨v2,.inl hdy,?_⟩
     rw [Xdk hlook]
     simp only [Xqv,hiF,hx,Ze,if_false,if_true,Bool.false_or,ZA,Bool.true_or]
     exact e2
    | false =>
     refine ⟨v3,.inl hdy,?_⟩
     rw [Xdk hlook]
     simp only [Xqv,hiF,hx,Ze,if_false,if_true,Bool.false_or,ZA,hxi,hm]
     exact e3
   have hxi:(x == i)=false:=by simpa using fun e=>hix e.symm
   have hyi:(y == i)=false:=by simpa using fun e=>hiy e.symm
   refine ⟨vAt tr i,.inr rfl,?_⟩
   by_cases hany:listed.getD x false=true∨listed.getD y false=true
   ·have hsi:Xbp o=true:=by
     rcases hrest (.inr (.inr hany)) i o ho hix hiy with h | h
     ·exact h
     ·rw [hiF] at h; cases h
    obtain ⟨_,h3⟩:=Xd7 hsi (hfact i o hix hiy ho)
    rw [Xdk hlook,h3]
    congr 2
    simp only [Xqv,hxi,hyi,Bool.or_false]
    rcases hany with h | h
    ·simp only [h,if_true]
    ·simp only [h,if_true]
   ·have hx:listed.getD x false=false:=by
     cases h:listed.getD x false with
     | true=>exact absurd (.inl h) hany
     | false=>rfl
    have hy:listed.getD y false=false:=by
     cases h:listed.getD y false with
     | true=>exact absurd (.inr h) hany
     | false=>rfl
    simp only [Xqv,hx,hy,hxi,hyi,Bool.or_false,Ze,if_false]
    rw [Xdk hlook]
    have hf:=hfact i o hix hiy ho
    cases hsil:Xbp o with
    | true =>
     obtain ⟨h2,h3⟩:=Xd7 hsil hf
     rw [h3,Xhl hst he hc hs ho hiF (by rw [h2]; exact Xb0 _)]
    | false =>
     have hRO':∀ q k,RO q k→eqM (Xai tr (H0++rows) (q+1)) (Xai tr (H0++rows) q)=true:=fun q k h=>(hRO q k h).1
     cases hie:eqM (Xai tr (H0++rows) (i+1)) (Xai tr (H0++rows) i) with
     | false =>
      rw [Xq4 hst he hRO' hc hs ho hiF hr hsil hie,Nat.min_eq_right (by omega),Xl7 hst he hRO' hc hs ho hiF hr hsil hie ops.size hk]
      exact hf
     | true =>
      rw [Xhl hst he hc hs ho hiF hie]
      rcases Xp2 hst he hRO' hc hs ho hiF hr hsil hie ops.size with h | ⟨j,_,_,h,h3⟩ | ⟨j,_,_,h,h3,_⟩
      ·rw [h,Nat.min_eq_right (by omega)]
       rw [Xfh hie] at hf
       exact hf
      ·rw [h]; exact ((hRO i j h3).2 o ho).2
      ·rw [h]; exact ((hRO i j h3).2 o ho).1
  have hmid:∀ j,Xbz ops.toList j<rows.length→H0.length+Xbz ops.toList j<(Xqv (Xai tr (H0++rows)) (fun k=>listed.getD k false) ops.size x y Mx My Me).length:=by
   intro j hj
   rw [List.length_append] at hlen
   omega
  obtain ⟨vv,hvv,hval⟩:=hval
  refine Xms hF ho xx r ha (Nat.le_add_right _ _) (fun hal=>hp i o ho hal hiF) hval fun η1 act1 w1 x1 r1 ha1 hun hl1=>?_
  have hcl':Xem ops (fun k=>(listed.setIfInBounds i true).getD k false):=by
   intro j y hj hy e h2 h3
   simp only [hS',Bool.or_eq_true,beq_iff_eq] at hj ⊢
   rcases hj with hj | rfl
   ·exact .inl (hc j y hj hy e h2 h3)
   ·rw [ho] at hy
    injection hy with hy
    subst hy
    exact .inl (hr e h2 h3)
  refine ih (listed.setIfInBounds i true) η1 w1 act1 (by simpa using hsz) hcl' ?_ (by rw [hfun]; exact x1) (by rw [hfun]; exact r1) ?_ ?_ (by rw [hfun]; omega)
  ·have hrng:∀ (l:List Nat),l.Nodup→i ∈ l→(l.filter fun k=>!(listed.getD k false || k == i)).length+1=(l.filter fun k=>!listed.getD k false).length:=by
    intro l
    induction l with
    | nil=>intro _ h; cases h
    | cons y l ihl =>
     intro hn hm
     rw [List.nodup_cons] at hn
     by_cases hy:y=i
     ·subst hy
      have hsame:(l.filter fun k=>!(listed.getD k false || k == y))=l.filter fun k=>!listed.getD k false:=by
       apply List.filter_congr
       intro k hk
       have:(k == y)=false:=by simp; exact fun e=>hn.1 (e ▸ hk)
       simp [this]
      simp only [List.filter_cons,hiF,hsame]
      simp
     ·have hm':i ∈ l:=by
       rcases List.mem_cons.1 hm with h | h
       ·exact absurd h.symm hy
       ·exact h
      have:=ihl hn.2 hm'
      have hb:(y == i)=false:=by simpa using hy
      simp only [List.filter_cons,hb,Bool.or_false]
      split
      ·simp only [Zf]; omega
      ·exact this
   have:=hrng (List.range ops.size) List.nodup_range (List.mem_range.2 hk)
   simp only [hS']
   omega
  ·rw [hfun]
   have hn1:=Xez ops (vAt tr) a (fun k=>listed.getD k false || k == i) ops.size
   have hn2:=Xez ops (vAt tr) a (fun k=>listed.getD k false) ops.size
   have hn3:=Xu4 (Xb5 ops (vAt tr) a (fun k=>listed.getD k false) ops.size) o.dst vv
   refine ⟨by rw [hn1.1,← hn2.1,← hn3.1]; exact ha1.size,fun t=>?_,by rw [hn1.2,← hn2.2,← hn3.2]; exact ha1.def_⟩
   have h2:=ha1.tmp t
   rw [Xc3,hn2.1] at h2
   rw [Xi5 hst hc hs ho hiF t ops.size]
   by_cases hd:o.dst=some t
   ·rw [if_pos ⟨hk,hd⟩]; rw [if_pos hd] at h2
    rcases hvv with h | h
    ·rw [h] at hd; cases hd
    ·rw [← h]; exact h2
   ·rw [if_neg (fun h=>hd h.2)]; rw [if_neg hd] at h2; exact h2
  ·intro j y hy hal hj
   simp only [hS',Bool.or_eq_false_iff] at hj
   have hji:j≠i:=by simpa using hj.2
   refine hun _ (hmid j (hrows j y hy hal)) (fun hal2 e=>?_) (hp j y hy hal hj.1)
   have e2:Xbz ops.toList j=Xbz ops.toList i:=by omega
   rcases Nat.lt_or_ge j i with h2 | h2
   ·have h3:=Xe5 (l:=ops.toList) (k:=j) (o:=y) (by simpa using hy)
    have h4:=Xgj (l:=ops.toList) (show j+1≤i by omega)
    rw [hal] at h3; simp at h3; omega
   ·have h3:=Xe5 (l:=ops.toList) (k:=i) (o:=o) (by simpa using ho)
    have h4:=Xgj (l:=ops.toList) (show i+1≤j by omega)
    rw [hal2] at h3; simp at h3; omega
end
theorem Xm5 {ops:Array Oper} {x y:Nat} (h:twoT ops x y=true):x<y∧∃ ox oy,ops[x]? = some ox∧ops[y]? = some oy∧ox.dst=none∧oy.dst=none∧Xaz ox=false∧Xaz oy=false ∧
  ∀ (j:Nat) o,ops[j]? = some o→j≠x→j≠y→Xbp o=true∨((Xcw ops x).testBit j=true∧(Xcw ops y).testBit j=true):=by
 unfold twoT at h
 simp only [Bool.and_eq_true,decide_eq_true_eq] at h
 obtain ⟨hxy,h⟩:=h
 split at h
 ·rename_i p q hp hq
  have hlen:(Xa2 ops).length=ops.size:=by simp [Xa2,Xda]
  have hx:x<ops.size:=by rw [← hlen]; exact (List.getElem?_eq_some_iff.1 hp).1
  have hy:y<ops.size:=by rw [← hlen]; exact (List.getElem?_eq_some_iff.1 hq).1
  rw [Xdv (Array.getElem?_eq_getElem hx)] at hp
  rw [Xdv (Array.getElem?_eq_getElem hy)] at hq
  injection hp with hp; injection hq with hq
  subst hp hq
  simp only [Bool.and_eq_true,Option.isNone_iff_eq_none,Bool.not_eq_true'] at h
  obtain ⟨h1,h2,h3,h4,h5⟩:=h
  refine ⟨hxy,_,_,Array.getElem?_eq_getElem hx,Array.getElem?_eq_getElem hy,h1,h2,h3,h4,fun j o ho hjx hjy=>?_⟩
  have h6:=List.all_eq_true.1 h5 _ (List.mem_of_getElem? (Xdv ho))
  simp only [Bool.or_eq_true,Bool.and_eq_true,beq_iff_eq] at h6
  rcases h6 with ((h6 | h6) | h6) | h6
  ·exact absurd h6 hjx
  ·exact absurd h6 hjy
  ·exact .inl h6
  ·exact .inr h6
 ·cases h
theorem drawTwo (hm:P.follows .mixedOrders=true) (hF:FOk P g F) (id:Nat) (ops:Array Oper) (a:AAct) (H:Mem) (η:Nat→Option Nat) (w:World) (act:Act) (r:Rel g η H w) (ha:ActR η H w a act) (hst:Stat ops) {rows:Mem} {tr:List (AV × Mem)} {x y:Nat} (hrows:Xcg P ops.toList=some rows) (htr:Xyo P g F ops H.length ops.toList a (H++rows)=some tr)
  (htt:twoT ops x y=true) (heff0:Xkx (roA P g F ops H.length a (H++rows) (Xq6 tr (Xai tr (H++rows) x) x)) (Xa2 ops) (Xa2 ops) (Xq6 tr (Xai tr (H++rows) x) x) (H++rows)=true) (hsw:swapA P g F ops H.length a (H++rows) tr x y=true) :
  (Code.region id ops true).wp P (Xsw g η H w .normal (Xcv ops.toList tr a) (Xi1 tr (H++rows))) act w:=by
   obtain ⟨hxy,ox,oy,hox,hoy,hdx,hdy,hax,hay,hsil⟩:=Xm5 htt
   have hxn:x<ops.size:=(Array.getElem?_eq_some_iff.1 hox).1
   have hyn:y<ops.size:=(Array.getElem?_eq_some_iff.1 hoy).1
   obtain ⟨htl,hf⟩:=Xjq ops.toList H.length a (H++rows) tr htr
   have htl':tr.length=ops.size:=by simpa using htl
   obtain ⟨hr1,hr2,hr3⟩:=Xds ops.toList rows hrows
   have hfact0:∀ (i:Nat) o,ops[i]? = some o→Xea P g F ops (H.length+Xbz ops.toList i) o (Xb5 ops (vAt tr) a (fun j=>decide (j<i)) ops.size) (Xai tr (H++rows) i)=some (vAt tr i,Xai tr (H++rows) (i+1)):=by
    intro i o ho
    have hi:i<ops.size:=(Array.getElem?_eq_some_iff.1 ho).1
    have:=hf i o (by simpa using ho)
    rw [Xdh htl' i (by omega),Xcz (T:=fun j=>decide (j<i)) i (fun j hj=>by simp [hj])] at this
    rw [Xgg ops.size (by omega)]
    exact this
   have hacc1:∀ i,i<ops.size→Xcv (ops.toList.take i) (tr.take i) a=Xb5 ops (vAt tr) a (fun j=>decide (j<i)) ops.size:=by
    intro i hi
    rw [Xdh htl' i (by omega),Xcz (T:=fun j=>decide (j<i)) i (fun j hj=>by simp [hj]),Xgg ops.size (by omega)]
   have hquiet:∀ j,x<j→j≠y→j<ops.size→∃ o,ops[j]? = some o∧Xbp o=true:=by
    intro j hj hjy hjn
    rcases hsil j _ (Array.getElem?_eq_getElem hjn) (by omega) hjy with h | ⟨h,_⟩
    ·exact ⟨_,Array.getElem?_eq_getElem hjn,h⟩
    ·have:=Xqc hst x j ox hox h
     omega
   have hstay:∀ j,x<j→j≠y→j<ops.size→Xai tr (H++rows) (j+1)=Xai tr (H++rows) j:=by
    intro j hj hjy hjn
    obtain ⟨o,ho,hs⟩:=hquiet j hj hjy hjn
    exact (Xd7 hs (hfact0 j o ho)).1
   have hrunTo:∀ n k,k≤n→x+1≤k→n≤ops.size→(∀ j,k≤j→j<n→j≠y)→Xai tr (H++rows) n=Xai tr (H++rows) k:=by
    intro n
    induction n with
    | zero=>intro k hk h1; omega
    | succ n ih =>
     intro k hk h1 hn hne
     rcases Nat.lt_or_ge n k with h | h
     ·obtain rfl:k=n+1:=by omega
      rfl
     ·rw [hstay n (by omega) (hne n h (by omega)) (by omega)]
      exact ih k h h1 (by omega) fun j h2 h3=>hne j h2 (by omega)
   have hmy:Xai tr (H++rows) y=Xai tr (H++rows) (x+1):=hrunTo y (x+1) (by omega) (Nat.le_refl _) (by omega) fun j _ h3=>by omega
   have hmn:Xai tr (H++rows) ops.size=Xai tr (H++rows) (y+1):=hrunTo ops.size (y+1) (by omega) (by omega) (Nat.le_refl _) fun j h2 _=>by omega
   have hT:∃ tr',tr'=Xq6 tr (Xai tr (H++rows) x) x:=⟨_,rfl⟩
   obtain ⟨tr',hT⟩:=hT
   have heff:=heff0
   rw [← hT] at heff
   have hget:∀ k,tr'[k]? = if k<x then tr[k]? else (tr[k]?).map fun z=>(z.1,Xai tr (H++rows) x):=by
    intro k
    rw [hT]
    unfold Xq6
    by_cases hk:k<x
    ·rw [if_pos hk,List.getElem?_append_left (by simp; omega),List.getElem?_take,if_pos hk]
    ·rw [if_neg hk,List.getElem?_append_right (by simp; omega),List.getElem?_map,List.getElem?_drop]
     congr 2
     simp; omega
   have htl2:tr'.length=ops.size:=by rw [hT]; unfold Xq6; simp; omega
   have hvA:vAt tr'=vAt tr:=by
    funext k
    unfold vAt
    rw [hget]
    by_cases hk:k<x
    ·rw [if_pos hk]
    ·rw [if_neg hk]
     cases tr[k]? <;> rfl
   have hmem1:∀ k,k≤x→Xai tr' (H++rows) k=Xai tr (H++rows) k:=by
    intro k hk
    cases k with
    | zero=>rfl
    | succ k=>simp only [Xai,hget,if_pos (show k<x by omega)]
   have hmem2:∀ k,x≤k→k≤ops.size→Xai tr' (H++rows) k=Xai tr (H++rows) x:=by
    intro k hk hkn
    rcases Nat.lt_or_ge x k with h | h
    ·obtain ⟨k,rfl⟩ : ∃ k',k=k'+1:=⟨k-1,by omega⟩
     have:k<tr.length:=by omega
     simp only [Xai,hget,if_neg (show ¬ k<x by omega),List.getElem?_eq_getElem this,Zh]
    ·obtain rfl:k=x:=by omega
     exact hmem1 k (Nat.le_refl _)
   have hfact:∀ (i:Nat) o,i≠x→i≠y→ops[i]? = some o→Xea P g F ops (H.length+Xbz ops.toList i) o (Xb5 ops (vAt tr') a (fun j=>decide (j<i)) ops.size) (Xai tr' (H++rows) i)=some (vAt tr' i,Xai tr' (H++rows) (i+1)):=by
    intro i o hix hiy ho
    have hin:i<ops.size:=(Array.getElem?_eq_some_iff.1 ho).1
    have h0:=hfact0 i o ho
    rw [hvA]
    rcases Nat.lt_or_ge i x with h | h
    ·rw [hmem1 i (by omega),hmem1 (i+1) (by omega)]; exact h0
    ·obtain ⟨o',ho',hs⟩:=hquiet i (by omega) hiy hin
     rw [ho] at ho'; injection ho' with ho'; subst ho'
     obtain ⟨_,h3⟩:=Xd7 hs h0
     rw [hmem2 i h (by omega),hmem2 (i+1) (by omega) (by omega)]
     exact h3 _
   have hMx:Xai tr' (H++rows) (x+1)=Xai tr' (H++rows) x:=by rw [hmem2 (x+1) (by omega) (by omega),hmem2 x (Nat.le_refl _) (by omega)]
   have hMy:Xai tr' (H++rows) (y+1)=Xai tr' (H++rows) y:=by rw [hmem2 (y+1) (by omega) (by omega),hmem2 y (by omega) (by omega)]
   have e1:=hfact0 x ox hox
   have e2:=hfact0 y oy hoy
   rw [hmy] at e2
   rw [← hmn] at e2
   obtain ⟨v3,v4,My,e3,e4⟩ : ∃ v3 v4 My,Xea P g F ops (H.length+Xbz ops.toList y) oy (Xb5 ops (vAt tr) a (fun j=>decide (j<y)) ops.size) (Xai tr (H++rows) x)=some (v3,My)∧Xea P g F ops (H.length+Xbz ops.toList x) ox (Xb5 ops (vAt tr) a (fun j=>decide (j<x)) ops.size) My=some (v4,Xai tr (H++rows) ops.size):=by
    unfold swapA at hsw
    rw [hox,hoy] at hsw
    simp only at hsw
    rw [hacc1 x hxn,hacc1 y hyn] at hsw
    split at hsw
    ·rename_i v3 M h3
     split at hsw
     ·rename_i v4 M' h4
      refine ⟨v3,v4,M,h3,?_⟩
      rw [h4,Xfh hsw]
      congr 2
      unfold Xi1
      obtain ⟨n,hn⟩ : ∃ n,ops.size=n+1:=⟨ops.size-1,by omega⟩
      rw [hn,List.getLast?_eq_getElem?,htl',hn]
      have hlt:n<tr.length:=by omega
      simp [Xai,hlt]
     ·cases hsw
    ·cases hsw
   rw [← hvA] at e1 e2 e3 e4
   rw [← hmem2 ops.size (by omega) (Nat.le_refl _)] at e1 e3
   let RO:Nat→Nat→Prop:=fun q k=>∃ o,ops[q]? = some o∧(roA P g F ops H.length a (H++rows) tr' q o (Xai tr' (H++rows) k) && roA P g F ops H.length a (H++rows) tr' q o (Xai tr' (H++rows) (k+1)))=true
   have heff':Eff ops (Xai tr' (H++rows)) RO:=by
    intro k o ho
    have hk:k<ops.size:=(Array.getElem?_eq_some_iff.1 ho).1
    rcases Xj7 (ops:=ops) (Xa2 ops) tr' (H++rows) heff (by simp [Xa2,Xda,htl2]) k _ (Xdv ho) with h1 | h1
    ·exact .inl h1
    ·refine .inr fun q x hq=>?_
     rcases h1 q x hq with h2 | h2 | h2 | h2 | h2
     ·exact .inl h2
     ·exact .inr (.inl h2)
     ·exact .inr (.inr (.inl h2))
     ·exact .inr (.inr (.inr (.inl h2)))
     ·exact .inr (.inr (.inr (.inr ⟨x,hq,h2⟩)))
   have hacc:∀ i,i<ops.size→Xcv (ops.toList.take i) (tr'.take i) a=Xb5 ops (vAt tr') a (fun j=>decide (j<i)) ops.size:=by
    intro i hi
    rw [Xdh htl2 i (by omega),Xcz (T:=fun j=>decide (j<i)) i (fun j hj=>by simp [hj]),Xgg ops.size (by omega)]
   have hRO:∀ q k,RO q k→eqM (Xai tr' (H++rows) (q+1)) (Xai tr' (H++rows) q)=true∧∀ o,ops[q]? = some o→(Xea P g F ops (H.length+Xbz ops.toList q) o (Xb5 ops (vAt tr') a (fun j=>decide (j<q)) ops.size) (Xai tr' (H++rows) k)=some (vAt tr' q,Xai tr' (H++rows) k))∧Xea P g F ops (H.length+Xbz ops.toList q) o (Xb5 ops (vAt tr') a (fun j=>decide (j<q)) ops.size) (Xai tr' (H++rows) (k+1))=some (vAt tr' q,Xai tr' (H++rows) (k+1)):=by
    rintro q k ⟨o',ho',h⟩
    have one:∀ M,roA P g F ops H.length a (H++rows) tr' q o' M=true→eqM (Xai tr' (H++rows) (q+1)) (Xai tr' (H++rows) q)=true∧Xea P g F ops (H.length+Xbz ops.toList q) o' (Xb5 ops (vAt tr') a (fun j=>decide (j<q)) ops.size) M=some (vAt tr' q,M):=by
     intro M hM
     unfold roA at hM
     simp only [Bool.and_eq_true] at hM
     refine ⟨hM.1,?_⟩
     have h2:=hM.2
     split at h2
     ·rename_i p r hp hv
      simp only [Bool.and_eq_true] at h2
      rw [hacc q (Array.getElem?_eq_some_iff.1 ho').1] at hv
      rw [hv]
      obtain ⟨r1,r2⟩:=r
      simp only at h2
      rw [Xoy h2.1,Xfh h2.2]
      simp [vAt,hp]
     ·cases h2
    simp only [Bool.and_eq_true] at h
    have h1:=one _ h.1
    have h2:=one _ h.2
    refine ⟨h1.1,fun o ho=>?_⟩
    rw [ho'] at ho
    injection ho with ho
    subst ho
    exact ⟨h1.2,h2.2⟩
   have e0:Ext η H w η H w.drew:=Ext.quiet rfl rfl rfl rfl
   have r0:Rel g η H w.drew:=r.quiet rfl rfl rfl rfl
   have hrel:Ext η H w η (H++rows) w.drew∧Rel g η (H++rows) w.drew:=by
    have eW:ExtW η H w.drew η (H++rows) w.drew:=⟨by simp,fun j y hy=>⟨y,by rw [List.getElem?_append_left (List.getElem?_eq_some_iff.1 hy).1]; exact hy,Nat.le_refl _,fun _ b hb=>⟨hb,fun s hs=>hs⟩⟩,Nat.le_refl _,fun b hb=>⟨rfl,hb.2⟩,rfl,rfl,rfl⟩
    refine ⟨e0.thenW eW fun j _ h=>h,r0.step eW (fun j b hj=>?_) r0.inj (fun y hy=>?_) fun j y b h1 h2=>?_⟩
    ·exact ⟨by rw [List.length_append]; have:=(r0.dom j b hj).1; omega,(r0.dom j b hj).2⟩
    ·rcases List.mem_append.1 hy with hy | hy
     ·exact Xej (by simp) (r0.low y hy)
     ·exact Xej (Nat.zero_le _) (hr2 y hy)
    ·have:=(r0.dom j b h2).1
     rw [List.getElem?_append_left this] at h1
     exact .inl ⟨h1,h2,rfl⟩
   have hS0:(fun k=>(Array.replicate ops.size false).getD k false)=fun _=>false:=by
    funext k
    by_cases hk:k<ops.size <;> simp [hk]
   have hacc0:∀ k,Xb5 ops (vAt tr') a (fun _=>false) k=a:=by
    intro k
    induction k with
    | zero=>rfl
    | succ k ih=>simp only [Xb5,ih]; split <;> simp
   have hmem0:∀ k,Xed (Xai tr' (H++rows)) (fun _=>false) k=H++rows:=by
    intro k
    induction k with
    | zero=>rfl
    | succ k ih=>simp only [Xed,ih]; simp
   have hlast:Xi1 tr (H++rows)=Xai tr (H++rows) ops.size:=by
    unfold Xi1
    rcases Nat.eq_zero_or_pos ops.size with h0 | h0
    ·have:tr=[]:=List.eq_nil_of_length_eq_zero (by omega)
     subst this
     simp [h0,Xai]
    ·obtain ⟨n,hn⟩ : ∃ n,ops.size=n+1:=⟨ops.size-1,by omega⟩
     rw [hn,List.getLast?_eq_getElem?,htl',hn]
     have hlt:n<tr.length:=by omega
     simp [Xai,hlt]
   have hput:Xcv ops.toList tr a=Xb5 ops (vAt tr) a (fun _=>true) ops.size:=by
    have:=Xdh (a:=a) htl' ops.size (Nat.le_refl _)
    rw [List.take_of_length_le (by simp),List.take_of_length_le (by omega)] at this
    exact this
   rw [hlast,hput,← hvA]
   refine wp_region_any hm ?_
   have hcnt0:((List.range ops.size).filter fun k=>!(Array.replicate ops.size false).getD k false).length=ops.size:=by
    have h1:∀ k ∈ List.range ops.size,(!(Array.replicate ops.size false).getD k false)=true:=fun k _=>by
     have h2:(Array.replicate ops.size false).getD k false=false:=congrFun hS0 k
     rw [h2]; rfl
    rw [List.filter_eq_self.2 h1]
    exact List.length_range
   have hmain:=any_two (a:=a) (η0:=η) (w0:=w) hF hst heff' hRO (Nat.ne_of_lt hxy) hox hoy hdx hdy hax hay hfact (fun i o ho hal=>hr3 i o (by simpa using ho) hal) hMx hMy hsil e1 e2 e3 e4 ops.size (Array.replicate ops.size false) η w.drew act (by simp) (by rw [hS0]; intro i o h; cases h) hcnt0
   rw [hS0,hacc0] at hmain
   simp only [Xqv,Ze,if_false,hmem0] at hmain
   exact hmain hrel.1 hrel.2 ((ha.ext e0).ext ⟨⟨by simp,fun j y hy=>⟨y,by rw [List.getElem?_append_left (List.getElem?_eq_some_iff.1 hy).1]; exact hy,Nat.le_refl _,fun _ b hb=>⟨hb,fun s hs=>hs⟩⟩,Nat.le_refl _,fun b hb=>⟨rfl,hb.2⟩,rfl,rfl,rfl⟩,fun j _ h=>h⟩) (fun i o ho hal _=>by
     cases hη:η (H.length+Xbz ops.toList i) with
     | none=>rfl
     | some b=>have:=(r.dom _ b hη).1; omega) (Nat.le_refl _)
theorem Xvc (hm:P.follows .mixedOrders=true) (hF:FOk P g F) (id:Nat) (ops:Array Oper) (a a1:AAct) (H H1:Mem) (out:Out) (η:Nat→Option Nat) (w:World) (act:Act) (r:Rel g η H w) (ha:ActR η H w a act) (h:Xmc P g F ops a H=some (out,a1,H1)) :
  (Code.region id ops true).wp P (Xsw g η H w out a1 H1) act w:=by
 unfold Xmc at h
 split at h
 ·rename_i hstat
  obtain ⟨rows,hrows,h'⟩:=Option.bind_eq_some_iff.1 h
  obtain ⟨tr,htr,h'⟩:=Option.bind_eq_some_iff.1 h'
  clear h
  split at h'
  ·rename_i heff
   injection h' with h'; injection h' with h1 h'; injection h' with h2 h3
   subst h1 h2 h3
   have hst:=Xij hstat
   obtain ⟨htl,hf⟩:=Xjq ops.toList H.length a (H++rows) tr htr
   have htl':tr.length=ops.size:=by simpa using htl
   obtain ⟨hr1,hr2,hr3⟩:=Xds ops.toList rows hrows
   have hfact:∀ (i:Nat) o,ops[i]? = some o→Xea P g F ops (H.length+Xbz ops.toList i) o (Xb5 ops (vAt tr) a (fun j=>decide (j<i)) ops.size) (Xai tr (H++rows) i)=some (vAt tr i,Xai tr (H++rows) (i+1)):=by
    intro i o ho
    have hi:i<ops.size:=(Array.getElem?_eq_some_iff.1 ho).1
    have:=hf i o (by simpa using ho)
    rw [Xdh htl' i (by omega),Xcz (T:=fun j=>decide (j<i)) i (fun j hj=>by simp [hj])] at this
    rw [Xgg ops.size (by omega)]
    exact this
   let RO:Nat→Nat→Prop:=fun q k=>∃ o,ops[q]? = some o∧(roA P g F ops H.length a (H++rows) tr q o (Xai tr (H++rows) k) && roA P g F ops H.length a (H++rows) tr q o (Xai tr (H++rows) (k+1)))=true
   have heff':Eff ops (Xai tr (H++rows)) RO:=by
    intro k o ho
    have hk:k<ops.size:=(Array.getElem?_eq_some_iff.1 ho).1
    rcases Xj7 (ops:=ops) (Xa2 ops) tr (H++rows) heff (by simp [Xa2,Xda,htl']) k _ (Xdv ho) with h1 | h1
    ·exact .inl h1
    ·refine .inr fun q x hq=>?_
     rcases h1 q x hq with h2 | h2 | h2 | h2 | h2
     ·exact .inl h2
     ·exact .inr (.inl h2)
     ·exact .inr (.inr (.inl h2))
     ·exact .inr (.inr (.inr (.inl h2)))
     ·exact .inr (.inr (.inr (.inr ⟨x,hq,h2⟩)))
   have hacc:∀ i,i<ops.size→Xcv (ops.toList.take i) (tr.take i) a=Xb5 ops (vAt tr) a (fun j=>decide (j<i)) ops.size:=by
    intro i hi
    rw [Xdh htl' i (by omega),Xcz (T:=fun j=>decide (j<i)) i (fun j hj=>by simp [hj]),Xgg ops.size (by omega)]
   have hRO:∀ q k,RO q k→eqM (Xai tr (H++rows) (q+1)) (Xai tr (H++rows) q)=true∧∀ o,ops[q]? = some o→(Xea P g F ops (H.length+Xbz ops.toList q) o (Xb5 ops (vAt tr) a (fun j=>decide (j<q)) ops.size) (Xai tr (H++rows) k)=some (vAt tr q,Xai tr (H++rows) k))∧Xea P g F ops (H.length+Xbz ops.toList q) o (Xb5 ops (vAt tr) a (fun j=>decide (j<q)) ops.size) (Xai tr (H++rows) (k+1))=some (vAt tr q,Xai tr (H++rows) (k+1)):=by
    rintro q k ⟨o',ho',h⟩
    have one:∀ M,roA P g F ops H.length a (H++rows) tr q o' M=true→eqM (Xai tr (H++rows) (q+1)) (Xai tr (H++rows) q)=true∧Xea P g F ops (H.length+Xbz ops.toList q) o' (Xb5 ops (vAt tr) a (fun j=>decide (j<q)) ops.size) M=some (vAt tr q,M):=by
     intro M hM
     unfold roA at hM
     simp only [Bool.and_eq_true] at hM
     refine ⟨hM.1,?_⟩
     have h2:=hM.2
     split at h2
     ·rename_i p r hp hv
      simp only [Bool.and_eq_true] at h2
      rw [hacc q (Array.getElem?_eq_some_iff.1 ho').1] at hv
      rw [hv]
      obtain ⟨r1,r2⟩:=r
      simp only at h2
      rw [Xoy h2.1,Xfh h2.2]
      simp [vAt,hp]
     ·cases h2
    simp only [Bool.and_eq_true] at h
    have h1:=one _ h.1
    have h2:=one _ h.2
    refine ⟨h1.1,fun o ho=>?_⟩
    rw [ho'] at ho
    injection ho with ho
    subst ho
    exact ⟨h1.2,h2.2⟩
   have e0:Ext η H w η H w.drew:=Ext.quiet rfl rfl rfl rfl
   have r0:Rel g η H w.drew:=r.quiet rfl rfl rfl rfl
   have hrel:Ext η H w η (H++rows) w.drew∧Rel g η (H++rows) w.drew:=by
    have eW:ExtW η H w.drew η (H++rows) w.drew:=⟨by simp,fun j y hy=>⟨y,by rw [List.getElem?_append_left (List.getElem?_eq_some_iff.1 hy).1]; exact hy,Nat.le_refl _,fun _ b hb=>⟨hb,fun s hs=>hs⟩⟩,Nat.le_refl _,fun b hb=>⟨rfl,hb.2⟩,rfl,rfl,rfl⟩
    refine ⟨e0.thenW eW fun j _ h=>h,r0.step eW (fun j b hj=>?_) r0.inj (fun y hy=>?_) fun j y b h1 h2=>?_⟩
    ·exact ⟨by rw [List.length_append]; have:=(r0.dom j b hj).1; omega,(r0.dom j b hj).2⟩
    ·rcases List.mem_append.1 hy with hy | hy
     ·exact Xej (by simp) (r0.low y hy)
     ·exact Xej (Nat.zero_le _) (hr2 y hy)
    ·have:=(r0.dom j b h2).1
     rw [List.getElem?_append_left this] at h1
     exact .inl ⟨h1,h2,rfl⟩
   have hS0:(fun k=>(Array.replicate ops.size false).getD k false)=fun _=>false:=by
    funext k
    by_cases hk:k<ops.size <;> simp [hk]
   have hacc0:∀ k,Xb5 ops (vAt tr) a (fun _=>false) k=a:=by
    intro k
    induction k with
    | zero=>rfl
    | succ k ih=>simp only [Xb5,ih]; split <;> simp
   have hmem0:∀ k,Xed (Xai tr (H++rows)) (fun _=>false) k=H++rows:=by
    intro k
    induction k with
    | zero=>rfl
    | succ k ih=>simp only [Xed,ih]; simp
   have hlast:Xi1 tr (H++rows)=Xai tr (H++rows) ops.size:=by
    unfold Xi1
    rcases Nat.eq_zero_or_pos ops.size with h0 | h0
    ·have:tr=[]:=List.eq_nil_of_length_eq_zero (by omega)
     subst this
     simp [h0,Xai]
    ·obtain ⟨n,hn⟩ : ∃ n,ops.size=n+1:=⟨ops.size-1,by omega⟩
     rw [hn,List.getLast?_eq_getElem?,htl',hn]
     have hlt:n<tr.length:=by omega
     simp [Xai,hlt]
   have hput:Xcv ops.toList tr a=Xb5 ops (vAt tr) a (fun _=>true) ops.size:=by
    have:=Xdh (a:=a) htl' ops.size (Nat.le_refl _)
    rw [List.take_of_length_le (by simp),List.take_of_length_le (by omega)] at this
    exact this
   rw [hlast,hput]
   refine wp_region_any hm ?_
   have hcnt0:((List.range ops.size).filter fun k=>!(Array.replicate ops.size false).getD k false).length=ops.size:=by
    have h1:∀ k ∈ List.range ops.size,(!(Array.replicate ops.size false).getD k false)=true:=fun k _=>by
     have h2:(Array.replicate ops.size false).getD k false=false:=congrFun hS0 k
     rw [h2]; rfl
    rw [List.filter_eq_self.2 h1]
    exact List.length_range
   have hmain:=any_sound (a:=a) (η0:=η) (w0:=w) hF hst heff' hRO hfact (fun i o ho hal=>hr3 i o (by simpa using ho) hal) ops.size (Array.replicate ops.size false) η w.drew act (by simp) (by rw [hS0]; intro i o h; cases h) hcnt0
   rw [hS0,hacc0,hmem0] at hmain
   exact hmain hrel.1 hrel.2 ((ha.ext e0).ext ⟨⟨by simp,fun j y hy=>⟨y,by rw [List.getElem?_append_left (List.getElem?_eq_some_iff.1 hy).1]; exact hy,Nat.le_refl _,fun _ b hb=>⟨hb,fun s hs=>hs⟩⟩,Nat.le_refl _,fun b hb=>⟨rfl,hb.2⟩,rfl,rfl,rfl⟩,fun j _ h=>h⟩) (fun i o ho hal _=>by
     cases hη:η (H.length+Xbz ops.toList i) with
     | none=>rfl
     | some b=>have:=(r.dom _ b hη).1; omega) (Nat.le_refl _)
  ·split at h'
   ·rename_i x y htw
    split at h'
    ·rename_i hcond
     injection h' with h'; injection h' with h1 h'; injection h' with h2 h3
     subst h1 h2 h3
     simp only [Bool.and_eq_true] at hcond
     obtain ⟨htt,heff,hsw⟩:=hcond
     exact drawTwo hm hF id ops a H η w act r ha (Xij hstat) hrows htr htt heff hsw
    ·cases h'
   ·cases h'
 ·cases h
end Go.Proofs.YtmhhddhbdbcmbaaGreatDoor.Ev
