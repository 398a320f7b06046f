/- Parts of one proof. -/
import Derived.Test.YtmhhddhbdbcmbaaGreatDoorMcc
set_option linter.all false
namespace Go.Proofs.YtmhhddhbdbcmbaaGreatDoor.Ev
variable {P:Program} {g:Cfg} {F:Xc5} {η η' η'':Nat→Option Nat} {H H' H'':Mem} {w w' w'':World}
def inL (ops:Array Oper) (p k:Nat):Bool:=decide (k<p) || (decide (p<k) && !(Xcw ops k).testBit p)
def Xnl (P:Program) (g:Cfg) (F:Xc5) (ops:Array Oper) (n:Nat) (M:Mem) (L:Nat→Bool) (a:AAct):Nat→AAct
 | 0=>a
 | k+1=>match ops[k]? with
  | some o=>if L k then (Xnl P g F ops n M L a k).put o.dst (((Xea P g F ops (n+Xbz ops.toList k) o (Xnl P g F ops n M L a k) M).map (·.1)).getD .bad) else Xnl P g F ops n M L a k
  | none=>Xnl P g F ops n M L a k
def valL (P:Program) (g:Cfg) (F:Xc5) (ops:Array Oper) (n:Nat) (M:Mem) (L:Nat→Bool) (a:AAct) (k:Nat):AV:=match ops[k]? with
 | some o=>((Xea P g F ops (n+Xbz ops.toList k) o (Xnl P g F ops n M L a k) M).map (·.1)).getD .bad
 | none=>.bad
theorem Xwo {ops:Array Oper} {n:Nat} {M:Mem} {L:Nat→Bool} {a:AAct}:∀ k,Xnl P g F ops n M L a k=Xb5 ops (valL P g F ops n M L a) a L k
 | 0=>rfl
 | k+1=>by
  have ih:=Xwo (ops:=ops) (n:=n) (M:=M) (L:=L) (a:=a) k
  simp only [Xnl,Xb5]
  cases hk:ops[k]? with
  | none=>exact ih
  | some o =>
   simp only
   split
   ·rw [← ih]; congr 1; simp only [valL,hk]
   ·exact ih
def Good (P:Program) (g:Cfg) (F:Xc5) (ops:Array Oper) (n:Nat) (M:Mem) (L:Nat→Bool) (a:AAct) (k:Nat):Prop:=∀ o,ops[k]? = some o→L k=true→Xea P g F ops (n+Xbz ops.toList k) o (Xnl P g F ops n M L a k) M=some (valL P g F ops n M L a k,M)
theorem good_of {ops:Array Oper} {n:Nat} {M:Mem} {L:Nat→Bool} {a:AAct} {k:Nat} {o:Oper} {v:AV} {M':Mem} (ho:ops[k]? = some o) (h:Xea P g F ops (n+Xbz ops.toList k) o (Xnl P g F ops n M L a k) M=some (v,M')) (he:eqM M' M=true) (hL:L k=true) :
  Good P g F ops n M L a k∧Xnl P g F ops n M L a (k+1)=(Xnl P g F ops n M L a k).put o.dst v:=by
 have e:=Xfh he
 subst e
 refine ⟨fun o' ho' _=>?_,?_⟩
 ·rw [ho] at ho'
  injection ho' with ho'
  subst ho'
  rw [h]
  simp only [valL,ho,h,Zh,Option.getD_some]
 ·simp only [Xnl,ho,hL,if_true,h,Zh,Option.getD_some]
theorem Xsz {ops:Array Oper} {n:Nat} {M:Mem} {L:Nat→Bool} {a:AAct} {k:Nat} (hL:L k=false):Xnl P g F ops n M L a (k+1)=Xnl P g F ops n M L a k:=by
 simp only [Xnl]
 split
 ·rw [if_neg (by rw [hL]; simp)]
 ·rfl
theorem Xq2 {ops:Array Oper} {k:Nat} {o:Oper} (ho:ops[k]? = some o):(Xa2 ops).drop k=(k,o,Xcw ops k)::(Xa2 ops).drop (k+1):=by
 have h:=Xdv ho
 obtain ⟨hl,e⟩:=List.getElem?_eq_some_iff.1 h
 rw [List.drop_eq_getElem_cons hl,e]
theorem tab_len (ops:Array Oper):(Xa2 ops).length=ops.size:=by simp [Xa2,Xda]
theorem Xlv {ops:Array Oper} {n p:Nat} {M:Mem} {a:AAct}:∀ (m k:Nat),k+m=ops.size→p<k→Xyq P g F ops n p M ((Xa2 ops).drop k) (Xnl P g F ops n M (inL ops p) a k)=true→∀ j,k≤j→Good P g F ops n M (inL ops p) a j
 | 0,k,hk,hp,h,j,hj=>by
  intro o ho
  have:=(Array.getElem?_eq_some_iff.1 ho).1
  omega
 | m+1,k,hk,hp,h,j,hj=>by
  have hks:k<ops.size:=by omega
  have ho:ops[k]? = some ops[k]:=Array.getElem?_eq_getElem hks
  rw [Xq2 ho] at h
  simp only [Xyq] at h
  have hin:inL ops p k=(decide (p<k) && !(Xcw ops k).testBit p):=by
   unfold inL
   have:decide (k<p)=false:=decide_eq_false (by omega)
   rw [this,Bool.false_or]
  rw [← hin] at h
  cases hL:inL ops p k with
  | false =>
   rw [hL] at h
   simp only [Ze,if_false] at h
   rw [← Xsz (P:=P) (g:=g) (F:=F) (n:=n) (M:=M) (a:=a) hL] at h
   rcases Nat.lt_or_ge k j with hkj | hkj
   ·exact Xlv m (k+1) (by omega) (by omega) h j (by omega)
   ·have:j=k:=by omega
    subst this
    intro o _ hL2
    rw [hL] at hL2; cases hL2
  | true =>
   rw [hL] at h
   simp only [if_true] at h
   cases hv:Xea P g F ops (n+Xbz ops.toList k) ops[k] (Xnl P g F ops n M (inL ops p) a k) M with
   | none=>simp [hv] at h
   | some q =>
    obtain ⟨v,M'⟩:=q
    simp only [hv,Bool.and_eq_true] at h
    obtain ⟨h1,h2⟩:=good_of ho hv h.1 hL
    rw [← h2] at h
    rcases Nat.lt_or_ge k j with hkj | hkj
    ·exact Xlv m (k+1) (by omega) (by omega) h.2 j (by omega)
    ·have:j=k:=by omega
     subst this
     exact h1
theorem Xsx {ops:Array Oper} {n p:Nat} {M:Mem} {a:AAct}:∀ (m k:Nat),k+m=p+1→p<ops.size→Xyq P g F ops n p M ((Xa2 ops).drop k) a=true→Xyq P g F ops n p M ((Xa2 ops).drop (p+1)) a=true
 | 0,k,hk,_,h=>by
  have:k=p+1:=by omega
  rw [← this]; exact h
 | m+1,k,hk,hp,h=>by
  have hks:k<ops.size:=by omega
  rw [Xq2 (Array.getElem?_eq_getElem hks)] at h
  simp only [Xyq] at h
  have:decide (p<k)=false:=decide_eq_false (by omega)
  rw [this] at h
  simp only [ZE,Ze,if_false] at h
  exact Xsx m (k+1) (by omega) hp h
theorem Xtu {ops:Array Oper} {n:Nat} {a:AAct} {M:Mem} {out:Out} {a1:AAct} {H1:Mem}:∀ (m p:Nat),p+m=ops.size→∀ (b:AAct),(∀ L:Nat→Bool,(∀ j,j<p→L j=true)→Xnl P g F ops n M L a p=b∧∀ j,j<p→Good P g F ops n M L a j)→panO P g F ops n a M p (ops.toList.drop p) b=some (out,a1,H1) →
  ∃ p o v,ops[p]? = some o∧out=.pan v∧a1=Xyp ops.toList a∧Xx2 P g F ops o (Xnl P g F ops n M (inL ops p) a p) M=some (v,H1)∧∀ k,Good P g F ops n M (inL ops p) a k
 | 0,p,hp,b,hb,h=>by
  rw [List.drop_eq_nil_of_le (by simp; omega)] at h
  simp [panO] at h
 | m+1,p,hp,b,hb,h=>by
  have hps:p<ops.size:=by omega
  have ho:ops[p]? = some ops[p]:=Array.getElem?_eq_getElem hps
  have hd:ops.toList.drop p=ops[p]::ops.toList.drop (p+1):=by
   rw [List.drop_eq_getElem_cons (by simpa using hps)]; simp
  rw [hd] at h
  simp only [panO] at h
  cases hv:Xea P g F ops (n+Xbz ops.toList p) ops[p] b M with
  | some q =>
   obtain ⟨v,M'⟩:=q
   simp only [hv] at h
   split at h
   ·rename_i he
    refine Xtu m (p+1) (by omega) _ (fun L hL=>?_) h
    obtain ⟨h1,h2⟩:=hb L fun j hj=>hL j (by omega)
    rw [← h1] at hv
    obtain ⟨h3,h4⟩:=good_of ho hv he (hL p (by omega))
    rw [h1] at h4
    refine ⟨h4,fun j hj=>?_⟩
    rcases Nat.lt_or_ge j p with hjp | hjp
    ·exact h2 j hjp
    ·have:j=p:=by omega
     subst this; exact h3
   ·cases h
  | none =>
   simp only [hv] at h
   cases hpa:Xx2 P g F ops ops[p] b M with
   | none=>simp [hpa] at h
   | some q =>
    obtain ⟨v,H'⟩:=q
    simp only [hpa] at h
    split at h
    ·rename_i hs
     injection h with h; injection h with h1 h; injection h with h2 h3
     subst h1 h2 h3
     obtain ⟨h4,h5⟩:=hb (inL ops p) fun j hj=>by simp [inL,hj]
     refine ⟨p,ops[p],v,ho,rfl,rfl,by rw [h4]; exact hpa,fun k=>?_⟩
     rcases Nat.lt_trichotomy k p with hk | hk | hk
     ·exact h5 k hk
     ·subst hk
      intro o' _ hL
      simp [inL] at hL
     ·have hpL:inL ops p p=false:=by simp [inL]
      have h6:Xyq P g F ops n p M ((Xa2 ops).drop (p+1)) b=true:=by
       have h7:Xyq P g F ops n p M ((Xa2 ops).drop 0) b=true:=by rw [List.drop_zero]; exact hs
       exact Xsx (p+1) 0 (by omega) hps h7
      rw [← h4,← Xsz (P:=P) (g:=g) (F:=F) (n:=n) (M:=M) (a:=a) hpL] at h6
      exact Xlv m (p+1) (by omega) (by omega) h6 k (by omega)
    ·cases h
theorem Xod {ops:Array Oper} (hst:Stat ops) {v:Nat→AV} {a:AAct} {S L:Nat→Bool} (hc:Xem ops S) (hs:∀ k,S k=true→k<ops.size) (hSL:∀ k,S k=true→L k=true) {i:Nat} {o:Oper} (ho:ops[i]? = some o) (hi:S i=false) (hr:∀ e ∈ o.after,Region.binds .any e=true→S e.on=true) {t:Nat} (ht:t ∈ Xe9 ops o) :
  ∀ k,Xad (Xb5 ops v a S k).t t=Xad (Xb5 ops v a (fun j=>L j && decide (j<i)) k).t t
 | 0=>rfl
 | k+1=>by
  have ih:=Xod hst (v:=v) (a:=a) hc hs hSL ho hi hr ht k
  have hin:∀ j,(Xcw ops i).testBit j=true→S j=true:=fun j hj=>Xch hc (i+1) i j o (by omega) ho hr hs hj
  simp only [Xb5]
  cases hk:ops[k]? with
  | none=>exact ih
  | some x =>
   simp only
   have hn1:=(Xez ops v a S k).1
   have hn2:=(Xez ops v a (fun j=>L j && decide (j<i)) k).1
   have hput:∀ (b b':AAct),b.n=b'.n→Xad b.t t=Xad b'.t t→Xad (b.put x.dst (v k)).t t=Xad (b'.put x.dst (v k)).t t:=fun b b' h1 h2=>by rw [Xc3,Xc3,h1,h2]
   have hno:x.dst≠some t→∀ b:AAct,Xad (b.put x.dst (v k)).t t=Xad b.t t:=fun h b=>by rw [Xc3,if_neg h]
   by_cases hd:x.dst=some t
   ·rcases Nat.lt_trichotomy k i with h | h | h
    ·have hb:(Xcw ops i).testBit k=true:=by
      rcases hst.pair k i x o h hk ho with h1 | h1
      ·exact absurd ht ((Xe4 h1).1 t hd).1
      ·exact h1
     have hSk:=hin k hb
     rw [if_pos hSk,if_pos (by simp [hSL k hSk,h])]
     exact hput _ _ (hn1.trans hn2.symm) ih
    ·subst h
     rw [hi]
     simp only [Ze,if_false,Nat.lt_irrefl,ZO,ZD]
     exact ih
    ·have:S k=false:=by
      cases hS:S k with
      | false=>rfl
      | true =>
       have hb:(Xcw ops k).testBit i=true:=by
        rcases hst.pair i k o x h ho hk with h1 | h1
        ·exact absurd ht ((Xe4 h1).2 t hd)
        ·exact h1
       have:=Xch hc (k+1) k i x (by omega) hk (hc k x hS hk) hs hb
       rw [hi] at this; cases this
     rw [this]
     simp only [Ze,if_false]
     rw [if_neg (by simp; intro _; omega)]
     exact ih
   ·split <;> split <;> simp only [hno hd,ih]
theorem Xtg {ops:Array Oper} {v:Nat→AV} {a:AAct} {L:Nat→Bool} {i:Nat}:∀ k,i≤k→Xb5 ops v a (fun j=>L j && decide (j<i)) k=Xb5 ops v a (fun j=>L j && decide (j<i)) i
 | 0,h=>by obtain rfl:i=0:=by omega
           rfl
 | k+1,h=>by
  by_cases hk:i=k+1
  ·rw [hk]
  ·have:Xb5 ops v a (fun j=>L j && decide (j<i)) (k+1)=Xb5 ops v a (fun j=>L j && decide (j<i)) k:=by
    simp only [Xb5]
    split
    ·rw [if_neg (by simp; intro _; omega)]
    ·rfl
   rw [this]
   exact Xtg k (by omega)
theorem Xuh {ops:Array Oper} {o:Oper} {a a':AAct} (h:∀ t ∈ Xe9 ops o,Xad a.t t=Xad a'.t t) (H:Mem):Xx2 P g F ops o a H=Xx2 P g F ops o a' H:=by
 unfold Xx2 Xnm
 rw [Xja h,Xlu (P:=P) (Xoq (g:=g) h)]
 cases Xdf ops a' o with
 | none=>rfl
 | some b =>
  cases b with
  | false=>rfl
  | true =>
   simp only
   cases Xar P (a'.eval g) o H with
   | none=>rfl
   | some r =>
    cases r with
    | val v H'=>rfl
    | pan v=>rfl
    | dfr f l=>rfl
    | call f l =>
     simp only
     cases F f l H with
     | none=>rfl
     | some q =>
      obtain ⟨e,H'⟩:=q
      cases e <;> rfl
theorem Xsy:∀ (l:List Oper) (a:AAct) (t:Nat),Xad (Xyp l a).t t=.bad∨(Xad (Xyp l a).t t=Xad a.t t∧∀ o ∈ l,o.dst≠some t)
 | [],a,t=>.inr ⟨rfl,fun o h=>by cases h⟩
 | x::l,a,t=>by
  show Xad (Xyp l (a.put x.dst .bad)).t t=.bad∨_
  rcases Xsy l (a.put x.dst .bad) t with h | ⟨h,h2⟩
  ·exact .inl h
  ·rw [Xc3] at h
   by_cases hd:x.dst=some t
   ·rw [if_pos hd] at h
    left; show Xad (Xyp l (a.put x.dst .bad)).t t=.bad
    rw [h]; split <;> rfl
   ·rw [if_neg hd] at h
    refine .inr ⟨h,fun o ho=>?_⟩
    rcases List.mem_cons.1 ho with rfl | ho
    ·exact hd
    ·exact h2 o ho
theorem badA_n:∀ (l:List Oper) (a:AAct),(Xyp l a).n=a.n∧(Xyp l a).d=a.d
 | [],a=>⟨rfl,rfl⟩
 | x::l,a=>by
  have h:=badA_n l (a.put x.dst .bad)
  exact ⟨h.1.trans (Xu4 _ _ _).1,h.2.trans (Xu4 _ _ _).2⟩
theorem Xrw {ops:Array Oper} {v:Nat→AV} {a:AAct} {S:Nat→Bool} {t:Nat} (h:∀ o ∈ ops.toList,o.dst≠some t):∀ k,Xad (Xb5 ops v a S k).t t=Xad a.t t
 | 0=>rfl
 | k+1=>by
  have ih:=Xrw (v:=v) (a:=a) (S:=S) h k
  simp only [Xb5]
  cases hk:ops[k]? with
  | none=>exact ih
  | some x =>
   simp only
   split
   ·rw [Xc3,if_neg (h x (by have:=List.mem_of_getElem? (l:=ops.toList) (i:=k) (by simpa using hk); exact this))]; exact ih
   ·exact ih
theorem ActR.toBad {ops:Array Oper} {v:Nat→AV} {a:AAct} {S:Nat→Bool} {act:Act} (h:ActR η H w (Xb5 ops v a S ops.size) act):ActR η H w (Xyp ops.toList a) act:=by
 have h1:=Xez ops v a S ops.size
 have h2:=badA_n ops.toList a
 refine ⟨by rw [h2.1,← h1.1]; exact h.size,fun t=>?_,by rw [h2.2,← h1.2]; exact h.def_⟩
 rcases Xsy ops.toList a t with hb | ⟨hb,hn⟩
 ·rw [hb]; exact .bad _
 ·rw [hb,← Xrw (v:=v) (a:=a) (S:=S) hn ops.size]; exact h.tmp t
theorem pan_any {η0:Nat→Option Nat} {H0:Mem} {w0:World} (hF:FOk P g F) {ops:Array Oper} (hst:Stat ops) {a:AAct} {rows:Mem} {p:Nat} {o:Oper} {v:AV} {H1:Mem} (ho:ops[p]? = some o)
  (hgood:∀ k,Good P g F ops H0.length (H0++rows) (inL ops p) a k) (hpan:Xx2 P g F ops o (Xnl P g F ops H0.length (H0++rows) (inL ops p) a p) (H0++rows)=some (v,H1)) (hrows:∀ (i:Nat) o,ops[i]? = some o→Xaz o=true→Xbz ops.toList i<rows.length) :
  ∀ (fuel:Nat) (listed:Array Bool) (η:Nat→Option Nat) (w:World) (act:Act),listed.size=ops.size→Xem ops (fun k=>listed.getD k false)→(∀ k,listed.getD k false=true→inL ops p k=true)→((List.range ops.size).filter fun k=>!listed.getD k false).length=fuel →
   Ext η0 H0 w0 η (H0++rows) w→Rel g η (H0++rows) w→ActR η (H0++rows) w (Xb5 ops (valL P g F ops H0.length (H0++rows) (inL ops p) a) a (fun k=>listed.getD k false) ops.size) act →
   (∀ (i:Nat) o,ops[i]? = some o→Xaz o=true→listed.getD i false=false→η (H0.length+Xbz ops.toList i)=none) →
   wpAny P .any ops (Xsw g η0 H0 w0 (.pan v) (Xyp ops.toList a) H1) fuel listed act w:=by
 have hpL:inL ops p p=false:=by simp [inL]
 have hps:p<ops.size:=(Array.getElem?_eq_some_iff.1 ho).1
 have notall:∀ (listed:Array Bool),(∀ k,listed.getD k false=true→inL ops p k=true)→listed.getD p false=false:=by
  intro listed hl
  cases h:listed.getD p false with
  | false=>rfl
  | true=>rw [hl p h] at hpL; cases hpL
 have done:∀ (listed:Array Bool),Region.ready .any ops listed=[]→listed.size=ops.size→∀ k,k<ops.size→listed.getD k false=true:=by
  intro listed hr hsz
  have:∀ n k,k<n→k<ops.size→listed.getD k false=true:=by
   intro n
   induction n with
   | zero=>intro k hk; omega
   | succ n ih =>
    intro k hk hks
    cases hS:listed.getD k false with
    | true=>rfl
    | false =>
     exfalso
     have:k ∈ Region.ready .any ops listed:=mem_ready.2 ⟨by
       have hk2:k<listed.size:=by omega
       simp [hk2] at hS ⊢; exact hS,ops[k],Array.getElem?_eq_getElem hks,fun e h1 h2=>ih e.on (by have:=hst.edge k _ (Array.getElem?_eq_getElem hks) e h1 h2; omega) (by have:=hst.edge k _ (Array.getElem?_eq_getElem hks) e h1 h2; omega)⟩
     rw [hr] at this; cases this
  exact fun k hk=>this (k+1) k (by omega) hk
 intro fuel
 induction fuel with
 | zero =>
  intro listed η w act hsz hc hl hcnt x r ha hp
  exfalso
  have h:=notall listed hl
  have:p ∈ (List.range ops.size).filter fun k=>!listed.getD k false:=by
   rw [List.mem_filter]; exact ⟨List.mem_range.2 hps,by simp only [h]; rfl⟩
  rw [List.eq_nil_of_length_eq_zero hcnt] at this; cases this
 | succ fuel ih =>
  intro listed η w act hsz hc hl hcnt x r ha hp
  refine ⟨fun hr=>?_,fun i hi=>?_⟩
  ·have h:=notall listed hl
   rw [done listed hr hsz p hps] at h; cases h
  obtain ⟨h1,o',ho',hr⟩:=mem_ready.1 hi
  have hk:i<ops.size:=(Array.getElem?_eq_some_iff.1 ho').1
  have hk2:i<listed.size:=by omega
  have hiF:listed.getD i false=false:=by simp [hk2] at h1 ⊢; exact h1
  have hs:∀ k,(fun k=>listed.getD k false) k=true→k<ops.size:=by
   intro k h
   rcases Nat.lt_or_ge k ops.size with h' | h'
   ·exact h'
   ·have:¬ k<listed.size:=by omega
    simp [this] at h
  have hlook:∀ t ∈ Xe9 ops o',Xad (Xb5 ops (valL P g F ops H0.length (H0++rows) (inL ops p) a) a (fun k=>listed.getD k false) ops.size).t t=Xad (Xnl P g F ops H0.length (H0++rows) (inL ops p) a i).t t:=fun t ht=>by
   rw [Xod hst (L:=inL ops p) hc hs hl ho' hiF hr ht ops.size,Xtg ops.size (by omega),Xwo]
   rw [Xcz (T:=inL ops p) i (fun j hj=>by simp [hj])]
  by_cases hip:i=p
  ·subst hip
   rw [ho] at ho'
   injection ho' with ho'
   subst ho'
   have hpan':=hpan
   rw [← Xuh hlook] at hpan'
   unfold Xx2 at hpan'
   split at hpan'
   ·rename_i v' a' H' hstep
    injection hpan' with hpan'; injection hpan' with e1 e2
    subst e1 e2
    obtain ⟨b,hb,hst'⟩:=Xl1 hF r ha hstep
    unfold wpOp
    rw [ho]
    simp only
    cases b with
    | false =>
     simp only [Ze,if_false] at hst'
     cases hst'.1
    | true =>
     rw [hb]
     simp only [if_true] at hst' ⊢
     refine .inl (hst' _ _ (fun act1 w1 hn _=>by cases hn) fun e act1 w1 _ hpost=>?_)
     have ha':a'=Xb5 ops (valL P g F ops H0.length (H0++rows) (inL ops i) a) a (fun k=>listed.getD k false) ops.size:=by
      unfold Xnm at hstep
      split at hstep
      ·cases hstep
      ·injection hstep with hstep; injection hstep with e3 e4; cases e3
      ·split at hstep
       ·cases hstep
       ·injection hstep with hstep; injection hstep with e3 e4; cases e3
       ·injection hstep with hstep; injection hstep with e3 e4; injection e4 with e4 e5; exact e4.symm
       ·injection hstep with hstep; injection hstep with e3 e4; cases e3
       ·split at hstep
        ·injection hstep with hstep; injection hstep with e3 e4; cases e3
        ·injection hstep with hstep; injection hstep with e3 e4; injection e4 with e4 e5; exact e4.symm
        ·cases hstep
     subst ha'
     obtain ⟨η1,x1,r1,ha1,he1⟩:=hpost
     exact ⟨η1,x.trans x1,r1,ha1.toBad,he1⟩
   ·cases hpan'
  ·have hiL:inL ops p i=true:=by
    rcases Nat.lt_trichotomy i p with h | h | h
    ·simp [inL,h]
    ·exact absurd h hip
    ·cases hb:(Xcw ops i).testBit p with
     | false=>simp [inL,h,hb]
     | true =>
      have:=Xch hc (i+1) i p o' (by omega) ho' hr hs hb
      have this':listed.getD p false=true:=this
      rw [notall listed hl] at this'; cases this'
   have hval:=hgood i o' ho' hiL
   rw [← Xdk hlook] at hval
   have hS':∀ k,(listed.setIfInBounds i true).getD k false=(listed.getD k false || k == i):=fun k=>Xly listed i k hk2
   have hfun:(fun k=>(listed.setIfInBounds i true).getD k false)=fun k=>listed.getD k false || k == i:=funext hS'
   refine Xms hF ho' x r ha (Nat.le_add_right _ _) (fun hal=>hp i o' ho' hal hiF) hval fun η1 act1 w1 x1 r1 ha1 hun hl1=>?_
   have hcl':Xem ops (fun k=>(listed.setIfInBounds i true).getD k false):=by
    intro j y hj hy e h2 h3
    simp only [hS',Bool.or_eq_true,beq_iff_eq] at hj ⊢
    rcases hj with hj | rfl
    ·exact .inl (hc j y hj hy e h2 h3)
    ·rw [ho'] at hy
     injection hy with hy
     subst hy
     exact .inl (hr e h2 h3)
   refine ih (listed.setIfInBounds i true) η1 w1 act1 (by simpa using hsz) hcl' (fun k hk=>?_) ?_ x1 r1 ?_ ?_
   ·rw [hS'] at hk
    simp only [Bool.or_eq_true,beq_iff_eq] at hk
    rcases hk with hk | rfl
    ·exact hl k hk
    ·exact hiL
   ·have hrng:∀ (l:List Nat),l.Nodup→i ∈ l→(l.filter fun k=>!(listed.getD k false || k == i)).length+1=(l.filter fun k=>!listed.getD k false).length:=by
     intro l
     induction l with
     | nil=>intro _ h; cases h
     | cons y l ihl =>
      intro hn hm
      rw [List.nodup_cons] at hn
      by_cases hy:y=i
      ·subst hy
       have hsame:(l.filter fun k=>!(listed.getD k false || k == y))=l.filter fun k=>!listed.getD k false:=by
        apply List.filter_congr
        intro k hk
        have:(k == y)=false:=by simp; exact fun e=>hn.1 (e ▸ hk)
        simp [this]
       simp only [List.filter_cons,hiF,hsame]
       simp
      ·have hm':i ∈ l:=by
        rcases List.mem_cons.1 hm with h | h
        ·exact absurd h.symm hy
        ·exact h
       have:=ihl hn.2 hm'
       have hb:(y == i)=false:=by simpa using hy
       simp only [List.filter_cons,hb,Bool.or_false]
       split
       ·simp only [Zf]; omega
       ·exact this
    have:=hrng (List.range ops.size) List.nodup_range (List.mem_range.2 hk)
    simp only [hS']
    omega
   ·rw [hfun]
    have hn1:=Xez ops (valL P g F ops H0.length (H0++rows) (inL ops p) a) a (fun k=>listed.getD k false || k == i) ops.size
    have hn2:=Xez ops (valL P g F ops H0.length (H0++rows) (inL ops p) a) a (fun k=>listed.getD k false) ops.size
    have hn3:=Xu4 (Xb5 ops (valL P g F ops H0.length (H0++rows) (inL ops p) a) a (fun k=>listed.getD k false) ops.size) o'.dst (valL P g F ops H0.length (H0++rows) (inL ops p) a i)
    refine ⟨by rw [hn1.1,← hn2.1,← hn3.1]; exact ha1.size,fun t=>?_,by rw [hn1.2,← hn2.2,← hn3.2]; exact ha1.def_⟩
    have h2:=ha1.tmp t
    rw [Xc3,hn2.1] at h2
    rw [Xi5 hst hc hs ho' hiF t ops.size]
    by_cases hd:o'.dst=some t
    ·rw [if_pos ⟨hk,hd⟩]; rw [if_pos hd] at h2; exact h2
    ·rw [if_neg (fun h=>hd h.2)]; rw [if_neg hd] at h2; exact h2
   ·intro j y hy hal hj
    simp only [hS',Bool.or_eq_false_iff] at hj
    have hji:j≠i:=by simpa using hj.2
    have hjr:=hrows j y hy hal
    refine hun _ (by rw [List.length_append]; omega) (fun hal2 e=>?_) (hp j y hy hal hj.1)
    have e2:Xbz ops.toList j=Xbz ops.toList i:=by omega
    rcases Nat.lt_or_ge j i with h2 | h2
    ·have h3:=Xe5 (l:=ops.toList) (k:=j) (o:=y) (by simpa using hy)
     have h4:=Xgj (l:=ops.toList) (show j+1≤i by omega)
     rw [hal] at h3; simp at h3; omega
    ·have h3:=Xe5 (l:=ops.toList) (k:=i) (o:=o') (by simpa using ho')
     have h4:=Xgj (l:=ops.toList) (show i+1≤j by omega)
     rw [hal2] at h3; simp at h3; omega
theorem Xva (hm:P.follows .mixedOrders=true) (hF:FOk P g F) (id:Nat) (ops:Array Oper) (a a1:AAct) (H H1:Mem) (out:Out) (η:Nat→Option Nat) (w:World) (act:Act) (r:Rel g η H w) (ha:ActR η H w a act) (h:Xnf P g F ops a H=some (out,a1,H1)) :
  (Code.region id ops true).wp P (Xsw g η H w out a1 H1) act w:=by
 unfold Xnf at h
 split at h
 ·rename_i q hq
  injection h with h; subst h
  exact Xvc hm hF id ops a a1 H H1 out η w act r ha hq
 ·split at h
  ·rename_i hstat
   obtain ⟨rows,hrows,h⟩:=Option.bind_eq_some_iff.1 h
   have hst:=Xij hstat
   obtain ⟨p,o,v,ho,rfl,rfl,hpan,hgood⟩:=Xtu (ops:=ops) (a:=a) ops.size 0 (by omega) a (fun L _=>⟨rfl,fun j hj=>by omega⟩) (by rw [List.drop_zero]; exact h)
   obtain ⟨hr1,hr2,hr3⟩:=Xds ops.toList rows hrows
   have e0:Ext η H w η H w.drew:=Ext.quiet rfl rfl rfl rfl
   have r0:Rel g η H w.drew:=r.quiet rfl rfl rfl rfl
   have hrel:Ext η H w η (H++rows) w.drew∧Rel g η (H++rows) w.drew:=by
    have eW:ExtW η H w.drew η (H++rows) w.drew:=⟨by simp,fun j y hy=>⟨y,by rw [List.getElem?_append_left (List.getElem?_eq_some_iff.1 hy).1]; exact hy,Nat.le_refl _,fun _ b hb=>⟨hb,fun s hs=>hs⟩⟩,Nat.le_refl _,fun b hb=>⟨rfl,hb.2⟩,rfl,rfl,rfl⟩
    refine ⟨e0.thenW eW fun j _ h=>h,r0.step eW (fun j b hj=>?_) r0.inj (fun y hy=>?_) fun j y b h1 h2=>?_⟩
    ·exact ⟨by rw [List.length_append]; have:=(r0.dom j b hj).1; omega,(r0.dom j b hj).2⟩
    ·rcases List.mem_append.1 hy with hy | hy
     ·exact Xej (by simp) (r0.low y hy)
     ·exact Xej (Nat.zero_le _) (hr2 y hy)
    ·have:=(r0.dom j b h2).1
     rw [List.getElem?_append_left this] at h1
     exact .inl ⟨h1,h2,rfl⟩
   have hS0:(fun k=>(Array.replicate ops.size false).getD k false)=fun _=>false:=by
    funext k
    by_cases hk:k<ops.size <;> simp [hk]
   have hacc0:∀ vv k,Xb5 ops vv a (fun _=>false) k=a:=by
    intro vv k
    induction k with
    | zero=>rfl
    | succ k ih=>simp only [Xb5,ih]; split <;> simp
   refine wp_region_any hm ?_
   have hcnt0:((List.range ops.size).filter fun k=>!(Array.replicate ops.size false).getD k false).length=ops.size:=by
    have h1:∀ k ∈ List.range ops.size,(!(Array.replicate ops.size false).getD k false)=true:=fun k _=>by
     have h2:(Array.replicate ops.size false).getD k false=false:=congrFun hS0 k
     rw [h2]; rfl
    rw [List.filter_eq_self.2 h1]
    exact List.length_range
   refine pan_any hF hst ho hgood hpan (fun i o ho hal=>hr3 i o (by simpa using ho) hal) ops.size (Array.replicate ops.size false) η w.drew act (by simp) (by rw [hS0]; intro i o h; cases h) (fun k hk=>by rw [congrFun hS0 k] at hk; cases hk) hcnt0 hrel.1 hrel.2 ?_ (fun i o ho hal _=>by
     cases hη:η (H.length+Xbz ops.toList i) with
     | none=>rfl
     | some b=>have:=(r.dom _ b hη).1; omega)
   rw [hS0,hacc0]
   exact (ha.ext e0).ext ⟨⟨by simp,fun j y hy=>⟨y,by rw [List.getElem?_append_left (List.getElem?_eq_some_iff.1 hy).1]; exact hy,Nat.le_refl _,fun _ b hb=>⟨hb,fun s hs=>hs⟩⟩,Nat.le_refl _,fun b hb=>⟨rfl,hb.2⟩,rfl,rfl,rfl⟩,fun j _ h=>h⟩
  ·cases h
end Go.Proofs.YtmhhddhbdbcmbaaGreatDoor.Ev
