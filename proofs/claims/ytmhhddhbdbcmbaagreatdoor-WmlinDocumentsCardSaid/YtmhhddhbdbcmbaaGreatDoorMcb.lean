/- Parts of one proof. -/
import Derived.Test.YtmhhddhbdbcmbaaGreatDoorMca
set_option linter.all false
namespace Go.Proofs.YtmhhddhbdbcmbaaGreatDoor.Ev
variable {P:Program} {g:Cfg} {F:Xc5} {η η' η'':Nat→Option Nat} {H H' H'':Mem} {w w' w'':World}
def vAt (tr:List (AV × Mem)) (k:Nat):AV:=match tr[k]? with
 | some p=>p.1
 | none=>.bad
theorem Xe5 {l:List Oper} {k:Nat} {o:Oper} (h:l[k]? = some o):Xbz l (k+1)=Xbz l k+if Xaz o then 1 else 0:=by
 unfold Xbz
 obtain ⟨hl,e⟩:=List.getElem?_eq_some_iff.1 h
 rw [List.take_succ_eq_append_getElem hl,e,List.filter_append,List.length_append]
 cases ha:Xaz o <;> simp [ha]
theorem Xgj {l:List Oper} {i j:Nat} (h:i≤j):Xbz l i≤Xbz l j:=by
 unfold Xbz
 have:l.take i=(l.take j).take i:=by rw [List.take_take,Nat.min_eq_left h]
 rw [this]
 exact ((List.take_sublist i (l.take j)).filter Xaz).length_le
theorem Xjq {ops:Array Oper}:∀ (l:List Oper) (id:Nat) (a:AAct) (H:Mem) (tr:List (AV × Mem)),Xyo P g F ops id l a H=some tr→tr.length=l.length ∧
  ∀ (k:Nat) o,l[k]? = some o→Xea P g F ops (id+Xbz l k) o (Xcv (l.take k) (tr.take k) a) (Xai tr H k)=some (vAt tr k,Xai tr H (k+1))
 | [],id,a,H,tr,h=>by simp [Xyo] at h; subst h; exact ⟨rfl,fun k o h=>by simp at h⟩
 | x::l,id,a,H,tr,h=>by
  simp only [Xyo] at h
  cases hv:Xea P g F ops id x a H with
  | none=>simp [hv] at h
  | some p =>
   obtain ⟨v,H'⟩:=p
   simp only [hv] at h
   obtain ⟨tr',htr,rfl⟩:=Option.map_eq_some_iff.1 h
   obtain ⟨h1,h2⟩:=Xjq l _ _ _ tr' htr
   refine ⟨by simp [h1],fun k o ho=>?_⟩
   cases k with
   | zero =>
    simp at ho; subst ho
    simpa [Xbz,Xcv,Xai,vAt] using hv
   | succ k =>
    have:=h2 k o (by simpa using ho)
    have e1:id+Xbz (x::l) (k+1)=(if Xaz x then id+1 else id)+Xbz l k:=by
     unfold Xbz
     rw [List.take_succ_cons,List.filter_cons]
     cases Xaz x <;> simp; omega
    rw [e1]
    have e2:Xcv ((x::l).take (k+1)) (((v,H')::tr').take (k+1)) a=Xcv (l.take k) (tr'.take k) (a.put x.dst v):=rfl
    rw [e2]
    have e3:Xai ((v,H')::tr') H (k+1)=Xai tr' H' k:=by cases k <;> simp [Xai]
    have e4:Xai ((v,H')::tr') H (k+1+1)=Xai tr' H' (k+1):=by
     have hk:k<tr'.length:=by rw [h1]; have:=(List.getElem?_eq_some_iff.1 ho).1; simpa using this
     simp [Xai,hk]
    rw [e3,e4]
    simpa [vAt] using this
theorem Xm0:∀ (l:List Oper) (tr:List (AV × Mem)) (a:AAct) (o:Oper) (p:AV × Mem),tr.length=l.length→Xcv (l++[o]) (tr++[p]) a=(Xcv l tr a).put o.dst p.1
 | [],tr,a,o,p,h=>by
  obtain rfl:tr=[]:=List.eq_nil_of_length_eq_zero h
  rfl
 | x::l,[],a,o,p,h=>by simp at h
 | x::l,q::tr,a,o,p,h=>Xm0 l tr (a.put x.dst q.1) o p (by simpa using h)
theorem Xdh {ops:Array Oper} {tr:List (AV × Mem)} {a:AAct} (hl:tr.length=ops.size):∀ k,k≤ops.size→Xcv (ops.toList.take k) (tr.take k) a=Xb5 ops (vAt tr) a (fun _=>true) k
 | 0,_=>rfl
 | k+1,hk=>by
  have h1:k<ops.toList.length:=by simp; omega
  have h2:k<tr.length:=by omega
  rw [List.take_succ_eq_append_getElem h1,List.take_succ_eq_append_getElem h2,Xm0 _ _ _ _ _ (by simp; omega),Xdh hl k (by omega)]
  have h3:ops[k]? = some ops.toList[k]:=by simp
  simp only [Xb5,h3,if_true]
  congr 1
  simp [vAt,h2]
theorem Xcz {ops:Array Oper} {v:Nat→AV} {a:AAct} {S T:Nat→Bool}:∀ k,(∀ j,j<k→S j=T j)→Xb5 ops v a S k=Xb5 ops v a T k
 | 0,_=>rfl
 | k+1,h=>by
  have ih:=Xcz (ops:=ops) (v:=v) (a:=a) k fun j hj=>h j (by omega)
  simp only [Xb5,ih,h k (by omega)]
theorem Xgg {ops:Array Oper} {v:Nat→AV} {a:AAct} {i:Nat}:∀ k,i≤k→Xb5 ops v a (fun j=>decide (j<i)) k=Xb5 ops v a (fun j=>decide (j<i)) i
 | 0,h=>by obtain rfl:i=0:=by omega
           rfl
 | k+1,h=>by
  by_cases hk:i=k+1
  ·rw [hk]
  ·have:Xb5 ops v a (fun j=>decide (j<i)) (k+1)=Xb5 ops v a (fun j=>decide (j<i)) k:=by
    simp only [Xb5]
    split
    ·rw [if_neg (by simp; omega)]
    ·rfl
   rw [this]
   exact Xgg k (by omega)
def Eff (ops:Array Oper) (M:Nat→Mem) (RO:Nat→Nat→Prop):Prop:=∀ (k:Nat) o,ops[k]? = some o→eqM (M (k+1)) (M k)=true∨∀ (q:Nat) x,ops[q]? = some x→Xbp x=true∨q=k∨(Xcw ops k).testBit q=true∨(Xcw ops q).testBit k=true∨RO q k
theorem Xj7 {ops:Array Oper} {ro:Nat→Oper→Mem→Bool}:∀ (l:List (Nat × Oper × Nat)) (tr:List (AV × Mem)) (H:Mem),Xkx ro (Xa2 ops) l tr H=true→tr.length=l.length→∀ (k:Nat) p,l[k]? = some p→eqM (Xai tr H (k+1)) (Xai tr H k)=true∨∀ (q:Nat) x,ops[q]? = some x→Xbp x=true∨q=p.1∨p.2.2.testBit q=true∨(Xcw ops q).testBit p.1=true∨(ro q x (Xai tr H k) && ro q x (Xai tr H (k+1)))=true
 | [],tr,H,_,_,k,p,h=>by simp at h
 | x::l,[],H,_,hl,_,_,_=>by simp at hl
 | (i,y,b)::l,(v,H')::tr,H,h,hl,k,p,hp=>by
  simp only [Xkx,Bool.and_eq_true] at h
  cases k with
  | zero =>
   simp at hp; subst hp
   simp only [Bool.or_eq_true] at h
   rcases h.1 with h1 | h1
   ·exact .inl (by simpa [Xai] using h1)
   ·right
    intro q x hq
    have:=(List.all_eq_true.1 h1) _ (List.mem_of_getElem? (Xdv hq))
    simp only [Bool.or_eq_true,beq_iff_eq] at this
    rcases this with (((h2 | h2) | h2) | h2) | h2
    ·exact .inl h2
    ·exact .inr (.inl h2)
    ·exact .inr (.inr (.inl h2))
    ·exact .inr (.inr (.inr (.inl h2)))
    ·refine .inr (.inr (.inr (.inr ?_)))
     simpa [Xai] using h2
  | succ k =>
   have:=Xj7 l tr H' h.2 (by simpa using hl) k p (by simpa using hp)
   have e3:Xai ((v,H')::tr) H (k+1)=Xai tr H' k:=by cases k <;> simp [Xai]
   have hk:k<tr.length:=by
    have h1:=(List.getElem?_eq_some_iff.1 hp).1
    simp at h1 hl; omega
   have e4:Xai ((v,H')::tr) H (k+1+1)=Xai tr H' (k+1):=by simp [Xai,hk]
   rw [e3,e4]
   exact this
theorem Xqc {ops:Array Oper} (hst:Stat ops) (j m:Nat) (x:Oper) (hx:ops[j]? = some x) (hb:(Xcw ops j).testBit m=true):m<j:=by
 have:∀ n j,j<n→∀ x,ops[j]? = some x→(Xcw ops j).testBit m=true→m<j:=by
  intro n
  induction n with
  | zero=>intro j hj; omega
  | succ n ihn =>
   intro j hj x hx hb
   obtain ⟨e,h1,h2,h3⟩:=Xh1 hx hb
   have h4:=hst.edge j x hx e h1 h2
   rcases h3 with rfl | ⟨h5,h6⟩
   ·exact h4
   ·have h7:e.on<ops.size:=by have:=(Array.getElem?_eq_some_iff.1 hx).1; omega
    have:=ihn e.on (by omega) ops[e.on] (Array.getElem?_eq_getElem h7) h6
    omega
 exact this (j+1) j (by omega) x hx hb
theorem Xq4 {ops:Array Oper} (hst:Stat ops) {M:Nat→Mem} {RO:Nat→Nat→Prop} (he:Eff ops M RO) (hRO:∀ q k,RO q k→eqM (M (q+1)) (M q)=true) {S:Nat→Bool} (hc:Xem ops S) (hs:∀ k,S k=true→k<ops.size) {i:Nat} {o:Oper} (ho:ops[i]? = some o) (hi:S i=false) (hr:∀ e ∈ o.after,Region.binds .any e=true→S e.on=true) (hl:Xbp o=false) (hie:eqM (M (i+1)) (M i)=false) :
  ∀ k,Xed M S k=M (min k i)
 | 0=>by simp [Xed]
 | k+1=>by
  have ih:=Xq4 hst he hRO hc hs ho hi hr hl hie k
  have hin:∀ j,(Xcw ops i).testBit j=true→S j=true:=fun j hj=>Xch hc (i+1) i j o (by omega) ho hr hs hj
  have hback:=Xqc hst
  simp only [Xed]
  cases hch:eqM (M (k+1)) (M k) with
  | true =>
   have e:=Xfh hch
   simp only [ZG,ZD,Ze,if_false]
   rw [ih]
   by_cases h:k+1≤i
   ·rw [Nat.min_eq_left h,Nat.min_eq_left (by omega),e]
   ·rw [Nat.min_eq_right (by omega),Nat.min_eq_right (by omega)]
  | false =>
   simp only [ZF,ZI]
   cases hk:ops[k]? with
   | none =>
    have hS:S k=false:=by
     cases h:S k with
     | false=>rfl
     | true=>have:=hs k h; rw [Array.getElem?_eq_getElem this] at hk; cases hk
    rw [hS]
    have h1:ops.size≤k:=by
     rcases Nat.lt_or_ge k ops.size with h | h
     ·rw [Array.getElem?_eq_getElem h] at hk; cases hk
     ·exact h
    have h2:=(Array.getElem?_eq_some_iff.1 ho).1
    simp only [Ze,if_false]
    rw [ih,Nat.min_eq_right (by omega),Nat.min_eq_right (by omega)]
   | some x =>
    have heff:=(he k x hk).resolve_left (by rw [hch]; simp) i o ho
    rcases heff with h1 | h1 | h1 | h1 | h1
    ·rw [hl] at h1; cases h1
    ·subst h1
     rw [hi]
     simp only [Ze,if_false]
     rw [ih]; simp
    ·have h2:=hback k i x hk h1
     have hS:S k=false:=by
      cases h:S k with
      | false=>rfl
      | true =>
       have:=Xch hc (k+1) k i x (by omega) hk (hc k x h hk) hs h1
       rw [hi] at this; cases this
     rw [hS]
     simp only [Ze,if_false]
     rw [ih,Nat.min_eq_right (by omega),Nat.min_eq_right (by omega)]
    ·have h2:=hback i k o ho h1
     rw [hin k h1,if_pos rfl,Nat.min_eq_left (by omega)]
    ·rw [hRO _ _ h1] at hie; cases hie
theorem Xp2 {ops:Array Oper} (hst:Stat ops) {M:Nat→Mem} {RO:Nat→Nat→Prop} (he:Eff ops M RO) (hRO:∀ q k,RO q k→eqM (M (q+1)) (M q)=true) {S:Nat→Bool} (hc:Xem ops S) (hs:∀ k,S k=true→k<ops.size) {i:Nat} {o:Oper} (ho:ops[i]? = some o) (hi:S i=false) (hr:∀ e ∈ o.after,Region.binds .any e=true→S e.on=true) (hl:Xbp o=false) (hie:eqM (M (i+1)) (M i)=true) :
  ∀ k,Xed M S k=M (min k i)∨(∃ j,i<j∧j<k∧Xed M S k=M (j+1)∧RO i j)∨(∃ j,j<i∧j<k∧Xed M S k=M j∧RO i j∧S j=false∧eqM (M (j+1)) (M j)=false)
 | 0=>.inl (by simp [Xed])
 | k+1=>by
  have ih:=Xp2 hst he hRO hc hs ho hi hr hl hie k
  have hin:∀ j,(Xcw ops i).testBit j=true→S j=true:=fun j hj=>Xch hc (i+1) i j o (by omega) ho hr hs hj
  have hback:=Xqc hst
  have keep:Xed M S (k+1)=Xed M S k→(Xed M S k=M (min k i)→Xed M S k=M (min (k+1) i))→(Xed M S (k+1)=M (min (k+1) i)∨(∃ j,i<j∧j<k+1∧Xed M S (k+1)=M (j+1)∧RO i j)∨(∃ j,j<i∧j<k+1∧Xed M S (k+1)=M j∧RO i j∧S j=false∧eqM (M (j+1)) (M j)=false)):=by
   intro h1 h2
   rw [h1]
   rcases ih with h | ⟨j,h3,h4,h5,h6⟩ | ⟨j,h3,h4,h5,h6,h7,h8⟩
   ·exact .inl (h2 h)
   ·exact .inr (.inl ⟨j,h3,by omega,h5,h6⟩)
   ·exact .inr (.inr ⟨j,h3,by omega,h5,h6,h7,h8⟩)
  cases hch:eqM (M (k+1)) (M k) with
  | true =>
   refine keep (by simp [Xed,hch]) fun h=>?_
   rw [h]
   by_cases h:k+1≤i
   ·rw [Nat.min_eq_left h,Nat.min_eq_left (by omega),Xfh hch]
   ·rw [Nat.min_eq_right (by omega),Nat.min_eq_right (by omega)]
  | false =>
   cases hk:ops[k]? with
   | none =>
    have hS:S k=false:=by
     cases h:S k with
     | false=>rfl
     | true=>have:=hs k h; rw [Array.getElem?_eq_getElem this] at hk; cases hk
    have h1:ops.size≤k:=by
     rcases Nat.lt_or_ge k ops.size with h | h
     ·rw [Array.getElem?_eq_getElem h] at hk; cases hk
     ·exact h
    have h2:=(Array.getElem?_eq_some_iff.1 ho).1
    refine keep (by simp [Xed,hS]) fun h=>?_
    rw [h,Nat.min_eq_right (by omega),Nat.min_eq_right (by omega)]
   | some x =>
    have hki:k≠i:=by rintro rfl; rw [hie] at hch; cases hch
    have hord:(Xcw ops k).testBit i=true∨(Xcw ops i).testBit k=true∨RO i k:=by
     rcases (he k x hk).resolve_left (by rw [hch]; simp) i o ho with h1 | h1 | h1 | h1 | h1
     ·rw [hl] at h1; cases h1
     ·exact absurd h1.symm hki
     ·exact .inl h1
     ·exact .inr (.inl h1)
     ·exact .inr (.inr h1)
    cases hS:S k with
    | true =>
     have e1:Xed M S (k+1)=M (k+1):=by simp [Xed,hS,hch]
     rcases hord with h1 | h1 | h1
     ·have:=Xch hc (k+1) k i x (by omega) hk (hc k x hS hk) hs h1
      rw [hi] at this; cases this
     ·have h2:=hback i k o ho h1
      exact .inl (by rw [e1,Nat.min_eq_left (by omega)])
     ·rcases Nat.lt_or_ge k i with h2 | h2
      ·exact .inl (by rw [e1,Nat.min_eq_left (by omega)])
      ·exact .inr (.inl ⟨k,by omega,by omega,e1,h1⟩)
    | false =>
     have e1:Xed M S (k+1)=Xed M S k:=by simp [Xed,hS]
     rcases Nat.lt_or_ge k i with h2 | h2
     ·have h3:RO i k:=by
       rcases hord with h1 | h1 | h1
       ·have:=hback k i x hk h1; omega
       ·rw [hin k h1] at hS; cases hS
       ·exact h1
      rcases ih with h | ⟨j,h4,h5,_⟩ | ⟨j,h4,h5,h6⟩
      ·refine .inr (.inr ⟨k,h2,by omega,?_,h3,hS,hch⟩)
       rw [e1,h,Nat.min_eq_left (by omega)]
      ·omega
      ·exact .inr (.inr ⟨j,h4,by omega,by rw [e1]; exact h6.1,h6.2⟩)
     ·refine keep e1 fun h=>?_
      rw [h,Nat.min_eq_right (by omega),Nat.min_eq_right (by omega)]
end Go.Proofs.YtmhhddhbdbcmbaaGreatDoor.Ev
