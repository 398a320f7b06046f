/- Parts of one proof. -/
import Derived.Test.YtmhhddhbdbcmbaaGreatDoorMbj
set_option linter.all false
namespace Go.Proofs.YtmhhddhbdbcmbaaGreatDoor.Ev
variable {P:Program} {g:Cfg} {F:Xc5}
theorem Xda:∀ (l:List Oper) (acc:List Nat),(Xp8 l acc).length=acc.length+l.length
 | [],acc=>by simp [Xp8]
 | o::l,acc=>by rw [Xp8,Xda l]; simp; omega
theorem Xq8:∀ (l:List Oper) (acc:List Nat),(Xp8 l acc).take acc.length=acc
 | [],acc=>by simp [Xp8]
 | o::l,acc=>by
  rw [Xp8]
  have:=congrArg (List.take acc.length) (Xq8 l (acc++[Xie acc o]))
  rw [List.take_take] at this
  simpa using this
theorem Xv3:∀ (l:List Oper) (acc:List Nat) (j:Nat) (o:Oper),l[j]? = some o→(Xp8 l acc)[acc.length+j]? = some (Xie ((Xp8 l acc).take (acc.length+j)) o)
 | [],acc,j,o,h=>by simp at h
 | x::l,acc,j,o,h=>by
  rw [Xp8]
  cases j with
  | zero =>
   simp at h
   subst h
   have h1:=Xq8 l (acc++[Xie acc x])
   have h2:(Xp8 l (acc++[Xie acc x])).take acc.length=acc:=by
    have:=congrArg (List.take acc.length) h1
    rw [List.take_take] at this
    simpa using this
   rw [Nat.add_zero,h2]
   have h3:=congrArg (fun q=>q[acc.length]?) h1
   simp only [List.getElem?_take] at h3
   rw [if_pos (by simp)] at h3
   rw [h3]
   simp
  | succ j =>
   have:=Xv3 l (acc++[Xie acc x]) j o (by simpa using h)
   have e:(acc++[Xie acc x]).length+j=acc.length+(j+1):=by simp; omega
   rw [e] at this
   exact this
theorem Xt3 {acc:List Nat} {o:Oper} {j:Nat} (h:(Xie acc o).testBit j=true):∃ e ∈ o.after,Region.binds .any e=true∧(e.on=j∨(acc.getD e.on 0).testBit j=true):=by
 unfold Xie at h
 have:∀ (l:List Edge),(l.foldr (fun e s=>if Region.binds .any e then (s ||| 2 ^ e.on) ||| acc.getD e.on 0 else s) 0).testBit j=true→∃ e ∈ l,Region.binds .any e=true∧(e.on=j∨(acc.getD e.on 0).testBit j=true):=by
  intro l
  induction l with
  | nil=>intro h; simp at h
  | cons e l ih =>
   intro h
   simp only [List.foldr_cons] at h
   split at h
   ·rename_i hb
    rw [Nat.testBit_or,Nat.testBit_or,Nat.testBit_two_pow] at h
    simp only [Bool.or_eq_true,decide_eq_true_eq] at h
    rcases h with (h | h) | h
    ·obtain ⟨e',h1,h2⟩:=ih h
     exact ⟨e',by simp [h1],h2⟩
    ·exact ⟨e,by simp,hb,.inl h⟩
    ·exact ⟨e,by simp,hb,.inr h⟩
   ·obtain ⟨e',h1,h2⟩:=ih h
    exact ⟨e',by simp [h1],h2⟩
 obtain ⟨e,h1,h2⟩:=this _ h
 exact ⟨e,by simpa using h1,h2⟩
def Xcw (ops:Array Oper) (i:Nat):Nat:=(Xp8 ops.toList []).getD i 0
theorem Xdv {ops:Array Oper} {i:Nat} {o:Oper} (h:ops[i]? = some o):(Xa2 ops)[i]? = some (i,o,Xcw ops i):=by
 have hi:i<ops.size:=(Array.getElem?_eq_some_iff.1 h).1
 have hb:i<(Xp8 ops.toList []).length:=by rw [Xda]; simpa using hi
 unfold Xa2 Xcw
 rw [List.getElem?_zip_eq_some]
 refine ⟨by simp [hi],?_⟩
 rw [List.getElem?_zip_eq_some]
 refine ⟨by simpa using h,?_⟩
 rw [List.getD_eq_getElem?_getD,List.getElem?_eq_getElem hb]
 rfl
theorem tab_mem {ops:Array Oper} {q:Nat × Oper × Nat} (h:q ∈ Xa2 ops):ops[q.1]? = some q.2.1∧q.2.2=Xcw ops q.1:=by
 obtain ⟨i,hi,e⟩:=List.getElem_of_mem h
 have h1:(Xa2 ops)[i]? = some q:=by rw [← e]; exact List.getElem?_eq_getElem hi
 unfold Xa2 at h1
 rw [List.getElem?_zip_eq_some] at h1
 obtain ⟨h2,h3⟩:=h1
 rw [List.getElem?_zip_eq_some] at h3
 obtain ⟨h4,h5⟩:=h3
 have hi2:i=q.1:=by
  obtain ⟨hl,e2⟩:=List.getElem?_eq_some_iff.1 h2
  simpa using e2
 subst hi2
 refine ⟨by simpa using h4,?_⟩
 unfold Xcw
 rw [List.getD_eq_getElem?_getD,h5]
 rfl
theorem Xh1 {ops:Array Oper} {i j:Nat} {o:Oper} (h:ops[i]? = some o) (hj:(Xcw ops i).testBit j=true):∃ e ∈ o.after,Region.binds .any e=true∧(e.on=j∨(e.on<i∧(Xcw ops e.on).testBit j=true)):=by
 have hb:=Xv3 ops.toList [] i o (by simpa using h)
 simp only [Zk,ZL] at hb
 have:Xcw ops i=Xie ((Xp8 ops.toList []).take i) o:=by
  unfold Xcw
  rw [List.getD_eq_getElem?_getD,hb]; rfl
 rw [this] at hj
 obtain ⟨e,h1,h2,h3⟩:=Xt3 hj
 refine ⟨e,h1,h2,?_⟩
 rcases h3 with h3 | h3
 ·exact .inl h3
 ·right
  rw [List.getD_eq_getElem?_getD,List.getElem?_take] at h3
  split at h3
  ·rename_i hlt
   exact ⟨hlt,by unfold Xcw; rw [List.getD_eq_getElem?_getD]; exact h3⟩
  ·simp at h3
theorem Xkn:∀ (l:List Oper) (k:Nat),Xqh k l=true→∀ (j:Nat) o,l[j]? = some o→∀ e ∈ o.after,Region.binds .any e=true→e.on<k+j
 | [],_,_,j,o,h=>by simp at h
 | x::l,k,h,j,o,ho=>by
  simp only [Xqh,Bool.and_eq_true] at h
  cases j with
  | zero =>
   simp at ho; subst ho
   intro e he hb
   have:=Array.all_eq_true'.1 h.1 e he
   simp [hb] at this
   omega
  | succ j =>
   intro e he hb
   have:=Xkn l (k+1) h.2 j o (by simpa using ho) e he hb
   omega
theorem Xkl {ops:Array Oper}:∀ (l:List (Nat × Oper × Nat)),Xpr ops l=true→∀ (j i:Nat) p q,j<i→l[j]? = some p→l[i]? = some q→Xro ops p.2.1 q.2.1=true∨q.2.2.testBit p.1=true
 | [],_,j,i,p,q,_,h,_=>by simp at h
 | (k,x,b)::l,h,j,i,p,q,hji,hp,hq=>by
  simp only [Xpr,Bool.and_eq_true,List.all_eq_true] at h
  obtain ⟨i,rfl⟩ : ∃ m,i=m+1:=⟨i-1,by omega⟩
  cases j with
  | zero =>
   simp at hp; subst hp
   have:=h.1 q (List.mem_of_getElem? (by simpa using hq))
   simpa using this
  | succ j=>exact Xkl l h.2 j i p q (by omega) (by simpa using hp) (by simpa using hq)
theorem Xe4 {ops:Array Oper} {x y:Oper} (h:Xro ops x y=true):(∀ d,x.dst=some d→d ∉ Xe9 ops y∧y.dst≠some d)∧∀ d,y.dst=some d→d ∉ Xe9 ops x:=by
 refine ⟨fun d hd=>?_,fun d hd=>?_⟩ <;> simp [Xro,hd] at h
 ·exact h.1
 ·exact h.2
structure Stat (ops:Array Oper):Prop where
 edge:∀ (i:Nat) o,ops[i]? = some o→∀ e ∈ o.after,Region.binds .any e=true→e.on<i
 pair:∀ (j i:Nat) x y,j<i→ops[j]? = some x→ops[i]? = some y→Xro ops x y=true∨(Xcw ops i).testBit j=true
theorem Xij {ops:Array Oper} (h:Xif ops=true):Stat ops:=by
 simp only [Xif,Bool.and_eq_true] at h
 refine ⟨fun i o ho e he hb=>?_,fun j i x y hji hx hy=>?_⟩
 ·have:=Xkn ops.toList 0 h.1 i o (by simpa using ho) e he hb
  omega
 ·have:=Xkl (Xa2 ops) h.2 j i _ _ hji (Xdv hx) (Xdv hy)
  simpa using this
def Xem (ops:Array Oper) (S:Nat→Bool):Prop:=∀ (i:Nat) o,S i=true→ops[i]? = some o→∀ e ∈ o.after,Region.binds .any e=true→S e.on=true
theorem Xch {ops:Array Oper} {S:Nat→Bool} (hc:Xem ops S):∀ (n i j:Nat) (o:Oper),i<n→ops[i]? = some o→(∀ e ∈ o.after,Region.binds .any e=true→S e.on=true)→(∀ k,S k=true→k<ops.size)→(Xcw ops i).testBit j=true→S j=true
 | 0,i,j,o,hn,_,_,_,_=>by omega
 | n+1,i,j,o,hn,ho,hr,hs,hj=>by
  obtain ⟨e,h1,h2,h3⟩:=Xh1 ho hj
  have h4:=hr e h1 h2
  rcases h3 with rfl | ⟨h5,h6⟩
  ·exact h4
  ·have h7:=hs _ h4
   exact Xch hc n e.on j ops[e.on] (by omega) (Array.getElem?_eq_getElem h7) (fun e' he' hb'=>hc _ _ h4 (Array.getElem?_eq_getElem h7) e' he' hb') hs h6
def Xb5 (ops:Array Oper) (v:Nat→AV) (a:AAct) (S:Nat→Bool):Nat→AAct
 | 0=>a
 | k+1=>match ops[k]? with
  | some o=>if S k then (Xb5 ops v a S k).put o.dst (v k) else Xb5 ops v a S k
  | none=>Xb5 ops v a S k
def Xed (M:Nat→Mem) (S:Nat→Bool):Nat→Mem
 | 0=>M 0
 | k+1=>if S k && !eqM (M (k+1)) (M k) then M (k+1) else Xed M S k
theorem Xc3 (a:AAct) (dst:Option Tmp) (x:AV) (t:Nat):Xad (a.put dst x).t t=if dst=some t then (if t<a.n then x else .bad) else Xad a.t t:=by
 cases dst with
 | none=>simp [AAct.put]
 | some d =>
  simp only [AAct.put,Xad]
  by_cases h:t=d
  ·subst h; simp
  ·have h':d≠t:=fun e=>h e.symm
   simp [h,h']
theorem Xu4 (a:AAct) (dst:Option Tmp) (x:AV):(a.put dst x).n=a.n∧(a.put dst x).d=a.d:=by cases dst <;> exact ⟨rfl,rfl⟩
theorem Xez (ops:Array Oper) (v:Nat→AV) (a:AAct) (S:Nat→Bool):∀ k,(Xb5 ops v a S k).n=a.n∧(Xb5 ops v a S k).d=a.d
 | 0=>⟨rfl,rfl⟩
 | k+1=>by
  have ih:=Xez ops v a S k
  simp only [Xb5]
  split
  ·split
   ·exact ⟨(Xu4 _ _ _).1.trans ih.1,(Xu4 _ _ _).2.trans ih.2⟩
   ·exact ih
  ·exact ih
theorem Xj4 {ops:Array Oper} (hst:Stat ops) {v:Nat→AV} {a:AAct} {S:Nat→Bool} (hc:Xem ops S) (hs:∀ k,S k=true→k<ops.size) {i:Nat} {o:Oper} (ho:ops[i]? = some o) (hi:S i=false) (hr:∀ e ∈ o.after,Region.binds .any e=true→S e.on=true) {t:Nat} (ht:t ∈ Xe9 ops o) :
  ∀ k,Xad (Xb5 ops v a S k).t t=Xad (Xb5 ops v a (fun j=>decide (j<i)) k).t t
 | 0=>rfl
 | k+1=>by
  have ih:=Xj4 hst (v:=v) (a:=a) hc hs ho hi hr ht k
  have hin:∀ j,(Xcw ops i).testBit j=true→S j=true:=fun j hj=>Xch hc (i+1) i j o (by omega) ho hr hs hj
  simp only [Xb5]
  cases hk:ops[k]? with
  | none=>exact ih
  | some x =>
   simp only
   have hn1:=(Xez ops v a S k).1
   have hn2:=(Xez ops v a (fun j=>decide (j<i)) k).1
   have hput:∀ (b b':AAct),b.n=b'.n→Xad b.t t=Xad b'.t t→Xad (b.put x.dst (v k)).t t=Xad (b'.put x.dst (v k)).t t:=fun b b' h1 h2=>by rw [Xc3,Xc3,h1,h2]
   have hno:x.dst≠some t→∀ b:AAct,Xad (b.put x.dst (v k)).t t=Xad b.t t:=fun h b=>by rw [Xc3,if_neg h]
   by_cases hd:x.dst=some t
   ·rcases Nat.lt_trichotomy k i with h | h | h
    ·have hb:(Xcw ops i).testBit k=true:=by
      rcases hst.pair k i x o h hk ho with h1 | h1
      ·exact absurd ht ((Xe4 h1).1 t hd).1
      ·exact h1
     rw [if_pos (hin k hb),if_pos (by simpa using h)]
     exact hput _ _ (hn1.trans hn2.symm) ih
    ·subst h
     rw [hi]
     simp only [Ze,if_false,Nat.lt_irrefl,ZO]
     exact ih
    ·have:S k=false:=by
      cases hS:S k with
      | false=>rfl
      | true =>
       have hb:(Xcw ops k).testBit i=true:=by
        rcases hst.pair i k o x h ho hk with h1 | h1
        ·exact absurd ht ((Xe4 h1).2 t hd)
        ·exact h1
       have:=Xch hc (k+1) k i x (by omega) hk (hc k x hS hk) hs hb
       rw [hi] at this; cases this
     rw [this]
     simp only [Ze,if_false]
     rw [if_neg (by simp; omega)]
     exact ih
   ·split <;> split <;> simp only [hno hd,ih]
theorem Xi5 {ops:Array Oper} (hst:Stat ops) {v:Nat→AV} {a:AAct} {S:Nat→Bool} (hc:Xem ops S) (hs:∀ k,S k=true→k<ops.size) {i:Nat} {o:Oper} (ho:ops[i]? = some o) (hi:S i=false) (t:Nat) :
  ∀ k,Xad (Xb5 ops v a (fun j=>S j || j == i) k).t t=if i<k∧o.dst=some t then (if t<a.n then v i else .bad) else Xad (Xb5 ops v a S k).t t
 | 0=>by simp [Xb5]
 | k+1=>by
  have ih:=Xi5 hst (v:=v) (a:=a) hc hs ho hi t k
  simp only [Xb5]
  cases hk:ops[k]? with
  | none =>
   simp only
   have:i≠k:=fun e=>by rw [e,hk] at ho; cases ho
   rw [ih]
   by_cases h1:i<k
   ·simp [h1,show i<k+1 by omega]
   ·rw [if_neg (by omega),if_neg (by omega)]
  | some x =>
   simp only
   by_cases hik:k=i
   ·subst hik
    rw [ho] at hk
    injection hk with hk
    subst hk
    simp only [hi,ZA,Bool.or_true,if_true,Ze,if_false]
    rw [Xc3,(Xez ops v a _ k).1,ih]
    simp
   ·have hbe:(k == i)=false:=by simpa using hik
    simp only [hbe,Bool.or_false]
    cases hS:S k with
    | false =>
     simp only [Ze,if_false]
     rw [ih]
     by_cases h1:i<k
     ·simp [h1,show i<k+1 by omega]
     ·rw [if_neg (by omega),if_neg (by omega)]
    | true =>
     simp only [if_true]
     rw [Xc3,Xc3,(Xez ops v a _ k).1,(Xez ops v a S k).1,ih]
     by_cases hd:x.dst=some t
     ·rw [if_pos hd,if_pos hd]
      by_cases h1:i<k+1∧o.dst=some t
      ·exfalso
       have h2:i<k:=by omega
       have hb:(Xcw ops k).testBit i=true:=by
        rcases hst.pair i k o x h2 ho hk with h3 | h3
        ·exact absurd hd ((Xe4 h3).1 t h1.2).2
        ·exact h3
       have:=Xch hc (k+1) k i x (by omega) hk (hc k x hS hk) hs hb
       rw [hi] at this; cases this
      ·rw [if_neg h1]
     ·rw [if_neg hd,if_neg hd]
      by_cases h1:i<k
      ·simp [h1,show i<k+1 by omega]
      ·rw [if_neg (by omega),if_neg (by omega)]
end Go.Proofs.YtmhhddhbdbcmbaaGreatDoor.Ev
