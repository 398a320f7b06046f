/- Parts of one proof. -/
import Derived.Test.YtmhhddhbdbcmbaaGreatDoorMcf
set_option linter.all false
namespace Go.Proofs.YtmhhddhbdbcmbaaGreatDoor.Ev
variable {P:Program} {g:Cfg} {F F':Xc5}
theorem Xmw {H:Mem} {n:Nat} {cs:List AV} {x:AV} (h:Xdc H x n=some cs):x≠.nilP:=by
 rintro rfl; simp [Xdc] at h
theorem Xgv {a:AAct} {H:Mem}:∀ {l:List ResultVar} {q:List IRes},resR P l=some q→∀ {vs:List AV},Xbc a H q=some vs→Xe7 P a H l=some vs
 | [],q,hq,vs,h=>by
  simp only [resR] at hq
  injection hq with hq; subst hq
  exact h
 | .tmp t::l,q,hq,vs,h=>by
  simp only [resR] at hq
  obtain ⟨r,hr,rfl⟩:=Option.map_eq_some_iff.1 hq
  simp only [Xbc] at h
  obtain ⟨us,h1,rfl⟩:=Option.map_eq_some_iff.1 h
  simp only [Xe7,Xgv hr h1,Zh]
 | .cell t ty::l,q,hq,vs,h=>by
  simp only [resR] at hq
  split at hq
  ·rename_i n r hag hn hr
   injection hq with hq; subst hq
   simp only [Xbc] at h
   obtain ⟨cs,hcs,h⟩:=Option.bind_eq_some_iff.1 h
   obtain ⟨us,h1,rfl⟩:=Option.map_eq_some_iff.1 h
   have hne:=Xmw hcs
   simp only [Xe7]
   ·simp only [Xqd,hag,hn,Zo,hcs,Zh,Xgv hr h1]
  ·rename_i _ r hag hr
   injection hq with hq; subst hq
   simp only [Xbc] at h
   obtain ⟨cs,hcs,h⟩:=Option.bind_eq_some_iff.1 h
   obtain ⟨v,hv,h⟩:=Option.bind_eq_some_iff.1 h
   obtain ⟨us,h1,rfl⟩:=Option.map_eq_some_iff.1 h
   have hne:=Xmw hcs
   simp only [Xe7]
   ·simp only [Xqd,hag,hcs,Zo,hv,Zh,Xgv hr h1]
  ·cases hq
theorem Xgh {fn:Func} {rs:List IRes} (hr:resR P fn.results.toList=some rs) {a:AAct} {H:Mem} {v:AV} (h:Xc6 rs a H=some v):resA P fn a H=some v:=by
 unfold Xc6 at h
 obtain ⟨l,h1,rfl⟩:=Option.map_eq_some_iff.1 h
 simp only [resA,Xgv hr h1,Zh]
 match l with
 | []=>rfl
 | [x]=>rfl
 | x::y::l=>rfl
def TOk (P:Program) (g:Cfg) (T:FuncId→Option IF):Prop:=∀ f i,T f=some i→Xag P g f=some i
theorem Xi8 {f:FuncId} {i:IF} (h:Xag P g f=some i):∃ fn c,P.funcs[f]? = some fn∧fn.body=some c∧Xa1 P f=true∧i.n=fn.ntmps∧Xbn P g f c=some i.c∧resR P fn.results.toList=some i.res∧dfrR P g f c=i.dfr:=by
 unfold Xag at h
 split at h
 ·cases h
 ·rename_i fn hf
  split at h
  ·cases h
  ·rename_i c hc
   split at h
   ·rename_i hcall
    split at h
    ·rename_i ic rs h1 h2
     injection h with h; subst h
     exact ⟨fn,c,hf,hc,hcall,rfl,h1,h2,rfl⟩
    ·cases h
   ·cases h
theorem Xw9 (hF:Xv1 F F') {T:FuncId→Option IF} (hT:TOk P g T) {N:Nat} {k:FuncId} {args:List AV} {m:Option AV} {H H2:Mem} (h:defI P g F T N k args m H=some H2):Xa1 P k=true∧evDef P g F' N k args m H=some H2:=by
 unfold defI at h
 split at h
 ·cases h
 ·rename_i i hi
  obtain ⟨fn,c,hf,hc,hcall,hn,hcode,hres,hd⟩:=Xi8 (hT k i hi)
  refine ⟨hcall,?_⟩
  split at h
  ·cases h
  ·rename_i dst rest hdf
   rw [hdf] at hd
   unfold dfrR at hd
   split at hd
   ·rename_i id ops crest
    split at hd
    ·rename_i o ho
     split at hd
     ·rename_i hrec
      obtain ⟨ic,hic,he⟩:=Option.map_eq_some_iff.1 hd
      injection he with h1 h2
      subst h1 h2
      simp only [evDef,hf,hc,ho,if_pos hrec]
      rw [← hn]
      split at h
      ·rename_i a H1 e
       rw [Xc7 hF hic e]
       simp only
       split at h
       ·rename_i hdd
        rw [if_pos hdd]
        obtain ⟨v,hv,rfl⟩:=Option.map_eq_some_iff.1 h
        rw [Xgh hres hv]; rfl
       ·cases h
      ·rename_i a H1 e
       rw [Xc7 hF hic e]
       simp only
       split at h
       ·rename_i hdd
        rw [if_pos hdd]
        obtain ⟨v,hv,rfl⟩:=Option.map_eq_some_iff.1 h
        rw [Xgh hres hv]; rfl
       ·cases h
      ·cases h
     ·cases hd
    ·cases hd
   ·cases hd
theorem Xiu (hF:Xv1 F F') {T:FuncId→Option IF} (hT:TOk P g T) {N:Nat} {i:IF} {fn:Func} (hres:resR P fn.results.toList=some i.res) {keep:Bool} {H0:Mem} {a:AAct} {m:Option AV} {H1:Mem} {r:End × Mem} (h:Xp7 P g F T N i keep H0 a m H1=some r) :
  Xrz P g F' N fn keep H0 a m H1=some r:=by
 unfold Xp7 at h
 unfold Xrz
 split at h
 ·rename_i k cap dargs e
  obtain ⟨H2,h1,h⟩:=Option.bind_eq_some_iff.1 h
  obtain ⟨v,hv,rfl⟩:=Option.map_eq_some_iff.1 h
  obtain ⟨h2,h3⟩:=Xw9 hF hT h1
  simp only [e,if_pos h2,h3,Zo,Xgh hres hv,Zh]
 ·cases h
theorem Xpb {T:FuncId→Option IF} (hT:TOk P g T) (N:Nat):∀ n,Xv1 (Xaw P g T N n) (evF P g N n)
 | 0=>fun f args H r h=>by simp [Xaw] at h
 | n+1=>fun f args H r h=>by
  have hF:=Xpb hT N n
  simp only [Xaw] at h
  simp only [evF]
  cases hl:g.lib f with
  | some s=>simp only [hl] at h ⊢; exact h
  | none =>
   simp only [hl] at h ⊢
   cases hi:T f with
   | none=>simp [hi] at h
   | some i =>
    simp only [hi] at h
    obtain ⟨fn,c,hf,hc,hcall,hn,hcode,hres,_⟩:=Xi8 (hT f i hi)
    simp only [hf,hc]
    rw [hn] at h
    cases hev:evI P g (Xaw P g T N n) N i.c ⟨max args.length fn.ntmps,idx 0 args,[]⟩ H with
    | none=>simp [hev] at h
    | some p =>
     obtain ⟨out,a,H1⟩:=p
     rw [Xc7 hF hcode hev]
     rw [hev] at h
     cases out with
     | normal =>
      simp only at h ⊢
      split at h
      ·rename_i hd
       obtain ⟨v,hv,rfl⟩:=Option.map_eq_some_iff.1 h
       rw [if_pos hd,Xgh hres hv]; rfl
      ·rename_i hd; rw [if_neg hd]; exact Xiu hF hT hres h
     | ret =>
      simp only at h ⊢
      split at h
      ·rename_i hd
       obtain ⟨v,hv,rfl⟩:=Option.map_eq_some_iff.1 h
       rw [if_pos hd,Xgh hres hv]; rfl
      ·rename_i hd; rw [if_neg hd]; exact Xiu hF hT hres h
     | pan v =>
      simp only at h ⊢
      split at h
      ·rename_i hd; rw [if_pos hd]; exact h
      ·rename_i hd; rw [if_neg hd]; exact Xiu hF hT hres h
     | exit id=>simp at h
theorem evI_ok (hm:P.follows .mixedOrders=true) (hL:LibOk P g) {T:FuncId→Option IF} (hT:TOk P g T) (N n:Nat):FOk P g (Xaw P g T N n) :=
 fun f args H r H' h=>Xw2 hm hL N n f args H r H' (Xpb hT N n f args H (r,H') h)
end Go.Proofs.YtmhhddhbdbcmbaaGreatDoor.Ev
