/- Parts of one proof. -/
import Derived.Test.YtmhhddhbdbcmbaaGreatDoorMag
set_option linter.all false
namespace Go.Proofs.YtmhhddhbdbcmbaaGreatDoor.Ev
variable {P:Program} {g:Cfg} {η:Nat→Option Nat} {H:Mem} {w:World}
theorem Xw0 {α β:Type} (f:α→Sem β) (k:α→β) (w:World):∀ (l:List α),(∀ x ∈ l,(f x).run P w=.ok (k x) w)→(l.mapM f).run P w=.ok (l.map k) w
 | [],_=>by simp
 | x::l,h=>by
  have h0:=h x (by simp)
  have ih:=Xw0 f k w l fun y hy=>h y (by simp [hy])
  simp [List.mapM_cons,h0,ih]
theorem Xno {α β:Type} (f:α→Sem β) (k:α→β) (w:World) (l:Array α) (h:∀ x ∈ l,(f x).run P w=.ok (k x) w):(l.mapM f).run P w=.ok (l.map k) w:=by
 rw [Array.mapM_eq_mapM_toList]
 have:=Xw0 (P:=P) f k w l.toList (by simpa using h)
 simp [this]
 apply Array.ext'
 simp
def Xvm (η:Nat→Option Nat) (H:Mem) (w:World) (ps:List (Nat × AV)) (qs:Array (Nat × Value)):Prop :=
 qs.toList.length=ps.length∧∀ (j:Nat) p q,ps[j]? = some p→qs.toList[j]? = some q→p.1=q.1∧VR η H w p.2 q.2
theorem Xsa {t:TypeId} {ps:List (Nat × AV)} {qs:Array (Nat × Value)} {y:AV} (hp:Xvm η H w ps qs) (h:Xrp P t ps=some y):∃ u,(Instr.build t qs).run P w=.ok u w∧VR η H w y u:=by
 unfold Xrp at h
 obtain ⟨z,hz,h'⟩:=Option.bind_eq_some_iff.1 h
 clear h
 obtain ⟨v,hr,rfl⟩:=Xeq (w:=w) hz
 split at h'
 ·cases h'
 rename_i hk
 have hzv:∀ res pa pc,(∀ i p,pa i=some p→pc i=some p)→Xhs pa (ofV v).cells ps=some res→∃ c',Instr.fill pc v.cells qs.toList=some c'∧VRs η H w res c':=fun res pa pc hpp hfill =>
  Xgo hpp ps qs.toList _ _ _ hp.1 hp.2 ((Xf7 v).cells (by simpa using hk)) hfill
 split at h'
 ·rename_i fields hu
  split at h'
  ·rename_i hall
   obtain ⟨cs,hcs,rfl⟩:=Option.map_eq_some_iff.1 h'
   have hpl:∀ i p,Xr0 P fields i=some p→(fields.map fun f=>(f.offset,((szT P f.type).getD 0)))[i]? = some p:=by
    intro i p hi
    unfold Xr0 at hi
    obtain ⟨f,hf,hi⟩:=Option.bind_eq_some_iff.1 hi
    obtain ⟨s,hs,rfl⟩:=Option.map_eq_some_iff.1 hi
    simp [hf,hs]
   obtain ⟨c',h1,h2⟩:=hzv cs (Xr0 P fields) (fun i=>(fields.map fun f=>(f.offset,((szT P f.type).getD 0)))[i]?) hpl hcs
   ·have hm:=Xno (P:=P) (fun f:Field=>(do let s ← sizeOf f.type; pure (f.offset,s):Sem (Nat × Nat))) (fun f=>(f.offset,(szT P f.type).getD 0)) w fields fun f hf=>by
     have:=Array.all_eq_true'.1 hall f hf
     obtain ⟨s,hs⟩:=Option.isSome_iff_exists.1 this
     simp [Xbl hs,hs]
    refine ⟨.agg c',?_,.agg _ _ h2.1 h2.2⟩
    simp only [Instr.build,Sem.run_bind,hr,Result.andThen_ok,Xas hu,hm]
    simp only [h1]
    rfl
  ·cases h'
 ·rename_i n elem hu
  obtain ⟨s,hs,h⟩:=Option.bind_eq_some_iff.1 h'
  obtain ⟨cs,hcs,rfl⟩:=Option.map_eq_some_iff.1 h
  obtain ⟨c',h1,h2⟩:=hzv cs (Xjg s) (fun i=>some (i*s,s)) (fun i p hi=>hi) hcs
  refine ⟨.agg c',?_,.agg _ _ h2.1 h2.2⟩
  simp only [Instr.build,Sem.run_bind,hr,Result.andThen_ok,Xas hu,Xbl hs]
  simp only [h1]
  rfl
 ·cases h'
end Go.Proofs.YtmhhddhbdbcmbaaGreatDoor.Ev
