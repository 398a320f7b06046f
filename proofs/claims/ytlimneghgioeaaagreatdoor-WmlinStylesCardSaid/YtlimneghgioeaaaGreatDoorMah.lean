/- Parts of one proof. -/
import Derived.Test.YtlimneghgioeaaaGreatDoorMag
set_option linter.all false
namespace Go.Proofs.YtlimneghgioeaaaGreatDoor.Ev
variable {P : Program} {g : Cfg} {η : Nat → Option Nat} {H : Mem} {w : World}
theorem mapM_run {α β : Type} (f : α → Sem β) (k : α → β) (w : World) : ∀ (l : List α), (∀ x ∈ l, (f x).run P w = .ok (k x) w) → (l.mapM f).run P w = .ok (l.map k) w
  | [], _ => by simp
  | x :: l, h => by
    have h0 := h x (by simp)
    have ih := mapM_run f k w l fun y hy => h y (by simp [hy])
    simp [List.mapM_cons, h0, ih]
theorem mapM_run_array {α β : Type} (f : α → Sem β) (k : α → β) (w : World) (l : Array α) (h : ∀ x ∈ l, (f x).run P w = .ok (k x) w) : (l.mapM f).run P w = .ok (l.map k) w := by
  rw [Array.mapM_eq_mapM_toList]
  have := mapM_run (P := P) f k w l.toList (by simpa using h)
  simp [this]
  apply Array.ext'
  simp
def PartsR (η : Nat → Option Nat) (H : Mem) (w : World) (ps : List (Nat × AV)) (qs : Array (Nat × Value)) : Prop :=
  qs.toList.length = ps.length ∧ ∀ (j : Nat) p q, ps[j]? = some p → qs.toList[j]? = some q → p.1 = q.1 ∧ VR η H w p.2 q.2
theorem buildA_sound {t : TypeId} {ps : List (Nat × AV)} {qs : Array (Nat × Value)} {y : AV} (hp : PartsR η H w ps qs) (h : buildA P t ps = some y) : ∃ u, (Instr.build t qs).run P w = .ok u w ∧ VR η H w y u := by
  unfold buildA at h
  obtain ⟨z, hz, h'⟩ := Option.bind_eq_some_iff.1 h
  clear h
  obtain ⟨v, hr, rfl⟩ := run_zero (w := w) hz
  split at h'
  · cases h'
  rename_i hk
  have hzv : ∀ res pa pc, (∀ i p, pa i = some p → pc i = some p) → fillA pa (ofV v).cells ps = some res → ∃ c', Instr.fill pc v.cells qs.toList = some c' ∧ VRs η H w res c' := fun res pa pc hpp hfill =>
    fillA_sound hpp ps qs.toList _ _ _ hp.1 hp.2 ((VR_ofV v).cells (by simpa using hk)) hfill
  split at h'
  · rename_i fields hu
    split at h'
    · rename_i hall
      obtain ⟨cs, hcs, rfl⟩ := Option.map_eq_some_iff.1 h'
      have hpl : ∀ i p, placeS P fields i = some p → (fields.map fun f => (f.offset, ((szT P f.type).getD 0)))[i]? = some p := by
        intro i p hi
        unfold placeS at hi
        obtain ⟨f, hf, hi⟩ := Option.bind_eq_some_iff.1 hi
        obtain ⟨s, hs, rfl⟩ := Option.map_eq_some_iff.1 hi
        simp [hf, hs]
      obtain ⟨c', h1, h2⟩ := hzv cs (placeS P fields) (fun i => (fields.map fun f => (f.offset, ((szT P f.type).getD 0)))[i]?) hpl hcs
      · have hm := mapM_run_array (P := P) (fun f : Field => (do let s ← sizeOf f.type; pure (f.offset, s) : Sem (Nat × Nat))) (fun f => (f.offset, (szT P f.type).getD 0)) w fields fun f hf => by
          have := Array.all_eq_true'.1 hall f hf
          obtain ⟨s, hs⟩ := Option.isSome_iff_exists.1 this
          simp [run_size hs, hs]
        refine ⟨.agg c', ?_, .agg _ _ h2.1 h2.2⟩
        simp only [Instr.build,Sem.run_bind,hr,Result.andThen_ok,run_und hu,hm]
        simp only [h1]
        rfl
    · cases h'
  · rename_i n elem hu
    obtain ⟨s, hs, h⟩ := Option.bind_eq_some_iff.1 h'
    obtain ⟨cs, hcs, rfl⟩ := Option.map_eq_some_iff.1 h
    obtain ⟨c', h1, h2⟩ := hzv cs (placeR s) (fun i => some (i * s, s)) (fun i p hi => hi) hcs
    refine ⟨.agg c', ?_, .agg _ _ h2.1 h2.2⟩
    simp only [Instr.build,Sem.run_bind,hr,Result.andThen_ok,run_und hu,run_size hs]
    simp only [h1]
    rfl
  · cases h'
end Go.Proofs.YtlimneghgioeaaaGreatDoor.Ev
