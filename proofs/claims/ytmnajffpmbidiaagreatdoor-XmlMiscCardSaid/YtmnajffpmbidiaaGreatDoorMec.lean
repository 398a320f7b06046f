/- Parts of one proof. -/
import Derived.Test.YtmnajffpmbidiaaGreatDoorMcg
import Derived.Below
set_option linter.all false
namespace Go.Proofs.YtmnajffpmbidiaaGreatDoor.Ev
open Go.RowKit
variable {P : Program} {g : Cfg} {w : World}
theorem Ext.below {η' : Nat → Option Nat} {H' : Mem} {w' : World} (e : Ext (fun _ => none) [] w η' H' w') : Below w.heap.size w w' :=
  ⟨e.os, e.tape, e.output, e.size, fun k hk => (e.imm k ⟨hk, fun _ h => by cases h⟩).1⟩
theorem relGlob (hg : ∀ k cs, g.glob k = some cs → VR (fun _ => none) [] w (.iptr cs) (.pointer (some ⟨k, 0, none⟩))) : Rel g (fun _ => none) [] w :=
  ⟨fun _ _ h => (by cases h), fun _ _ _ h => (by cases h), fun x hx => (by simp at hx), fun _ _ _ _ h => (by cases h), hg⟩
theorem glob_one {k : Nat} {x : AV} {u : Value} (hc : w.cell? ⟨k, 0, none⟩ = some u) (hv : VR (fun _ => none) [] w x u) : VR (fun _ => none) [] w (.iptr [x]) (.pointer (some ⟨k, 0, none⟩)) := by
  have hlt : k < w.heap.size := by
    rcases Nat.lt_or_ge k w.heap.size with h | h
    · exact h
    · simp [World.cell?, Array.getElem?_eq_none h] at hc
  refine .iptr _ _ (fun _ => u) (fun j c h => ?_) (fun j c h => ?_)
  · cases j with
    | zero => exact ⟨⟨hlt, fun id h => by cases h⟩, by simpa [Addr.add] using hc⟩
    | succ j => simp at h
  · cases j with
    | zero => simp at h; subst h; exact hv
    | succ j => simp at h
theorem glob_cell {η : Nat → Option Nat} {H : Mem} {k : Nat} {x : AV} (r : Rel g η H w) (hk : g.glob k = some [x]) : ∃ u, w.cell? ⟨k, 0, none⟩ = some u ∧ VR η H w x u := by
  have h := r.glob k _ hk
  cases h with
  | iptr _ _ us ha hv =>
    obtain ⟨_, h2⟩ := ha 0 x rfl
    exact ⟨us 0, by simpa [Addr.add] using h2, hv 0 x rfl⟩
theorem useG (hm : P.follows .mixedOrders = true) (hL : LibOk P g) {T : FuncId → Option IF} (hT : TOk P g T) (hr : Rel g (fun _ => none) [] w) {N n f : Nat} {args : List AV} {v : AV} {H' : Mem} (h : evFI P g T N n f args [] = some (.ret v, H')) {us : Array Value} (hv : VRs (fun _ => none) [] w args us) :
    Calls P f us w fun e w' => ∃ u, e = .returned u ∧ Below w.heap.size w w' ∧ ∃ η', VR η' H' w' v u := by
  refine (evI_ok hm hL hT N n f args [] (.ret v) H' h _ w us hr hv).mono ?_
  rintro e w' ⟨η', h1, h2, h3⟩
  cases e with
  | returned u => exact ⟨u, rfl, h1.below, η', h3⟩
  | panicked ch => exact h3.elim
  | outgrown => exact h3.elim
theorem lib_of {f : FuncId} {η : Nat → Option Nat} {H : Mem} {us : Array Value} {u : Value} {v : AV} (r : Rel g η H w) (hc : Calls P f us w fun e w' => e = .returned u ∧ Below w.heap.size w w') (hv : ∀ w', VR η H w' v u) :
    Calls P f us w fun e w' => ∃ η', Ext η H w η' H w' ∧ Rel g η' H w' ∧ EndR η' H w' (.ret v) e := by
  refine hc.mono ?_
  rintro e w' ⟨rfl, hb⟩
  have e1 : Ext η H w η H w' := ⟨⟨Nat.le_refl _, fun id x hx => ⟨x, hx, Nat.le_refl _, fun _ b hη => ⟨hη, fun s hs => by
    rw [stab_heap (hb.block b (r.dom id b hη).2)]; exact hs⟩⟩, hb.size, fun b hi => ⟨hb.block b hi.1, hi.2⟩, hb.os, hb.tape, hb.output⟩, fun _ _ h => h⟩
  exact ⟨η, e1, r.step e1.toExtW (fun id b h => ⟨(r.dom id b h).1, Nat.lt_of_lt_of_le (r.dom id b h).2 hb.size⟩) r.inj r.low (fun id x b h1 h2 => .inl ⟨h1, h2, hb.block b (r.dom id b h2).2⟩), hv w'⟩
end Go.Proofs.YtmnajffpmbidiaaGreatDoor.Ev
