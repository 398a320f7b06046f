/- Parts of one proof, one behind the other: known of law 10: reckoned by the kernel. -/
import Derived.Test.YtmnajffpmbidiaaGreatDoorEvUse
import Derived.Test.YtmnajffpmbidiaaGreatDoorMcg
import Derived.Test.YtmnajffpmbidiaaGreatDoorShelf
/- known of law 10: reckoned by the kernel. -/
namespace Go.Proofs.YtmnajffpmbidiaaGreatDoor.Ev
set_option linter.all false
open Go.RowKit
def klib (f : FuncId) : Option (List AV → Mem → Option (AV × Mem)) := if f = 87 then some idxByteLib else if f = 82 then some idxLib else if f = 32 then some replLib else none
/-- The length from which on a text is looked for otherwise stands in its cell. -/
def cfgK (m : Int) : Cfg := ⟨fun k => if k = 5 then some [.int .i64 m] else none, klib, fun _ _ => none, fun _ => true⟩
def isT : Option (End × Mem) → Bool
  | some (.ret (.bool true), []) => true
  | _ => false
theorem isT_eq {x : Option (End × Mem)} (h : isT x = true) : x = some (.ret (.bool true), []) := by
  unfold isT at h; split at h <;> first | rfl | cases h
set_option maxRecDepth 1000000 in
theorem known_runs (m : Int) : isT (evF Tryz.prog (cfgK m) 200 100 17 [] []) = true := by kernel_rfl
theorem args1 {η : Nat → Option Nat} {H : Mem} {w : World} {x : AV} {us : Array Value} (hv : VRs η H w [x] us) : ∃ u, us = #[u] ∧ VR η H w x u := by
  obtain ⟨hsz, hj⟩ := hv
  obtain ⟨l⟩ := us
  match l, hsz with
  | [u], _ => exact ⟨u, rfl, hj 0 _ u rfl rfl⟩
theorem args2 {η : Nat → Option Nat} {H : Mem} {w : World} {x y : AV} {us : Array Value} (hv : VRs η H w [x, y] us) : ∃ u v, us = #[u, v] ∧ VR η H w x u ∧ VR η H w y v := by
  obtain ⟨hsz, hj⟩ := hv
  obtain ⟨l⟩ := us
  match l, hsz with
  | [u, v], _ => exact ⟨u, v, rfl, hj 0 _ u rfl rfl, hj 1 _ v rfl rfl⟩
theorem args3 {η : Nat → Option Nat} {H : Mem} {w : World} {x y z : AV} {us : Array Value} (hv : VRs η H w [x, y, z] us) : ∃ u v t, us = #[u, v, t] ∧ VR η H w x u ∧ VR η H w y v ∧ VR η H w z t := by
  obtain ⟨hsz, hj⟩ := hv
  obtain ⟨l⟩ := us
  match l, hsz with
  | [u, v, t], _ => exact ⟨u, v, t, rfl, hj 0 _ u rfl rfl, hj 1 _ v rfl rfl, hj 2 _ t rfl rfl⟩
theorem data_len (s : ByteArray) : s.data.toList.length = s.size := by rw [Array.length_toList]; rfl
/-- The library's functions, by their contracts. -/
theorem klib_ok {g : Cfg} {m : Int} (hg : g.glob 5 = some [.int .i64 m]) {f : FuncId} {s : List AV → Mem → Option (AV × Mem)} (hf : klib f = some s) {args : List AV} {H : Mem} {v : AV} {H' : Mem} (hs : s args H = some (v, H')) {η : Nat → Option Nat} {w : World} {us : Array Value} (r : Rel g η H w) (hv : VRs η H w args us) :
    Calls Tryz.prog f us w fun e w' => ∃ η', Ext η H w η' H' w' ∧ Rel g η' H' w' ∧ EndR η' H' w' (.ret v) e := by
  obtain ⟨u0, hc0, hv0⟩ := glob_cell r hg
  cases hv0
  unfold klib at hf
  split at hf
  · rename_i h; subst h
    injection hf with hf; subst hf
    unfold idxByteLib at hs
    split at hs
    · injection hs with hs; injection hs with h1 h2; subst h1 h2
      obtain ⟨a, b, rfl, ha, hb⟩ := args2 hv
      cases ha with
      | str _ s' h =>
        subst h
        cases hb
        refine lib_of r ((Tryz.strings_IndexByte s' _ w).mono ?_) fun w' => .int _ _
        rintro e w' ⟨rfl, rfl⟩
        exact ⟨rfl, Below.refl _ _⟩
    · cases hs
  split at hf
  · rename_i h; subst h
    injection hf with hf; subst hf
    unfold idxLib at hs
    split at hs
    · split at hs
      · rename_i hl
        injection hs with hs; injection hs with h1 h2; subst h1 h2
        obtain ⟨a, b, rfl, ha, hb⟩ := args2 hv
        cases ha with
        | str _ s' h =>
          subst h
          cases hb with
          | str _ t' h =>
            subst h
            refine lib_of r ((Tryz.strings_Index s' t' m w (by rw [← data_len]; exact hl) hc0).mono ?_) fun w' => .int _ _
            rintro e w' ⟨rfl, rfl⟩
            exact ⟨rfl, Below.refl _ _⟩
      · cases hs
    · cases hs
  split at hf
  · rename_i h; subst h
    injection hf with hf; subst hf
    unfold replLib at hs
    split at hs
    · split at hs
      · rename_i hl
        injection hs with hs; injection hs with h1 h2; subst h1 h2
        obtain ⟨a, b, c, rfl, ha, hb, hcc⟩ := args3 hv
        cases ha with
        | str _ s' h =>
          subst h
          cases hb with
          | str _ t' h =>
            subst h
            cases hcc with
            | str _ u' h =>
              subst h
              have e1 : (⟨s'.data.toList.toArray⟩ : ByteArray) = s' := by simp
              have e2 : (⟨t'.data.toList.toArray⟩ : ByteArray) = t' := by simp
              rw [e1, e2] at hl
              simp only [data_len] at hl
              exact lib_of r (Tryz.strings_ReplaceAll s' t' u' m w hl.1 hc0 hl.2.1 hl.2.2) fun w' => .str _ _ (by simp)
      · cases hs
    · cases hs
  cases hf
theorem known_calls (m : Int) (w : World) (hc : w.cell? ⟨5, 0, none⟩ = some (.int .i64 m)) : Calls Tryz.prog 17 #[] w fun e w' => e = .returned (.bool true) ∧ Below w.heap.size w w' := by
  have hm : Tryz.prog.follows .mixedOrders = true := by kernel_rfl
  have hL : LibOk Tryz.prog (cfgK m) := fun f s hf args H v H' hs η w us r hv => klib_ok (g := cfgK m) (m := m) rfl hf hs r hv
  have hr : Rel (cfgK m) (fun _ => none) [] w := relGlob fun k cs h => by
    simp only [cfgK] at h
    split at h
    · rename_i hk; subst hk
      injection h with h; subst h
      exact glob_one hc (.int _ _)
    · cases h
  refine (ev_sound hm hL 200 100 _ [] [] _ _ (isT_eq (known_runs m)) _ w #[] hr ⟨rfl, fun j c u h => by simp at h⟩).mono ?_
  rintro e w' ⟨η', h1, h2, h3⟩
  cases e with
  | returned u =>
    cases h3
    exact ⟨rfl, h1.below⟩
  | panicked ch => exact h3.elim
  | outgrown => exact h3.elim
end Go.Proofs.YtmnajffpmbidiaaGreatDoor.Ev
