/- Parts of one proof, one behind the other: known of law16: reckoned by the kernel. -/
import Derived.Test.YtlimneghgioeaaaGreatDoorMeh
import Derived.Test.YtlimneghgioeaaaGreatDoorProg
/- known of law16: reckoned by the kernel. -/
namespace Go.Proofs.YtlimneghgioeaaaGreatDoor.Ev
set_option linter.all false
open Go.RowKit
/-- Nothing is given besides the program; no result is turned to a list. -/
def cfgAll : Cfg := ⟨fun _ => none, fun _ => none, fun _ _ => none, fun _ => true⟩
def isT : Option (End × Mem) → Bool
  | some (.ret (.bool true), []) => true
  | _ => false
theorem isT_eq {x : Option (End × Mem)} (h : isT x = true) : x = some (.ret (.bool true), []) := by
  unfold isT at h; split at h <;> first | rfl | cases h
set_option maxRecDepth 1000000 in
theorem known_runs : isT (evF Tryz.prog cfgAll 200 100 9 [] []) = true := by decide +kernel
theorem known_calls (w : World) : Calls Tryz.prog 9 #[] w fun e w' => e = .returned (.bool true) ∧ Below w.heap.size w w' := by
  have hm : Tryz.prog.follows .mixedOrders = true := by kernel_rfl
  refine (ev_sound hm (g := cfgAll) (fun f s h => by cases h) 200 100 _ [] [] _ _ (isT_eq known_runs) _ w #[] (relNil fun _ => rfl) ⟨rfl, fun j c u h => by simp at h⟩).mono ?_
  rintro e w' ⟨η', h1, h2, h3⟩
  cases e with
  | returned u =>
    cases h3
    exact ⟨rfl, h1.below⟩
  | panicked ch => exact h3.elim
  | outgrown => exact h3.elim
end Go.Proofs.YtlimneghgioeaaaGreatDoor.Ev
