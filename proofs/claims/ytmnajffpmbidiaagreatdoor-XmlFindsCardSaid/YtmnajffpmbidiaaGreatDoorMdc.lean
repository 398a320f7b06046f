/- Parts of one proof, one behind the other: Elements whose rows are as long as a machine bears. -/
import Derived.Test.YtmnajffpmbidiaaGreatDoorMdb
/- Elements whose rows are as long as a machine bears. -/
namespace Go.Proofs.YtmnajffpmbidiaaGreatDoor.Ev
set_option linter.all false
open Go.Proofs.YtmnajffpmbidiaaGreatDoor.Ic
set_option maxRecDepth 100000
set_option linter.unusedSimpArgs false
/-- All rows of an element are as long as a machine bears. -/
inductive Fits : El → Prop
  | mk (sp nm tx : List UInt8) (ats : List (List UInt8 × List UInt8 × List UInt8)) (kids : List El) (ha : ats.length ≤ 9223372036854775807) (hk : kids.length ≤ 9223372036854775807) (h : ∀ k ∈ kids, Fits k) (hv : ∀ a ∈ ats, a.2.2.length ≤ 9223372036854775807) : Fits (.mk sp nm tx ats kids)
theorem Fits.ats {e : El} (h : Fits e) : e.ats.length ≤ 9223372036854775807 := by cases h; assumption
theorem Fits.len {e : El} (h : Fits e) : e.kids.length ≤ 9223372036854775807 := by cases h; assumption
theorem Fits.kid {e k : El} (h : Fits e) (hk : k ∈ e.kids) : Fits k := by cases h with | mk _ _ _ _ _ _ _ h _ => exact h k hk
theorem Fits.z : Fits zEl := .mk _ _ _ _ _ (by simp) (by simp) (by simp) (by simp)
theorem findIn_mem {s n : List UInt8} {x : El} : ∀ {l : List El}, findIn s n l = some x → x ∈ l
  | [], h => by simp [findIn] at h
  | k :: ks, h => by
    simp only [findIn] at h
    split at h
    · injection h with h; subst h; exact List.mem_cons_self
    · exact List.mem_cons_of_mem _ (findIn_mem h)
theorem getIn_mem {s n v : List UInt8} : ∀ {l : List (List UInt8 × List UInt8 × List UInt8)}, getIn s n l = some v → ∃ a ∈ l, a.2.2 = v
  | [], h => by simp [getIn] at h
  | k :: ks, h => by
    simp only [getIn] at h
    split at h
    · injection h with h; exact ⟨k, List.mem_cons_self, h⟩
    · obtain ⟨a, h1, h2⟩ := getIn_mem h
      exact ⟨a, List.mem_cons_of_mem _ h1, h2⟩
theorem Fits.found {e : El} (h : Fits e) (s n : List UInt8) : Fits ((findIn s n e.kids).getD zEl) := by
  cases hf : findIn s n e.kids with
  | none => exact .z
  | some x => exact h.kid (findIn_mem hf)
end Go.Proofs.YtmnajffpmbidiaaGreatDoor.Ev
