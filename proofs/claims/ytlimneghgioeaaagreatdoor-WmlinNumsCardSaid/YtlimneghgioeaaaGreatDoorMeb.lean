/- Parts of one proof, one behind the other: What an element tells as numbers, by the program and by the reference: one and the same (plain). -/
import Derived.Test.YtlimneghgioeaaaGreatDoorMea
/- What an element tells as numbers, by the program and by the reference: one and the same (plain). -/
namespace Go.Proofs.YtlimneghgioeaaaGreatDoor.Ev
set_option linter.all false
theorem numL_cases (s : List UInt8) : (isNum s = false ∧ numL s = -1) ∨ (isNum s = true ∧ 0 ≤ numL s ∧ numZ s = numL s) := by
  have h := numL_range s
  by_cases h1 : numL s = -1
  · exact .inl ⟨by simp [isNum, h1], h1⟩
  · exact .inr ⟨by simp [isNum, h1], by omega, by simp [numZ, h1]⟩
theorem good_eq (x : El) : howGood x = absGood x := by
  have hst : geq0 (rStart x) = (!hasStart x || isNum (startT x)) := by
    by_cases hs : hasStart x = true
    · rcases numL_cases (startT x) with ⟨h4, h5⟩ | ⟨h4, h5, h6⟩
      · simp [geq0, rStart, hs, h4, h5]
      · simp [geq0, rStart, hs, h4, h5]
    · have hs' : hasStart x = false := by simpa using hs
      simp [geq0, rStart, hs']
  simp only [howGood, goodLvl, absGood, hst]
  rcases numL_cases (ilvlT x) with ⟨h1, h2⟩ | ⟨h1, h2, h3⟩
  · simp [h1, h2, geq0]
  · simp [h1, h2, h3, geq0, Bool.and_assoc]
theorem good_same (x : El) (h : howGood x = true) : howC x = absC x := by
  simp only [howGood, goodLvl, Bool.and_eq_true, Bool.or_eq_true] at h
  obtain ⟨⟨_, h1, _⟩, h2⟩ := h
  have e1 : numZ (ilvlT x) = numL (ilvlT x) := by
    rcases numL_cases (ilvlT x) with ⟨h3, _⟩ | ⟨_, _, h3⟩
    · rw [h3] at h1; cases h1
    · exact h3
  have e2 : howStart x = rStart x := by
    simp only [howStart, rStart]
    cases hs : hasStart x
    · rfl
    · rcases h2 with h2 | h2
      · simp [hs] at h2
      · rcases numL_cases (startT x) with ⟨h3, _⟩ | ⟨_, _, h3⟩
        · rw [h3] at h2; cases h2
        · simpa using h3
  simp only [howC, absC, e1, e2]
theorem howB_eq (id : List UInt8) (l : List El) : howB id l = absB id l := by
  simp only [howB, absB]
  cases absIn id l with
  | some x => exact good_eq x
  | none => rfl
theorem howV_eq (id : List UInt8) (l : List El) (h : howB id l = true) : howV id l = absV id l := by
  simp only [howB] at h
  simp only [howV, absV]
  split at h
  · rename_i x hx; rw [hx]; exact good_same x h
  · cases h
end Go.Proofs.YtlimneghgioeaaaGreatDoor.Ev
