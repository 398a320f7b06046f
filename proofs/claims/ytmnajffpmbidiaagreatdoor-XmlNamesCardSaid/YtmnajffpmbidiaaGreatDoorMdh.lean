/- Parts of one proof, one behind the other: A text is valid bytes, of runes that may stand in it: no program in sight. -/
import Derived.Test.YtmnajffpmbidiaaGreatDoorMdg
import Derived.Lib.ValidLaws
/- A text is valid bytes, of runes that may stand in it: no program in sight. -/
namespace Go.Proofs.YtmnajffpmbidiaaGreatDoor.Ev
set_option linter.all false
theorem dec_one (s : List UInt8) (pos : Nat) : okAt s pos = !decide ((dec s pos).1 = 65533 ∧ (dec s pos).2 = 1) := by
  have h0 := (s.getD pos 0).toNat_lt
  unfold okAt
  rw [dec_eq]
  generalize (s.getD pos 0).toNat = b0 at *
  generalize (s.getD (pos + 1) 0).toNat = b1
  generalize (s.getD (pos + 2) 0).toNat = b2
  generalize (s.getD (pos + 3) 0).toNat = b3
  have key : (b0 < 128 ∨ 1 < (Lib.decodeN (s.length - pos) b0 b1 b2 b3).2) ↔ ¬ ((Lib.decodeN (s.length - pos) b0 b1 b2 b3).1 = 65533 ∧ (Lib.decodeN (s.length - pos) b0 b1 b2 b3).2 = 1) := by
    unfold Lib.decodeN
    repeat' split
    all_goals first | (simp only; omega) | (simp; omega)
  rw [decide_eq_decide.2 key, decide_not]
theorem text_split (s : List UInt8) : ∀ (f pos : Nat), s.length - pos < f → textFrom s f pos = (Lib.validD (s.drop pos) && runesFrom s f pos)
  | 0, _, h => by omega
  | f + 1, pos, h => by
    simp only [textFrom, runesFrom]
    by_cases hp : pos < s.length
    · have hw := dec_pos s pos
      have hne : s.drop pos ≠ [] := fun hh => by have := congrArg List.length hh; rw [List.length_drop, List.length_nil] at this; omega
      have e : Lib.decodeL (s.drop pos) = dec s pos := by rw [← dec_drop]; rfl
      rw [if_pos hp, if_pos hp, Lib.validD_step _ hne, e, List.drop_drop, text_split s f (pos + (dec s pos).2) (by omega), dec_one]
      by_cases hx : (dec s pos).1 = 65533 ∧ (dec s pos).2 = 1
      · rw [if_pos hx, decide_eq_true hx]; rfl
      · rw [if_neg hx, decide_eq_false hx]
        cases runeOk ((dec s pos).1 : Int) <;> simp
    · rw [if_neg hp, if_neg hp, List.drop_eq_nil_of_le (by omega)]; rfl
/-- Both say the same. -/
theorem text_is (s : List UInt8) : (runesFrom s (s.length + 1) 0 && Lib.validD s) = textFrom s (s.length + 1) 0 := by
  rw [text_split s _ 0 (by omega), List.drop_zero, Bool.and_comm]
end Go.Proofs.YtmnajffpmbidiaaGreatDoor.Ev
