/- The reference of chapter 12: which bytes may stand in a name; small letters; what stands between strokes. -/
import Derived.Test.YtfdfkhpoblembaaDoorMapS
import Derived.Outline
namespace Go.Proofs.YtfdfkhpoblembaaDoor
open Go.RowKit Go.Proofs.YtfdfkhpoblembaaDoorW.PrintWords

/-- The signs, as the reference writes them. -/
def signs2 : List Nat := [47, 45, 46, 95, 126, 33, 36, 38, 39, 40, 41, 42, 43, 44, 59, 61, 58, 64]
def mayN (n : Nat) : Bool := decide (97 ≤ n ∧ n ≤ 122) || decide (65 ≤ n ∧ n ≤ 90) || decide (48 ≤ n ∧ n ≤ 57) || signs2.contains n
theorem mayN_part : ∀ n : Nat, n < 256 → mayN n = partByte n := by decide +kernel
def signs2S : ByteArray := ⟨#[47, 45, 46, 95, 126, 33, 36, 38, 39, 40, 41, 42, 43, 44, 59, 61, 58, 64]⟩
theorem signs2_bt : ∀ k : Nat, k < 18 → bt ⟨#[47, 45, 46, 95, 126, 33, 36, 38, 39, 40, 41, 42, 43, 44, 59, 61, 58, 64]⟩ k = ((signs2.getD k 0 : Nat) : Int) := by decide +kernel
theorem signs2_step : ∀ (k n : Nat), k < 18 → (signs2.take (k + 1)).contains n = ((signs2.take k).contains n || decide (signs2.getD k 0 = n)) := fun k n hk => by
  have h : k < signs2.length := hk
  rw [List.take_succ_eq_append_getElem h, List.contains_eq_any_beq, List.any_append, ← List.contains_eq_any_beq, List.any_cons, List.any_nil, Bool.or_false]
  rw [List.getD_eq_getElem?_getD, List.getElem?_eq_getElem h, Option.getD_some]
  congr 1
  rw [Bool.eq_iff_iff]
  simp
  exact eq_comm
theorem signs2_in (k n : Nat) (hk : k < 18) (h : signs2.getD k 0 = n) : signs2.contains n = true := by
  have h2 : k < signs2.length := hk
  rw [List.getD_eq_getElem?_getD, List.getElem?_eq_getElem h2, Option.getD_some] at h
  rw [List.contains_iff_mem, ← h]
  exact List.getElem_mem h2
set_option maxHeartbeats 2000000 in
theorem refMay_any (n : Nat) (w : World) (h1 : n < 256) :
    Calls Tryd.prog 20 #[.int .u8 n] w fun e w' => e = .returned (.bool (partByte n)) ∧ w = w' := by
  rw [← mayN_part n h1]
  by_cases ha : (97 ≤ n ∧ n ≤ 122) ∨ (65 ≤ n ∧ n ≤ 90) ∨ (48 ≤ n ∧ n ≤ 57)
  · have hfin : mayN n = true := by
      unfold mayN
      rcases ha with h | h | h <;> simp [h]
    have Hfin := Lib.hid hfin; clear hfin
    have hc : n ≤ 57 ∧ 48 ≤ n ∨ (65 ≤ n ∧ n ≤ 90) ∨ (97 ≤ n ∧ n ≤ 122) := by omega
    clear ha
    go_enter Tryd.func20, Tryd.ntmps20
    rcases hc with hc | hc | hc
    all_goals go_wp2
    all_goals go_ret
    all_goals exact ⟨by rw [Hfin.out]; rfl, rfl⟩
  · have hfin : mayN n = signs2.contains n := by
      unfold mayN
      have h1 : ¬ (97 ≤ n ∧ n ≤ 122) := fun h => ha (Or.inl h)
      have h2 : ¬ (65 ≤ n ∧ n ≤ 90) := fun h => ha (Or.inr (Or.inl h))
      have h3 : ¬ (48 ≤ n ∧ n ≤ 57) := fun h => ha (Or.inr (Or.inr h))
      simp [h1, h2, h3]
    have Hfin := Lib.hid hfin; clear hfin
    have hc : n ≤ 47 ∨ (58 ≤ n ∧ n ≤ 64) ∨ (91 ≤ n ∧ n ≤ 96) ∨ 123 ≤ n := by omega
    clear ha
    go_enter Tryd.func20, Tryd.ntmps20
    rcases hc with hc | hc | hc | hc
    all_goals go_wp2
    all_goals go_loop [4] (fun i => ∃ k : Nat, k ≤ 18 ∧ i = .int .i64 k ∧ (signs2.take k).contains n = false) (fun i => 18 - (intOf i).toNat)
    case atStart => exact ⟨0, Nat.zero_le _, rfl, rfl⟩
    case atStart => exact ⟨0, Nat.zero_le _, rfl, rfl⟩
    case atStart => exact ⟨0, Nat.zero_le _, rfl, rfl⟩
    case atStart => exact ⟨0, Nat.zero_le _, rfl, rfl⟩
    all_goals (
      obtain ⟨k, hk, rfl, hA⟩ := hrel
      have HA := Lib.hid hA; clear hA
      by_cases hlt : k < 18
      · have hx : ∀ h : k < (ByteArray.mk #[47, 45, 46, 95, 126, 33, 36, 38, 39, 40, 41, 42, 43, 44, 59, 61, 58, 64]).size, (((ByteArray.mk #[47, 45, 46, 95, 126, 33, 36, 38, 39, 40, 41, 42, 43, 44, 59, 61, 58, 64])[k]'h).toNat : Int) = ((signs2.getD k 0 : Nat) : Int) := fun h => (bt_at ⟨#[47, 45, 46, 95, 126, 33, 36, 38, 39, 40, 41, 42, 43, 44, 59, 61, 58, 64]⟩ k h).trans (signs2_bt k hlt)
        have hst := signs2_step k n hlt
        have hin := signs2_in k n hlt
        have Hst := Lib.hid hst; have Hin := Lib.hid hin; clear hst hin
        generalize signs2.getD k 0 = c at hx Hst Hin
        by_cases he : c = n
        · have heb : ((c : Int) == (n : Int)) = true := by rw [he]; exact beq_self_eq_true _
          have hfin2 : mayN n = true := by rw [Hfin.out, Hin.out he]
          have Hfin2 := Lib.hid hfin2; clear hfin2 Hin Hst
          clear he
          go_wp2
          go_ret
          exact ⟨by rw [Hfin2.out]; rfl, rfl⟩
        · have heb : ((c : Int) == (n : Int)) = false := by rw [beq_eq_false_iff_ne]; omega
          have hn : (signs2.take (k + 1)).contains n = false := by rw [Hst.out, HA.out, decide_eq_false he]; rfl
          have Hn := Lib.hid hn; clear hn Hin Hst he
          go_wp2
          go_round
          case rel => exact ⟨k + 1, by omega, by go_num, Hn.out⟩
          case measure => simp [intOf]; omega
      · obtain rfl : k = 18 := by omega
        have hfin2 : mayN n = false := by rw [Hfin.out]; exact HA.out
        have Hfin2 := Lib.hid hfin2; clear hfin2
        go_wp2
        go_ret
        exact ⟨by rw [Hfin2.out]; rfl, rfl⟩)
end Go.Proofs.YtfdfkhpoblembaaDoor
