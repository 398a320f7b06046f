/- parts.isByte, parts.Is, opc.inRels, opc.isName: what they answer. -/
import Derived.Test.YtfdfkhpoblembaaDoorNames
import Derived.Test.YtfdfkhpoblembaaDoorLower
import Derived.Test.YtfdfkhpoblembaaDoorShelf
import Derived.Outline
namespace Go.Proofs.YtfdfkhpoblembaaDoor
open Go.RowKit Go.Proofs.YtfdfkhpoblembaaDoorW.PrintWords

def signsS : ByteArray := ⟨#[45, 46, 95, 126, 33, 36, 38, 39, 40, 41, 42, 43, 44, 59, 61, 58, 64, 47]⟩
def alnum (c : Int) : Bool := (decide (97 ≤ c) && decide (c ≤ 122)) || (decide (65 ≤ c) && decide (c ≤ 90)) || (decide (48 ≤ c) && decide (c ≤ 57))
def partByte (c : Int) : Bool := alnum c || decide (0 ≤ Lib.indexByte signsS.data.toList c.toNat.toUInt8)

set_option maxHeartbeats 400000 in
theorem isByte_any (c : Int) (w : World) (h0 : 0 ≤ c) (h1 : c ≤ 255) :
    Calls Tryd.prog 35 #[.int .u8 c] w fun e w' => e = .returned (.bool (partByte c)) ∧ w = w' := by
  have hc : c ≤ 47 ∨ (48 ≤ c ∧ c ≤ 57) ∨ (58 ≤ c ∧ c ≤ 64) ∨ (65 ≤ c ∧ c ≤ 90) ∨ (91 ≤ c ∧ c ≤ 96) ∨ (97 ≤ c ∧ c ≤ 122) ∨ 123 ≤ c := by omega
  have hfin : partByte c = if (48 ≤ c ∧ c ≤ 57) ∨ (65 ≤ c ∧ c ≤ 90) ∨ (97 ≤ c ∧ c ≤ 122) then true else decide (0 ≤ Lib.indexByte signsS.data.toList c.toNat.toUInt8) := by
    unfold partByte alnum
    split
    · rename_i h; rcases h with h | h | h <;> simp [h.1, h.2]
    · rename_i h
      have e : ((decide (97 ≤ c) && decide (c ≤ 122)) || (decide (65 ≤ c) && decide (c ≤ 90)) || (decide (48 ≤ c) && decide (c ≤ 57))) = false := by simp; omega
      rw [e]; rfl
  have Hfin := Lib.hid hfin; clear hfin
  rcases hc with hc | ⟨hc, hc'⟩ | ⟨hc, hc'⟩ | ⟨hc, hc'⟩ | ⟨hc, hc'⟩ | ⟨hc, hc'⟩ | hc
  all_goals
    first | have d1 : decide (c ≤ 122) = true := by (simp; omega) | have d1 : decide (c ≤ 122) = false := by (simp; omega)
    first | have d2 : decide (c ≤ 90) = true := by (simp; omega) | have d2 : decide (c ≤ 90) = false := by (simp; omega)
    first | have d3 : decide (c ≤ 57) = true := by (simp; omega) | have d3 : decide (c ≤ 57) = false := by (simp; omega)
    go_enter Tryd.func35, Tryd.ntmps35
    go_wp2_with (go_at_call 47; refine (Tryd.strings_IndexByte _ _ _).mono ?_; rintro e w' ⟨rfl, rfl⟩)
    go_ret
    refine ⟨?_, rfl⟩
    rw [Hfin.out]
    first
      | (rw [if_pos (by omega)]; rfl)
      | (rw [if_neg (by omega)]; rfl)
end Go.Proofs.YtfdfkhpoblembaaDoor
