/- xml.IsName, and xml.IsText at few bytes, all below 128. -/
import Derived.Test.YtfdfkhpoblembaaDoorValid
import Derived.Test.YtfdfkhpoblembaaDoorNames
import Derived.Laws.RangeString
import Derived.Laws.RangeAny
import Derived.LoopTactic
namespace Go.Proofs.YtfdfkhpoblembaaDoor
open Go.RowKit Go.Proofs.YtfdfkhpoblembaaDoorW.PrintWords

def firstByte (c : Int) : Bool := (decide (97 ≤ c) && decide (c ≤ 122)) || (decide (65 ≤ c) && decide (c ≤ 90)) || (c == 95) || decide (128 ≤ c)
def nextByte (c : Int) : Bool := firstByte c || (decide (48 ≤ c) && decide (c ≤ 57)) || (c == 46) || (c == 45)
theorem runeOk_ascii {c : Int} (h : 32 ≤ c) (h2 : c < 128) (w : World) :
    Calls Tryd.prog 52 #[.int .i32 c] w fun e w' => e = .returned (.bool true) ∧ w = w' := by
  have d1 : (c == 9) = false := by simp; omega
  have d2 : (c == 10) = false := by simp; omega
  have d3 : (c == 13) = false := by simp; omega
  have d4 : decide (32 ≤ c) = true := by simp; omega
  have d5 : decide (c ≤ 55295) = true := by simp; omega
  go_enter Tryd.func52, Tryd.ntmps52
  go_wp2
  go_ret
  exact ⟨rfl, rfl⟩

set_option maxHeartbeats 1000000 in
theorem isText_short (s : ByteArray) (w : World) (h9 : s.size ≤ 9) (ha : ∀ k (h : k < s.size), 32 ≤ ((s[k]'h).toNat : Int) ∧ ((s[k]'h).toNat : Int) < 128) :
    Calls Tryd.prog 40 #[.string s] w fun e w' => e = .returned (.bool true) ∧ Below w.heap.size w w' := by
  have kb := fun W => print_bytes (P := Tryd.prog) 9 22 5 Tryd.underlying9 Tryd.underlying22 Tryd.underlying5 s W
  have Ha := Lib.hid ha; clear ha
  go_enter Tryd.func40, Tryd.ntmps40
  go_wp2
  go_loopw [] (fun wr => ∃ pos : Nat, pos ≤ s.size ∧ wr = w.iter s pos) (fun wr => s.size - wr.iterPos w.heap.size)
  case atStart => exact ⟨0, Nat.zero_le _, rfl⟩
  case round =>
    obtain ⟨pos, hp0, rfl⟩ := hrel
    by_cases hp : pos < s.size
    · obtain ⟨hx0, hx1⟩ := Ha.out pos hp
      have hnx : ∀ ty, (Instr.next (.pointer (some ⟨w.heap.size, 0, none⟩)) true ty).run Tryd.prog (w.iter s pos) = _ := fun ty => run_next_ascii w s pos ty hp (by omega)
      clear kb
      generalize s[pos].toNat = c at hx0 hx1 hnx
      go_wp2_with (go_at_call 52; refine (runeOk_ascii hx0 hx1 _).mono ?_; rintro e w' ⟨rfl, rfl⟩)
      go_roundw
      case rel => exact ⟨pos + 1, by omega, rfl⟩
      case measure => simp; omega
    · have hnx : ∀ ty, (Instr.next (.pointer (some ⟨w.heap.size, 0, none⟩)) true ty).run Tryd.prog (w.iter s pos) = _ := fun ty => run_next_end w s pos ty hp
      have hB : Below w.heap.size w (w.iter s pos) := (Below.refl _ w).alloc (Nat.le_refl _) _
      have HB := Lib.hid hB; clear hB
      have hC := ConvRow.new (w.iter s pos) 5 s
      have hn := bytesOf_length s
      have hR := hC.reads (by rw [hn]; omega)
      rw [hn] at hR
      have hB2 := bytes_below (Below.refl (w.iter s pos).heap.size (w.iter s pos)) (Nat.le_refl _) 5 s
      have HR := Lib.hid hR; clear hR hC hn
      have HB2 := Lib.hid hB2; clear hB2
      have hall : ∀ x ∈ bytesOf s, 0 ≤ x ∧ x < 128 := by
        intro x hx
        obtain ⟨k, hk, rfl⟩ := List.mem_iff_getElem.1 hx
        have hk2 : k < s.size := by rwa [bytesOf_length] at hk
        have h := bytesOf_getElem? s k hk2
        rw [List.getElem?_eq_getElem hk] at h
        have h2 := Ha.out k hk2
        have h3 := Option.some.inj h
        omega
      have Hall := Lib.hid hall; clear hall
      go_wp2_with fail
      refine (utfValid_short _ _ _ _ _ HR.out (grownCap_ge _ _ _ _) h9 Hall.out).mono ?_
      rintro e w' ⟨rfl, hd⟩
      go_wp2
      go_ret
      exact ⟨rfl, bb (bb HB.out HB2.out) hd.below⟩
end Go.Proofs.YtfdfkhpoblembaaDoor
