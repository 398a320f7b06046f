/- opc.isKind, parts.isByte: what they answer; the world is as it was, but for draws. -/
import Derived.Test.YtfdfkhpoblembaaDoorBasic
import Derived.Outline
namespace Go.Proofs.YtfdfkhpoblembaaDoor
open Go.RowKit Go.Proofs.YtfdfkhpoblembaaDoorW.PrintWords

/-- A loop over a text's bytes that leaves at the first one that is bad. -/
def allTo (p : Int → Bool) (s : ByteArray) (k : Nat) : Bool := ((bytesOf s).take k).all p
theorem allTo_zero (p : Int → Bool) (s : ByteArray) : allTo p s 0 = true := by simp [allTo]
theorem bytesOf_getElem? (s : ByteArray) (k : Nat) (h : k < s.size) : (bytesOf s)[k]? = some ((s[k]).toNat : Int) := by
  simp [bytesOf, Array.getElem?_eq_getElem (show k < s.data.size from h)]; rfl
theorem allTo_succ (p : Int → Bool) (s : ByteArray) (k : Nat) (h : k < s.size) : allTo p s (k + 1) = (allTo p s k && p ((s[k]).toNat : Int)) := by
  have hl : k < (bytesOf s).length := by rw [bytesOf_length]; exact h
  have e : (bytesOf s)[k] = ((s[k]).toNat : Int) := by
    have := bytesOf_getElem? s k h
    rw [List.getElem?_eq_getElem hl] at this
    exact Option.some.inj this
  simp [allTo, List.take_succ_eq_append_getElem hl, e]
theorem allTo_all (p : Int → Bool) (s : ByteArray) : allTo p s s.size = (bytesOf s).all p := by
  simp [allTo, List.take_of_length_le (Nat.le_of_eq (bytesOf_length s))]
theorem allTo_false (p : Int → Bool) (s : ByteArray) (k : Nat) (h : k < s.size) (hp : p ((s[k]).toNat : Int) = false) : (bytesOf s).all p = false := by
  rw [List.all_eq_false]
  exact ⟨_, List.mem_of_getElem? (bytesOf_getElem? s k h), by simp [hp]⟩

def kindByte (c : Int) : Bool := decide (33 ≤ c) && decide (c ≤ 126)
def isKindB (s : ByteArray) : Bool := (bytesOf s).all kindByte && decide (0 < s.size) && decide (s.size ≤ 200)

set_option maxHeartbeats 400000 in
theorem isKind_any (s : ByteArray) (w : World) (hs : s.size ≤ 140737488351232) :
    Calls Tryd.prog 14 #[.string s] w fun e w' => e = .returned (.bool (isKindB s)) ∧ Drawn0 w w' := by
  go_enter Tryd.func14, Tryd.ntmps14
  go_wp2
  go_loop [6] (fun i => ∃ k : Nat, k ≤ s.size ∧ i = .int .i64 k ∧ allTo kindByte s k = true) (fun i => s.size - (intOf i).toNat)
  case atStart => exact ⟨0, Nat.zero_le _, rfl, allTo_zero _ _⟩
  case round =>
    obtain ⟨k, hk, rfl, hA⟩ := hrel
    have HA := Lib.hid hA; clear hA
    by_cases hlt : k < s.size
    · have hr := allTo_succ kindByte s k hlt
      have hf := allTo_false kindByte s k hlt
      have hb : ((s[k]).toNat : Int) ≤ 255 := by have := (s[k]).toNat_lt; omega
      have Hr := Lib.hid hr; clear hr
      have Hf := Lib.hid hf; clear hf
      by_cases h1 : ((s[k]).toNat : Int) < 33
      · have hfin : isKindB s = false := by unfold isKindB; rw [Hf.out (by simp [kindByte]; omega)]; simp
        have Hfin := Lib.hid hfin; clear hfin
        go_wp2
        go_ret
        exact ⟨by rw [Hfin.out]; rfl, Drawn0.refl _⟩
      · by_cases h2 : (126 : Int) < ((s[k]).toNat : Int)
        · have hfin : isKindB s = false := by unfold isKindB; rw [Hf.out (by simp [kindByte]; omega)]; simp
          have Hfin := Lib.hid hfin; clear hfin
          go_wp2
          go_ret
          exact ⟨by rw [Hfin.out]; rfl, Drawn0.refl _⟩
        · have hp : kindByte ((s[k]).toNat : Int) = true := by simp [kindByte]; omega
          have Hp := Lib.hid hp; clear hp
          go_wp2
          go_round
          case rel => exact ⟨k + 1, by omega, by go_num, by rw [Hr.out, HA.out, Hp.out]; rfl⟩
          case measure => simp [intOf]; omega
    · obtain rfl : k = s.size := by omega
      have HA2 := Lib.hid ((allTo_all kindByte s).symm.trans HA.out)
      by_cases h0 : s.size = 0
      · have he := isEmpty_of h0
        have hfin : isKindB s = false := by unfold isKindB; simp [h0]
        have Hfin := Lib.hid hfin; clear hfin h0
        go_wp2
        go_ret
        exact ⟨by rw [Hfin.out]; rfl, Drawn0.refl _⟩
      · have he := notEmpty_of h0
        by_cases h1 : s.size ≤ 200
        · have hd : decide ((s.size : Int) ≤ 200) = true := by simp; omega
          have hfin : isKindB s = true := by unfold isKindB; rw [HA2.out]; simp [h1]; omega
          have Hfin := Lib.hid hfin; clear hfin h0
          go_wp2
          go_ret
          exact ⟨by rw [Hfin.out]; rfl, Drawn0.refl _⟩
        · have hd : decide ((s.size : Int) ≤ 200) = false := by simp; omega
          have hfin : isKindB s = false := by unfold isKindB; rw [HA2.out]; simp [h1]
          have Hfin := Lib.hid hfin; clear hfin h0
          go_wp2
          go_ret
          exact ⟨by rw [Hfin.out]; rfl, Drawn0.refl _⟩
end Go.Proofs.YtfdfkhpoblembaaDoor
