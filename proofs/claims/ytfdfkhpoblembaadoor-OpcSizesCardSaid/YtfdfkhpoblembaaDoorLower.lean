/- opc.lower: it returns the text in small letters; it makes memory alone. -/
import Derived.Test.YtfdfkhpoblembaaDoorBasic
import Derived.Outline
namespace Go.Proofs.YtfdfkhpoblembaaDoor
open Go.RowKit Go.Proofs.YtfdfkhpoblembaaDoorW.PrintWords

set_option maxHeartbeats 400000 in
theorem lower_any (s : ByteArray) (w : World) (hs : s.size ≤ 140737488351232) :
    Calls Tryd.prog 23 #[.string s] w fun e w' => e = .returned (.string (lowS s)) ∧ Below w.heap.size w w' := by
  have kb := fun W => print_bytes (P := Tryd.prog) 9 22 5 Tryd.underlying9 Tryd.underlying22 Tryd.underlying5 s W
  go_enter Tryd.func23, Tryd.ntmps23
  go_wp2
  clear kb
  have hC0 := ConvRow.new w 5 s
  have hB0 := bytes_below (Below.refl w.heap.size w) (Nat.le_refl _) 5 s
  generalize grownCap w s.size 0 5 = cap
  generalize Lib.bytesWorld w 5 s = W0 at hC0 hB0 ⊢
  have hL : (bytesOf s).length = s.size := bytesOf_length s
  go_loopw [10] (fun i wr => ∃ k : Nat, k ≤ s.size ∧ i = .int .i64 k ∧ ConvRow wr w.heap.size 5 (lowTo (bytesOf s) k) ∧ Below w.heap.size w wr) (fun i _ => s.size - (intOf i).toNat)
  case atStart => exact ⟨0, Nat.zero_le _, rfl, by rw [lowTo_zero]; exact hC0, hB0⟩
  case round =>
    obtain ⟨k, hk, rfl, hC, hB⟩ := hrel
    clear hC0 hB0
    by_cases hlt : k < s.size
    · have hcell := hC.cell k (by rw [lowTo_length, hL]; exact hlt)
      have hfree := hC.free k (by rw [lowTo_length, hL]; exact hlt)
      rw [lowTo_at _ _ (by rw [hL]; exact hlt)] at hcell
      have hst := lowTo_step (bytesOf s) k (by rw [hL]; exact hlt)
      have hsm := lowTo_same (bytesOf s) k (by rw [hL]; exact hlt)
      obtain ⟨hr0, hr1⟩ := bytesOf_range s k
      generalize (bytesOf s).getD k 0 = c at hcell hst hsm hr0 hr1
      have Hst := Lib.hid hst; clear hst
      have Hsm := Lib.hid hsm; clear hsm
      have HL := Lib.hid hL; clear hL
      have HC := Lib.hid hC; clear hC
      by_cases h1 : 65 ≤ c
      · by_cases h2 : c ≤ 90
        · have e1 : c + 97 - 65 = lowI c := by unfold lowI; rw [if_pos ⟨h1, h2⟩]; omega
          have E1 := Lib.hid e1; clear e1
          go_wp2
          go_roundw
          case rel => exact ⟨k + 1, by omega, by go_num, by rw [← Hst.out, ← E1.out]; exact HC.out.set _ _, hB.setCell (Nat.le_refl _) _⟩
          case measure => simp [intOf]; omega
        · have e1 : lowI c = c := by unfold lowI; rw [if_neg (by omega)]
          have E1 := Lib.hid e1; clear e1
          go_wp2
          go_roundw
          case rel => exact ⟨k + 1, by omega, by go_num, by rw [Hsm.out E1.out]; exact HC.out, hB⟩
          case measure => simp [intOf]; omega
      · have e1 : lowI c = c := by unfold lowI; rw [if_neg (by omega)]
        have E1 := Lib.hid e1; clear e1
        go_wp2
        go_roundw
        case rel => exact ⟨k + 1, by omega, by go_num, by rw [Hsm.out E1.out]; exact HC.out, hB⟩
        case measure => simp [intOf]; omega
    · obtain rfl : k = s.size := by omega
      have hA : lowTo (bytesOf s) s.size = (bytesOf s).map lowI := by rw [← hL]; exact lowTo_all _
      rw [hA] at hC
      have hn : ((bytesOf s).map lowI).length = s.size := by simpa using hL
      have hR := hC.reads (by rw [hn]; omega)
      rw [hn] at hR
      have hcv := fun (c : Nat) => string_of_reads (P := Tryd.prog) (c := c) Tryd.underlying22 Tryd.underlying5 Tryd.underlying9 hR
      clear hR hC hA hL hn
      go_wp2
      go_ret
      exact ⟨rfl, hB⟩
end Go.Proofs.YtfdfkhpoblembaaDoor
