/- The law's same: two rows of the same bytes are the same. -/
import Derived.Test.YtfdfkhpoblembaaDoorAddAny
import Derived.Deep.QuietTactic
import Derived.BigQuiet
namespace Go.Proofs.YtfdfkhpoblembaaDoor
open Go.RowKit Go.Proofs.YtfdfkhpoblembaaDoorW.PrintWords

set_option maxHeartbeats 1000000 in
theorem same_true (A B : Option Addr) (n c d : Nat) (xs : List Int) (w : World) (ha : ReadsInt w .u8 A n xs) (hb : ReadsInt w .u8 B n xs) :
    Calls Tryd.prog 8 #[.slice A n c, .slice B n d] w fun e w' => e = .returned (.bool true) ∧ Below w.heap.size w w' := by
  have hn := ha.2.1
  have HA := Lib.hid ha; have HB := Lib.hid hb; clear ha hb
  go_enter Tryd.func8, Tryd.ntmps8
  go_wp2
  go_loopw [5] (fun i wr => ∃ k : Nat, k ≤ n ∧ i = .int .i64 k ∧ Below w.heap.size w wr) (fun i _ => n - (intOf i).toNat)
  case atStart => exact ⟨0, Nat.zero_le _, rfl, Below.refl _ _⟩
  case round =>
    obtain ⟨k, hk, rfl, hB⟩ := hrel
    by_cases hlt : k < n
    · obtain ⟨a, rfl, hca⟩ := HA.out.2.2 (by omega)
      obtain ⟨b, rfl, hcb⟩ := HB.out.2.2 (by omega)
      have ca := (hB.cell (World.block_lt_of_cell? w _ (hca k hlt))).trans (hca k hlt)
      have cb := (hB.cell (World.block_lt_of_cell? w _ (hcb k hlt))).trans (hcb k hlt)
      clear hca hcb
      generalize xs.getD k 0 = x at ca cb
      have hxx : (x != x) = false := by simp
      have HBd := Lib.hid hB; clear hB
      go_wp2_with fail
      go_quiet (fail)
      go_wp2
      go_roundw
      case rel => exact ⟨k + 1, by omega, by go_num, bb HBd.out (Drawn0.mk ⟨_, rfl⟩).below⟩
      case measure => simp [intOf]; omega
    · obtain rfl : k = n := by omega
      go_wp2
      go_ret
      exact ⟨rfl, hB⟩
end Go.Proofs.YtfdfkhpoblembaaDoor
