/- utf8.Valid at few bytes, all below 128. -/
import Derived.Test.YtfdfkhpoblembaaDoorBasic
import Derived.Outline
import Derived.BigQuiet
import Derived.Deep.QuietTactic
namespace Go.Proofs.YtfdfkhpoblembaaDoor
open Go.RowKit Go.Proofs.YtfdfkhpoblembaaDoorW.PrintWords

theorem info_u8 : ∃ i, Tryd.prog.info? 5 = some i ∧ i.size = 1 := by
  have h : (Tryd.prog.info? 5).map (fun i => (i.zero, i.size, i.bytes)) = some (some (.int .u8 0), 1, 1) := by kernel_rfl
  obtain ⟨i0, hi, hzz⟩ := Option.map_eq_some_iff.1 h
  simp only [Prod.mk.injEq] at hzz
  exact ⟨i0, hi, hzz.2.1⟩

set_option maxRecDepth 100000 in
set_option maxHeartbeats 1000000 in
theorem valid_short (A : Option Addr) (n c : Nat) (xs : List Int) (w : World) (hr : ReadsInt w .u8 A n xs) (hnc : n ≤ c) (h8 : n ≤ 9) (ha : ∀ x ∈ xs, 0 ≤ x ∧ x < 128) :
    Calls Tryd.prog 63 #[.slice A n c] w fun e w' => e = .returned (.bool true) ∧ Drawn0 w w' := by
  have Hr := Lib.hid hr; clear hr
  have Ha := Lib.hid ha; clear ha
  have hb : (n : Int) ≤ 9 := by omega
  have hc' : (n : Int) ≤ c := by omega
  go_enter Tryd.func63, Tryd.ntmps63
  go_wp2
  clear hb hc' hnc
  go_loop [0] (fun v => ∃ (A1 : Option Addr) (m : Nat) (ys : List Int), v = .slice A1 m m ∧ m ≤ 9 ∧ ReadsInt w .u8 A1 m ys ∧ Hid (∀ x ∈ ys, 0 ≤ x ∧ x < 128)) (fun v => match v with | .slice _ m _ => m | _ => 0)
  case atStart => exact ⟨A, n, xs, rfl, h8, Hr.out, Ha⟩
  case round =>
    obtain ⟨A1, m, ys, rfl, hm9, hR, HA⟩ := hrel
    by_cases h0 : 0 < m
    · obtain ⟨ad, rfl, hcell⟩ := ReadsInt.at_ hR 0 (by omega) (by omega)
      have hR2 : ReadsInt w .u8 (if m = 1 then some ad else some { block := ad.block, off := ad.off + 1 }) (m - 1) (ys.drop 1) := by
        have h := ReadsInt.drop_ (c := m) hR 1 (by omega) (Nat.le_refl _)
        simpa [Addr.add] using h
      have hl := hR.1
      replace hcell : w.cell? ad = some (.int .u8 (rd ys 0)) := by simpa [Addr.add] using hcell
      have hx : 0 ≤ rd ys 0 ∧ rd ys 0 < 128 := HA.out _ (by unfold rd; rw [List.getD_eq_getElem?_getD, List.getElem?_eq_getElem (show (0 : Int).toNat < ys.length by simp; omega)]; exact List.getElem_mem _)
      have Hl := Lib.hid hl; clear hl
      generalize rd ys 0 = x at hcell hx
      obtain ⟨hx0, hx1⟩ := hx
      have HR2 := Lib.hid hR2; clear hR2
      have HR := Lib.hid hR; clear hR
      have h1 : decide ((m : Int) - 1 > 8) = false := by simp; omega
      have e1 : ((m - 1 : Nat) : Int) = (m : Int) - 1 := by omega
      go_wp2
      go_round
      case rel => exact ⟨_, m - 1, ys.drop 1, rfl, by omega, HR2.out, Lib.hid fun x hx => HA.out x (List.mem_of_mem_drop hx)⟩
      case measure => simp; omega
    · obtain rfl : m = 0 := by omega
      go_wp2
      go_ret
      exact ⟨rfl, Drawn0.refl _⟩

theorem utfValid_short (A : Option Addr) (n c : Nat) (xs : List Int) (w : World) (hr : ReadsInt w .u8 A n xs) (hnc : n ≤ c) (h8 : n ≤ 9) (ha : ∀ x ∈ xs, 0 ≤ x ∧ x < 128) :
    Calls Tryd.prog 53 #[.slice A n c] w fun e w' => e = .returned (.bool true) ∧ Drawn0 w w' := by
  go_enter Tryd.func53, Tryd.ntmps53
  go_wp2_with fail
  refine (valid_short A n c xs w hr hnc h8 ha).mono ?_
  rintro e w' ⟨rfl, hd⟩
  go_wp2
  go_ret
  exact ⟨rfl, hd⟩
end Go.Proofs.YtfdfkhpoblembaaDoor
