/- opc.Relate of a first relationship of a Package: of, isRel, inserts. -/
import Derived.Test.YtfdfkhpoblembaaDoorText
import Derived.Test.YtfdfkhpoblembaaDoorAdd
namespace Go.Proofs.YtfdfkhpoblembaaDoor
open Go.RowKit Go.Proofs.YtfdfkhpoblembaaDoorW.PrintWords

/-- The walk of xml.isFirst and isNext at a small letter or a digit. -/
theorem isFirst_small {c : Int} (h : 97 ≤ c) (h2 : c ≤ 122) (w : World) :
    Calls Tryd.prog 51 #[.int .u8 c] w fun e w' => e = .returned (.bool true) ∧ w = w' := by
  have d1 : decide (97 ≤ c) = true := by simp; omega
  have d2 : decide (c ≤ 122) = true := by simp; omega
  go_enter Tryd.func51, Tryd.ntmps51
  go_wp2
  go_ret
  exact ⟨rfl, rfl⟩
theorem isFirst_digit {c : Int} (h : 48 ≤ c) (h2 : c ≤ 57) (w : World) :
    Calls Tryd.prog 51 #[.int .u8 c] w fun e w' => e = .returned (.bool false) ∧ w = w' := by
  have d1 : decide (97 ≤ c) = false := by simp; omega
  have d3 : decide (65 ≤ c) = false := by simp; omega
  have d5 : (c == 95) = false := by simp; omega
  have d6 : decide (128 ≤ c) = false := by simp; omega
  go_enter Tryd.func51, Tryd.ntmps51
  go_wp2
  go_ret
  exact ⟨rfl, rfl⟩
theorem isNext_small {c : Int} (h : (97 ≤ c ∧ c ≤ 122) ∨ (48 ≤ c ∧ c ≤ 57)) (w : World) :
    Calls Tryd.prog 50 #[.int .u8 c] w fun e w' => e = .returned (.bool true) ∧ w = w' := by
  rcases h with ⟨h, h2⟩ | ⟨h, h2⟩
  · go_enter Tryd.func50, Tryd.ntmps50
    go_wp2_with (go_at_call 51; refine (isFirst_small h h2 _).mono ?_; rintro e w' ⟨rfl, rfl⟩)
    go_ret
    exact ⟨rfl, rfl⟩
  · have d1 : decide (48 ≤ c) = true := by simp; omega
    have d2 : decide (c ≤ 57) = true := by simp; omega
    go_enter Tryd.func50, Tryd.ntmps50
    go_wp2_with (go_at_call 51; refine (isFirst_digit h h2 _).mono ?_; rintro e w' ⟨rfl, rfl⟩)
    go_ret
    exact ⟨rfl, rfl⟩

def r1S : ByteArray := ⟨#[114, 49]⟩
set_option maxHeartbeats 1000000 in
theorem isName_r1 (w : World) :
    Calls Tryd.prog 39 #[.string r1S] w fun e w' => e = .returned (.bool true) ∧ w = w' := by
  have hs : r1S.size = 2 := rfl
  have b0 : ∀ h : 0 < r1S.size, ((r1S[0]'h).toNat : Int) = 114 := fun _ => rfl
  have b1 : ∀ h : 1 < r1S.size, ((r1S[1]'h).toNat : Int) = 49 := fun _ => rfl
  have he : r1S.toList.isEmpty = false := notEmpty_of (by decide)
  generalize r1S = s at *
  go_enter Tryd.func39, Tryd.ntmps39
  go_wp2
  refine wp_loop_rounds 3 ?_
  rw [rounds_succ]
  go_wp2_with (go_at_call 50; refine (isNext_small (by omega) _).mono ?_; rintro e w' ⟨rfl, rfl⟩)
  rw [rounds_succ]
  go_wp2_with (go_at_call 50; refine (isNext_small (by omega) _).mono ?_; rintro e w' ⟨rfl, rfl⟩)
  rw [rounds_succ]
  go_wp2_with (go_at_call 51; refine (isFirst_small (by omega) (by omega) _).mono ?_; rintro e w' ⟨rfl, rfl⟩)
  go_ret
  exact ⟨rfl, rfl⟩

def tS : ByteArray := ⟨#[116]⟩
def axmlS : ByteArray := ⟨#[97, 46, 120, 109, 108]⟩
theorem ascii_of (s : ByteArray) (h : (bytesOf s).all (fun c => decide (32 ≤ c) && decide (c < 128)) = true) : ∀ k (h : k < s.size), 32 ≤ ((s[k]'h).toNat : Int) ∧ ((s[k]'h).toNat : Int) < 128 := by
  intro k hk
  have h2 := (List.all_eq_true.1 h) _ (List.mem_of_getElem? (bytesOf_getElem? s k hk))
  simpa using h2

/-- The first relationship, by which known asks. -/
def relV : Value := .agg #[.string r1S, .string tS, .string axmlS, .bool false]
set_option maxHeartbeats 1000000 in
theorem isRel_known (w : World) :
    Calls Tryd.prog 30 #[.agg #[.string r1S, .string tS, .string axmlS, .bool false]] w fun e w' => e = .returned (.bool true) ∧ Below w.heap.size w w' := by
  have h1 := Lib.hid (ascii_of r1S (by decide +kernel))
  have h2 := Lib.hid (ascii_of axmlS (by decide +kernel))
  have hk : isKindB tS = true := by decide +kernel
  have Hk := Lib.hid hk; clear hk
  have e1 : axmlS.toList.isEmpty = false := notEmpty_of (by decide)
  have s1 : r1S.size = 2 := rfl
  have s2 : axmlS.size = 5 := rfl
  go_enter Tryd.func30, Tryd.ntmps30
  go_wp2_with fail
  refine (isName_r1 _).mono ?_
  rintro e w' ⟨rfl, rfl⟩
  go_wp2_with fail
  refine (isText_short _ _ (by decide) h1.out).mono ?_
  rintro e w1 ⟨rfl, hb1⟩
  have c1 : w1.cell? ⟨w.heap.size, 1, none⟩ = some (.string tS) := box_cell hb1 1
  have c2 : w1.cell? ⟨w.heap.size, 2, none⟩ = some (.string axmlS) := box_cell hb1 2
  have c3 : w1.cell? ⟨w.heap.size, 0, none⟩ = some (.string r1S) := box_cell hb1 0
  have c9 : w1.cell? ⟨w.heap.size, 3, none⟩ = some (.bool false) := box_cell hb1 3
  go_wp2_with fail
  refine (isKind_any _ _ (by decide)).mono ?_
  rw [Hk.out]
  rintro e w2 ⟨rfl, hd2⟩
  have hb2 := hd2.below
  clear hd2
  have hlt : w.heap.size < w1.heap.size := box_lt hb1
  have c4 := (hb2.cell (p := ⟨w.heap.size, 2, none⟩) hlt).trans c2
  have c5 := (hb2.cell (p := ⟨w.heap.size, 3, none⟩) hlt).trans c9
  go_wp2_with fail
  refine (isText_short _ _ (by decide) h2.out).mono ?_
  rintro e w3 ⟨rfl, hb3⟩
  have hlt2 : w.heap.size < w2.heap.size := Nat.lt_of_lt_of_le hlt hb2.size
  have c6 := (hb3.cell (p := ⟨w.heap.size, 2, none⟩) hlt2).trans c4
  have c7 := (hb3.cell (p := ⟨w.heap.size, 3, none⟩) hlt2).trans c5
  go_wp2
  go_ret
  exact ⟨rfl, bb (bb (below_then (below_alloc (Below.refl _ w) _) (by simp) hb1) hb2) hb3⟩
end Go.Proofs.YtfdfkhpoblembaaDoor
