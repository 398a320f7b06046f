/- The reference of chapters 12 and 13: Is, folder and IsName tell what opc's own tell. -/
import Derived.Test.YtfdfkhpoblembaaDoorRefCut
import Derived.Deep.QuietTactic
import Derived.BigQuiet
import Derived.IntWalk
namespace Go.Proofs.YtfdfkhpoblembaaDoor
open Go.RowKit Go.Proofs.YtfdfkhpoblembaaDoorW.PrintWords

theorem allPart_split (s : ByteArray) (h2 : 2 ≤ s.size) (h3 : s.size ≤ 200) (h4 : bt s 0 = 47) :
    partIsB s = ((cutB (s.extract 1 s.size)).all goodPart && (bytesOf s).all partByte) := by
  unfold partIsB; rw [h4]; simp [h2, h3]
set_option maxHeartbeats 2000000 in
theorem refIs_long (s : ByteArray) (w : World) (h2 : 2 ≤ s.size) (h3 : s.size ≤ 200) (h4 : bt s 0 = 47) :
    Calls Tryd.prog 12 #[.string s] w fun e w' => e = .returned (.bool (partIsB s)) ∧ Below w.heap.size w w' := by
  have hx0 : ∀ h : 0 < s.size, ((s[0]'h).toNat : Int) = bt s 0 := bt_at s 0
  have h4b : (bt s 0 != 47) = false := by rw [h4]; rfl
  have Hfin := Lib.hid (allPart_split s h2 h3 h4)
  have q0 : (0 < s.size) = True := eq_true (by omega)
  have hlt : decide ((s.size : Int) < 2) = false := by simp; omega
  have hgt : decide ((200 : Int) < s.size) = false := by simp; omega
  clear h4
  go_enter Tryd.func12, Tryd.ntmps12
  go_wp2
  clear hx0 h4b q0
  go_loopw [3] (fun i wr => ∃ k : Nat, k ≤ s.size ∧ i = .int .i64 k ∧ allTo partByte s k = true ∧ Below w.heap.size w wr) (fun i _ => s.size - (intOf i).toNat)
  case atStart => exact ⟨0, Nat.zero_le _, rfl, allTo_zero _ _, Below.refl _ _⟩
  case round =>
    obtain ⟨k, hk2, rfl, hA, hBr⟩ := hrel
    have HA := Lib.hid hA; clear hA
    have HBr := Lib.hid hBr; clear hBr
    by_cases hkl2 : k < s.size
    · have hr := allTo_succ partByte s k hkl2
      have hf := allTo_false partByte s k hkl2
      have hb1 : (s[k]).toNat < 256 := (s[k]).toNat_lt
      have Hr := Lib.hid hr; clear hr
      have Hf := Lib.hid hf; clear hf
      have Hb := Lib.hid hb1; clear hb1
      cases hpb : partByte ((s[k]).toNat : Int)
      · have hfin2 : partIsB s = false := by rw [Hfin.out, Hf.out hpb, Bool.and_false]
        have Hfin2 := Lib.hid hfin2; clear hfin2
        go_wp2_with (go_at_call 20; refine (refMay_any _ _ Hb.out).mono ?_; rintro e w' ⟨rfl, rfl⟩)
        go_ret
        exact ⟨by rw [Hfin2.out]; rfl, HBr.out⟩
      · have Hpb := Lib.hid hpb
        go_wp2_with (go_at_call 20; refine (refMay_any _ _ Hb.out).mono ?_; rintro e w' ⟨rfl, rfl⟩)
        go_roundw
        case rel => exact ⟨k + 1, by omega, by go_num, by rw [Hr.out, HA.out, Hpb.out]; rfl, HBr.out⟩
        case measure => simp [intOf]; omega
    · obtain rfl : k = s.size := by omega
      have hfin2 : partIsB s = (cutB (s.extract 1 s.size)).all goodPart := by rw [Hfin.out, ← allTo_all, HA.out, Bool.and_true]
      have Hfin2 := Lib.hid hfin2; clear hfin2 Hfin
      clear hlt hgt
      have hxs : (s.extract 1 s.size).size ≤ 4000000000 := by rw [ByteArray.size_extract]; omega
      have hsm : ∀ p, p ∈ cutB (s.extract 1 s.size) → p.size ≤ 200 := fun p hp => by
        have := cutB_small _ p hp
        rw [ByteArray.size_extract] at this
        omega
      have hl : (cutB (s.extract 1 s.size)).length ≤ 201 := by
        rw [cutB_done]
        have h5 := doneTo_len (s.extract 1 s.size) (s.extract 1 s.size).size
        have h6 : (s.extract 1 s.size).size = s.size - 1 := by rw [ByteArray.size_extract]; omega
        rw [List.length_append, List.length_singleton]
        omega
      have Hxs := Lib.hid hxs; have Hsm := Lib.hid hsm; have Hl := Lib.hid hl; clear hxs hsm hl
      go_wp2_with fail
      refine (refCut_any _ _ Hxs.out).mono ?_
      rintro e w1 ⟨v, rfl, ho, hb1⟩
      have HB := Lib.hid (bb HBr.out hb1)
      have hl := Hl.out
      generalize cutB (s.extract 1 s.size) = l at Hfin2 Hsm ho hl
      obtain ⟨A, c, rfl⟩ := own_slice ho
      have HO := Lib.hid ho
      clear ho hb1 Hl Hxs HBr
      go_wp2
      go_loopw [5] (fun i wr => ∃ k : Nat, k ≤ l.length ∧ i = .int .i64 k ∧ goodTo l k = true ∧ Below w.heap.size w wr ∧ wr.ownsRow 0 9 1 (.slice A l.length c) l.length (l.map Value.string)) (fun i _ => l.length - (intOf i).toNat)
      case atStart => exact ⟨0, Nat.zero_le _, rfl, by simp [goodTo], HB.out, own_weaken HO.out (Nat.zero_le _)⟩
      case round =>
        obtain ⟨k, hk, rfl, hA, hB, hO⟩ := hrel
        have HA := Lib.hid hA; clear hA
        clear HO HB
        have HB := Lib.hid hB; clear hB
        by_cases hkl : k < l.length
        · obtain ⟨g, rfl⟩ : ∃ g, A = some ⟨g, 0, none⟩ := by
            rcases hO.2 with ⟨h1, h2⟩ | ⟨g, cp, cur, h1, _⟩
            · omega
            · cases h1; exact ⟨_, rfl⟩
          have hcell := hO.cells (g := g) rfl k (.string l[k]) (by rw [List.getElem?_map, List.getElem?_eq_getElem hkl]; rfl)
          rw [add_plain] at hcell
          have HO := Lib.hid hO; clear hO
          have hps := Hsm.out _ (List.getElem_mem hkl)
          have hr := goodTo_succ l k hkl
          have hf := goodTo_false l k hkl
          have Hr := Lib.hid hr; clear hr
          have Hf := Lib.hid hf; clear hf
          generalize l[k] = p at hcell hps Hr Hf
          by_cases h0 : p.size = 0
          · have he := isEmpty_of h0
            have hfin2 : partIsB s = false := by rw [Hfin2.out, Hf.out (by simp [goodPart, h0])]
            have Hfin3 := Lib.hid hfin2; clear hfin2 h0
            go_wp2_with fail
            go_quiet (fail)
            go_wp2
            go_ret
            exact ⟨by rw [Hfin3.out]; rfl, bb HB.out (Drawn0.mk ⟨_, rfl⟩).below⟩
          · have he := notEmpty_of h0
            obtain ⟨m, hm1⟩ : ∃ m, p.size = m + 1 := ⟨p.size - 1, by omega⟩
            have hx1 : ∀ h : m < p.size, ((p[m]'h).toNat : Int) = bt p m := bt_at p m
            have hgp : goodPart p = !(bt p m == 46) := by unfold goodPart; simp [hm1]
            have Hgp := Lib.hid hgp; clear hgp
            by_cases h46 : bt p m = 46
            · have h46b : (bt p m == 46) = true := by rw [h46]; rfl
              have hfin2 : partIsB s = false := by rw [Hfin2.out, Hf.out (by rw [Hgp.out, h46b]; rfl)]
              have Hfin3 := Lib.hid hfin2; clear hfin2 h0 h46
              have hsum : IntKind.i64.wrap (((m + 1 : Nat) : Int) - 1) = (m : Int) := by rw [IntWalk.i64_in _ (by omega)]; omega
              have hm0 : (0 : Int) ≤ (m : Int) := by omega
              go_wp2_with fail
              go_quiet (fail)
              clear hsum
              go_wp2
              go_ret
              exact ⟨by rw [Hfin3.out]; rfl, bb HB.out (Drawn0.mk ⟨_, rfl⟩).below⟩
            · have h46b : (bt p m == 46) = false := by simpa using h46
              have hgt : goodPart p = true := by rw [Hgp.out, h46b]; rfl
              have Hgt := Lib.hid hgt; clear hgt h0 h46
              have hsum : IntKind.i64.wrap (((m + 1 : Nat) : Int) - 1) = (m : Int) := by rw [IntWalk.i64_in _ (by omega)]; omega
              have hm0 : (0 : Int) ≤ (m : Int) := by omega
              go_wp2_with fail
              go_quiet (fail)
              clear hsum
              go_wp2
              go_roundw
              case rel => exact ⟨k + 1, by omega, by go_num, by rw [Hr.out, HA.out, Hgt.out]; rfl, bb HB.out (Drawn0.mk ⟨_, rfl⟩).below, HO.out⟩
              case measure => simp [intOf]; omega
        · obtain rfl : k = l.length := by omega
          have hAll : l.all goodPart = true := by
            have := HA.out
            rwa [goodTo, List.take_length] at this
          have hfin3 : partIsB s = true := by rw [Hfin2.out, hAll]
          have Hfin3 := Lib.hid hfin3; clear hfin3 hAll
          clear HA hO
          go_wp2
          go_ret
          exact ⟨by rw [Hfin3.out]; rfl, HB.out⟩
set_option maxHeartbeats 1000000 in
theorem refIs_any (s : ByteArray) (w : World) (hs : s.size ≤ 140737488351232) :
    Calls Tryd.prog 12 #[.string s] w fun e w' => e = .returned (.bool (partIsB s)) ∧ Below w.heap.size w w' := by
  by_cases h2 : 2 ≤ s.size
  · by_cases h3 : s.size ≤ 200
    · by_cases h4 : bt s 0 = 47
      · exact refIs_long s w h2 h3 h4
      · have h4b : (bt s 0 != 47) = true := by simpa using h4
        have hfin : partIsB s = false := by
          have : (bt s 0 == 47) = false := by simpa using h4
          unfold partIsB; rw [this]; simp
        have Hfin := Lib.hid hfin; clear hfin h4
        have hx0 : ∀ h : 0 < s.size, ((s[0]'h).toNat : Int) = bt s 0 := bt_at s 0
        have q0 : (0 < s.size) = True := eq_true (by omega)
        have hlt : decide ((s.size : Int) < 2) = false := by simp; omega
        have hgt : decide ((200 : Int) < s.size) = false := by simp; omega
        go_enter Tryd.func12, Tryd.ntmps12
        go_wp2
        go_ret
        exact ⟨by rw [Hfin.out]; rfl, Below.refl _ _⟩
    · have hfin : partIsB s = false := by unfold partIsB; simp [h3]
      have Hfin := Lib.hid hfin; clear hfin
      have hlt : decide ((s.size : Int) < 2) = false := by simp; omega
      have hgt : decide ((200 : Int) < s.size) = true := by simp; omega
      go_enter Tryd.func12, Tryd.ntmps12
      go_wp2
      go_ret
      exact ⟨by rw [Hfin.out]; rfl, Below.refl _ _⟩
  · have hfin : partIsB s = false := by unfold partIsB; simp [h2]
    have Hfin := Lib.hid hfin; clear hfin
    have hlt : decide ((s.size : Int) < 2) = true := by simp; omega
    go_enter Tryd.func12, Tryd.ntmps12
    go_wp2
    go_ret
    exact ⟨by rw [Hfin.out]; rfl, Below.refl _ _⟩

/-- What folder remembers after k bytes: the last piece that was done. -/
theorem doneTo_hit (s : ByteArray) (k : Nat) (h : bt s k = 47) : doneTo s (k + 1) = ((doneTo s k).1 ++ [s.extract (doneTo s k).2 k], k + 1) := by rw [doneTo, if_pos h]
theorem doneTo_miss (s : ByteArray) (k : Nat) (h : bt s k ≠ 47) : doneTo s (k + 1) = doneTo s k := by rw [doneTo, if_neg h]
set_option maxRecDepth 100000 in
set_option maxHeartbeats 1000000 in
theorem refFolder_any (s : ByteArray) (w : World) (hs : s.size ≤ 140737488351232) :
    Calls Tryd.prog 11 #[.string s] w fun e w' => ∃ r, e = .returned (.tuple #[.string (dirB s), .string r]) ∧ Drawn0 w w' := by
  go_enter Tryd.func11, Tryd.ntmps11
  go_wp2
  go_loop [4, 5, 6] (fun fr l i => ∃ k : Nat, k ≤ s.size ∧ i = .int .i64 k ∧ fr = .int .i64 (doneTo s k).2 ∧ l = .string ((doneTo s k).1.getLastD ByteArray.empty)) (fun _ _ i => s.size - (intOf i).toNat)
  case atStart => exact ⟨0, Nat.zero_le _, rfl, rfl, rfl⟩
  case round =>
    obtain ⟨k, hk, rfl, rfl, rfl⟩ := hrel
    have hle := doneTo_le s k
    by_cases hlt : k < s.size
    · have hx : ∀ h : k < s.size, ((s[k]'h).toNat : Int) = bt s k := bt_at s k
      have Hhit := Lib.hid (doneTo_hit s k); have Hmiss := Lib.hid (doneTo_miss s k)
      generalize bt s k = c at hx Hhit Hmiss
      generalize hf : (doneTo s k).2 = f at hle Hhit ⊢
      have HF := Lib.hid hf; clear hf
      by_cases hc : c = 47
      · have hcb : (c == 47) = true := by rw [hc]; rfl
        have Hst2 := Lib.hid (Hhit.out hc); clear Hhit Hmiss
        clear hc
        go_wp2
        go_round
        case rel => exact ⟨k + 1, by omega, by go_num, by rw [Hst2.out]; go_num, by rw [Hst2.out]; simp⟩
        case measure => simp [intOf]; omega
      · have hcb : (c == 47) = false := beq_eq_false_iff_ne.2 hc
        have Hst2 := Lib.hid (Hmiss.out hc); clear Hhit Hmiss
        clear hc
        go_wp2
        go_round
        case rel => exact ⟨k + 1, by omega, by go_num, by rw [Hst2.out, HF.out], by rw [Hst2.out]⟩
        case measure => simp [intOf]; omega
    · obtain rfl : k = s.size := by omega
      have hd : (doneTo s s.size).1.getLastD ByteArray.empty = dirB s := rfl
      rw [hd]
      generalize (doneTo s s.size).2 = f at hle ⊢
      clear hd
      generalize hD : dirB s = d
      have HD := Lib.hid hD; clear hD
      go_wp2_with fail
      go_quiet (fail)
      go_wp2
      go_ret2
      exact ⟨_, by rw [HD.out]; rfl, ⟨⟨_, rfl⟩⟩⟩

end Go.Proofs.YtfdfkhpoblembaaDoor
