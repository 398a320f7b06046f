/- parts.Is: whether a text is a part's name; it makes memory alone. -/
import Derived.Test.YtfdfkhpoblembaaDoorParts
namespace Go.Proofs.YtfdfkhpoblembaaDoor
open Go.RowKit Go.Proofs.YtfdfkhpoblembaaDoorW.PrintWords

def slashS : ByteArray := ⟨#[47]⟩
/-- What stands between strokes. -/
def cutB (s : ByteArray) : List ByteArray := Lib.splitB slashS 0 (Lib.countB s slashS) s
def goodPart (p : ByteArray) : Bool := decide (p.size ≠ 0) && !(bt p (p.size - 1) == 46)
def partIsB (s : ByteArray) : Bool :=
  decide (2 ≤ s.size) && decide (s.size ≤ 200) && (bt s 0 == 47) && (cutB (s.extract 1 s.size)).all goodPart && (bytesOf s).all partByte
/-- The library's variable that Index reads. -/
structure MaxLenAt (w : World) : Prop where
  mk' ::
  out : ∃ m, w.cell? ⟨0, 0, none⟩ = some (.int .i64 m)
theorem MaxLenAt.below {w w1 : World} (h : MaxLenAt w) (hb : Below w.heap.size w w1) : MaxLenAt w1 := by
  obtain ⟨m, hm⟩ := h.out
  exact ⟨m, pw_cell_below hb hm⟩
theorem split_any (s : ByteArray) (w : World) (hm : MaxLenAt w) (hs : s.size < 4294967281) :
    Calls Tryd.prog 34 #[.string s, .string slashS] w fun e w' => ∃ n, n = (cutB s).length ∧
      e = .returned (.slice (some ⟨w.heap.size, 0, none⟩) n n) ∧ w' = w.alloc (.cells ((cutB s).map Value.string).toArray 9) := by
  obtain ⟨m, hm⟩ := hm.out
  refine (Tryd.strings_Split s slashS m w hs hm (by decide)).mono ?_
  rintro e w' ⟨rfl, rfl⟩
  exact ⟨_, (by rw [cutB, Lib.splitB_all slashS (by decide) 0 _ s rfl]), rfl, rfl⟩
theorem cutB_length (s : ByteArray) : 1 ≤ (cutB s).length := by
  rw [cutB, Lib.splitB_all slashS (by decide) 0 _ s rfl]; omega
/-- A row of texts in a block of its own. -/
theorem strs_cell (W : World) (t : TypeId) (l : List ByteArray) (k : Nat) (h : k < l.length) :
    (W.alloc (.cells (l.map Value.string).toArray t)).cell? ⟨W.heap.size, k, none⟩ = some (.string (l[k])) := by
  rw [blk_cell (heap_alloc_new W _)]
  rw [List.getElem?_toArray, List.getElem?_map, List.getElem?_eq_getElem h]
  rfl
theorem splitB_small (sep : ByteArray) : ∀ (k : Nat) (s p : ByteArray), p ∈ Lib.splitB sep 0 k s → p.size ≤ s.size
  | 0, s, p, h => by
    rw [Lib.splitB_zero, List.mem_singleton] at h
    rw [h]; exact Nat.le_refl _
  | k + 1, s, p, h => by
    rw [Lib.splitB] at h
    split at h
    · rw [List.mem_singleton] at h
      rw [h]; exact Nat.le_refl _
    · rcases List.mem_cons.1 h with rfl | h
      · rw [ByteArray.size_extract]; omega
      · have := splitB_small sep k _ p h
        rw [ByteArray.size_extract] at this
        omega
theorem cutB_small (s p : ByteArray) (h : p ∈ cutB s) : p.size ≤ s.size := splitB_small _ _ _ _ h

def goodTo (l : List ByteArray) (k : Nat) : Bool := (l.take k).all goodPart
theorem goodTo_succ (l : List ByteArray) (k : Nat) (h : k < l.length) : goodTo l (k + 1) = (goodTo l k && goodPart l[k]) := by
  unfold goodTo
  rw [List.take_succ_eq_append_getElem h, List.all_append]
  simp only [List.all_cons, List.all_nil, Bool.and_true]
theorem goodTo_false (l : List ByteArray) (k : Nat) (h : k < l.length) (hp : goodPart l[k] = false) : l.all goodPart = false := by
  rw [List.all_eq_false]
  exact ⟨_, List.getElem_mem h, by simp [hp]⟩

set_option maxHeartbeats 400000 in
theorem partIs_long (s : ByteArray) (w : World) (hs : s.size ≤ 140737488351232) (hm : MaxLenAt w) (h2 : 2 ≤ s.size) (h3 : s.size ≤ 200) (h4 : bt s 0 = 47) :
    Calls Tryd.prog 22 #[.string s] w fun e w' => e = .returned (.bool (partIsB s)) ∧ Below w.heap.size w w' := by
  have hx0 : ∀ h : 0 < s.size, ((s[0]'h).toNat : Int) = bt s 0 := bt_at s 0
  have h4b : (bt s 0 != 47) = false := by rw [h4]; rfl
  have Hm := Lib.hid hm
  have hfin : partIsB s = ((cutB (s.extract 1 s.size)).all goodPart && (bytesOf s).all partByte) := by
    unfold partIsB; rw [h4]; simp [h2, h3]
  have Hfin := Lib.hid hfin; clear hfin h4
  have q0 : (0 < s.size) = True := eq_true (by omega)
  have hlt : decide ((s.size : Int) < 2) = false := by simp; omega
  have hgt : decide ((200 : Int) < s.size) = false := by simp; omega
  go_enter Tryd.func22, Tryd.ntmps22
  go_wp2_with (go_at_call 34; refine (split_any _ _ Hm.out (by rw [ByteArray.size_extract]; omega)).mono ?_; rintro e w' ⟨n, hn, rfl, rfl⟩)
  have hcells := fun k hk => strs_cell w 9 (cutB (s.extract 1 s.size)) k hk
  have hB0 := (Below.refl w.heap.size w).alloc (Nat.le_refl _) (.cells (List.map Value.string (cutB (s.extract 1 s.size))).toArray 9)
  have hsm : ∀ p, p ∈ cutB (s.extract 1 s.size) → p.size ≤ 200 := fun p hp => by
    have := cutB_small _ p hp
    rw [ByteArray.size_extract] at this
    omega
  have hl : (cutB (s.extract 1 s.size)).length ≤ 9223372036854775807 := by
    have := Lib.splitB_length_le slashS 0 (Lib.countB (s.extract 1 s.size) slashS) (s.extract 1 s.size)
    have h5 := Lib.countB_le slashS (by decide) _ (s.extract 1 s.size) (Nat.le_refl _)
    rw [ByteArray.size_extract] at h5
    show (Lib.splitB _ _ _ _).length ≤ _
    omega
  generalize cutB (s.extract 1 s.size) = l at hcells Hfin hB0 hsm hl ⊢
  generalize w.alloc (Obj.cells (List.map Value.string l).toArray 9) = W0 at hcells hB0 ⊢
  have Hsm := Lib.hid hsm; clear hsm
  have HB := Lib.hid hB0; clear hB0
  have Hc := Lib.hid hcells; clear hcells
  clear hx0 h4b q0
  go_loop [23] (fun i => ∃ k : Nat, k ≤ l.length ∧ i = .int .i64 k ∧ goodTo l k = true) (fun i => l.length - (intOf i).toNat)
  case atStart => exact ⟨0, Nat.zero_le _, rfl, by simp [goodTo]⟩
  case round =>
    obtain ⟨k, hk, rfl, hA⟩ := hrel
    have HA := Lib.hid hA; clear hA
    by_cases hkl : k < l.length
    · have hcell := Hc.out k hkl
      have hps := Hsm.out _ (List.getElem_mem hkl)
      have hr := goodTo_succ l k hkl
      have hf := goodTo_false l k hkl
      have Hr := Lib.hid hr; clear hr
      have Hf := Lib.hid hf; clear hf
      generalize l[k] = p at hcell hps Hr Hf
      by_cases h0 : p.size = 0
      · have he := isEmpty_of h0
        have hfin2 : partIsB s = false := by rw [Hfin.out, Hf.out (by simp [goodPart, h0])]; rfl
        have Hfin2 := Lib.hid hfin2; clear hfin2 h0
        go_wp2
        go_ret
        exact ⟨by rw [Hfin2.out]; rfl, HB.out⟩
      · have he := notEmpty_of h0
        obtain ⟨m, hm1⟩ : ∃ m, p.size = m + 1 := ⟨p.size - 1, by omega⟩
        have hx1 : ∀ h : m < p.size, ((p[m]'h).toNat : Int) = bt p m := bt_at p m
        have hgp : goodPart p = !(bt p m == 46) := by unfold goodPart; simp [hm1]
        have Hgp := Lib.hid hgp; clear hgp
        by_cases h46 : bt p m = 46
        · have h46b : (bt p m == 46) = true := by rw [h46]; rfl
          have hfin2 : partIsB s = false := by rw [Hfin.out, Hf.out (by rw [Hgp.out, h46b]; rfl)]; rfl
          have Hfin2 := Lib.hid hfin2; clear hfin2 h0 h46
          go_wp2
          go_ret
          exact ⟨by rw [Hfin2.out]; rfl, HB.out⟩
        · have h46b : (bt p m == 46) = false := by simpa using h46
          have hgt : goodPart p = true := by rw [Hgp.out, h46b]; rfl
          have Hgt := Lib.hid hgt; clear hgt h0 h46
          go_wp2
          go_round
          case rel => exact ⟨k + 1, by omega, by go_num, by rw [Hr.out, HA.out, Hgt.out]; rfl⟩
          case measure => simp [intOf]; omega
    · obtain rfl : k = l.length := by omega
      have hAll : l.all goodPart = true := by
        have := HA.out
        rwa [goodTo, List.take_length] at this
      have HAll := Lib.hid hAll; clear hAll
      clear HA
      go_wp2
      go_loopw [40] (fun i wr => ∃ k : Nat, k ≤ s.size ∧ i = .int .i64 k ∧ allTo partByte s k = true ∧ Below w.heap.size w wr) (fun i _ => s.size - (intOf i).toNat)
      case atStart => exact ⟨0, Nat.zero_le _, rfl, allTo_zero _ _, HB.out⟩
      case round =>
        obtain ⟨k, hk2, rfl, hA, hBr⟩ := hrel
        have HA := Lib.hid hA; clear hA
        have HBr := Lib.hid hBr; clear hBr
        by_cases hkl2 : k < s.size
        · have hr := allTo_succ partByte s k hkl2
          have hf := allTo_false partByte s k hkl2
          have hb1 : ((s[k]).toNat : Int) ≤ 255 := by have := (s[k]).toNat_lt; omega
          have hb0 : 0 ≤ ((s[k]).toNat : Int) := by omega
          have Hr := Lib.hid hr; clear hr
          have Hf := Lib.hid hf; clear hf
          cases hpb : partByte ((s[k]).toNat : Int)
          · have hfin2 : partIsB s = false := by rw [Hfin.out, HAll.out, Hf.out hpb]; rfl
            have Hfin2 := Lib.hid hfin2; clear hfin2
            go_wp2_with (go_at_call 35; refine (isByte_any _ _ hb0 hb1).mono ?_; rintro e w' ⟨rfl, rfl⟩)
            go_ret
            exact ⟨by rw [Hfin2.out]; rfl, HBr.out⟩
          · have Hpb := Lib.hid hpb
            go_wp2_with (go_at_call 35; refine (isByte_any _ _ hb0 hb1).mono ?_; rintro e w' ⟨rfl, rfl⟩)
            go_roundw
            case rel => exact ⟨k + 1, by omega, by go_num, by rw [Hr.out, HA.out, Hpb.out]; rfl, HBr.out⟩
            case measure => simp [intOf]; omega
        · obtain rfl : k = s.size := by omega
          have hfin2 : partIsB s = true := by rw [Hfin.out, HAll.out, ← allTo_all, HA.out]; rfl
          have Hfin2 := Lib.hid hfin2; clear hfin2
          go_wp2
          go_ret
          exact ⟨by rw [Hfin2.out]; rfl, HBr.out⟩
set_option maxHeartbeats 400000 in
theorem partIs_any (s : ByteArray) (w : World) (hs : s.size ≤ 140737488351232) (hm : MaxLenAt w) :
    Calls Tryd.prog 22 #[.string s] w fun e w' => e = .returned (.bool (partIsB s)) ∧ Below w.heap.size w w' := by
  by_cases h2 : 2 ≤ s.size
  · by_cases h3 : s.size ≤ 200
    · by_cases h4 : bt s 0 = 47
      · exact partIs_long s w hs hm h2 h3 h4
      · have h4b : (bt s 0 != 47) = true := by simpa using h4
        have hx0 : ∀ h : 0 < s.size, ((s[0]'h).toNat : Int) = bt s 0 := bt_at s 0
        have hfin : partIsB s = false := by unfold partIsB; simp [h4]
        have Hfin := Lib.hid hfin; clear hfin h4
        have q0 : (0 < s.size) = True := eq_true (by omega)
        have hlt : decide ((s.size : Int) < 2) = false := by simp; omega
        have hgt : decide ((200 : Int) < s.size) = false := by simp; omega
        go_enter Tryd.func22, Tryd.ntmps22
        go_wp2
        go_ret
        exact ⟨by rw [Hfin.out]; rfl, Below.refl _ _⟩
    · have hfin : partIsB s = false := by unfold partIsB; simp [h3]
      have Hfin := Lib.hid hfin; clear hfin
      have hlt : decide ((s.size : Int) < 2) = false := by simp; omega
      have hgt : decide ((200 : Int) < s.size) = true := by simp; omega
      go_enter Tryd.func22, Tryd.ntmps22
      go_wp2
      go_ret
      exact ⟨by rw [Hfin.out]; rfl, Below.refl _ _⟩
  · have hfin : partIsB s = false := by unfold partIsB; simp [h2]
    have Hfin := Lib.hid hfin; clear hfin
    have hlt : decide ((s.size : Int) < 2) = true := by simp; omega
    go_enter Tryd.func22, Tryd.ntmps22
    go_wp2
    go_ret
    exact ⟨by rw [Hfin.out]; rfl, Below.refl _ _⟩

/-- The last but one of the texts between strokes is '_rels'. -/
def inRelsB (s : ByteArray) : Bool := decide (1 < (cutB s).length) && (((cutB s).getD ((cutB s).length - 2) ByteArray.empty).data.toList == [95, 114, 101, 108, 115])
set_option maxHeartbeats 400000 in
theorem inRels_any (s : ByteArray) (w : World) (hs : s.size ≤ 4000000000) (hm : MaxLenAt w) :
    Calls Tryd.prog 24 #[.string s] w fun e w' => e = .returned (.bool (inRelsB s)) ∧ Below w.heap.size w w' := by
  have Hm := Lib.hid hm; clear hm
  by_cases h1 : 1 < (cutB s).length
  · obtain ⟨m, hm1⟩ : ∃ m, (cutB s).length = m + 2 := ⟨(cutB s).length - 2, by omega⟩
    have hcell := strs_cell w 9 (cutB s) m (by omega)
    have hfin : inRelsB s = ((cutB s)[m].data.toList == [95, 114, 101, 108, 115]) := by
      unfold inRelsB
      have e : (cutB s).getD ((cutB s).length - 2) ByteArray.empty = (cutB s)[m] := by
        have e2 : (cutB s).length - 2 = m := by omega
        rw [e2, List.getD_eq_getElem?_getD, List.getElem?_eq_getElem (show m < (cutB s).length by omega)]
        rfl
      rw [e, decide_eq_true h1]
      rfl
    have Hfin := Lib.hid hfin; clear hfin h1
    have hmb : m ≤ 4000000000 := by
      have := Lib.splitB_length_le slashS 0 (Lib.countB s slashS) s
      have h5 := Lib.countB_le slashS (by decide) _ s (Nat.le_refl _)
      have h6 : (cutB s).length ≤ Lib.countB s slashS + 1 := this
      omega
    have hd : decide (1 < ((m + 2 : Nat) : Int)) = true := by simp; omega
    generalize (cutB s)[m] = q at hcell Hfin
    go_enter Tryd.func24, Tryd.ntmps24
    go_wp2_with (go_at_call 34; refine (split_any _ _ Hm.out (by omega)).mono ?_; rintro e w' ⟨n, hn, rfl, rfl⟩)
    go_ret
    exact ⟨by rw [Hfin.out, ← ByteArray.toList_eq]; rfl, (Below.refl _ _).alloc (Nat.le_refl _) _⟩
  · have hd : decide (1 < ((cutB s).length : Int)) = false := by simp; omega
    have hfin : inRelsB s = false := by unfold inRelsB; rw [decide_eq_false h1]; rfl
    have Hfin := Lib.hid hfin; clear hfin h1
    go_enter Tryd.func24, Tryd.ntmps24
    go_wp2_with (go_at_call 34; refine (split_any _ _ Hm.out (by omega)).mono ?_; rintro e w' ⟨n, hn, rfl, rfl⟩)
    go_ret
    exact ⟨by rw [Hfin.out]; rfl, (Below.refl _ _).alloc (Nat.le_refl _) _⟩

def typesS : ByteArray := ⟨#[47, 91, 67, 111, 110, 116, 101, 110, 116, 95, 84, 121, 112, 101, 115, 93, 46, 120, 109, 108]⟩
def isNameB (s : ByteArray) : Bool := partIsB s && !((lowS s).data.toList == (lowS typesS).data.toList) && !inRelsB (lowS s)
set_option maxHeartbeats 400000 in
theorem isName_any (s : ByteArray) (w : World) (hs : s.size ≤ 4000000000) (hm : MaxLenAt w) :
    Calls Tryd.prog 13 #[.string s] w fun e w' => e = .returned (.bool (isNameB s)) ∧ Below w.heap.size w w' := by
  have Hm := Lib.hid hm; clear hm
  cases hP : partIsB s
  · have hfin : isNameB s = false := by unfold isNameB; rw [hP]; rfl
    have Hfin := Lib.hid hfin; clear hfin
    have HP := Lib.hid hP; clear hP
    go_enter Tryd.func13, Tryd.ntmps13
    go_wp2_with (go_at_call 22; refine (partIs_any _ _ (by omega) Hm.out).mono ?_; rw [HP.out]; rintro e w1 ⟨rfl, hb1⟩)
    go_ret
    exact ⟨by rw [Hfin.out]; rfl, hb1⟩
  · have HP := Lib.hid hP; clear hP
    cases hL : ((lowS s).data.toList == (lowS typesS).data.toList)
    · have hfin : isNameB s = !inRelsB (lowS s) := by unfold isNameB; rw [HP.out, hL]; rfl
      have Hfin := Lib.hid hfin; clear hfin
      have hL1 : ((lowS s).toList == (lowS typesS).toList) = false := by rw [ByteArray.toList_eq, ByteArray.toList_eq]; exact hL
      clear hL
      have hT : ByteArray.mk #[47, 91, 67, 111, 110, 116, 101, 110, 116, 95, 84, 121, 112, 101, 115, 93, 46, 120, 109, 108] = typesS := rfl
      have HT := Lib.hid hT; clear hT
      go_enter Tryd.func13, Tryd.ntmps13
      go_wp2_with fail
      refine (partIs_any _ _ (by omega) Hm.out).mono ?_
      rw [HP.out]
      rintro e w1 ⟨rfl, hb1⟩
      go_wp2_with fail
      refine (lower_any _ _ (by omega)).mono ?_
      rintro e w2 ⟨rfl, hb2⟩
      go_wp2_with fail
      rw [HT.out]
      refine (lower_any _ _ (by decide)).mono ?_
      rintro e w3 ⟨rfl, hb3⟩
      go_wp2_with fail
      refine (lower_any _ _ (by omega)).mono ?_
      rintro e w4 ⟨rfl, hb4⟩
      go_wp2_with fail
      have hb5 := bb (bb (bb hb1 hb2) hb3) hb4
      refine (inRels_any _ _ (by rw [lowS_size]; omega) (Hm.out.below hb5)).mono ?_
      rintro e w5 ⟨rfl, hb6⟩
      go_wp2
      go_ret
      exact ⟨by rw [Hfin.out]; rfl, bb hb5 hb6⟩
    · have hfin : isNameB s = false := by unfold isNameB; rw [HP.out, hL]; rfl
      have Hfin := Lib.hid hfin; clear hfin
      have hL1 : ((lowS s).toList == (lowS typesS).toList) = true := by rw [ByteArray.toList_eq, ByteArray.toList_eq]; exact hL
      have HL1 := Lib.hid hL1
      clear hL hL1
      have hT : ByteArray.mk #[47, 91, 67, 111, 110, 116, 101, 110, 116, 95, 84, 121, 112, 101, 115, 93, 46, 120, 109, 108] = typesS := rfl
      have HT := Lib.hid hT; clear hT
      go_enter Tryd.func13, Tryd.ntmps13
      go_wp2_with fail
      refine (partIs_any _ _ (by omega) Hm.out).mono ?_
      rw [HP.out]
      rintro e w1 ⟨rfl, hb1⟩
      go_wp2_with fail
      refine (lower_any _ _ (by omega)).mono ?_
      rintro e w2 ⟨rfl, hb2⟩
      go_wp2_with fail
      rw [HT.out]
      refine (lower_any _ _ (by decide)).mono ?_
      rintro e w3 ⟨rfl, hb3⟩
      have hL2 := HL1.out
      go_wp2
      go_ret
      exact ⟨by rw [Hfin.out]; rfl, bb (bb hb1 hb2) hb3⟩
end Go.Proofs.YtfdfkhpoblembaaDoor
