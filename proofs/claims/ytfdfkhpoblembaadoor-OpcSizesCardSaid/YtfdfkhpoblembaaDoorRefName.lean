/- The reference of chapter 13: IsName tells what opc's isName tells. -/
import Derived.Test.YtfdfkhpoblembaaDoorRefIs
namespace Go.Proofs.YtfdfkhpoblembaaDoor
open Go.RowKit Go.Proofs.YtfdfkhpoblembaaDoorW.PrintWords

theorem typesLow : (lowS typesS).data.toList = [47, 91, 99, 111, 110, 116, 101, 110, 116, 95, 116, 121, 112, 101, 115, 93, 46, 120, 109, 108] := by decide +kernel
theorem dirB_small (s : ByteArray) : (dirB s).size ≤ s.size := by
  unfold dirB
  rcases List.eq_nil_or_concat (doneTo s s.size).1 with h | ⟨D, d, h⟩
  · rw [h]; simp
  · have : d ∈ cutB s := by rw [cutB_done, h]; simp
    rw [h]
    simpa using cutB_small s d this
set_option maxRecDepth 100000 in
set_option maxHeartbeats 2000000 in
theorem refIsName_any (s : ByteArray) (w : World) (hs : s.size ≤ 140737488351232) :
    Calls Tryd.prog 4 #[.string s] w fun e w' => e = .returned (.bool (isNameB s)) ∧ Below w.heap.size w w' := by
  have hd := dirB_small s
  have hdir := inRels_dir s
  have hfin : isNameB s = (partIsB s && !((lowS s).data.toList == [47, 91, 99, 111, 110, 116, 101, 110, 116, 95, 116, 121, 112, 101, 115, 93, 46, 120, 109, 108]) && !((lowS (dirB s)).data.toList == [95, 114, 101, 108, 115])) := by
    rw [isNameB, typesLow, hdir]; rfl
  have Hfin := Lib.hid hfin; clear hfin hdir
  go_enter Tryd.func4, Tryd.ntmps4
  go_wp2_with fail
  refine (refFolder_any s w hs).mono ?_
  rintro e w1 ⟨r, rfl, hd1⟩
  have HB1 := Lib.hid hd1.below; clear hd1
  have Hd := Lib.hid (show (dirB s).size ≤ 140737488351232 by omega); clear hd
  generalize dirB s = d at Hfin Hd ⊢
  have Hls := Lib.hid hs; clear hs
  cases h1 : partIsB s
  · have hfin : isNameB s = false := by rw [Hfin.out, h1]; rfl
    have Hfin2 := Lib.hid hfin; clear hfin Hfin
    have H1 := Lib.hid h1; clear h1
    go_wp2_with (go_at_call 12; refine (refIs_any _ _ Hls.out).mono ?_; rw [H1.out]; rintro e w2 ⟨rfl, hb2⟩)
    go_ret
    exact ⟨by rw [Hfin2.out]; rfl, bb HB1.out hb2⟩
  · have H1 := Lib.hid h1
    cases h2 : ((lowS s).data.toList == [47, 91, 99, 111, 110, 116, 101, 110, 116, 95, 116, 121, 112, 101, 115, 93, 46, 120, 109, 108])
    · have hfin : isNameB s = !((lowS d).data.toList == [95, 114, 101, 108, 115]) := by rw [Hfin.out, h1, h2]; rfl
      have Hfin2 := Lib.hid hfin; clear hfin Hfin h1
      rw [← ByteArray.toList_eq] at h2
      go_wp2_with fail
      refine (refIs_any _ _ Hls.out).mono ?_
      rw [H1.out]
      rintro e w2 ⟨rfl, hb2⟩
      have HB2 := Lib.hid (bb HB1.out hb2); clear hb2
      go_wp2_with fail
      refine (refLower_any s _ Hls.out).mono ?_
      rintro e w3 ⟨rfl, hb3⟩
      have HB3 := Lib.hid (bb HB2.out hb3); clear hb3
      generalize lowS s = ls at h2
      cases h3 : ((lowS d).data.toList == [95, 114, 101, 108, 115])
      all_goals (
        have hfin : isNameB s = _ := Hfin2.out
        rw [h3] at hfin
        have Hfin3 := Lib.hid hfin; clear hfin Hfin2
        rw [← ByteArray.toList_eq] at h3
        go_wp2_with fail
        refine (refLower_any d _ Hd.out).mono ?_
        rintro e w4 ⟨rfl, hb4⟩
        have HB4 := Lib.hid (bb HB3.out hb4); clear hb4
        generalize lowS d = ld at h3 ⊢
        go_wp2
        go_ret
        exact ⟨by rw [Hfin3.out]; rfl, HB4.out⟩)
    · have hfin : isNameB s = false := by rw [Hfin.out, h1, h2]; rfl
      have Hfin2 := Lib.hid hfin; clear hfin Hfin h1
      rw [← ByteArray.toList_eq] at h2
      go_wp2_with fail
      refine (refIs_any _ _ Hls.out).mono ?_
      rw [H1.out]
      rintro e w2 ⟨rfl, hb2⟩
      have HB2 := Lib.hid (bb HB1.out hb2); clear hb2
      go_wp2_with fail
      refine (refLower_any s _ Hls.out).mono ?_
      rintro e w3 ⟨rfl, hb3⟩
      have HB3 := Lib.hid (bb HB2.out hb3); clear hb3
      generalize lowS s = ls at h2 ⊢
      go_wp2
      go_ret
      exact ⟨by rw [Hfin2.out]; rfl, HB3.out⟩
end Go.Proofs.YtfdfkhpoblembaaDoor
