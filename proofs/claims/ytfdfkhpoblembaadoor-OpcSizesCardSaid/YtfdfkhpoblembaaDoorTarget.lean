/- opc.Relate and what Target calls, at the values by which known asks. -/
import Derived.Test.YtfdfkhpoblembaaDoorInserts
import Derived.Laws.ShiftsVar
namespace Go.Proofs.YtfdfkhpoblembaaDoor
open Go.RowKit Go.Proofs.YtfdfkhpoblembaaDoorW.PrintWords

def emptyS : ByteArray := ⟨#[]⟩
def slaxmlS : ByteArray := ⟨#[47, 97, 46, 120, 109, 108]⟩
set_option maxHeartbeats 1000000 in
theorem of_package (g : Nat) (w : World) :
    Calls Tryd.prog 29 #[.pointer (some ⟨g, 0, none⟩), .string ⟨#[]⟩] w fun e w' => e = .returned (.pointer (some ⟨g, 1, none⟩)) ∧ w = w' := by
  go_enter Tryd.func29, Tryd.ntmps29
  go_wp2
  go_ret
  exact ⟨rfl, rfl⟩

set_option maxHeartbeats 1000000 in
theorem relate_known (g : Nat) (p : Value) (w : World) (hg : w.heap[g]? = some (.cells #[p, .slice none 0 0] 39 (0, 0))) :
    Calls Tryd.prog 18 #[.pointer (some ⟨g, 0, none⟩), .string ⟨#[]⟩, .agg #[.string r1S, .string tS, .string axmlS, .bool false]] w fun e w' =>
      ∃ v, e = .returned (.int .i64 0) ∧ w'.heap[g]? = some (.cells #[p, v] 39 (0, 0)) ∧ w'.ownsRow w.heap.size 48 4 v 1 [.string r1S, .string tS, .string axmlS, .bool false] ∧ w.grownBy w' (some g) := by
  have HG := Lib.hid hg; clear hg
  go_enter Tryd.func18, Tryd.ntmps18
  go_wp2_with (go_at_call 29; refine (of_package _ _).mono ?_; rintro e w' ⟨rfl, rfl⟩)
  refine (isRel_known _).mono ?_
  rintro e w1 ⟨rfl, hb1⟩
  have c0 : w1.cell? ⟨w.heap.size, 0, none⟩ = some (.string r1S) := box_cell hb1 0
  have c1 : w1.cell? ⟨w.heap.size, 1, none⟩ = some (.string tS) := box_cell hb1 1
  have c2 : w1.cell? ⟨w.heap.size, 2, none⟩ = some (.string axmlS) := box_cell hb1 2
  have c3 : w1.cell? ⟨w.heap.size, 3, none⟩ = some (.bool false) := box_cell hb1 3
  have hB : Below w.heap.size w w1 := below_then (below_alloc (Below.refl _ w) _) (by simp) hb1
  have HB := Lib.hid hB; clear hB hb1
  have hg1 := Lib.hid ((HB.out.block g (blk_lt HG.out)).trans HG.out)
  go_wp2_with fail
  refine (inserts_empty g p _ _ _ _ _ hg1.out).mono ?_
  rintro e w2 ⟨v, rfl, h1, h2, h3⟩
  have H1 := Lib.hid h1; have H2 := Lib.hid h2; have H3 := Lib.hid h3; clear h1 h2 h3
  go_wp2
  go_ret
  exact ⟨v, rfl, H1.out, own_weaken H2.out HB.out.size, gtrans (grown_of_below HB.out (some g)) H3.out⟩

set_option maxHeartbeats 1000000 in
theorem split_empty (w : World) :
    Calls Tryd.prog 56 #[.string ⟨#[]⟩] w fun e w' => e = .returned (.tuple #[.string ⟨#[]⟩, .string ⟨#[]⟩]) ∧ Drawn0 w w' := by
  have h1 : Lib.lastIndexByte ⟨#[]⟩ 47 = -1 := by decide +kernel
  go_enter Tryd.func56, Tryd.ntmps56
  go_wp2_with (go_at_call 65; refine (Tryd.strings_LastIndexByte _ _ (by decide) _).mono ?_; rintro e w' ⟨rfl, rfl⟩)
  go_region
  go_wp2
  go_ret2
  exact ⟨rfl, (Drawn0.refl _).step 1⟩

theorem info_string : (Tryd.prog.info? 9).map (fun i => (i.zero, i.size, i.bytes)) = some (some (.string ⟨#[]⟩), 1, 16) := by kernel_rfl
theorem cut_axml : cutB axmlS = [axmlS] := by decide +kernel
theorem split_axml (w : World) (hm : MaxLenAt w) :
    Calls Tryd.prog 34 #[.string axmlS, .string ⟨#[47]⟩] w fun e w' => e = .returned (.slice (some ⟨w.heap.size, 0, none⟩) 1 1) ∧ w' = w.alloc (.cells #[.string axmlS] 9) := by
  refine (split_any axmlS w hm (by decide)).mono ?_
  rintro e w' ⟨n, hn, rfl, rfl⟩
  rw [cut_axml] at hn
  subst hn
  rw [cut_axml]
  exact ⟨rfl, rfl⟩
theorem all_axml : ((ByteArray.mk #[] ++ ByteArray.mk #[47] ++ axmlS).extract 1 6) = axmlS := by decide +kernel
theorem join_axml (g cap : Nat) (w : World) (base : Nat) (ho : w.ownsRow base 9 1 (.slice (some ⟨g, 0, none⟩) 1 cap) 1 [.string axmlS]) (hg : g < w.heap.size) :
    Calls Tryd.prog 57 #[.slice (some ⟨g, 0, none⟩) 1 cap, .string ⟨#[47]⟩] w fun e w' => e = .returned (.string axmlS) ∧ Below w.heap.size w w' := by
  have hcap : 1 ≤ cap := by
    rcases ho.2 with ⟨h, _⟩ | ⟨g', cap', cur, h, _, _, hn, _⟩
    · cases h
    · injection h with h1 h2 h3
      omega
  have hj : (⟨(Lib.join ([axmlS].map (·.data.toList)) (ByteArray.mk #[47]).data.toList).toArray⟩ : ByteArray) = axmlS := by decide +kernel
  have h := Tryd.strings_Join g 0 cap [axmlS] ⟨#[47]⟩ w (fun j x hx => by
    have hc := ho.cells (g := g) rfl j (.string x) (by
      cases j with
      | zero => simp at hx; subst hx; rfl
      | succ j => simp at hx)
    rwa [add_plain, ← Nat.zero_add j] at hc) hg (by decide) hcap (by decide +kernel)
  rw [hj] at h
  exact h
theorem name_axml : ByteArray.mk #[47] ++ axmlS = slaxmlS := by decide +kernel
theorem partIs_axml : partIsB slaxmlS = true := by decide +kernel
set_option maxRecDepth 100000 in
set_option maxHeartbeats 1000000 in
theorem resolve_known (w : World) (hm : MaxLenAt w) :
    Calls Tryd.prog 45 #[.string ⟨#[]⟩, .string axmlS] w fun e w' => e = .returned (.tuple #[.string slaxmlS, .bool true]) ∧ Below w.heap.size w w' := by
  have Hm := Lib.hid hm; clear hm
  have e1 : axmlS.toList.isEmpty = false := notEmpty_of (by decide)
  have b0 : ∀ h : 0 < axmlS.size, ((axmlS[0]'h).toNat : Int) = 97 := fun _ => rfl
  have s1 : axmlS.size = 5 := rfl
  have n1 : (axmlS.toList == [46]) = false := by rw [ByteArray.toList_eq]; decide
  have n2 : (axmlS.toList == [46, 46]) = false := by rw [ByteArray.toList_eq]; decide
  go_enter Tryd.func45, Tryd.ntmps45
  go_wp2_with (go_at_call 56; refine (split_empty _).mono ?_; rintro e w1 ⟨rfl, hd1⟩)
  rw [all_axml]
  have hm1 := Hm.out.below hd1.below
  have HB1 := Lib.hid hd1.below; clear hd1
  refine (split_axml _ hm1).mono ?_
  rintro e w2 ⟨rfl, rfl⟩
  have HM1 := Lib.hid hm1; clear hm1
  go_wp2_with fail
  refine wp_loop_rounds 2 ?_
  rw [rounds_succ]
  have hnew : ∀ j u, [Value.string axmlS][j]? = some u → ((w1.alloc (.cells #[.string axmlS] 9)).alloc (.cells #[.string axmlS] 9)).cell? ((⟨w1.heap.size + 1, 0, none⟩ : Addr).add j) = some u := by
    have h := cell_one_new (w1.alloc (.cells #[.string axmlS] 9)) (.string axmlS) 9
    rwa [World.size_alloc] at h
  obtain ⟨i0, hi, hzz⟩ := Option.map_eq_some_iff.1 info_string
  simp only [Prod.mk.injEq] at hzz
  obtain ⟨hz0, hz1, hz2⟩ := hzz
  have Hz0 := Lib.hid hz0; have Hz1 := Lib.hid hz1; have Hz2 := Lib.hid hz2; have Hi := Lib.hid hi; have Hn := Lib.hid hnew; clear hz0 hz1 hz2 hi hnew
  go_wp2_with (at_builtin; go_must (refine wpList_append_own_at _ rfl _ _ 52 rfl w1.heap.size 9 i0 _ 1 16 Tryd.underlying52 Hi.out Hz0.out Hz1.out Hz2.out rfl (by decide) _ 0 [] rfl (own_nil _ _ _ _) ⟨w1.heap.size + 1, 0, none⟩ 1 1 [.string axmlS] rfl rfl Hn.out (by simp [Value.oneCell']) (by decide) (by decide) (by simp; omega) ?_); intro v' w3 ho hg hnil hblk; obtain ⟨gb, cap, rfl, hgb, hgl⟩ := ho.form (by decide); have HB3 := Lib.hid (show Below w1.heap.size w1 w3 from (below_alloc (below_alloc (Below.refl _ w1) _) _).grown hg (by simp; omega) (own_base (own_nil w1 _ 9 1))); have HO := Lib.hid ho; clear ho hg hnil hblk)
  rw [rounds_succ]
  go_wp2_with fail
  refine (join_axml gb cap w3 _ HO.out hgl).mono ?_
  rintro e w4 ⟨rfl, hb4⟩
  have HB4 := Lib.hid (bb (bb HB1.out HB3.out) hb4); clear hb4
  have hn0 := name_axml
  have hp0 := partIs_axml
  go_wp2_with (go_at_call 22; go_must (refine (partIs_any slaxmlS _ (by decide) (Hm.out.below HB4.out)).mono ?_); rw [hp0]; rintro e w5 ⟨rfl, hb5⟩)
  go_ret2
  exact ⟨rfl, bb HB4.out hb5⟩
end Go.Proofs.YtfdfkhpoblembaaDoor
