/- opc.find in a Package of one part; Rels of a Package with one relationship; leads and Target as known asks. -/
import Derived.Test.YtfdfkhpoblembaaDoorTarget
namespace Go.Proofs.YtfdfkhpoblembaaDoor
open Go.RowKit Go.Proofs.YtfdfkhpoblembaaDoorW.PrintWords

set_option maxHeartbeats 1000000 in
theorem find_hit (g gv cap : Nat) (s name : ByteArray) (w : World) (hg : w.cell? ⟨g, 0, none⟩ = some (.slice (some ⟨gv, 0, none⟩) 1 cap)) (hp : w.cell? ⟨gv, 0, none⟩ = some (.string s))
    (h1 : s.size ≤ 140737488351232) (h2 : name.size ≤ 140737488351232) (he : ((lowS s).toList == (lowS name).toList) = true) :
    Calls Tryd.prog 15 #[.pointer (some ⟨g, 0, none⟩), .string name] w fun e w' => e = .returned (.pointer (some ⟨gv, 0, none⟩)) ∧ Below w.heap.size w w' := by
  have hlg := World.block_lt_of_cell? w _ hg
  have hlp := World.block_lt_of_cell? w _ hp
  go_enter Tryd.func15, Tryd.ntmps15
  go_wp2
  refine wp_loop_rounds 1 ?_
  rw [rounds_succ]
  go_wp2_with fail
  refine (lower_any _ _ h1).mono ?_
  rintro e w1 ⟨rfl, hb1⟩
  go_wp2_with fail
  refine (lower_any _ _ h2).mono ?_
  rintro e w2 ⟨rfl, hb2⟩
  have hB := bb hb1 hb2
  have g2 := (hB.cell (p := ⟨g, 0, none⟩) hlg).trans hg
  have HB := Lib.hid hB
  clear hb1 hb2 hB hg hp hlg hlp
  go_wp2
  go_ret
  exact ⟨rfl, HB.out⟩
set_option maxHeartbeats 1000000 in
theorem find_miss (g gv cap : Nat) (s name : ByteArray) (w : World) (hg : w.cell? ⟨g, 0, none⟩ = some (.slice (some ⟨gv, 0, none⟩) 1 cap)) (hp : w.cell? ⟨gv, 0, none⟩ = some (.string s))
    (h1 : s.size ≤ 140737488351232) (h2 : name.size ≤ 140737488351232) (he : ((lowS s).toList == (lowS name).toList) = false) :
    Calls Tryd.prog 15 #[.pointer (some ⟨g, 0, none⟩), .string name] w fun e w' => e = .returned (.pointer none) ∧ Below w.heap.size w w' := by
  have hlg := World.block_lt_of_cell? w _ hg
  have hlp := World.block_lt_of_cell? w _ hp
  go_enter Tryd.func15, Tryd.ntmps15
  go_wp2
  refine wp_loop_rounds 2 ?_
  rw [rounds_succ]
  go_wp2_with fail
  refine (lower_any _ _ h1).mono ?_
  rintro e w1 ⟨rfl, hb1⟩
  go_wp2_with fail
  refine (lower_any _ _ h2).mono ?_
  rintro e w2 ⟨rfl, hb2⟩
  have HB := Lib.hid (bb hb1 hb2)
  clear hb1 hb2 hg hp hlg hlp
  go_wp2
  rw [rounds_succ]
  go_wp2
  go_ret
  exact ⟨rfl, HB.out⟩

set_option maxHeartbeats 1000000 in
theorem clone_rels (g cap : Nat) (cs : List Value) (w : World) (ho : w.ownsRow 0 48 4 (.slice (some ⟨g, 0, none⟩) 1 cap) 1 cs) (h1 : ∀ u ∈ cs, u.oneCell' = true) :
    Calls Tryd.prog 44 #[.slice (some ⟨g, 0, none⟩) 1 cap] w fun e w' => ∃ g2 cap2, e = .returned (.slice (some ⟨g2, 0, none⟩) 1 cap2) ∧ w'.ownsRow w.heap.size 48 4 (.slice (some ⟨g2, 0, none⟩) 1 cap2) 1 cs ∧ Below w.heap.size w w' := by
  obtain ⟨i0, hi, hzz⟩ := Option.map_eq_some_iff.1 info_rel
  simp only [Prod.mk.injEq] at hzz
  obtain ⟨hz0, hz1, hz2⟩ := hzz
  have Hz0 := Lib.hid hz0; have Hz1 := Lib.hid hz1; have Hz2 := Lib.hid hz2; have Hi := Lib.hid hi; clear hz0 hz1 hz2 hi
  have Hl := Lib.hid ho.1
  have hn := fun W => Lib.run_eql_slice_nil (P := Tryd.prog) W 37 48 (some ⟨g, 0, none⟩) 1 cap 0 0 Tryd.underlying37
  have hg := (ho.lt g rfl).2
  have hnew : ∀ j u, cs[j]? = some u → (w.alloc (.cells #[] 48)).cell? ((⟨g, 0, none⟩ : Addr).add j) = some u := fun j u h => by
    have hc := ho.cells (g := g) rfl j u h
    rw [add_plain] at hc ⊢
    exact (World.cell?_alloc_past _ _ _ hg).trans hc
  have hown : (w.alloc (.cells #[] 48)).ownsRow w.heap.size 48 4 (.slice (some ⟨w.heap.size, 0, none⟩) 0 0) 0 [] := World.ownsRow_lit w #[] 0 (Nat.le_refl _) (by decide) rfl
  have HO := Lib.hid hown; clear hown
  have Hn := Lib.hid hnew; clear hnew ho
  have H1 := Lib.hid h1; clear h1
  go_enter Tryd.func44, Tryd.ntmps44
  go_wp2_with (at_builtin; go_must (refine wpList_append_own_at _ rfl _ _ 37 rfl w.heap.size 48 i0 _ 4 56 Tryd.underlying37 Hi.out Hz0.out Hz1.out Hz2.out rfl (by decide) _ 0 [] rfl HO.out ⟨g, 0, none⟩ 1 cap cs rfl Hl.out Hn.out H1.out (by decide) (by decide) (by simp) ?_); intro v' w3 hv hgr hnil hblk; obtain ⟨gb, cap2, rfl, hgb, hgl⟩ := hv.form (by decide); have HB3 := Lib.hid (show Below w.heap.size w w3 from (below_alloc (Below.refl _ w) _).grown hgr (by simp) (own_base HO.out)); have HV := Lib.hid hv; clear hv hgr hnil hblk)
  go_ret
  exact ⟨gb, cap2, rfl, HV.out, HB3.out⟩

set_option maxHeartbeats 1000000 in
theorem rels_one (g gr cap : Nat) (p : Value) (cs : List Value) (w : World) (hg : w.heap[g]? = some (.cells #[p, .slice (some ⟨gr, 0, none⟩) 1 cap] 39 (0, 0))) (ho : w.ownsRow 0 48 4 (.slice (some ⟨gr, 0, none⟩) 1 cap) 1 cs) (h1 : ∀ u ∈ cs, u.oneCell' = true) :
    Calls Tryd.prog 32 #[.pointer (some ⟨g, 0, none⟩), .string ⟨#[]⟩] w fun e w' => ∃ g2 cap2, e = .returned (.slice (some ⟨g2, 0, none⟩) 1 cap2) ∧ w'.ownsRow w.heap.size 48 4 (.slice (some ⟨g2, 0, none⟩) 1 cap2) 1 cs ∧ Below w.heap.size w w' := by
  have hc : w.cell? ⟨g, 1, none⟩ = some (.slice (some ⟨gr, 0, none⟩) 1 cap) := by rw [blk_cell hg]; rfl
  clear hg
  have HO := Lib.hid ho; have H1 := Lib.hid h1; clear ho h1
  go_enter Tryd.func32, Tryd.ntmps32
  go_wp2_with (go_at_call 29; refine (of_package _ _).mono ?_; rintro e w' ⟨rfl, rfl⟩)
  refine (clone_rels gr cap cs _ HO.out H1.out).mono ?_
  rintro e w2 ⟨g2, cap2, rfl, h2, h3⟩
  have H2 := Lib.hid h2; have H3 := Lib.hid h3; clear h2 h3
  go_wp2
  go_ret
  exact ⟨g2, cap2, rfl, H2.out, H3.out⟩

set_option maxHeartbeats 1000000 in
theorem leads_known (g gv cap : Nat) (w : World) (hm : MaxLenAt w) (hg : w.cell? ⟨g, 0, none⟩ = some (.slice (some ⟨gv, 0, none⟩) 1 cap)) (hp : w.cell? ⟨gv, 0, none⟩ = some (.string slaxmlS)) :
    Calls Tryd.prog 33 #[.pointer (some ⟨g, 0, none⟩), .string ⟨#[]⟩, .agg #[.string r1S, .string tS, .string axmlS, .bool false]] w fun e w' => e = .returned (.pointer (some ⟨gv, 0, none⟩)) ∧ Below w.heap.size w w' := by
  have hlg := World.block_lt_of_cell? w _ hg
  have hlp := World.block_lt_of_cell? w _ hp
  have HG := Lib.hid hg; have HP := Lib.hid hp; have Hm := Lib.hid hm; clear hg hp hm
  go_enter Tryd.func33, Tryd.ntmps33
  go_wp2_with fail
  refine (resolve_known _ (Hm.out.below (below_alloc (Below.refl _ w) _))).mono ?_
  rintro e w1 ⟨rfl, hb1⟩
  have hB1 : Below w.heap.size w w1 := below_then (below_alloc (Below.refl _ w) _) (by simp) hb1
  have g1 := (hB1.cell (p := ⟨g, 0, none⟩) hlg).trans HG.out
  have p1 := (hB1.cell (p := ⟨gv, 0, none⟩) hlp).trans HP.out
  have HB1 := Lib.hid hB1; have G1 := Lib.hid g1; have P1 := Lib.hid p1; clear hB1 hb1 g1 p1
  go_wp2_with fail
  refine (find_hit g gv cap slaxmlS slaxmlS _ G1.out P1.out (by decide) (by decide) (by simp)).mono ?_
  rintro e w2 ⟨rfl, hb2⟩
  go_wp2
  go_ret
  exact ⟨rfl, bb HB1.out hb2⟩
end Go.Proofs.YtfdfkhpoblembaaDoor
