/- opc.Target as known asks; known itself: true. -/
import Derived.Test.YtfdfkhpoblembaaDoorFindOne
import Derived.Lib.SlBytesConst
namespace Go.Proofs.YtfdfkhpoblembaaDoor
open Go.RowKit Go.Proofs.YtfdfkhpoblembaaDoorW.PrintWords

set_option maxRecDepth 100000 in
set_option maxHeartbeats 2000000 in
theorem target_known (g gv cap gr capr : Nat) (w : World) (hm : MaxLenAt w) (hg : w.heap[g]? = some (.cells #[.slice (some ⟨gv, 0, none⟩) 1 cap, .slice (some ⟨gr, 0, none⟩) 1 capr] 39 (0, 0)))
    (hp : w.cell? ⟨gv, 0, none⟩ = some (.string slaxmlS)) (ho : w.ownsRow 0 48 4 (.slice (some ⟨gr, 0, none⟩) 1 capr) 1 [.string r1S, .string tS, .string axmlS, .bool false]) :
    Calls Tryd.prog 19 #[.pointer (some ⟨g, 0, none⟩), .string ⟨#[]⟩, .string tS] w fun e w' => e = .returned (.tuple #[.string slaxmlS, .bool true]) ∧ Below w.heap.size w w' := by
  have hlg := blk_lt hg
  have hlp := World.block_lt_of_cell? w _ hp
  have hc0 : w.cell? ⟨g, 0, none⟩ = some (.slice (some ⟨gv, 0, none⟩) 1 cap) := by rw [blk_cell hg]; rfl
  have HC0 := Lib.hid hc0; have HG := Lib.hid hg; have HP := Lib.hid hp; have Hm := Lib.hid hm; have HO := Lib.hid ho; clear hg hp hm ho hc0
  have he : ((lowS slaxmlS).toList == (lowS ⟨#[]⟩).toList) = false := by rw [ByteArray.toList_eq, ByteArray.toList_eq]; decide +kernel
  have He := Lib.hid he; clear he
  go_enter Tryd.func19, Tryd.ntmps19
  go_wp2_with fail
  refine (find_miss g gv cap slaxmlS ⟨#[]⟩ _ HC0.out HP.out (by decide) (by decide) He.out).mono ?_
  rintro e w1 ⟨rfl, hb1⟩
  have hg1 := Lib.hid ((hb1.block g hlg).trans HG.out)
  have ho1 := Lib.hid (pw_own_below HO.out hb1)
  have HB1 := Lib.hid hb1; clear hb1
  go_wp2_with fail
  refine (rels_one g gr capr _ _ _ hg1.out ho1.out (by simp [Value.oneCell'])).mono ?_
  rintro e w2 ⟨g2, cap2, rfl, h2, hb2⟩
  have HB2 := Lib.hid (bb HB1.out hb2)
  have hlg2 := (h2.lt g2 rfl).2
  have c0 : w2.cell? ⟨g2, 0, none⟩ = some (.string r1S) := by have h := h2.cells (g := g2) rfl 0 _ rfl; rwa [add_plain] at h
  have c1 : w2.cell? ⟨g2, 1, none⟩ = some (.string tS) := by have h := h2.cells (g := g2) rfl 1 _ rfl; rwa [add_plain] at h
  have c2 : w2.cell? ⟨g2, 2, none⟩ = some (.string axmlS) := by have h := h2.cells (g := g2) rfl 2 _ rfl; rwa [add_plain] at h
  have c3 : w2.cell? ⟨g2, 3, none⟩ = some (.bool false) := by have h := h2.cells (g := g2) rfl 3 _ rfl; rwa [add_plain] at h
  clear h2 hb2
  go_wp2_with fail
  refine wp_loop_rounds 1 ?_
  rw [rounds_succ]
  go_wp2_with fail
  have hB3 : Below w.heap.size w (w2.alloc (.cells #[.string r1S, .string tS, .string axmlS, .bool false] 48)) := HB2.out.alloc HB2.out.size _
  have g3 := (hB3.cell (p := ⟨g, 0, none⟩) hlg).trans HC0.out
  have p3 := (hB3.cell (p := ⟨gv, 0, none⟩) hlp).trans HP.out
  have HB3 := Lib.hid hB3; have G3 := Lib.hid g3; have P3 := Lib.hid p3; clear hB3 g3 p3
  refine (leads_known g gv cap _ (Hm.out.below HB3.out) G3.out P3.out).mono ?_
  rintro e w3 ⟨rfl, hb3⟩
  have HB4 := Lib.hid (below_then HB3.out (by rw [World.size_alloc]; exact Nat.le_succ_of_le HB2.out.size) hb3)
  have p4 := (HB4.out.cell (p := ⟨gv, 0, none⟩) hlp).trans HP.out
  clear hb3 c0 c1 c2 c3
  go_wp2
  go_ret2
  exact ⟨rfl, HB4.out⟩

def xyS : ByteArray := ⟨#[120, 47, 121]⟩
theorem isName_axml : isNameB slaxmlS = true := by decide +kernel
theorem isKind_xy : isKindB xyS = true := by decide +kernel

set_option maxRecDepth 100000 in
set_option maxHeartbeats 2000000 in
theorem known_true (w : World) (hm : MaxLenAt w) :
    Calls Tryd.prog 10 #[] w fun e w' => e = .returned (.bool true) ∧ Below w.heap.size w w' := by
  have Hm := Lib.hid hm; clear hm
  have hq : (slaxmlS.toList == [47, 97, 46, 120, 109, 108]) = true := by rw [ByteArray.toList_eq]; decide
  have kc := fun (w : World) (C : Array Value) (n c : Nat) => Lib.run_convert_bytes_const (P := Tryd.prog) w 22 5 C n c Tryd.underlying22 Tryd.underlying5
  go_enter Tryd.func10, Tryd.ntmps10
  go_wp2_with fail
  refine (new_any _).mono ?_
  rintro e w1 ⟨rfl, hw1⟩
  have hg1 : w1.heap[w.heap.size]? = some (.cells #[.slice none 0 0, .slice none 0 0] 39 (0, 0)) := by rw [hw1]; exact heap_alloc_new w _
  have hB1 : Below w.heap.size w w1 := by rw [hw1]; exact below_alloc (Below.refl _ w) _
  have HG1 := Lib.hid hg1; have HB1 := Lib.hid hB1; clear hw1 hg1 hB1
  go_wp2_with fail
  have hB2 : Below w.heap.size w (w1.alloc (.cells #[.int .u8 122] 5 (1, 2))) := below_alloc HB1.out _
  have HB2 := Lib.hid hB2; clear hB2
  have hlt : w.heap.size < w1.heap.size := blk_lt HG1.out
  have hg2 : (w1.alloc (.cells #[.int .u8 122] 5 (1, 2))).heap[w.heap.size]? = some (.cells #[.slice none 0 0, .slice none 0 0] 39 (0, 0)) := (Below.heap_alloc w1 _ _ hlt).trans HG1.out
  have hbyte : ∀ i, i < 1 → (w1.alloc (.cells #[.int .u8 122] 5 (1, 2))).cell? ((⟨w1.heap.size, 0, none⟩ : Addr).add i) = some (.int .u8 (([122] : List Int).getD i 0)) := by
    intro i hi
    obtain rfl : i = 0 := by omega
    rw [add_plain, World.cell?_alloc_mark]
    rfl
  refine (add_empty w.heap.size _ slaxmlS xyS ⟨w1.heap.size, 0, none⟩ 1 1 [122] _ hg2 rfl (by decide) hbyte (by decide) (by decide) isName_axml isKind_xy (Hm.out.below HB2.out)).mono ?_
  rintro e w2 ⟨rfl, v, d, h1, h2, h3, h4⟩
  obtain ⟨gv, cap, rfl, hgv, hgl⟩ := h2.form (by decide)
  have hB3 : Below w.heap.size w w2 := Below.grown HB2.out h4 HB2.out.size (by intro k hk; injection hk with hk; omega)
  have hc2 : w2.cell? ⟨gv, 0, none⟩ = some (.string slaxmlS) := by have h := h2.cells (g := gv) rfl 0 _ rfl; rwa [add_plain] at h
  have hne : gv ≠ w.heap.size := by
    have := World.size_alloc (w := w1) (o := .cells #[.int .u8 122] 5 (1, 2))
    omega
  have H1 := Lib.hid h1; have HB3 := Lib.hid hB3; have HC2 := Lib.hid hc2
  clear h1 h2 h3 h4 hB3 hc2 hg2 hbyte
  go_wp2_with fail
  refine (relate_known w.heap.size _ _ H1.out).mono ?_
  rintro e w3 ⟨v, rfl, k1, k2, k3⟩
  obtain ⟨gr, capr, rfl, hgr, hgrl⟩ := k2.form (by decide)
  have hB4 : Below w.heap.size w w3 := Below.grown HB3.out k3 HB3.out.size (by intro k hk; injection hk with hk; omega)
  have hc3 : w3.cell? ⟨gv, 0, none⟩ = some (.string slaxmlS) := k3.cell HC2.out (by intro h; injection h with h; exact hne h)
  have K1 := Lib.hid k1; have K2 := Lib.hid (own_weaken k2 (Nat.zero_le _)); have HB4 := Lib.hid hB4; have HC3 := Lib.hid hc3
  clear k1 k2 k3 hB4 hc3 hne hgr hgrl hgv hgl hlt
  go_wp2_with fail
  refine (target_known w.heap.size gv cap gr capr _ (Hm.out.below HB4.out) K1.out HC3.out K2.out).mono ?_
  rintro e w4 ⟨rfl, hb4⟩
  go_wp2
  go_ret
  exact ⟨rfl, bb HB4.out hb4⟩
end Go.Proofs.YtfdfkhpoblembaaDoor
