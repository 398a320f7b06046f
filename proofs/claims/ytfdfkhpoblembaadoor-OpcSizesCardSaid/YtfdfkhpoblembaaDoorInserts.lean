/- opc.inserts into an empty row of relationships. -/
import Derived.Test.YtfdfkhpoblembaaDoorRelate
namespace Go.Proofs.YtfdfkhpoblembaaDoor
open Go.RowKit Go.Proofs.YtfdfkhpoblembaaDoorW.PrintWords

set_option maxHeartbeats 400000 in
theorem bsearch_empty_rel (f : Value) (s : ByteArray) (w : World) :
    Calls Tryd.prog 41 #[.slice none 0 0, .string s, f] w fun e w' => e = .returned (.tuple #[.int .i64 0, .bool false]) ∧ w' = w := by
  go_enter Tryd.func41, Tryd.ntmps41
  go_wp2
  refine wp_loop_rounds 1 ?_
  rw [rounds_succ]
  go_wp2
  go_ret2
  exact ⟨rfl, rfl⟩
theorem info_rel : (Tryd.prog.info? 48).map (fun i => (i.zero, i.size, i.bytes)) = some (some (.agg #[.string ⟨#[]⟩, .string ⟨#[]⟩, .string ⟨#[]⟩, .bool false]), 4, 56) := by kernel_rfl
set_option maxHeartbeats 400000 in
theorem insert_nil_rel (B : Nat) (cs : List Value) (w : World) (hl : cs.length = 4) (hc : ∀ j u, cs[j]? = some u → w.cell? ⟨B, j, none⟩ = some u) (h1 : ∀ u ∈ cs, u.oneCell' = true) :
    Calls Tryd.prog 43 #[.slice none 0 0, .int .i64 0, .slice (some ⟨B, 0, none⟩) 1 1] w fun e w' =>
      ∃ v, e = .returned v ∧ w'.ownsRow w.heap.size 48 4 v 1 cs ∧ Below w.heap.size w w' := by
  obtain ⟨i0, hi, hzz⟩ := Option.map_eq_some_iff.1 info_rel
  simp only [Prod.mk.injEq] at hzz
  obtain ⟨hz0, hz1, hz2⟩ := hzz
  have Hz0 := Lib.hid hz0; have Hz1 := Lib.hid hz1; have Hz2 := Lib.hid hz2; have Hi := Lib.hid hi; clear hz0 hz1 hz2 hi
  have Hl := Lib.hid hl; clear hl
  have hnews : ∀ j u, cs[j]? = some u → w.cell? ((⟨B, 0, none⟩ : Addr).add j) = some u := fun j u h => by rw [add_plain]; exact hc j u h
  have Hn := Lib.hid hnews; clear hnews hc
  have H1 := Lib.hid h1; clear h1
  go_enter Tryd.func43, Tryd.ntmps43
  go_wp2_with (at_builtin; go_must (refine wpList_append_own_at _ rfl _ _ 37 rfl w.heap.size 48 i0 _ 4 56 Tryd.underlying37 Hi.out Hz0.out Hz1.out Hz2.out rfl (by decide) _ 0 [] rfl (own_nil _ _ _ _) ⟨B, 0, none⟩ 1 1 cs rfl Hl.out Hn.out H1.out (by decide) (by decide) (Nat.le_refl _) ?_))
  intro v' w' ho hg hnil hblk
  go_wp2
  go_ret
  exact ⟨v', rfl, ho, (Below.refl _ _).grown hg (Nat.le_refl _) (by intro k hk; simp [Value.ownBlock] at hk)⟩

theorem inserts_end (g : Nat) (p : Value) (w w1 w2 : World) (cs : List Value) (hg : w1.heap[g]? = some (.cells #[p, .slice none 0 0] 39 (0, 0))) (A2 : Option Addr) (c2 : Nat) (hb1 : Below w.heap.size w w1)
    (hb2 : Below w1.heap.size w1 w2) (hv : w2.ownsRow w1.heap.size 48 4 (.slice A2 1 c2) 1 cs) :
    (w2.setCell ⟨g, 1, none⟩ (.slice A2 1 c2)).heap[g]? = some (.cells #[p, .slice A2 1 c2] 39 (0, 0)) ∧
    (w2.setCell ⟨g, 1, none⟩ (.slice A2 1 c2)).ownsRow w.heap.size 48 4 (.slice A2 1 c2) 1 cs ∧ w.grownBy (w2.setCell ⟨g, 1, none⟩ (.slice A2 1 c2)) (some g) := by
  have hB2 : Below w.heap.size w w2 := bb hb1 hb2
  have h2 : w2.heap[g]? = some (.cells #[p, .slice none 0 0] 39 (0, 0)) := (hb2.block g (blk_lt hg)).trans hg
  have hne1 : some g ≠ (Value.slice A2 1 c2).ownBlock := own_ne hv h2 (by decide)
  exact ⟨by simpa using blk_set h2 1 (.slice A2 1 c2), own_setCell (own_weaken hv hb1.size) hne1 _, gset (grown_of_below hB2 (some g)) 1 _⟩
set_option maxRecDepth 100000 in
set_option maxHeartbeats 1000000 in
theorem inserts_empty (g : Nat) (p : Value) (a b c : ByteArray) (d : Bool) (w : World) (hg : w.heap[g]? = some (.cells #[p, .slice none 0 0] 39 (0, 0))) :
    Calls Tryd.prog 31 #[.pointer (some ⟨g, 1, none⟩), .agg #[.string a, .string b, .string c, .bool d]] w fun e w' =>
      ∃ v, e = .returned (.bool true) ∧ w'.heap[g]? = some (.cells #[p, v] 39 (0, 0)) ∧ w'.ownsRow w.heap.size 48 4 v 1 [.string a, .string b, .string c, .bool d] ∧ w.grownBy w' (some g) := by
  have hlt := blk_lt hg
  have hcell : w.cell? ⟨g, 1, none⟩ = some (.slice none 0 0) := by rw [blk_cell hg]; rfl
  have hfree : w.frozen? ⟨g, 1, none⟩ = false := blk_frozen hg 1
  have HG := Lib.hid hg; clear hg
  go_enter Tryd.func31, Tryd.ntmps31
  go_wp2_with fail
  go_quiet ((go_at_call 41; exact Calls.quiet_of_same (bsearch_empty_rel _ _ _)))
  go_wp2_with fail
  have hB1 : Below w.heap.size w ((w.alloc (.cells #[.string a, .string b, .string c, .bool d] 48)).drewN nq) := pw_below_drewN ((Below.refl _ w).alloc (Nat.le_refl _) _) nq
  have hx : ((w.alloc (.cells #[.string a, .string b, .string c, .bool d] 48)).drewN nq).heap[w.heap.size]? = some (.cells #[.string a, .string b, .string c, .bool d] 48 (0, 0)) := heap_alloc_new w _
  generalize (w.alloc (.cells #[.string a, .string b, .string c, .bool d] 48)).drewN nq = W1 at hB1 hx ⊢
  have hg1 : W1.heap[g]? = some (.cells #[p, .slice none 0 0] 39 (0, 0)) := (hB1.block g hlt).trans HG.out
  have b0 : W1.cell? ⟨w.heap.size, 0, none⟩ = some (.string a) := blk_cell hx 0
  have b1 : W1.cell? ⟨w.heap.size, 1, none⟩ = some (.string b) := blk_cell hx 1
  have b2 : W1.cell? ⟨w.heap.size, 2, none⟩ = some (.string c) := blk_cell hx 2
  have b3 : W1.cell? ⟨w.heap.size, 3, none⟩ = some (.bool d) := blk_cell hx 3
  have hlt1 : g < W1.heap.size := blk_lt hg1
  have hltb : w.heap.size < W1.heap.size := blk_lt hx
  have hcell1 : W1.cell? ⟨g, 1, none⟩ = some (.slice none 0 0) := by rw [blk_cell hg1]; rfl
  have hfree1 : W1.frozen? ⟨g, 1, none⟩ = false := blk_frozen hg1 1
  have HG1 := Lib.hid hg1; clear hg1
  have HX := Lib.hid hx; clear hx
  have HB1 := Lib.hid hB1; clear hB1
  clear hcell hfree
  go_region_with (first | (go_at_call 43; go_must (refine (insert_nil_rel W1.heap.size [.string a, .string b, .string c, .bool d] _ rfl (new_cells W1.drew _ _) (by simp [Value.oneCell'])).mono ?_); rintro e w2 ⟨v, rfl, hv, hb2⟩; obtain ⟨A2, c2, rfl⟩ := own_slice hv; have hB2 : Below W1.heap.size W1 w2 := below_then (below_alloc (below_drew (Below.refl _ W1)) _) (by rw [World.size_alloc]; exact Nat.le_succ _) hb2; have hfz2 := (hB2.frozen (p := ⟨g, 1, none⟩) hlt1).trans hfree1; have hcell2 := (hB2.cell (p := ⟨g, 1, none⟩) hlt1).trans hcell1))
  all_goals
    go_wp2
    go_ret
    exact ⟨_, rfl, inserts_end g p w W1 w2 _ HG1.out A2 c2 HB1.out hB2 (own_weaken hv (by rw [World.size_alloc]; exact Nat.le_succ _))⟩
end Go.Proofs.YtfdfkhpoblembaaDoor
