/- opc.lays on a Package without parts: it has one part then, whose bytes are its own. -/
import Derived.Test.YtfdfkhpoblembaaDoorEmpty
import Derived.Deep.RegionHeld3
namespace Go.Proofs.YtfdfkhpoblembaaDoor
open Go.RowKit Go.Proofs.YtfdfkhpoblembaaDoorW.PrintWords

/-- What lays leaves, out of what its callees leave. -/
theorem lays_end (g : Nat) (R : Value) (s k : ByteArray) (n : Nat) (xs : List Int) (w w1 w2 : World) (hg : w.heap[g]? = some (.cells #[.slice none 0 0, R] 39 (0, 0)))
    (A1 A2 : Option Addr) (c1 c2 : Nat) (hb1 : Below w.heap.size w w1) (hd : w1.ownsRow w.heap.size 5 1 (.slice A1 n c1) n (xs.map (Value.int .u8)))
    (hb2 : Below (w1.alloc (.cells #[.string s, .string k, .slice A1 n c1, .slice none 0 0] 44)).heap.size (w1.alloc (.cells #[.string s, .string k, .slice A1 n c1, .slice none 0 0] 44)) w2)
    (hv : w2.ownsRow (w1.alloc (.cells #[.string s, .string k, .slice A1 n c1, .slice none 0 0] 44)).heap.size 44 4 (.slice A2 1 c2) 1 [.string s, .string k, .slice A1 n c1, .slice none 0 0]) :
    (w2.setCell ⟨g, 0, none⟩ (.slice A2 1 c2)).heap[g]? = some (.cells #[.slice A2 1 c2, R] 39 (0, 0)) ∧
    (w2.setCell ⟨g, 0, none⟩ (.slice A2 1 c2)).ownsRow w.heap.size 44 4 (.slice A2 1 c2) 1 [.string s, .string k, .slice A1 n c1, .slice none 0 0] ∧
    (w2.setCell ⟨g, 0, none⟩ (.slice A2 1 c2)).ownsRow w.heap.size 5 1 (.slice A1 n c1) n (xs.map (Value.int .u8)) ∧ w.grownBy (w2.setCell ⟨g, 0, none⟩ (.slice A2 1 c2)) (some g) := by
  have hs1 : w.heap.size ≤ w1.heap.size := hb1.size
  have hB : Below w.heap.size w (w1.alloc (.cells #[.string s, .string k, .slice A1 n c1, .slice none 0 0] 44)) := hb1.alloc hs1 _
  have hs2 : w.heap.size ≤ (w1.alloc (.cells #[.string s, .string k, .slice A1 n c1, .slice none 0 0] 44)).heap.size := by rw [World.size_alloc]; omega
  have hB2 : Below w.heap.size w w2 := below_then hB hs2 hb2
  have h2 : w2.heap[g]? = some (.cells #[.slice none 0 0, R] 39 (0, 0)) := (hB2.block g (blk_lt hg)).trans hg
  have hne1 : some g ≠ (Value.slice A2 1 c2).ownBlock := own_ne hv h2 (by decide)
  have hd2 : w2.ownsRow w.heap.size 5 1 (.slice A1 n c1) n (xs.map (Value.int .u8)) := pw_own_below (hd.alloc _) hb2
  have hne2 : some g ≠ (Value.slice A1 n c1).ownBlock := own_ne hd2 h2 (by decide)
  refine ⟨by simpa using blk_set h2 0 (.slice A2 1 c2), own_setCell (own_weaken hv hs2) hne1 _, own_setCell hd2 hne2 _, gset (grown_of_below hB2 (some g)) 0 _⟩

set_option maxRecDepth 100000 in
set_option maxHeartbeats 1000000 in
theorem lays_empty (g : Nat) (R : Value) (s k : ByteArray) (ad : Addr) (n c : Nat) (xs : List Int) (w : World) (hg : w.heap[g]? = some (.cells #[.slice none 0 0, R] 39 (0, 0)))
    (hx : xs.length = n) (hbig : n ≤ 140737488355328) (hc : ∀ i, i < n → w.cell? (ad.add i) = some (.int .u8 (xs.getD i 0))) :
    Calls Tryd.prog 16 #[.pointer (some ⟨g, 0, none⟩), .string s, .string k, .slice (some ad) n c] w fun e w' =>
      ∃ v d, e = .returned (.tuple #[]) ∧ w'.heap[g]? = some (.cells #[v, R] 39 (0, 0)) ∧ w'.ownsRow w.heap.size 44 4 v 1 [.string s, .string k, d, .slice none 0 0] ∧
        w'.ownsRow w.heap.size 5 1 d n (xs.map (Value.int .u8)) ∧ w.grownBy w' (some g) := by
  have hlt := blk_lt hg
  have hcell : w.cell? ⟨g, 0, none⟩ = some (.slice none 0 0) := by rw [blk_cell hg]; rfl
  have hfree : w.frozen? ⟨g, 0, none⟩ = false := blk_frozen hg 0
  have HG := Lib.hid hg; clear hg
  have Hx := Lib.hid hx; clear hx
  have Hc := Lib.hid hc; clear hc
  go_enter Tryd.func16, Tryd.ntmps16
  go_wp2_with (go_at_call 25; refine (bsearch_empty _ _ _).mono ?_; rintro e w' ⟨rfl, rfl⟩)
  go_region_with (first | (go_at_call 17; go_must (refine (Tryd.bytes_Clone_at ad n c xs w.drew Hx.out hbig (by intro i hi; exact Hc.out i hi)).mono ?_); rintro e w1 ⟨d, rfl, hd, hdn, hb1⟩; obtain ⟨A1, c1, rfl⟩ := own_slice hd; have hcell1 := (hb1.cell (p := ⟨g, 0, none⟩) hlt).trans hcell; have hlt1 : g < w1.heap.size := Nat.lt_of_lt_of_le hlt hb1.size) | (go_at_call 28; go_must (refine (insert_nil_part w1.heap.size [.string s, .string k, .slice A1 n c1, .slice none 0 0] _ rfl (new_cells w1 _ _) (by simp [Value.oneCell'])).mono ?_); rintro e w2 ⟨v, rfl, hv, hb2⟩; obtain ⟨A2, c2, rfl⟩ := own_slice hv; have hB2 : Below w.heap.size w w2 := below_then (below_alloc ((below_drew (Below.refl _ w)).trans hb1) _) (by rw [World.size_alloc]; exact Nat.le_succ_of_le hb1.size) hb2; have hfz2 := (hB2.frozen (p := ⟨g, 0, none⟩) hlt).trans hfree; have hcell2 := (hB2.cell (p := ⟨g, 0, none⟩) hlt).trans hcell))
  all_goals
    go_end0
    exact ⟨_, _, rfl, lays_end g R s k n xs w w1 w2 HG.out A1 A2 c1 c2 ((below_drew (Below.refl _ w)).trans hb1) hd hb2 hv⟩
end Go.Proofs.YtfdfkhpoblembaaDoor
