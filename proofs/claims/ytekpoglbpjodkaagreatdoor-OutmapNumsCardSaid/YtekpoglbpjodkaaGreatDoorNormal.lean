/- tree.Normal of a document of normal chains. -/
import Derived.Test.YtekpoglbpjodkaaGreatDoorSameT
import Derived.Test.YtekpoglbpjodkaaGreatDoorNode
import Derived.Handy
namespace Go.Proofs.YtekpoglbpjodkaaGreatDoor
open Go.RowKit Go.Proofs.YtekpoglbpjodkaaGreatDoorW.PrintWords

/-- The document's own layer. -/
def docLay : Lay := ⟨1, 0, false⟩
/-- Chains that a document may hold, normal. -/
structure DocOk (cs : List Chain) : Prop where
  ok : ∀ ch ∈ cs, OkCh ch
  head : ∀ y r, y :: r ∈ cs → HeadOk y (kidsN (y :: r))
  norm : ∀ ch ∈ cs, ch.length ≤ 150 ∧ NormCh ch
  few : cs.length ≤ 100
set_option maxRecDepth 100000 in
set_option maxHeartbeats 2000000 in
theorem isDoc_any (cs : List Chain) (h : DocOk cs) (A : Option Addr) (m c : Nat) (W : World) (hk : KidsAt W cs A m) :
    Calls Tryz.prog 30 #[mkNode docLay A m c] W fun e w' => e = .returned (.bool true) ∧ Below W.heap.size W w' := by
  have hn := node_holder cs (fun ch hch => node_chain (h.ok ch hch)) h.head docLay (Or.inl rfl) A m c
  have HN := Lib.hid hn; have HK := Lib.hid hk; have Hm := Lib.hid (show m ≤ 100 by rw [hk.1]; exact h.few)
  clear hn hk h
  unfold mkNode docLay
  have HBW := Lib.hid (below_alloc (Below.refl _ W) (.cells (nodeCells docLay A m c) 24))
  go_enter Tryz.func30, Tryz.ntmps30
  go_wp2_with fail
  refine (HN.out _ (HK.out.below HBW.out) Hm.out).mono ?_
  rintro e w1 ⟨rfl, hb1⟩
  have HB1 := Lib.hid (bb HBW.out hb1); clear hb1
  go_wp2
  go_ret
  exact ⟨rfl, HB1.out⟩
set_option maxRecDepth 100000 in
set_option maxHeartbeats 2000000 in
theorem norm_any (cs : List Chain) (h : DocOk cs) (A : Option Addr) (m c : Nat) (W : World) (hk : KidsAt W cs A m) :
    Calls Tryz.prog 22 #[mkNode docLay A m c] W fun e w' => ∃ A' c', e = .returned (.tuple #[mkNode docLay A' m c', .int .i64 0]) ∧ KidsAt w' cs A' m ∧ Below W.heap.size W w' := by
  have HD := Lib.hid (isDoc_any cs h A m c)
  have HT := Lib.hid (tblocks_all 150 cs h.norm h.few)
  have HK := Lib.hid hk
  clear hk h
  unfold mkNode docLay
  have HBW := Lib.hid (boxed_below W docLay A m c ⟨0, 0, false⟩)
  have HX1 := Lib.hid (boxed_first W docLay A m c ⟨0, 0, false⟩); have HX2 := Lib.hid (boxed_second W docLay A m c ⟨0, 0, false⟩); have HXs := Lib.hid (boxed_size W docLay A m c ⟨0, 0, false⟩)
  go_enter Tryz.func22, Tryz.ntmps22
  go_wp2_with fail
  refine (HD.out (boxed W docLay A m c ⟨0, 0, false⟩) (HK.out.below HBW.out)).mono ?_
  rintro e w1 ⟨rfl, hb1⟩
  have c7 : w1.cell? ⟨W.heap.size, 7, none⟩ = some (.slice A m c) := blk_cell ((hb1.block _ (by rw [HXs.out]; omega)).trans HX1.out) 7
  have HB1 := Lib.hid (bb HBW.out hb1)
  have HY := Lib.hid ((hb1.block _ (by rw [HXs.out]; omega)).trans HX2.out)
  have HS1 := Lib.hid (show W.heap.size + 1 < w1.heap.size by have := hb1.size; have := HXs.out; omega)
  clear hb1
  go_wp2_with fail
  refine (HT.out w1 A m c (HK.out.below HB1.out)).mono ?_
  rintro e w2 ⟨A', c', rfl, hk2, hb2⟩
  have hy := (hb2.block _ HS1.out).trans HY.out
  have HB2 := Lib.hid (bb HB1.out hb2)
  have p0 : w2.cell? ⟨W.heap.size + 1, 0, none⟩ = some (.int .i64 0) := blk_cell hy 0
  have p1 : w2.cell? ⟨W.heap.size + 1, 1, none⟩ = some (.int .i64 0) := blk_cell hy 1
  have p2 : w2.cell? ⟨W.heap.size + 1, 2, none⟩ = some (.bool false) := blk_cell hy 2
  have p3 : w2.cell? ⟨W.heap.size + 1, 3, none⟩ = some (.bool false) := blk_cell hy 3
  have p4 : w2.cell? ⟨W.heap.size + 1, 4, none⟩ = some (.string ⟨#[]⟩) := blk_cell hy 4
  have p5 : w2.cell? ⟨W.heap.size + 1, 5, none⟩ = some (.string ⟨#[]⟩) := blk_cell hy 5
  have p6 : w2.cell? ⟨W.heap.size + 1, 6, none⟩ = some (.string ⟨#[]⟩) := blk_cell hy 6
  have p7 : w2.cell? ⟨W.heap.size + 1, 7, none⟩ = some (.slice none 0 0) := blk_cell hy 7
  have f0 : w2.frozen? ⟨W.heap.size + 1, 0, none⟩ = false := blk_frozen hy 0
  have f1 : w2.frozen? ⟨W.heap.size + 1, 1, none⟩ = false := blk_frozen hy 1
  have f2 : w2.frozen? ⟨W.heap.size + 1, 2, none⟩ = false := blk_frozen hy 2
  have f3 : w2.frozen? ⟨W.heap.size + 1, 3, none⟩ = false := blk_frozen hy 3
  have f4 : w2.frozen? ⟨W.heap.size + 1, 4, none⟩ = false := blk_frozen hy 4
  have f5 : w2.frozen? ⟨W.heap.size + 1, 5, none⟩ = false := blk_frozen hy 5
  have f6 : w2.frozen? ⟨W.heap.size + 1, 6, none⟩ = false := blk_frozen hy 6
  have f7 : w2.frozen? ⟨W.heap.size + 1, 7, none⟩ = false := blk_frozen hy 7
  have h8 := blk_set (blk_set (blk_set (blk_set (blk_set (blk_set (blk_set (blk_set hy 0 (.int .i64 1)) 1 (.int .i64 0)) 2 (.bool false)) 3 (.bool false)) 4 (.string ⟨#[]⟩)) 5 (.string ⟨#[]⟩)) 6 (.string ⟨#[]⟩)) 7 (.slice A' m c')
  have H8 := Lib.hid h8; clear h8
  have HK2 := Lib.hid hk2
  have HB21 := Lib.hid hb2
  clear hy hk2 hb2 c7
  go_wp2
  have h8 := H8.out
  have HG := Lib.hid (gset (gset (gset (gset (gset (gset (gset (gset (grown_of_below (Below.refl _ w2) (some (W.heap.size + 1))) 0 (.int .i64 1)) 1 (.int .i64 0)) 2 (.bool false)) 3 (.bool false)) 4 (.string ⟨#[]⟩)) 5 (.string ⟨#[]⟩)) 6 (.string ⟨#[]⟩)) 7 (.slice A' m c'))
  clear p0 p1 p2 p3 p4 p5 p6 p7 f0 f1 f2 f3 f4 f5 f6 f7 H8
  generalize ((((((((w2.setCell ⟨W.heap.size + 1, 0, none⟩ (.int .i64 1)).setCell ⟨W.heap.size + 1, 1, none⟩ (.int .i64 0)).setCell ⟨W.heap.size + 1, 2, none⟩ (.bool false)).setCell ⟨W.heap.size + 1, 3, none⟩ (.bool false)).setCell ⟨W.heap.size + 1, 4, none⟩ (.string ⟨#[]⟩)).setCell ⟨W.heap.size + 1, 5, none⟩ (.string ⟨#[]⟩)).setCell ⟨W.heap.size + 1, 6, none⟩ (.string ⟨#[]⟩)).setCell ⟨W.heap.size + 1, 7, none⟩ (.slice A' m c')) = w3 at h8 HG ⊢
  have r0 : w3.cell? ⟨W.heap.size + 1, 0, none⟩ = some (.int .i64 1) := by rw [blk_cell h8]; simp [nodeCells]
  have r1 : w3.cell? ⟨W.heap.size + 1, 1, none⟩ = some (.int .i64 0) := by rw [blk_cell h8]; simp [nodeCells]
  have r2 : w3.cell? ⟨W.heap.size + 1, 2, none⟩ = some (.bool false) := by rw [blk_cell h8]; simp [nodeCells]
  have r3 : w3.cell? ⟨W.heap.size + 1, 3, none⟩ = some (.bool false) := by rw [blk_cell h8]; simp [nodeCells]
  have r4 : w3.cell? ⟨W.heap.size + 1, 4, none⟩ = some (.string ⟨#[]⟩) := by rw [blk_cell h8]; simp [nodeCells]
  have r5 : w3.cell? ⟨W.heap.size + 1, 5, none⟩ = some (.string ⟨#[]⟩) := by rw [blk_cell h8]; simp [nodeCells]
  have r6 : w3.cell? ⟨W.heap.size + 1, 6, none⟩ = some (.string ⟨#[]⟩) := by rw [blk_cell h8]; simp [nodeCells]
  have r7 : w3.cell? ⟨W.heap.size + 1, 7, none⟩ = some (.slice A' m c') := by rw [blk_cell h8]; simp [nodeCells]
  clear h8
  refine bodyPost_ret (by simp [results, Tryz.results22, go_sem, r0, r1, r2, r3, r4, r5, r6, r7]; try rfl) rfl ?_
  have hB3 : Below W.heap.size W w3 := HB2.out.grown HG.out HB2.out.size (fun k hk => by injection hk with hk; omega)
  refine ⟨A', c', rfl, ?_, hB3⟩
  have hs := HS1.out
  obtain ⟨e1, e2⟩ := HK2.out
  refine ⟨e1, fun hm => ?_⟩
  obtain ⟨g, e3, hg, e4⟩ := e2 hm
  refine ⟨g, e3, fun i hi => ?_⟩
  obtain ⟨x, r, A1, m1, c1, e5, e6, e7⟩ := e4 i hi
  have hb : ∀ k, k < w2.heap.size → w1.heap.size ≤ k → True ∧ w3.heap[k]? = w2.heap[k]? := fun k hk hk1 => ⟨trivial, HG.out.block k hk (fun e => by injection e with e; omega)⟩
  exact ⟨x, r, A1, m1, c1, e5, e6.of (hb g e6.lt hg).2, (e7.of (P1 := fun _ => True) hb).rest⟩
end Go.Proofs.YtekpoglbpjodkaaGreatDoor
