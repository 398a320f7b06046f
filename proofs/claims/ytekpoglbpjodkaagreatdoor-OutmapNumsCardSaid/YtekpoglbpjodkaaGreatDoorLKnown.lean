/- known: Map of an item without anything. -/
import Derived.Test.YtekpoglbpjodkaaGreatDoorMap
namespace Go.Proofs.YtekpoglbpjodkaaGreatDoor
open Go.RowKit Go.Proofs.YtekpoglbpjodkaaGreatDoorW.PrintWords

def listLay : Lay := ⟨7, 0, false⟩
def itemLay : Lay := ⟨8, 0, false⟩
theorem known_doc : DocOk [[listLay, itemLay]] := by
  refine ⟨fun ch hch => ?_, fun y r h => ?_, fun ch hch => ?_, by decide⟩
  · rw [List.mem_singleton.1 hch]; exact OkCh.list _ _ _ rfl rfl (OkCh.empty _ (Or.inr rfl))
  · have := List.mem_singleton.1 h
    injection this with h1 h2
    subst h1 h2
    exact Or.inr (Or.inr ⟨rfl, rfl⟩)
  · rw [List.mem_singleton.1 hch]
    refine ⟨by decide, ?_⟩
    simp [NormCh, NormLay, listLay, itemLay]
/-- What reads as the block of a list: its tag, its kids. -/
theorem list_cells {w : World} {B : Nat} {Ab : Option Addr} {cb : Nat} {bs : List Value} {x : Lay} {r : Chain} (hx : x.k = 7) (h : w.ownsRow B 60 6 (.slice Ab 1 cb) 1 bs) (hb : BlksOf [x :: r] bs) :
    ∃ g A c, Ab = some ⟨g, 0, none⟩ ∧ w.cell? ⟨g, 0, none⟩ = some (.string ⟨#[108, 105, 115, 116]⟩) ∧ w.cell? ⟨g, 5, none⟩ = some (.slice A (restL r).length c) := by
  obtain ⟨a, b, rfl, ⟨tag, st, num, lv, A, n, c, rfl, hh⟩, hb2⟩ := hb
  obtain ⟨rfl, rfl⟩ := hh x r rfl hx
  obtain ⟨g, cap, e, _, _⟩ := h.form (by decide)
  injection e with e1 _ _
  subst e1
  have c0 := h.cells (g := g) rfl 0 (.string ⟨#[108, 105, 115, 116]⟩) rfl
  have c5 := h.cells (g := g) rfl 5 (.slice A (restL r).length c) rfl
  rw [add_plain] at c0 c5
  exact ⟨g, A, c, rfl, c0, c5⟩
theorem known_kids (w : World) : KidsAt (((w.alloc (.cells (nodeCells itemLay none 0 0) 24)).alloc (.cells (nodeCells listLay (some ⟨w.heap.size, 0, none⟩) 1 1) 24)).alloc (.cells (nodeCells docLay (some ⟨w.heap.size + 1, 0, none⟩) 1 1) 24)) [[listLay, itemLay]] (some ⟨w.heap.size + 1, 0, none⟩) 1 := by
  have h0 := three_0 w (.cells (nodeCells itemLay none 0 0) 24) (.cells (nodeCells listLay (some ⟨w.heap.size, 0, none⟩) 1 1) 24) (.cells (nodeCells docLay (some ⟨w.heap.size + 1, 0, none⟩) 1 1) 24)
  have h1 := three_1 w (.cells (nodeCells itemLay none 0 0) 24) (.cells (nodeCells listLay (some ⟨w.heap.size, 0, none⟩) 1 1) 24) (.cells (nodeCells docLay (some ⟨w.heap.size + 1, 0, none⟩) 1 1) 24)
  refine ⟨rfl, fun _ => ⟨_, rfl, fun i hi => ?_⟩⟩
  have h00 : i = 0 := by simp at hi; omega
  subst h00
  exact ⟨listLay, [itemLay], _, _, _, rfl, ⟨blk_cell h1 0, blk_cell h1 1, blk_cell h1 2, blk_cell h1 3, blk_cell h1 4, blk_cell h1 5, blk_cell h1 6, blk_cell h1 7⟩,
    rfl, _, _, _, _, rfl, ⟨blk_cell h0 0, blk_cell h0 1, blk_cell h0 2, blk_cell h0 3, blk_cell h0 4, blk_cell h0 5, blk_cell h0 6, blk_cell h0 7⟩, rfl⟩
set_option maxRecDepth 100000 in
set_option maxHeartbeats 4000000 in
theorem known_true (w : World) : Calls Tryz.prog 10 #[] w fun e w' => e = .returned (.bool true) ∧ Below w.heap.size w w' := by
  have HK := Lib.hid (known_kids w)
  have HB := Lib.hid (below_alloc (below_alloc (below_alloc (Below.refl _ w) (.cells (nodeCells itemLay none 0 0) 24)) (.cells (nodeCells listLay (some ⟨w.heap.size, 0, none⟩) 1 1) 24)) (.cells (nodeCells docLay (some ⟨w.heap.size + 1, 0, none⟩) 1 1) 24))
  have HM := Lib.hid (fun (w : World) (A : Option Addr) (hk : KidsAt w [[listLay, itemLay]] A 1) => map_ok [[listLay, itemLay]] known_doc (by decide) (by decide) (by decide) (by decide) A 1 1 w hk)
  unfold nodeCells itemLay listLay docLay at HK HB
  go_enter Tryz.func10, Tryz.ntmps10
  go_wp2_with fail
  refine (HM.out _ _ HK.out).mono ?_
  rintro e w1 ⟨Ab, cb, An, cn, As, ns, cst, rfl, ⟨bs, ho, hbl⟩, hn, hb⟩
  obtain ⟨g, A5, c5, rfl, k0, k5⟩ := list_cells rfl ho hbl
  have k5 : w1.cell? ⟨g, 5, none⟩ = some (.slice A5 1 c5) := k5
  have hg : g < w1.heap.size := World.block_lt_of_cell? w1 _ k0
  have HB1 := Lib.hid (bb HB.out hb)
  have e1 : ([[(⟨7, 0, false⟩ : Lay), ⟨8, 0, false⟩]] : List Chain).length = 1 := rfl
  clear ho hbl hn hb HK HB HM
  have hl1 : listsAll [[listLay, itemLay]] = 1 := by decide
  go_wp2_with fail
  go_ret
  exact ⟨rfl, below_alloc HB1.out _⟩
end Go.Proofs.YtekpoglbpjodkaaGreatDoor
