/- OutmapDeep, the walk: quotes about lists about a rule. -/
import Derived.Test.YtekpoglbpjodkaaGreatDoorLKnown
namespace Go.Proofs.YtekpoglbpjodkaaGreatDoor
open Go.RowKit Go.Proofs.YtekpoglbpjodkaaGreatDoorW.PrintWords

def ruleLay : Lay := ⟨4, 0, false⟩
def quoteLay : Lay := ⟨6, 0, false⟩
def chL : Nat → Chain
  | 0 => [ruleLay]
  | l + 1 => listLay :: itemLay :: chL l
def chQ (l : Nat) : Nat → Chain
  | 0 => chL l
  | q + 1 => quoteLay :: chQ l q
theorem chL_head (l : Nat) : ∃ x r, chL l = x :: r ∧ HeadOk x (kidsN (x :: r)) := by
  cases l with
  | zero => exact ⟨_, _, rfl, Or.inl rfl⟩
  | succ l => exact ⟨_, _, rfl, Or.inr (Or.inr ⟨rfl, rfl⟩)⟩
theorem chL_ok : ∀ l, OkCh (chL l)
  | 0 => OkCh.rule _ rfl
  | l + 1 => by
    obtain ⟨x, r, e, h⟩ := chL_head l
    have := chL_ok l
    rw [chL]
    rw [e] at this ⊢
    exact OkCh.list _ _ _ rfl rfl (OkCh.holder _ _ _ (Or.inr rfl) h this)
theorem chQ_head (l q : Nat) : ∃ x r, chQ l q = x :: r ∧ HeadOk x (kidsN (x :: r)) := by
  cases q with
  | zero => exact chL_head l
  | succ q => exact ⟨_, _, rfl, Or.inr (Or.inl rfl)⟩
theorem chQ_ok (l : Nat) : ∀ q, OkCh (chQ l q)
  | 0 => chL_ok l
  | q + 1 => by
    obtain ⟨x, r, e, h⟩ := chQ_head l q
    have := chQ_ok l q
    rw [chQ]
    rw [e] at this ⊢
    exact OkCh.holder _ _ _ (Or.inl rfl) h this
theorem chL_norm : ∀ l, NormCh (chL l)
  | 0 => by simp [chL, NormCh, NormLay, ruleLay]
  | l + 1 => by
    have := chL_norm l
    simp [chL, NormCh, NormLay, listLay, itemLay, this]
theorem chQ_norm (l : Nat) : ∀ q, NormCh (chQ l q)
  | 0 => chL_norm l
  | q + 1 => by
    have := chQ_norm l q
    simp [chQ, NormCh, NormLay, quoteLay, this]
theorem chL_len : ∀ l, (chL l).length = 2 * l + 1
  | 0 => rfl
  | l + 1 => by have := chL_len l; simp [chL, this]; omega
theorem chQ_len (l : Nat) : ∀ q, (chQ l q).length = q + (2 * l + 1)
  | 0 => by rw [chQ, chL_len]; omega
  | q + 1 => by have := chQ_len l q; simp [chQ, this]; omega
theorem chL_all : ∀ l, dAll (chL l) = l
  | 0 => rfl
  | l + 1 => by have := chL_all l; simp [chL, dAll, isAll, listLay, itemLay, this]
theorem chQ_all (l : Nat) : ∀ q, dAll (chQ l q) = q + l
  | 0 => by rw [chQ, chL_all]; omega
  | q + 1 => by have := chQ_all l q; simp [chQ, dAll, isAll, quoteLay, this]; omega
theorem chL_lists : ∀ l, dLists (chL l) = l
  | 0 => rfl
  | l + 1 => by have := chL_lists l; simp [chL, dLists, isList, listLay, itemLay, this]
theorem chQ_lists (l : Nat) : ∀ q, dLists (chQ l q) = l
  | 0 => chL_lists l
  | q + 1 => by have := chQ_lists l q; simp [chQ, dLists, isList, quoteLay, this]
theorem chL_of : ∀ l, listsOf (chL l) = l
  | 0 => rfl
  | l + 1 => by have := chL_of l; simp [chL, listsOf, listLay, itemLay, this]; omega
theorem chQ_of (l : Nat) : ∀ q, listsOf (chQ l q) = l
  | 0 => chL_of l
  | q + 1 => by have := chQ_of l q; simp [chQ, listsOf, quoteLay, this]
theorem deep_doc (l q : Nat) (hl : l ≤ 12) (hq : q ≤ 40) : DocOk [chQ l q] := by
  refine ⟨fun ch hch => ?_, fun y r h => ?_, fun ch hch => ?_, by simp⟩
  · rw [List.mem_singleton.1 hch]; exact chQ_ok l q
  · obtain ⟨x, s, e, hx⟩ := chQ_head l q
    have := List.mem_singleton.1 h
    rw [e] at this
    injection this with h1 h2
    subst h1 h2
    exact hx
  · rw [List.mem_singleton.1 hch]
    exact ⟨by rw [chQ_len]; omega, chQ_norm l q⟩
/-- A node lies in block B0, all that is within it behind that. -/
def NodeIs (W : World) (B0 : Nat) (ch : Chain) (wr : World) : Prop := ∃ x r A m c, ch = x :: r ∧ Below W.heap.size W wr ∧ wr.heap[B0]? = some (.cells (nodeCells x A m c) 24 (0, 0)) ∧ RestIn wr (fun b => B0 < b) r A m
abbrev set8 (w : World) (g : Nat) (v0 v1 v2 v3 v4 v5 v6 v7 : Value) : World := (((((((w.setCell ⟨g, 0, none⟩ v0).setCell ⟨g, 1, none⟩ v1).setCell ⟨g, 2, none⟩ v2).setCell ⟨g, 3, none⟩ v3).setCell ⟨g, 4, none⟩ v4).setCell ⟨g, 5, none⟩ v5).setCell ⟨g, 6, none⟩ v6).setCell ⟨g, 7, none⟩ v7
theorem set8_is {w : World} {g : Nat} {x y : Lay} {A A' : Option Addr} {m c m' c' : Nat} (h : w.heap[g]? = some (.cells (nodeCells x A m c) 24 (0, 0))) :
    (set8 w g (.int .i64 y.k) (.int .i64 y.n) (.bool y.f) (.bool false) (.string ⟨#[]⟩) (.string ⟨#[]⟩) (.string ⟨#[]⟩) (.slice A' m' c')).heap[g]? = some (.cells (nodeCells y A' m' c') 24 (0, 0)) := by
  have h8 := blk_set (blk_set (blk_set (blk_set (blk_set (blk_set (blk_set (blk_set h 0 (.int .i64 y.k)) 1 (.int .i64 y.n)) 2 (.bool y.f)) 3 (.bool false)) 4 (.string ⟨#[]⟩)) 5 (.string ⟨#[]⟩)) 6 (.string ⟨#[]⟩)) 7 (.slice A' m' c')
  simp only [List.setIfInBounds_toArray, List.set_cons_succ, List.set_cons_zero] at h8
  exact h8
theorem set8_far (w : World) (g : Nat) (v0 v1 v2 v3 v4 v5 v6 v7 : Value) (j : Nat) (hj : j ≠ g) : (set8 w g v0 v1 v2 v3 v4 v5 v6 v7).heap[j]? = w.heap[j]? := by
  unfold set8
  rw [Below.heap_setCell _ _ _ _ hj, Below.heap_setCell _ _ _ _ hj, Below.heap_setCell _ _ _ _ hj, Below.heap_setCell _ _ _ _ hj, Below.heap_setCell _ _ _ _ hj, Below.heap_setCell _ _ _ _ hj, Below.heap_setCell _ _ _ _ hj, Below.heap_setCell _ _ _ _ hj]
theorem set8_below {W w : World} {g : Nat} (hb : Below W.heap.size W w) (hg : W.heap.size ≤ g) (v0 v1 v2 v3 v4 v5 v6 v7 : Value) : Below W.heap.size W (set8 w g v0 v1 v2 v3 v4 v5 v6 v7) :=
  (((((((hb.setCell hg _).setCell hg _).setCell hg _).setCell hg _).setCell hg _).setCell hg _).setCell hg _).setCell hg _
theorem cells8_of {w : World} {g : Nat} {x : Lay} {A : Option Addr} {m c : Nat} (h : w.heap[g]? = some (.cells (nodeCells x A m c) 24 (0, 0))) : Cells8 w g 0 x A m c :=
  ⟨blk_cell h 0, blk_cell h 1, blk_cell h 2, blk_cell h 3, blk_cell h 4, blk_cell h 5, blk_cell h 6, blk_cell h 7⟩
theorem set8_size (w : World) (g : Nat) (v0 v1 v2 v3 v4 v5 v6 v7 : Value) : (set8 w g v0 v1 v2 v3 v4 v5 v6 v7).heap.size = w.heap.size := by simp [set8, World.setCell]
/-- The node becomes the one kid of another. -/
theorem NodeIs.wrap {W wr : World} {B0 : Nat} {x y : Lay} {r : Chain} {A : Option Addr} {m c : Nat} (hB0 : W.heap.size ≤ B0) (hb : Below W.heap.size W wr) (h : wr.heap[B0]? = some (.cells (nodeCells x A m c) 24 (0, 0))) (hr : RestIn wr (fun b => B0 < b) r A m) :
    NodeIs W B0 (y :: x :: r) ((set8 wr B0 (.int .i64 y.k) (.int .i64 y.n) (.bool y.f) (.bool false) (.string ⟨#[]⟩) (.string ⟨#[]⟩) (.string ⟨#[]⟩) (.slice (some ⟨wr.heap.size, 0, none⟩) 1 1)).alloc (.cells (nodeCells x A m c) 24)) := by
  have hlt := blk_lt h
  have h8 := set8_is (y := y) (A' := some ⟨wr.heap.size, 0, none⟩) (m' := 1) (c' := 1) h
  have hs := set8_size wr B0 (.int .i64 y.k) (.int .i64 y.n) (.bool y.f) (.bool false) (.string ⟨#[]⟩) (.string ⟨#[]⟩) (.string ⟨#[]⟩) (.slice (some ⟨wr.heap.size, 0, none⟩) 1 1)
  have hf := set8_far wr B0 (.int .i64 y.k) (.int .i64 y.n) (.bool y.f) (.bool false) (.string ⟨#[]⟩) (.string ⟨#[]⟩) (.string ⟨#[]⟩) (.slice (some ⟨wr.heap.size, 0, none⟩) 1 1)
  have hbb := set8_below hb hB0 (.int .i64 y.k) (.int .i64 y.n) (.bool y.f) (.bool false) (.string ⟨#[]⟩) (.string ⟨#[]⟩) (.string ⟨#[]⟩) (.slice (some ⟨wr.heap.size, 0, none⟩) 1 1)
  generalize set8 wr B0 (.int .i64 y.k) (.int .i64 y.n) (.bool y.f) (.bool false) (.string ⟨#[]⟩) (.string ⟨#[]⟩) (.string ⟨#[]⟩) (.slice (some ⟨wr.heap.size, 0, none⟩) 1 1) = ws at h8 hs hf hbb ⊢
  have ha := below_alloc (Below.refl _ ws) (.cells (nodeCells x A m c) 24)
  have hn := heap_alloc_new ws (.cells (nodeCells x A m c) 24)
  rw [hs] at hn
  exact ⟨y, x :: r, _, _, _, rfl, below_then hbb hbb.size ha, (ha.block _ (by omega)).trans h8, rfl, wr.heap.size, A, m, c, rfl, hlt, cells8_of hn, hr.of fun q hq hp => ⟨hp, (ha.block q (by omega)).trans (hf q (by omega))⟩⟩
/-- The node becomes the one kid of an item, that the one of a list. -/
theorem NodeIs.wrap2 {W wr : World} {B0 : Nat} {x y z : Lay} {r : Chain} {A : Option Addr} {m c : Nat} (hB0 : W.heap.size ≤ B0) (hb : Below W.heap.size W wr) (h : wr.heap[B0]? = some (.cells (nodeCells x A m c) 24 (0, 0))) (hr : RestIn wr (fun b => B0 < b) r A m) :
    NodeIs W B0 (z :: y :: x :: r) (((set8 wr B0 (.int .i64 z.k) (.int .i64 z.n) (.bool z.f) (.bool false) (.string ⟨#[]⟩) (.string ⟨#[]⟩) (.string ⟨#[]⟩) (.slice (some ⟨wr.heap.size + 1, 0, none⟩) 1 1)).alloc (.cells (nodeCells x A m c) 24)).alloc (.cells (nodeCells y (some ⟨wr.heap.size, 0, none⟩) 1 1) 24)) := by
  have hlt := blk_lt h
  have h8 := set8_is (y := z) (A' := some ⟨wr.heap.size + 1, 0, none⟩) (m' := 1) (c' := 1) h
  have hs := set8_size wr B0 (.int .i64 z.k) (.int .i64 z.n) (.bool z.f) (.bool false) (.string ⟨#[]⟩) (.string ⟨#[]⟩) (.string ⟨#[]⟩) (.slice (some ⟨wr.heap.size + 1, 0, none⟩) 1 1)
  have hf := set8_far wr B0 (.int .i64 z.k) (.int .i64 z.n) (.bool z.f) (.bool false) (.string ⟨#[]⟩) (.string ⟨#[]⟩) (.string ⟨#[]⟩) (.slice (some ⟨wr.heap.size + 1, 0, none⟩) 1 1)
  have hbb := set8_below hb hB0 (.int .i64 z.k) (.int .i64 z.n) (.bool z.f) (.bool false) (.string ⟨#[]⟩) (.string ⟨#[]⟩) (.string ⟨#[]⟩) (.slice (some ⟨wr.heap.size + 1, 0, none⟩) 1 1)
  generalize set8 wr B0 (.int .i64 z.k) (.int .i64 z.n) (.bool z.f) (.bool false) (.string ⟨#[]⟩) (.string ⟨#[]⟩) (.string ⟨#[]⟩) (.slice (some ⟨wr.heap.size + 1, 0, none⟩) 1 1) = ws at h8 hs hf hbb ⊢
  have ha := below_alloc (below_alloc (Below.refl _ ws) (.cells (nodeCells x A m c) 24)) (.cells (nodeCells y (some ⟨wr.heap.size, 0, none⟩) 1 1) 24)
  have hn := two_0 ws (.cells (nodeCells x A m c) 24) (.cells (nodeCells y (some ⟨wr.heap.size, 0, none⟩) 1 1) 24)
  have hn1 := two_1 ws (.cells (nodeCells x A m c) 24) (.cells (nodeCells y (some ⟨wr.heap.size, 0, none⟩) 1 1) 24)
  rw [hs] at hn hn1
  exact ⟨z, y :: x :: r, _, _, _, rfl, below_then hbb hbb.size ha, (ha.block _ (by omega)).trans h8, rfl, wr.heap.size + 1, _, _, _, rfl, by omega, cells8_of hn1, rfl, wr.heap.size, A, m, c, rfl, hlt, cells8_of hn, hr.of fun q hq hp => ⟨hp, (ha.block q (by omega)).trans (hf q (by omega))⟩⟩
theorem frozen8 {w : World} {g : Nat} {o : Array Value} {t : TypeId} (h : w.heap[g]? = some (.cells o t (0, 0))) : w.frozen? ⟨g, 0, none⟩ = false ∧ w.frozen? ⟨g, 1, none⟩ = false ∧ w.frozen? ⟨g, 2, none⟩ = false ∧ w.frozen? ⟨g, 3, none⟩ = false ∧ w.frozen? ⟨g, 4, none⟩ = false ∧ w.frozen? ⟨g, 5, none⟩ = false ∧ w.frozen? ⟨g, 6, none⟩ = false ∧ w.frozen? ⟨g, 7, none⟩ = false :=
  ⟨blk_frozen h 0, blk_frozen h 1, blk_frozen h 2, blk_frozen h 3, blk_frozen h 4, blk_frozen h 5, blk_frozen h 6, blk_frozen h 7⟩
end Go.Proofs.YtekpoglbpjodkaaGreatDoor
