/- mapper.list of a list with an item: its number, its block. -/
import Derived.Test.YtekpoglbpjodkaaGreatDoorCarry
import Derived.Deep.AppendLies
import Derived.Deep.RegionLaw
import Derived.IntWalk
import Derived.Deep.DeepCutAuto
namespace Go.Proofs.YtekpoglbpjodkaaGreatDoor
open Go.RowKit Go.Proofs.YtekpoglbpjodkaaGreatDoorW.PrintWords

theorem boxed_block1 (W : World) (x : Lay) (A : Option Addr) (m c : Nat) : ((W.alloc (.cells (nodeCells x A m c) 24)).alloc (.cells #[.string ⟨#[]⟩, .string ⟨#[]⟩, .int .i64 0, .int .i64 0, .slice none 0 0, .slice none 0 0] 60)).heap[W.heap.size]? = some (.cells (nodeCells x A m c) 24 (0, 0)) := by
  rw [Below.heap_alloc _ _ _ (by rw [World.size_alloc]; omega)]
  exact heap_alloc_new W _
theorem boxed_block2 (W : World) (x : Lay) (A : Option Addr) (m c : Nat) : ((W.alloc (.cells (nodeCells x A m c) 24)).alloc (.cells #[.string ⟨#[]⟩, .string ⟨#[]⟩, .int .i64 0, .int .i64 0, .slice none 0 0, .slice none 0 0] 60)).heap[W.heap.size + 1]? = some (.cells #[.string ⟨#[]⟩, .string ⟨#[]⟩, .int .i64 0, .int .i64 0, .slice none 0 0, .slice none 0 0] 60 (0, 0)) := by
  have := heap_alloc_new (W.alloc (.cells (nodeCells x A m c) 24)) (.cells #[.string ⟨#[]⟩, .string ⟨#[]⟩, .int .i64 0, .int .i64 0, .slice none 0 0, .slice none 0 0] 60)
  rwa [World.size_alloc] at this
theorem own_drew {w : World} {base : Nat} {t : TypeId} {sz : Nat} {v : Value} {n : Nat} {xs : List Value} (h : w.ownsRow base t sz v n xs) : w.drew.ownsRow base t sz v n xs := h
theorem fresh_cells_drew (W : World) (cs : List Value) (t : TypeId) (g : Nat) (hg : W.heap.size = g) : ∀ j u, cs[j]? = some u → (W.alloc (.cells cs.toArray t)).drew.cell? ((⟨g, 0, none⟩ : Addr).add j) = some u := fresh_cells W cs t g hg
theorem num_cell {W w w1 : World} {base gm : Nat} {nv0 nv : Value} {grp : Int} {k : Nat} {ns : List Value} {o : Obj} (h : Carry W w base gm nv0 nv grp k ns) (hg2 : (w.alloc o).drew.grownBy w1 nv.ownBlock) : w1.cell? ⟨gm, 0, none⟩ = some nv :=
  blk_cell ((hg2.block gm (by have := h.mp.lt; rw [World.size_drew, World.size_alloc]; omega) h.mp.ne).trans ((same_alloc w o gm h.mp.lt).trans h.mp.blk)) 0
theorem num_frozen {W w w1 : World} {base gm : Nat} {nv0 nv : Value} {grp : Int} {k : Nat} {ns : List Value} {o : Obj} (h : Carry W w base gm nv0 nv grp k ns) (hg2 : (w.alloc o).drew.grownBy w1 nv.ownBlock) : w1.frozen? ⟨gm, 0, none⟩ = false :=
  blk_frozen ((hg2.block gm (by have := h.mp.lt; rw [World.size_drew, World.size_alloc]; omega) h.mp.ne).trans ((same_alloc w o gm h.mp.lt).trans h.mp.blk)) 0
/-- What the setting of a list's number leaves. -/
def AfterNum (W wx : World) (base gm : Nat) (nv : Value) (grp : Int) (k : Nat) (ns : List Value) (x : Lay) (A : Option Addr) (m c lv : Nat) : Prop := ∃ g2 cap2,
  Carry W wx base gm nv (.slice (some ⟨g2, 0, none⟩) (k + 1) cap2) grp (k + 1) (ns ++ numCells (k + 1) x lv) ∧ W.heap.size + 2 < wx.heap.size ∧ wx.heap[W.heap.size]? = some (.cells (nodeCells x A m c) 24 (0, 0)) ∧
  wx.heap[W.heap.size + 1]? = some (.cells #[.string ⟨#[]⟩, .string ⟨#[]⟩, .int .i64 0, .int .i64 0, .slice none 0 0, .slice none 0 0] 60 (0, 0))
/-- An item's block ahead of its kids. -/
def itemCells0 : Array Value := #[.string ⟨#[105, 116, 101, 109]⟩, .string ⟨#[]⟩, .int .i64 0, .int .i64 0, .slice none 0 0, .slice none 0 0]
/-- An item's block, its kids' row two blocks behind the item's node. -/
def itemCells (M : Nat) : Array Value := #[.string ⟨#[105, 116, 101, 109]⟩, .string ⟨#[]⟩, .int .i64 0, .int .i64 0, .slice none 0 0, .slice (some ⟨M + 1 + 1, 0, none⟩) 1 1]
def openerCells : Array Value := #[.string ⟨#[]⟩, .string ⟨#[79, 112, 101, 110, 101, 114]⟩, .int .i64 0, .int .i64 0, .slice none 0 0, .slice none 0 0]
theorem three_2 (w : World) (a b c : Obj) : (((w.alloc a).alloc b).alloc c).heap[w.heap.size + 2]? = some c := by
  have := heap_alloc_new ((w.alloc a).alloc b) c
  rwa [World.size_alloc, World.size_alloc] at this
theorem three_1 (w : World) (a b c : Obj) : (((w.alloc a).alloc b).alloc c).heap[w.heap.size + 1]? = some b := by
  rw [same_alloc ((w.alloc a).alloc b) c (w.heap.size + 1) (by rw [World.size_alloc, World.size_alloc]; omega)]
  have := heap_alloc_new (w.alloc a) b
  rwa [World.size_alloc] at this
theorem three_0 (w : World) (a b c : Obj) : (((w.alloc a).alloc b).alloc c).heap[w.heap.size]? = some a := by
  rw [same_alloc ((w.alloc a).alloc b) c w.heap.size (by rw [World.size_alloc, World.size_alloc]; omega), same_alloc (w.alloc a) b w.heap.size (by rw [World.size_alloc]; omega)]
  exact heap_alloc_new w a
/-- What the laying of an item's kids leaves. -/
def AfterKids (W wx : World) (base gm : Nat) (nv0 : Value) (grp : Int) (k : Nat) (ns : List Value) (N3 M : Nat) : Prop := ∃ nv' g6 n cap6 xs,
  Carry W wx base gm nv0 nv' grp k ns ∧ wx.ownsRow (M + 2) 60 6 (.slice (some ⟨g6, 0, none⟩) n cap6) n xs ∧ 1 ≤ n ∧ n ≤ 2 ∧
  wx.heap[W.heap.size + 1]? = some (.cells #[.string ⟨#[]⟩, .string ⟨#[]⟩, .int .i64 0, .int .i64 0, .slice none 0 0, .slice none 0 0] 60 (0, 0)) ∧
  wx.heap[N3]? = some (.cells #[.string ⟨#[108, 105, 115, 116]⟩, .string ⟨#[]⟩, .int .i64 0, .int .i64 0, .slice none 0 0, .slice none 0 0] 60 (0, 0)) ∧
  wx.heap[M + 1]? = some (.cells #[.string ⟨#[105, 116, 101, 109]⟩, .string ⟨#[]⟩, .int .i64 0, .int .i64 0, .slice none 0 0, .slice (some ⟨g6, 0, none⟩) n cap6] 60 (0, 0))
theorem RestIn.kidsIn {W : World} {P : Nat → Prop} {r : Chain} {A : Option Addr} {m : Nat} (h : RestIn W P r A m) : KidsIn W P (restL r) A m := by
  cases r with
  | nil => exact ⟨h, fun hm => by have h0 : m = 0 := h; omega⟩
  | cons x r =>
    obtain ⟨h1, g, A1, m1, c1, h2, hp, h3, h4⟩ := h
    exact ⟨h1, fun _ => ⟨g, h2, hp, fun i hi => by
      have h0 : i = 0 := by simp [restL] at hi; omega
      subst h0
      exact ⟨x, r, A1, m1, c1, rfl, h3, h4⟩⟩⟩
theorem RestIn.drew {W : World} {P : Nat → Prop} {r : Chain} {A : Option Addr} {m : Nat} (h : RestIn W P r A m) : RestIn W.drew P r A m := RestIn.of (W := W) (W1 := W.drew) (P := P) (P1 := P) (fun _ _ hp => ⟨hp, rfl⟩) h
def openerL : List Value := [.string ⟨#[]⟩, .string ⟨#[79, 112, 101, 110, 101, 114]⟩, .int .i64 0, .int .i64 0, .slice none 0 0, .slice none 0 0]
theorem Carry.own_ne {W w : World} {base gm : Nat} {nv0 nv : Value} {grp : Int} {k : Nat} {ns : List Value} (h : Carry W w base gm nv0 nv grp k ns) {j : Nat} {cs : Array Value} {t : TypeId} {fr : Nat × Nat} (hb : w.heap[j]? = some (.cells cs t fr)) (ht : t ≠ 43) : nv.ownBlock ≠ some j := by
  intro e
  rcases h.mp.own.2 with ⟨rfl, _⟩ | ⟨g, cap, cur, rfl, _, hh, _⟩
  · cases e
  · injection e with e
    dsimp only at e
    subst e
    rw [hh] at hb
    injection hb with hb
    injection hb with _ h2 _
    exact ht h2.symm
theorem kept6 {W w5 w6 : World} {base gm : Nat} {nv0 nv : Value} {grp : Int} {k : Nat} {ns : List Value} (hc : Carry W w5 base gm nv0 nv grp k ns) (hgl : gm < W.heap.size) (hf : Fr (Apart gm nv) w5.drew w6) {j : Nat} {cs : Array Value} {t : TypeId} (hb : w5.heap[j]? = some (.cells cs t (0, 0))) (ht : t ≠ 43) (hj : W.heap.size ≤ j) : w6.heap[j]? = some (.cells cs t (0, 0)) :=
  (hf.block j (blk_lt hb) ⟨by omega, fun e => hc.own_ne hb ht e.symm⟩).trans hb
theorem opener_row {w : World} {M : Nat} (h : w.heap[M + 2]? = some (.cells openerL.toArray 60 (0, 0))) : w.ownsRow (M + 2) 60 6 (.slice (some ⟨M + 1 + 1, 0, none⟩) 1 1) 1 openerL :=
  ⟨rfl, Or.inr ⟨M + 1 + 1, 1, _, rfl, by omega, h, Nat.le_refl _, by decide, rfl, rfl⟩⟩
theorem blk_one {ch : Chain} {cells : List Value} (h : BlkOf ch cells) : ∀ u ∈ cells, u.oneCell' = true := by
  obtain ⟨tag, st, num, lv, A, n, c, rfl, _⟩ := h
  simp [Value.oneCell']
theorem blks_one : ∀ {cs : List Chain} {cells : List Value}, BlksOf cs cells → ∀ u ∈ cells, u.oneCell' = true
  | [], _, h => by rw [show _ = ([] : List Value) from h]; simp
  | _ :: _, _, ⟨a, b, e, h1, h2⟩ => by
    intro u hu
    rw [e, List.mem_append] at hu
    exact hu.elim (blk_one h1 u) (blks_one h2 u)
theorem after_some {W w5 w6 w7 : World} {base gm : Nat} {nv0 nv nv' : Value} {grp : Int} {k k2 : Nat} {ns ns2 xs : List Value} {N3 M g6 cap6 : Nat} (hc : Carry W w5 base gm nv0 nv grp k ns) (hgl : gm < W.heap.size) (hs : W.heap.size + 2 < N3) (hm : M = N3 + 1) (h5 : w5.heap.size = M + 3)
    (h1 : w5.heap[W.heap.size + 1]? = some (.cells #[.string ⟨#[]⟩, .string ⟨#[]⟩, .int .i64 0, .int .i64 0, .slice none 0 0, .slice none 0 0] 60 (0, 0)))
    (h2 : w5.heap[N3]? = some (.cells #[.string ⟨#[108, 105, 115, 116]⟩, .string ⟨#[]⟩, .int .i64 0, .int .i64 0, .slice none 0 0, .slice none 0 0] 60 (0, 0)))
    (h3 : w5.heap[M + 1]? = some (.cells #[.string ⟨#[105, 116, 101, 109]⟩, .string ⟨#[]⟩, .int .i64 0, .int .i64 0, .slice none 0 0, .slice (some ⟨M + 1 + 1, 0, none⟩) 1 1] 60 (0, 0)))
    (h4 : w5.heap[M + 2]? = some (.cells openerL.toArray 60 (0, 0))) (hmp : MapAt w6 base gm nv' grp k2 ns2) (hfr : Fr (Apart gm nv) w5.drew w6) (hnb : ∀ b, nv'.ownBlock = some b → nv.ownBlock = some b ∨ w5.drew.heap.size ≤ b)
    (ho : w7.ownsRow (M + 2) 60 6 (.slice (some ⟨g6, 0, none⟩) 2 cap6) 2 xs) (hg6 : w6.grownBy w7 (Value.slice (some ⟨M + 1 + 1, 0, none⟩) 1 1).ownBlock) (hat : (Value.slice (some ⟨M + 1 + 1, 0, none⟩) 1 1).ownBlock = some g6 ∨ g6 = w6.heap.size) :
    AfterKids W (w7.setCell ⟨M + 1, 5, none⟩ (.slice (some ⟨g6, 0, none⟩) 2 cap6)) base gm nv0 grp k2 ns2 N3 M := by
  have hcd : Carry W w5.drew base gm nv0 nv grp k ns := hc.below hgl (below_drew (Below.refl _ _))
  have hc6 : Carry W w6 base gm nv0 nv' grp k2 ns2 := hcd.call hmp hfr hnb
  have e6 : w5.drew.heap.size = w5.heap.size := rfl
  have hs6 := hfr.size
  have hne : nv'.ownBlock ≠ some (M + 2) := hc6.own_ne (kept6 hc hgl hfr h4 (by decide) (by omega)) (by decide)
  have hc7 : Carry W w7 base gm nv0 nv' grp k2 ns2 := hc6.grown hgl hg6 fun b e => by injection e with e; dsimp only at e; subst e; exact ⟨by omega, hne⟩
  have b1 := blk_grown (kept6 hc hgl hfr h1 (by decide) (by omega)) hg6 (by intro e; injection e with e; dsimp only at e; omega)
  have b2 := blk_grown (kept6 hc hgl hfr h2 (by decide) (by omega)) hg6 (by intro e; injection e with e; dsimp only at e; omega)
  have b3 := blk_grown (kept6 hc hgl hfr h3 (by decide) (by omega)) hg6 (by intro e; injection e with e; dsimp only at e; omega)
  have far : ∀ j, j ≠ M + 1 → (w7.setCell ⟨M + 1, 5, none⟩ (.slice (some ⟨g6, 0, none⟩) 2 cap6)).heap[j]? = w7.heap[j]? := fun j hj => Below.heap_setCell _ _ _ _ hj
  have hgg : g6 ≠ M + 1 := by
    rcases hat with e | e
    · injection e with e; dsimp only at e; omega
    · omega
  refine ⟨nv', g6, 2, cap6, xs, ?_, own_move ho fun b e => far b (by injection e with e; dsimp only at e; omega), by omega, by omega, (far _ (by omega)).trans b1, (far _ (by omega)).trans b2, ?_⟩
  · exact hc7.grown hgl (gset (grown_of_below (Below.refl _ _) _) 5 _) fun b e => by injection e with e; subst e; exact ⟨by omega, hc7.own_ne b3 (by decide)⟩
  · have := blk_set b3 5 (.slice (some ⟨g6, 0, none⟩) 2 cap6)
    simpa using this
/-- What the setting of a number in an item's first block leaves. -/
def AfterSet (W wx : World) (base gm : Nat) (nv0 : Value) (grp : Int) (k : Nat) (ns : List Value) (N3 M : Nat) : Prop := ∃ nv' A5 n5 c5,
  Carry W wx base gm nv0 nv' grp k ns ∧
  wx.heap[W.heap.size + 1]? = some (.cells #[.string ⟨#[]⟩, .string ⟨#[]⟩, .int .i64 0, .int .i64 0, .slice none 0 0, .slice none 0 0] 60 (0, 0)) ∧
  wx.heap[N3]? = some (.cells #[.string ⟨#[108, 105, 115, 116]⟩, .string ⟨#[]⟩, .int .i64 0, .int .i64 0, .slice none 0 0, .slice none 0 0] 60 (0, 0)) ∧
  wx.heap[M + 1]? = some (.cells #[.string ⟨#[105, 116, 101, 109]⟩, .string ⟨#[]⟩, .int .i64 0, .int .i64 0, .slice none 0 0, .slice A5 n5 c5] 60 (0, 0))
theorem row_block {w : World} {B g6 n cap6 : Nat} {xs : List Value} (h : w.ownsRow B 60 6 (.slice (some ⟨g6, 0, none⟩) n cap6) n xs) (hn : 1 ≤ n) : ∃ cur, w.heap[g6]? = some (.cells cur 60 (0, 0)) ∧ 6 ≤ cur.size ∧ B ≤ g6 := by
  rcases h.2 with ⟨h, _⟩ | ⟨g, cap, cur, e, hb, hh, hc, _, hs, _⟩
  · cases h
  · injection e with e1 e2 e3
    injection e1 with e1
    injection e1 with e1
    subst e1 e3
    exact ⟨cur, hh, by omega, hb⟩
theorem after_set {W w : World} {base gm : Nat} {nv0 nv : Value} {grp : Int} {k : Nat} {ns : List Value} {N3 M g6 n cap6 : Nat} {cur : Array Value} (hc : Carry W w base gm nv0 nv grp k ns) (hgl : gm < W.heap.size) (hs : W.heap.size + 2 < N3) (hm : M = N3 + 1)
    (h1 : w.heap[W.heap.size + 1]? = some (.cells #[.string ⟨#[]⟩, .string ⟨#[]⟩, .int .i64 0, .int .i64 0, .slice none 0 0, .slice none 0 0] 60 (0, 0)))
    (h2 : w.heap[N3]? = some (.cells #[.string ⟨#[108, 105, 115, 116]⟩, .string ⟨#[]⟩, .int .i64 0, .int .i64 0, .slice none 0 0, .slice none 0 0] 60 (0, 0)))
    (h3 : w.heap[M + 1]? = some (.cells #[.string ⟨#[105, 116, 101, 109]⟩, .string ⟨#[]⟩, .int .i64 0, .int .i64 0, .slice none 0 0, .slice (some ⟨g6, 0, none⟩) n cap6] 60 (0, 0)))
    (h4 : w.heap[g6]? = some (.cells cur 60 (0, 0))) (hg : M + 2 ≤ g6) : ∀ w', w.grownBy w' (some g6) → AfterSet W w' base gm nv0 grp k ns N3 M := fun w' hg2 =>
  ⟨nv, _, _, _, hc.grown hgl hg2 fun b e => by injection e with e; subst e; exact ⟨by omega, hc.own_ne h4 (by decide)⟩,
    blk_grown h1 hg2 (fun e => by injection e with e; omega), blk_grown h2 hg2 (fun e => by injection e with e; omega), blk_grown h3 hg2 (fun e => by injection e with e; omega)⟩
theorem below_of_grown {w w1 : World} (h : w.grownBy w1 (Value.slice none 0 0).ownBlock) : Below w.heap.size w w1 := ⟨h.os, h.tape, h.output, h.size, fun j hj => h.block j hj (fun e => by cases e)⟩
theorem list_end {W w : World} {base gm : Nat} {nv0 nv : Value} {grp : Int} {k : Nat} {ns : List Value} {A : Option Addr} {c : Nat} (hc : Carry W w base gm nv0 nv grp k ns) (hgl : gm < W.heap.size)
    (h : w.heap[W.heap.size + 1]? = some (.cells #[.string ⟨#[]⟩, .string ⟨#[]⟩, .int .i64 0, .int .i64 0, .slice none 0 0, .slice none 0 0] 60 (0, 0))) :
    Carry W ((((((w.setCell ⟨W.heap.size + 1, 0, none⟩ (.string ⟨#[108, 105, 115, 116]⟩)).setCell ⟨W.heap.size + 1, 1, none⟩ (.string ⟨#[]⟩)).setCell ⟨W.heap.size + 1, 2, none⟩ (.int .i64 0)).setCell ⟨W.heap.size + 1, 3, none⟩ (.int .i64 0)).setCell ⟨W.heap.size + 1, 4, none⟩ (.slice none 0 0)).setCell ⟨W.heap.size + 1, 5, none⟩ (.slice A 1 c)) base gm nv0 nv grp k ns ∧
    ((((((w.setCell ⟨W.heap.size + 1, 0, none⟩ (.string ⟨#[108, 105, 115, 116]⟩)).setCell ⟨W.heap.size + 1, 1, none⟩ (.string ⟨#[]⟩)).setCell ⟨W.heap.size + 1, 2, none⟩ (.int .i64 0)).setCell ⟨W.heap.size + 1, 3, none⟩ (.int .i64 0)).setCell ⟨W.heap.size + 1, 4, none⟩ (.slice none 0 0)).setCell ⟨W.heap.size + 1, 5, none⟩ (.slice A 1 c)).cell? ⟨W.heap.size + 1, 0, none⟩ = some (.string ⟨#[108, 105, 115, 116]⟩) ∧
    ((((((w.setCell ⟨W.heap.size + 1, 0, none⟩ (.string ⟨#[108, 105, 115, 116]⟩)).setCell ⟨W.heap.size + 1, 1, none⟩ (.string ⟨#[]⟩)).setCell ⟨W.heap.size + 1, 2, none⟩ (.int .i64 0)).setCell ⟨W.heap.size + 1, 3, none⟩ (.int .i64 0)).setCell ⟨W.heap.size + 1, 4, none⟩ (.slice none 0 0)).setCell ⟨W.heap.size + 1, 5, none⟩ (.slice A 1 c)).cell? ⟨W.heap.size + 1, 1, none⟩ = some (.string ⟨#[]⟩) ∧
    ((((((w.setCell ⟨W.heap.size + 1, 0, none⟩ (.string ⟨#[108, 105, 115, 116]⟩)).setCell ⟨W.heap.size + 1, 1, none⟩ (.string ⟨#[]⟩)).setCell ⟨W.heap.size + 1, 2, none⟩ (.int .i64 0)).setCell ⟨W.heap.size + 1, 3, none⟩ (.int .i64 0)).setCell ⟨W.heap.size + 1, 4, none⟩ (.slice none 0 0)).setCell ⟨W.heap.size + 1, 5, none⟩ (.slice A 1 c)).cell? ⟨W.heap.size + 1, 2, none⟩ = some (.int .i64 0) ∧
    ((((((w.setCell ⟨W.heap.size + 1, 0, none⟩ (.string ⟨#[108, 105, 115, 116]⟩)).setCell ⟨W.heap.size + 1, 1, none⟩ (.string ⟨#[]⟩)).setCell ⟨W.heap.size + 1, 2, none⟩ (.int .i64 0)).setCell ⟨W.heap.size + 1, 3, none⟩ (.int .i64 0)).setCell ⟨W.heap.size + 1, 4, none⟩ (.slice none 0 0)).setCell ⟨W.heap.size + 1, 5, none⟩ (.slice A 1 c)).cell? ⟨W.heap.size + 1, 3, none⟩ = some (.int .i64 0) ∧
    ((((((w.setCell ⟨W.heap.size + 1, 0, none⟩ (.string ⟨#[108, 105, 115, 116]⟩)).setCell ⟨W.heap.size + 1, 1, none⟩ (.string ⟨#[]⟩)).setCell ⟨W.heap.size + 1, 2, none⟩ (.int .i64 0)).setCell ⟨W.heap.size + 1, 3, none⟩ (.int .i64 0)).setCell ⟨W.heap.size + 1, 4, none⟩ (.slice none 0 0)).setCell ⟨W.heap.size + 1, 5, none⟩ (.slice A 1 c)).cell? ⟨W.heap.size + 1, 4, none⟩ = some (.slice none 0 0) ∧
    ((((((w.setCell ⟨W.heap.size + 1, 0, none⟩ (.string ⟨#[108, 105, 115, 116]⟩)).setCell ⟨W.heap.size + 1, 1, none⟩ (.string ⟨#[]⟩)).setCell ⟨W.heap.size + 1, 2, none⟩ (.int .i64 0)).setCell ⟨W.heap.size + 1, 3, none⟩ (.int .i64 0)).setCell ⟨W.heap.size + 1, 4, none⟩ (.slice none 0 0)).setCell ⟨W.heap.size + 1, 5, none⟩ (.slice A 1 c)).cell? ⟨W.heap.size + 1, 5, none⟩ = some (.slice A 1 c) := by
  have h8 := blk_set (blk_set (blk_set (blk_set (blk_set (blk_set h 0 (.string ⟨#[108, 105, 115, 116]⟩)) 1 (.string ⟨#[]⟩)) 2 (.int .i64 0)) 3 (.int .i64 0)) 4 (.slice none 0 0)) 5 (.slice A 1 c)
  have hg := gset (gset (gset (gset (gset (gset (grown_of_below (Below.refl _ w) (some (W.heap.size + 1))) 0 (.string ⟨#[108, 105, 115, 116]⟩)) 1 (.string ⟨#[]⟩)) 2 (.int .i64 0)) 3 (.int .i64 0)) 4 (.slice none 0 0)) 5 (.slice A 1 c)
  exact ⟨hc.grown hgl hg fun b e => by injection e with e; subst e; exact ⟨by omega, hc.own_ne h (by decide)⟩,
    blk_cell h8 0, blk_cell h8 1, blk_cell h8 2, blk_cell h8 3, blk_cell h8 4, blk_cell h8 5⟩
theorem numsAll_rest (s : Chain) (k lv : Nat) : numsAll (restL s) k lv = numsOf s k lv := by cases s <;> simp [restL, numsAll, numsOf]
theorem after_none {W w5 : World} {base gm : Nat} {nv0 nv : Value} {grp : Int} {k : Nat} {ns : List Value} {N3 M k2 lv2 : Nat} (hc : Carry W w5 base gm nv0 nv grp k ns) (hgl : gm < W.heap.size) (hs : W.heap.size + 2 < N3) (hm : M = N3 + 1) (h5 : w5.heap.size = M + 3)
    (h1 : w5.heap[W.heap.size + 1]? = some (.cells #[.string ⟨#[]⟩, .string ⟨#[]⟩, .int .i64 0, .int .i64 0, .slice none 0 0, .slice none 0 0] 60 (0, 0)))
    (h2 : w5.heap[N3]? = some (.cells #[.string ⟨#[108, 105, 115, 116]⟩, .string ⟨#[]⟩, .int .i64 0, .int .i64 0, .slice none 0 0, .slice none 0 0] 60 (0, 0)))
    (h3 : w5.heap[M + 1]? = some (.cells #[.string ⟨#[105, 116, 101, 109]⟩, .string ⟨#[]⟩, .int .i64 0, .int .i64 0, .slice none 0 0, .slice (some ⟨M + 1 + 1, 0, none⟩) 1 1] 60 (0, 0)))
    (h4 : w5.heap[M + 2]? = some (.cells openerL.toArray 60 (0, 0))) (hnv : nv.ownBlock ≠ some (M + 1)) :
    AfterKids W (w5.drew.setCell ⟨M + 1, 5, none⟩ (.slice (some ⟨M + 1 + 1, 0, none⟩) 1 1)) base gm nv0 grp (k + listsAll (restL [])) (ns ++ numsAll (restL []) k2 lv2) N3 M := by
  have hcd : Carry W w5.drew base gm nv0 nv grp k ns := hc.below hgl (below_drew (Below.refl _ _))
  have hg : w5.drew.grownBy (w5.drew.setCell ⟨M + 1, 5, none⟩ (.slice (some ⟨M + 1 + 1, 0, none⟩) 1 1)) (some (M + 1)) := gset (grown_of_below (Below.refl _ _) _) 5 _
  have far : ∀ j, j ≠ M + 1 → (w5.drew.setCell ⟨M + 1, 5, none⟩ (.slice (some ⟨M + 1 + 1, 0, none⟩) 1 1)).heap[j]? = w5.heap[j]? := fun j hj => Below.heap_setCell _ _ _ _ hj
  refine ⟨nv, M + 1 + 1, 1, 1, openerL, ?_, ⟨rfl, Or.inr ⟨M + 1 + 1, 1, _, rfl, by omega, (far _ (by omega)).trans h4, Nat.le_refl _, by decide, rfl, rfl⟩⟩, by omega, by omega, (far _ (by omega)).trans h1, (far _ (by omega)).trans h2, ?_⟩
  · have := hcd.grown hgl hg fun b e => by injection e with e; subst e; exact ⟨by omega, hnv⟩
    simpa [restL, listsAll, numsAll] using this
  · have := blk_set (w := w5.drew) h3 5 (.slice (some ⟨M + 1 + 1, 0, none⟩) 1 1)
    simpa using this
set_option maxRecDepth 100000 in
set_option maxHeartbeats 1000000 in
theorem mblocks_nil (gm : Nat) (A : Option Addr) (c : Nat) (lv : Int) (W : World) :
    Calls Tryz.prog 14 #[.pointer (some ⟨gm, 0, none⟩), .slice A 0 c, .int .i64 lv] W fun e w' => e = .returned (.slice none 0 0) ∧ W = w' := by
  go_enter Tryz.func14, Tryz.ntmps14
  go_wp2_with fail
  refine wp_loop_rounds 1 ?_
  rw [rounds_succ]
  go_wp2_with fail
  go_ret
  exact ⟨rfl, rfl⟩
theorem listsAll_rest (s : Chain) : listsAll (restL s) = listsOf s := by cases s <;> simp [restL, listsAll, listsOf]
theorem listsOf_rest (s : Chain) (ch : Chain) (h : ch ∈ restL s) : listsOf ch ≤ listsOf s := by
  cases s with
  | nil => cases h
  | cons z t => rw [List.mem_singleton.1 h]; exact Nat.le_refl _
set_option maxRecDepth 100000 in
set_option maxHeartbeats 4000000 in
theorem mlist_any (x y : Lay) (s : Chain) (hx : x.k = 7) (hyk : y.k ≠ 7) (hih : MBlocksOk (restL s)) (W : World) (base gm : Nat) (nv : Value) (grp : Int) (k : Nat) (ns : List Value) (A : Option Addr) (m c lv : Nat) (hr : RestIn W (fun b => b < base) (y :: s) A m) (hy : ∀ z t, s = z :: t → z.k ≠ 2)
    (hm : MapAt W base gm nv grp k ns) (hg : base ≤ gm) (hk : k + listsOf (x :: y :: s) ≤ 500) (hlv : lv + listsOf (x :: y :: s) ≤ 200) :
    Calls Tryz.prog 35 #[.pointer (some ⟨gm, 0, none⟩), mkNode x A m c, .int .i64 lv] W fun e w' => ∃ cells nv', e = .returned (.agg cells.toArray) ∧ BlkOf (x :: y :: s) cells ∧
      MapAt w' base gm nv' grp (k + listsOf (x :: y :: s)) (ns ++ numsOf (x :: y :: s) k lv) ∧ Fr (Apart gm nv) W w' ∧ ∀ b, nv'.ownBlock = some b → nv.ownBlock = some b ∨ W.heap.size ≤ b := by
  obtain ⟨i0, hi, hzz⟩ := Option.map_eq_some_iff.1 info_num
  simp only [Prod.mk.injEq] at hzz
  obtain ⟨hz0, hz1, hz2⟩ := hzz
  have Hz0 := Lib.hid hz0; have Hz1 := Lib.hid hz1; have Hz2 := Lib.hid hz2; have Hi := Lib.hid hi; clear hz0 hz1 hz2 hi
  obtain ⟨Av, cv, rfl⟩ := own_slice hm.own
  have hb0 : W.cell? ⟨gm, 0, none⟩ = some (.slice Av k cv) := blk_cell hm.blk 0
  have hfz : W.frozen? ⟨gm, 0, none⟩ = false := blk_frozen hm.blk 0
  have HM := Lib.hid hm; have HR := Lib.hid hr; have HIH := Lib.hid hih; have HX := Lib.hid hx; have HYk := Lib.hid hyk; have HK := Lib.hid hk; have HLV := Lib.hid hlv; have HY := Lib.hid hy; have HG := Lib.hid hg
  have hgl := hm.lt
  have hk500 : k ≤ 500 := by omega
  clear hm hr hih hx hyk hk hlv hy hg
  unfold mkNode
  go_enter Tryz.func35, Tryz.ntmps35
  go_wp2_with fail
  have hbA := below_alloc (below_alloc (Below.refl _ W) (.cells (nodeCells x A m c) 24)) (.cells #[.string ⟨#[]⟩, .string ⟨#[]⟩, .int .i64 0, .int .i64 0, .slice none 0 0, .slice none 0 0] 60)
  have hX1 := boxed_block1 W x A m c
  have hX2 := boxed_block2 W x A m c
  have hXs : ((W.alloc (.cells (nodeCells x A m c) 24)).alloc (.cells #[.string ⟨#[]⟩, .string ⟨#[]⟩, .int .i64 0, .int .i64 0, .slice none 0 0, .slice none 0 0] 60)).heap.size = W.heap.size + 2 := by rw [World.size_alloc, World.size_alloc]
  generalize ((W.alloc (.cells (nodeCells x A m c) 24)).alloc (.cells #[.string ⟨#[]⟩, .string ⟨#[]⟩, .int .i64 0, .int .i64 0, .slice none 0 0, .slice none 0 0] 60)) = wa at hbA hX1 hX2 hXs ⊢
  have p0 : wa.cell? ⟨gm, 0, none⟩ = some (.slice Av k cv) := (hbA.cell (p := ⟨gm, 0, none⟩) hgl).trans hb0
  have pf : wa.frozen? ⟨gm, 0, none⟩ = false := (hbA.frozen (p := ⟨gm, 0, none⟩) hgl).trans hfz
  have p1 : wa.cell? ⟨W.heap.size, 1, none⟩ = some (.int .i64 x.n) := blk_cell hX1 1
  have p2 : wa.cell? ⟨W.heap.size, 2, none⟩ = some (.bool x.f) := blk_cell hX1 2
  have pn : (wa.alloc (.cells #[.int .i64 ((k : Int) + 1), .bool x.f, .int .i64 x.n, .int .i64 lv] 43)).cell? ⟨gm, 0, none⟩ = some (.slice Av k cv) := (World.cell?_of_block (w := wa) (same_alloc wa _ gm (by rw [hXs]; omega))).trans p0
  have HBA := Lib.hid hbA; have HX1 := Lib.hid hX1; have HX2 := Lib.hid hX2; have HXs := Lib.hid hXs; clear hbA hX1 hX2 hXs hb0 hfz
  have HOA := Lib.hid (own_drew (own_alloc (pw_own_below HM.out.own HBA.out) (.cells #[.int .i64 ((k : Int) + 1), .bool x.f, .int .i64 x.n, .int .i64 lv] 43)))
  have HNew := Lib.hid (fresh_cells_drew wa [.int .i64 ((k : Int) + 1), .bool x.f, .int .i64 x.n, .int .i64 lv] 43 wa.heap.size rfl)
  have H63 := Lib.hid (le_maxLen (show k + 1 ≤ 1000 by omega))
  have HBy := Lib.hid (show (k + 1) * 32 ≤ 140737488355328 by omega)
  have H1c := Lib.hid (show ∀ u ∈ [Value.int .i64 ((k : Int) + 1), .bool x.f, .int .i64 x.n, .int .i64 lv], u.oneCell' = true by simp [Value.oneCell'])
  have HBase := Lib.hid (show base ≤ (wa.alloc (.cells #[.int .i64 ((k : Int) + 1), .bool x.f, .int .i64 x.n, .int .i64 lv] 43)).drew.heap.size by have := HG.out; have := HXs.out; rw [World.size_drew, World.size_alloc]; omega)
  have HCa := Lib.hid ((Carry.start HM.out).below hgl HBA.out)
  have HNE := Lib.hid HM.out.ne
  have hnvl : ∀ b, (Value.slice Av k cv).ownBlock = some b → b < W.heap.size := fun b hb => own_lt HM.out.own b hb
  have HNV := Lib.hid hnvl; clear hnvl
  go_upto_region 2 with fail
  go_cut [] (fun wx => AfterNum W wx base gm (.slice Av k cv) grp k ns x A m c lv)
  case first =>
    go_region_law (refine step_append_lies _ (by rfl) _ _ 27 (by rfl) base 43 i0 _ 4 32 Tryz.underlying27 Hi.out Hz0.out Hz1.out Hz2.out rfl (by decide) _ k ns (by rfl) HOA.out ⟨wa.heap.size, 0, none⟩ 1 1 [.int .i64 ((k : Int) + 1), .bool x.f, .int .i64 x.n, .int .i64 lv] (by rfl) rfl HNew.out H1c.out (by decide) H63.out HBy.out HBase.out _ rfl ?_; intro g2 cap2 w1 ho hg2 hat hlt; have p9 : w1.cell? ⟨gm, 0, none⟩ = some (.slice Av k cv) := num_cell HCa.out hg2; have f9 : w1.frozen? ⟨gm, 0, none⟩ = false := num_frozen HCa.out hg2; have Ho := Lib.hid ho; have Hg2 := Lib.hid hg2; have Hat := Lib.hid hat; clear ho hg2 hat hlt)
    all_goals
      have hca := HCa.out.num Ho.out Hg2.out Hat.out
      have hX1 := (num_keeps (gm := gm) (u := .slice (some ⟨g2, 0, none⟩) (k + 1) cap2) Hg2.out W.heap.size (by have := HXs.out; omega) (show _ from by omega) (fun e => by have := HNV.out _ e; omega)).trans HX1.out
      have hX2 := (num_keeps (gm := gm) (u := .slice (some ⟨g2, 0, none⟩) (k + 1) cap2) Hg2.out (W.heap.size + 1) (by have := HXs.out; omega) (show _ from by omega) (fun e => by have := HNV.out _ e; omega)).trans HX2.out
      have hsz := num_size (gm := gm) (u := .slice (some ⟨g2, 0, none⟩) (k + 1) cap2) Hg2.out
      rw [HXs.out] at hsz
      have HR9 := Lib.hid (show AfterNum W (w1.setCell ⟨gm, 0, none⟩ (.slice (some ⟨g2, 0, none⟩) (k + 1) cap2)) base gm (.slice Av k cv) grp k ns x A m c lv from ⟨g2, cap2, hca, hsz, hX1, hX2⟩)
      clear hca hX1 hX2 hsz
      go_wp2_with fail
      go_meet
      exact HR9.out
  case rest =>
  obtain ⟨g2, cap2, hca, hsz, hX1, hX2⟩ := hcut
  clear pn p0 pf p1 p2 HCa HX1 HX2 HXs HBA HOA HNew H63 HBy H1c HBase Hi Hz0 Hz1 Hz2 HNE HNV
  have HCa := Lib.hid hca; have HX1 := Lib.hid hX1; have HX2 := Lib.hid hX2
  obtain ⟨hm1, g, A1, m1, c1, rfl, hgb, hc8, hr1⟩ := HR.out
  subst hm1
  have hb3 := below_alloc (Below.refl _ wc) (.cells #[.string ⟨#[108, 105, 115, 116]⟩, .string ⟨#[]⟩, .int .i64 0, .int .i64 0, .slice none 0 0, .slice none 0 0] 60)
  have p7 : (wc.alloc (.cells #[.string ⟨#[108, 105, 115, 116]⟩, .string ⟨#[]⟩, .int .i64 0, .int .i64 0, .slice none 0 0, .slice none 0 0] 60)).cell? ⟨W.heap.size, 7, none⟩ = some (.slice (some ⟨g, 0, none⟩) 1 c) := blk_cell ((hb3.block _ (by omega)).trans hX1) 7
  have HB3 := Lib.hid hb3
  clear hca hX1 hX2 hb3
  have HR1 := Lib.hid hr1; have HC8 := Lib.hid hc8; clear hr1 hc8
  go_wp2_with fail
  have hca := HCa.out.below hgl HB3.out
  have hX1 := (HB3.out.block _ (show W.heap.size < wc.heap.size by omega)).trans HX1.out
  have hX2 := (HB3.out.block _ (show W.heap.size + 1 < wc.heap.size by omega)).trans HX2.out
  have hX3 := heap_alloc_new wc (.cells #[.string ⟨#[108, 105, 115, 116]⟩, .string ⟨#[]⟩, .int .i64 0, .int .i64 0, .slice none 0 0, .slice none 0 0] 60)
  have hsz3 : (wc.alloc (.cells #[.string ⟨#[108, 105, 115, 116]⟩, .string ⟨#[]⟩, .int .i64 0, .int .i64 0, .slice none 0 0, .slice none 0 0] 60)).heap.size = wc.heap.size + 1 := by rw [World.size_alloc]
  clear p7 HCa HX1 HX2 HB3
  generalize wc.alloc (.cells #[.string ⟨#[108, 105, 115, 116]⟩, .string ⟨#[]⟩, .int .i64 0, .int .i64 0, .slice none 0 0, .slice none 0 0] 60) = w3 at hca hX1 hX2 hX3 hsz3 ⊢
  generalize hN3 : wc.heap.size = N3 at hsz hX3 hsz3 ⊢
  have HSZ3 := Lib.hid hsz3
  clear hN3 hsz3
  have HCa := Lib.hid hca; have HX1 := Lib.hid hX1; have HX2 := Lib.hid hX2; have HX3 := Lib.hid hX3; clear hca hX1 hX2 hX3
  refine wp_loop_rounds 2 ?_
  rw [rounds_succ]
  obtain ⟨q0, q1, q2, q3, q4, q5, q6, q7⟩ := HC8.out.of (HCa.out.fr.block g HC8.out.lt ⟨by have := HG.out; omega, fun e => by have := own_base HM.out.own _ e.symm; omega⟩)
  have HR3 := Lib.hid (RestIn.fr HM.out HG.out HCa.out.fr HR.out)
  have hca3 := Lib.hid HCa.out.fr
  go_upto_region 8 with fail
  go_cut [54] (fun c8 wx => c8 = .bool true ∧ wx = (w3.alloc (.cells (nodeCells y A1 m1 c1) 24)).alloc (.cells itemCells0 60))
  case first =>
    rcases s with _ | ⟨z, t⟩
    · have hm1 : m1 = 0 := HR1.out
      subst hm1
      clear HC8 HR3 HR1
      go_wp2_with fail
      go_meet
      exact ⟨rfl, rfl⟩
    · obtain ⟨hm1, g1, A3, m3, c3, rfl, hg1, hz, _⟩ := HR1.out
      subst hm1
      have hzk := hca3.out.block g1 hz.lt ⟨by have := HG.out; omega, fun e => by have := own_base HM.out.own _ e.symm; omega⟩
      have hz3 := hz.of hzk
      have hl3 : g1 < w3.heap.size := hz3.lt
      have z0 : ((w3.alloc (.cells (nodeCells y (some ⟨g1, 0, none⟩) 1 c1) 24)).alloc (.cells itemCells0 60)).cell? ⟨g1, 0, none⟩ = some (.int .i64 z.k) := by
        rw [World.cell?_of_block (w := w3) (a := ⟨g1, 0, none⟩) ((same_alloc _ _ g1 (by rw [World.size_alloc]; omega)).trans (same_alloc w3 _ g1 hl3))]
        exact hz3.c0
      have hz2 : (z.k == 2) = false := beq_eq_false_iff_ne.2 (HY.out z t rfl)
      have hz4 : ¬ z.k = 2 := HY.out z t rfl
      unfold itemCells0 at z0
      clear hz hzk hz3 hl3 HR3 HR1
      go_wp2_with fail
      go_meet
      exact ⟨by rw [show (z.k != 2) = true from by simp [hz4]], rfl⟩
  case rest =>
  obtain ⟨rfl, rfl⟩ := hcut
  unfold itemCells0
  go_wp2_with fail
  have hb1 := below_alloc (Below.refl _ w3) (.cells (nodeCells y A1 m1 c1) 24)
  have hb2 := below_alloc hb1 (.cells (itemCells w3.heap.size) 60)
  have hb3 := below_alloc hb2 (.cells openerCells 60)
  have hY1 : (((w3.alloc (.cells (nodeCells y A1 m1 c1) 24)).alloc (.cells (itemCells w3.heap.size) 60)).alloc (.cells openerCells 60)).heap[w3.heap.size]? = some (.cells (nodeCells y A1 m1 c1) 24 (0, 0)) := three_0 w3 _ _ _
  have hY2 : (((w3.alloc (.cells (nodeCells y A1 m1 c1) 24)).alloc (.cells (itemCells w3.heap.size) 60)).alloc (.cells openerCells 60)).heap[w3.heap.size + 1]? = some (.cells (itemCells w3.heap.size) 60 (0, 0)) := three_1 w3 _ _ _
  have hY3 : (((w3.alloc (.cells (nodeCells y A1 m1 c1) 24)).alloc (.cells (itemCells w3.heap.size) 60)).alloc (.cells openerCells 60)).heap[w3.heap.size + 2]? = some (.cells openerCells 60 (0, 0)) := three_2 w3 _ _ _
  have hsz5 : (((w3.alloc (.cells (nodeCells y A1 m1 c1) 24)).alloc (.cells (itemCells w3.heap.size) 60)).alloc (.cells openerCells 60)).heap.size = w3.heap.size + 3 := by rw [World.size_alloc, World.size_alloc, World.size_alloc]
  have hca := HCa.out.below hgl hb3
  have hX2 := (hb3.block _ (show W.heap.size + 1 < w3.heap.size by have := HSZ3.out; omega)).trans HX2.out
  have hX3 := (hb3.block _ (show N3 < w3.heap.size by have := HSZ3.out; omega)).trans HX3.out
  unfold itemCells openerCells at *
  clear hb1 hb2 hb3 hca3 HCa HX1 HX2 HX3
  generalize (((w3.alloc (.cells (nodeCells y A1 m1 c1) 24)).alloc (.cells #[.string ⟨#[105, 116, 101, 109]⟩, .string ⟨#[]⟩, .int .i64 0, .int .i64 0, .slice none 0 0, .slice (some ⟨w3.heap.size + 1 + 1, 0, none⟩) 1 1] 60)).alloc (.cells #[.string ⟨#[]⟩, .string ⟨#[79, 112, 101, 110, 101, 114]⟩, .int .i64 0, .int .i64 0, .slice none 0 0, .slice none 0 0] 60)) = w5 at hca hX2 hX3 hY1 hY2 hY3 hsz5 ⊢
  have hr5 := RestIn.fr HM.out HG.out hca.fr HR1.out
  clear HR3 HC8
  generalize hM : w3.heap.size = M at *
  have HSZ5 := Lib.hid hsz5; have HY1 := Lib.hid hY1; have HY2 := Lib.hid hY2; have HY3 := Lib.hid hY3; have HCa := Lib.hid hca; have HX2 := Lib.hid hX2; have HX3 := Lib.hid hX3; have HR5 := Lib.hid hr5
  clear hM hsz5 hY1 hY2 hY3 hca hX2 hX3 hr5 q0 q1 q2 q3 q4 q5 q6 q7
  go_cut [] (fun wx => AfterKids W wx base gm (.slice Av k cv) grp (k + 1 + listsAll (restL s)) ((ns ++ numCells (k + 1) x lv) ++ numsAll (restL s) (k + 1) (lv + 1)) N3 M)
  case first =>
    have hm5 : MapAt w5.drew base gm (.slice (some ⟨g2, 0, none⟩) (k + 1) cap2) grp (k + 1) (ns ++ numCells (k + 1) x lv) := ⟨HCa.out.mp.blk, HCa.out.mp.own, HCa.out.mp.ne⟩
    have hkk := HK.out
    have hll := HLV.out
    have hlx : listsOf (x :: y :: s) = 1 + listsOf (y :: s) := by rw [listsOf, if_pos HX.out]
    have hly : listsOf s ≤ listsOf (y :: s) := by rw [listsOf]; omega
    have hlr := listsAll_rest s
    have hcall : Calls Tryz.prog 14 #[.pointer (some ⟨gm, 0, none⟩), .slice A1 m1 c1, .int .i64 ((lv : Int) + 1)] w5.drew _ := HIH.out w5.drew base gm _ grp (k + 1) (ns ++ numCells (k + 1) x lv) A1 m1 c1 (lv + 1) (RestIn.kidsIn HR5.out.drew) hm5 HG.out (by omega) (fun ch hch => by have := listsOf_rest s ch hch; omega)
    have HCall := Lib.hid hcall
    have p5 : w5.cell? ⟨M + 1, 5, none⟩ = some (.slice (some ⟨M + 1 + 1, 0, none⟩) 1 1) := blk_cell HY2.out 5
    have f5 : w5.frozen? ⟨M + 1, 5, none⟩ = false := blk_frozen HY2.out 5
    have p7 : w5.cell? ⟨M, 7, none⟩ = some (.slice A1 m1 c1) := blk_cell HY1.out 7
    have hMN := HSZ3.out
    have hMs := HSZ5.out

    have hwr : IntKind.i64.wrap ((lv : Int) + 1) = (lv : Int) + 1 := IntWalk.i64_in _ (by omega)
    clear hm5 hkk hll hlx hly hlr hcall hMN hMs
    obtain ⟨b0, hbi, hbb⟩ := Option.map_eq_some_iff.1 info_block
    simp only [Prod.mk.injEq] at hbb
    obtain ⟨hb0, hb1, hb2⟩ := hbb
    have Hb0 := Lib.hid hb0; have Hb1 := Lib.hid hb1; have Hb2 := Lib.hid hb2; have Hbi := Lib.hid hbi; clear hb0 hb1 hb2 hbi
    rcases s with _ | ⟨z, t⟩
    · have hm1 : m1 = 0 := HR1.out
      subst hm1
      clear HCall
      go_region_law (go_simp; go_at_call 14; (with_reducible refine (mblocks_nil gm A1 c1 _ _).mono ?_); rintro e w6 ⟨rfl, rfl⟩)
      all_goals
        have HA := Lib.hid (after_none (k2 := k + 1) (lv2 := lv + 1) HCa.out hgl hsz HSZ3.out HSZ5.out HX2.out HX3.out HY2.out HY3.out (HCa.out.own_ne HY2.out (by decide)))
        clear p5 f5 p7 hwr
        go_wp2_with fail
        go_meet
        exact HA.out
    · have hm1 : m1 = 1 := by obtain ⟨h, _⟩ := HR1.out; exact h
      subst hm1
      go_region_law (first
        | (refine step_append_lies _ (by rfl) _ _ 26 (by rfl) (M + 2) 60 b0 _ 6 96 Tryz.underlying26 Hbi.out Hb0.out Hb1.out Hb2.out rfl (by decide) _ 1 openerL (by rfl) HOp.out ⟨g7, 0, none⟩ 1 c7 bs (by rfl) HBl.out HBc.out HB1.out (by decide) (by decide) (by decide) HBase.out _ rfl ?_; intro g6 cap6 w7 ho hg6 hat hlt; have p5 : w7.cell? ⟨M + 1, 5, none⟩ = some (.slice (some ⟨M + 1 + 1, 0, none⟩) 1 1) := blk_cell (blk_grown KB.out hg6 (by intro e; injection e with e; dsimp only at e; omega)) 5; have f5 : w7.frozen? ⟨M + 1, 5, none⟩ = false := blk_frozen (blk_grown KB.out hg6 (by intro e; injection e with e; dsimp only at e; omega)) 5; have Ho := Lib.hid ho; have Hg6 := Lib.hid hg6; have Hat := Lib.hid hat; clear ho hg6 hat hlt)
        | (go_simp; go_at_call 14; (with_reducible refine HCall.out.mono ?_); rintro e w6 ⟨v, bs, nv', rfl, hown, hblk, hmp, hfr, hnb⟩; have hown1 : w6.ownsRow w5.drew.heap.size 60 6 v 1 bs := hown; obtain ⟨g7, c7, rfl, hg7, hg7l⟩ := hown1.form (by decide); have KB := Lib.hid (kept6 HCa.out hgl hfr HY2.out (by decide) (by have := HSZ3.out; omega)); have p5 : w6.cell? ⟨M + 1, 5, none⟩ = some (.slice (some ⟨M + 1 + 1, 0, none⟩) 1 1) := blk_cell KB.out 5; have f5 : w6.frozen? ⟨M + 1, 5, none⟩ = false := blk_frozen KB.out 5; have HOp := Lib.hid (opener_row (kept6 HCa.out hgl hfr HY3.out (by decide) (by have := HSZ3.out; omega))); have HBl := Lib.hid hown1.1; have HBc := Lib.hid (hown1.cells (g := g7) rfl); have HB1 := Lib.hid (blks_one hblk); have HBase := Lib.hid (show M + 2 ≤ w6.heap.size by have := hfr.size; have := HSZ5.out; rw [World.size_drew] at *; omega); have Hmp := Lib.hid hmp; have Hfr := Lib.hid hfr; have Hnb := Lib.hid hnb; have Hown := Lib.hid hown1; clear hown hown1 hblk hmp hfr hnb hg7 hg7l))
      all_goals
        have HA := Lib.hid (after_some HCa.out hgl hsz HSZ3.out HSZ5.out HX2.out HX3.out HY2.out HY3.out Hmp.out Hfr.out Hnb.out Ho.out Hg6.out Hat.out)
        clear p5 f5 p7 hwr
        go_wp2_with fail
        go_meet
        exact HA.out
  case rest =>
  obtain ⟨nv', g6, n, cap6, xs, hca, hrow, hn1, hn2, hX2, hX3, hY2⟩ := hcut
  obtain ⟨cur, hcur, hcs, hg6⟩ := row_block hrow hn1
  have hz0 : (0 : Int) < (n : Int) := by omega
  have p5 : wc.cell? ⟨M + 1, 5, none⟩ = some (.slice (some ⟨g6, 0, none⟩) n cap6) := blk_cell hY2 5
  obtain ⟨u2, hu2⟩ : ∃ u, wc.cell? ⟨g6, 2, none⟩ = some u := ⟨_, (blk_cell hcur 2).trans (Array.getElem?_eq_getElem (by omega))⟩
  obtain ⟨u3, hu3⟩ : ∃ u, wc.cell? ⟨g6, 3, none⟩ = some u := ⟨_, (blk_cell hcur 3).trans (Array.getElem?_eq_getElem (by omega))⟩
  have f2 : wc.frozen? ⟨g6, 2, none⟩ = false := blk_frozen hcur 2
  have f3 : wc.frozen? ⟨g6, 3, none⟩ = false := blk_frozen hcur 3
  have hne1 : g6 ≠ M + 1 := by omega
  have HAS := Lib.hid (after_set hca hgl hsz HSZ3.out hX2 hX3 hY2 hcur hg6)
  clear HCa HX2 HX3 HY1 HY2 HY3 HSZ5 HR5 HR1 hca hrow hX2 hX3 hY2 hcur hcs
  go_upto_region 11 with fail
  go_cut [] (fun wx => AfterSet W wx base gm (.slice Av k cv) grp (k + 1 + listsAll (restL s)) ((ns ++ numCells (k + 1) x lv) ++ numsAll (restL s) (k + 1) (lv + 1)) N3 M)
  case first =>
    go_region
    all_goals
      clear p5 hu2 hu3 f2 f3
      go_wp2_with fail
      go_meet
      exact HAS.out _ (by first | exact gset (gset (grown_of_below (below_drew (Below.refl _ _)) _) 2 _) 3 _ | exact gset (gset (grown_of_below (below_drew (Below.refl _ _)) _) 3 _) 2 _)
  case rest =>
  obtain ⟨nv', A5, n5, c5, hca, hX2, hX3, hY2⟩ := hcut
  clear HAS p5 hu2 hu3 f2 f3 hne1 hz0 hg6 hn1 hn2

  have p0 : wc.cell? ⟨M + 1, 0, none⟩ = some (.string ⟨#[105, 116, 101, 109]⟩) := blk_cell hY2 0
  have p1 : wc.cell? ⟨M + 1, 1, none⟩ = some (.string ⟨#[]⟩) := blk_cell hY2 1
  have p2 : wc.cell? ⟨M + 1, 2, none⟩ = some (.int .i64 0) := blk_cell hY2 2
  have p3 : wc.cell? ⟨M + 1, 3, none⟩ = some (.int .i64 0) := blk_cell hY2 3
  have p4 : wc.cell? ⟨M + 1, 4, none⟩ = some (.slice none 0 0) := blk_cell hY2 4
  have p5 : wc.cell? ⟨M + 1, 5, none⟩ = some (.slice A5 n5 c5) := blk_cell hY2 5
  have p6 : wc.cell? ⟨N3, 5, none⟩ = some (.slice none 0 0) := blk_cell hX3 5
  obtain ⟨b0, hbi, hbb⟩ := Option.map_eq_some_iff.1 info_block
  simp only [Prod.mk.injEq] at hbb
  obtain ⟨hb0, hb1, hb2⟩ := hbb
  have Hb0 := Lib.hid hb0; have Hb1 := Lib.hid hb1; have Hb2 := Lib.hid hb2; have Hbi := Lib.hid hbi; clear hb0 hb1 hb2 hbi
  have HCa := Lib.hid hca; have HX2 := Lib.hid hX2; have HX3 := Lib.hid hX3; clear hca hX2 hX3 hY2
  have HOA := Lib.hid (own_nil (wc.alloc (.cells #[.string ⟨#[105, 116, 101, 109]⟩, .string ⟨#[]⟩, .int .i64 0, .int .i64 0, .slice none 0 0, .slice A5 n5 c5] 60)) W.heap.size 60 6)
  have HNew := Lib.hid (fresh_cells wc [.string ⟨#[105, 116, 101, 109]⟩, .string ⟨#[]⟩, .int .i64 0, .int .i64 0, .slice none 0 0, .slice A5 n5 c5] 60 wc.heap.size rfl)
  have H1c := Lib.hid (show ∀ u ∈ [Value.string ⟨#[105, 116, 101, 109]⟩, .string ⟨#[]⟩, .int .i64 0, .int .i64 0, .slice none 0 0, .slice A5 n5 c5], u.oneCell' = true by simp [Value.oneCell'])
  have HSz := Lib.hid (show W.heap.size ≤ (wc.alloc (.cells #[.string ⟨#[105, 116, 101, 109]⟩, .string ⟨#[]⟩, .int .i64 0, .int .i64 0, .slice none 0 0, .slice A5 n5 c5] 60)).heap.size by have := HCa.out.fr.size; rw [World.size_alloc]; omega)
  have HBA := Lib.hid (below_alloc (Below.refl _ wc) (.cells #[.string ⟨#[105, 116, 101, 109]⟩, .string ⟨#[]⟩, .int .i64 0, .int .i64 0, .slice none 0 0, .slice A5 n5 c5] 60))
  go_upto_region 13 with (at_builtin; go_loud (refine wpList_append_own_at _ rfl _ _ 26 rfl W.heap.size 60 b0 _ 6 96 Tryz.underlying26 Hbi.out Hb0.out Hb1.out Hb2.out rfl (by decide) _ 0 [] rfl HOA.out ⟨wc.heap.size, 0, none⟩ 1 1 [.string ⟨#[105, 116, 101, 109]⟩, .string ⟨#[]⟩, .int .i64 0, .int .i64 0, .slice none 0 0, .slice A5 n5 c5] rfl rfl HNew.out H1c.out (by decide) (by decide) HSz.out ?_; intro v' w8 ho hg hnil hblk; have HB8 := Lib.hid (below_then HBA.out HBA.out.size (below_of_grown hg)); have p9 : w8.cell? ⟨N3, 5, none⟩ = some (.slice none 0 0) := blk_cell ((HB8.out.block _ (blk_lt HX3.out)).trans HX3.out) 5; have f9 : w8.frozen? ⟨N3, 5, none⟩ = false := blk_frozen ((HB8.out.block _ (blk_lt HX3.out)).trans HX3.out) 5; obtain ⟨A8, c8, rfl⟩ := own_slice ho; have Ho := Lib.hid ho; clear ho hg hnil hblk))
  have hca := (HCa.out.below hgl HB8.out).grown hgl (gset (grown_of_below (Below.refl _ w8) (some N3)) 5 (.slice A8 1 c8)) fun b e => by injection e with e; subst e; exact ⟨by omega, (HCa.out.below hgl HB8.out).own_ne ((HB8.out.block _ (blk_lt HX3.out)).trans HX3.out) (by decide)⟩
  have hX3 := blk_set ((HB8.out.block _ (blk_lt HX3.out)).trans HX3.out) 5 (.slice A8 1 c8)
  have hX2 := blk_far ((HB8.out.block _ (blk_lt HX2.out)).trans HX2.out) (p := ⟨N3, 5, none⟩) (show W.heap.size + 1 ≠ N3 by omega) (.slice A8 1 c8)
  clear p0 p1 p2 p3 p4 p5 p6 p9 f9 HCa HX2 HX3 HOA HNew H1c HSz HBA HB8 Ho
  generalize w8.setCell ⟨N3, 5, none⟩ (.slice A8 1 c8) = w9 at hca hX2 hX3 ⊢
  simp only [List.setIfInBounds_toArray, List.set_cons_succ, List.set_cons_zero] at hX3
  go_wp2_with fail
  rw [rounds_succ]
  have q0 : w9.cell? ⟨N3, 0, none⟩ = some (.string ⟨#[108, 105, 115, 116]⟩) := blk_cell hX3 0
  have q1 : w9.cell? ⟨N3, 1, none⟩ = some (.string ⟨#[]⟩) := blk_cell hX3 1
  have q2 : w9.cell? ⟨N3, 2, none⟩ = some (.int .i64 0) := blk_cell hX3 2
  have q3 : w9.cell? ⟨N3, 3, none⟩ = some (.int .i64 0) := blk_cell hX3 3
  have q4 : w9.cell? ⟨N3, 4, none⟩ = some (.slice none 0 0) := blk_cell hX3 4
  have q5 : w9.cell? ⟨N3, 5, none⟩ = some (.slice A8 1 c8) := blk_cell hX3 5
  have p0 : w9.cell? ⟨W.heap.size + 1, 0, none⟩ = some (.string ⟨#[]⟩) := blk_cell hX2 0
  have p1 : w9.cell? ⟨W.heap.size + 1, 1, none⟩ = some (.string ⟨#[]⟩) := blk_cell hX2 1
  have p2 : w9.cell? ⟨W.heap.size + 1, 2, none⟩ = some (.int .i64 0) := blk_cell hX2 2
  have p3 : w9.cell? ⟨W.heap.size + 1, 3, none⟩ = some (.int .i64 0) := blk_cell hX2 3
  have p4 : w9.cell? ⟨W.heap.size + 1, 4, none⟩ = some (.slice none 0 0) := blk_cell hX2 4
  have p5 : w9.cell? ⟨W.heap.size + 1, 5, none⟩ = some (.slice none 0 0) := blk_cell hX2 5
  have f0 : w9.frozen? ⟨W.heap.size + 1, 0, none⟩ = false := blk_frozen hX2 0
  have f1 : w9.frozen? ⟨W.heap.size + 1, 1, none⟩ = false := blk_frozen hX2 1
  have f2 : w9.frozen? ⟨W.heap.size + 1, 2, none⟩ = false := blk_frozen hX2 2
  have f3 : w9.frozen? ⟨W.heap.size + 1, 3, none⟩ = false := blk_frozen hX2 3
  have f4 : w9.frozen? ⟨W.heap.size + 1, 4, none⟩ = false := blk_frozen hX2 4
  have f5 : w9.frozen? ⟨W.heap.size + 1, 5, none⟩ = false := blk_frozen hX2 5
  have HE := Lib.hid (list_end hca hgl hX2 (A := A8) (c := c8))
  clear hX2 hX3 hca
  go_wp2_with fail
  clear p0 p1 p2 p3 p4 p5 f0 f1 f2 f3 f4 f5 q0 q1 q2 q3 q4 q5
  obtain ⟨hca, r0, r1, r2, r3, r4, r5⟩ := HE.out
  clear HE
  generalize ((((((w9.setCell ⟨W.heap.size + 1, 0, none⟩ (.string ⟨#[108, 105, 115, 116]⟩)).setCell ⟨W.heap.size + 1, 1, none⟩ (.string ⟨#[]⟩)).setCell ⟨W.heap.size + 1, 2, none⟩ (.int .i64 0)).setCell ⟨W.heap.size + 1, 3, none⟩ (.int .i64 0)).setCell ⟨W.heap.size + 1, 4, none⟩ (.slice none 0 0)).setCell ⟨W.heap.size + 1, 5, none⟩ (.slice A8 1 c8)) = wz at hca r0 r1 r2 r3 r4 r5 ⊢
  have HCz := Lib.hid hca; clear hca
  refine bodyPost_ret (by simp [results, Tryz.results35, go_sem, r0, r1, r2, r3, r4, r5]; try rfl) rfl ?_
  have hlx : listsOf (x :: y :: s) = 1 + listsOf (y :: s) := by rw [listsOf, if_pos HX.out]
  refine ⟨(blockCells ⟨#[108, 105, 115, 116]⟩ ⟨#[]⟩ 0 0 A8 1 c8).toList, nv', rfl, ⟨_, _, _, _, _, _, _, rfl, fun x' r' he hk7 => ⟨rfl, ?_⟩⟩, ?_, HCz.out.fr, HCz.out.nb⟩
  · injection he with h1 h2
    rw [← h2]; rfl
  · have h := HCz.out.mp
    have e1 : k + listsOf (x :: y :: s) = k + 1 + listsAll (restL s) := by rw [listsAll_rest, hlx, listsOf, if_neg HYk.out]; omega
    have e2 : ns ++ numsOf (x :: y :: s) k lv = ns ++ numCells (k + 1) x lv ++ numsAll (restL s) (k + 1) (lv + 1) := by
      rw [numsAll_rest, List.append_assoc, numsOf, if_pos HX.out, numsOf, if_neg HYk.out]
    rw [e1, e2]
    exact h
end Go.Proofs.YtekpoglbpjodkaaGreatDoor
