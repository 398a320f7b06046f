/- Documents of quotes, lists, items and rules, one within the other: how they lie in memory. -/
import Derived.Test.YtekpoglbpjodkaaGreatDoorBasic
namespace Go.Proofs.YtekpoglbpjodkaaGreatDoor
open Go.RowKit Go.Proofs.YtekpoglbpjodkaaGreatDoorW.PrintWords

/-- A layer: the kind, the number, the flag. -/
structure Lay where
  k : Int
  n : Int
  f : Bool
deriving DecidableEq
/-- A chain of nodes: each one within the one ahead of it; the last one has nothing in it. -/
abbrev Chain := List Lay
/-- A node's value, its kids' slice given. -/
def mkNode (x : Lay) (A : Option Addr) (m c : Nat) : Value :=
  .agg #[.int .i64 x.k, .int .i64 x.n, .bool x.f, .bool false, .string ⟨#[]⟩, .string ⟨#[]⟩, .string ⟨#[]⟩, .slice A m c]
/-- The eight cells of a node lie at an offset of a block. -/
structure Cells8 (W : World) (g o : Nat) (x : Lay) (A : Option Addr) (m c : Nat) : Prop where
  c0 : W.cell? ⟨g, o, none⟩ = some (.int .i64 x.k)
  c1 : W.cell? ⟨g, o + 1, none⟩ = some (.int .i64 x.n)
  c2 : W.cell? ⟨g, o + 2, none⟩ = some (.bool x.f)
  c3 : W.cell? ⟨g, o + 3, none⟩ = some (.bool false)
  c4 : W.cell? ⟨g, o + 4, none⟩ = some (.string ⟨#[]⟩)
  c5 : W.cell? ⟨g, o + 5, none⟩ = some (.string ⟨#[]⟩)
  c6 : W.cell? ⟨g, o + 6, none⟩ = some (.string ⟨#[]⟩)
  c7 : W.cell? ⟨g, o + 7, none⟩ = some (.slice A m c)
/-- What a node's kids' slice holds, its chain's rest given. -/
def RestAt (W : World) : Chain → Option Addr → Nat → Prop
  | [], _, m => m = 0
  | x :: r, A, m => m = 1 ∧ ∃ g A1 m1 c1, A = some ⟨g, 0, none⟩ ∧ Cells8 W g 0 x A1 m1 c1 ∧ RestAt W r A1 m1
/-- A slice of chains. -/
def KidsAt (W : World) (cs : List Chain) (A : Option Addr) (m : Nat) : Prop :=
  m = cs.length ∧ (0 < m → ∃ g, A = some ⟨g, 0, none⟩ ∧ ∀ i (h : i < cs.length), ∃ x r A1 m1 c1, cs[i] = x :: r ∧ Cells8 W g (i * 8) x A1 m1 c1 ∧ RestAt W r A1 m1)
theorem Cells8.lt {W : World} {g o : Nat} {x : Lay} {A : Option Addr} {m c : Nat} (h : Cells8 W g o x A m c) : g < W.heap.size := World.block_lt_of_cell? W _ h.c0
theorem Cells8.of {W W1 : World} {g o : Nat} {x : Lay} {A : Option Addr} {m c : Nat} (h : Cells8 W g o x A m c) (hb : W1.heap[g]? = W.heap[g]?) : Cells8 W1 g o x A m c := by
  have e : ∀ i, W1.cell? ⟨g, i, none⟩ = W.cell? ⟨g, i, none⟩ := fun i => World.cell?_of_block (w := W) hb
  exact ⟨(e _).trans h.c0, (e _).trans h.c1, (e _).trans h.c2, (e _).trans h.c3, (e _).trans h.c4, (e _).trans h.c5, (e _).trans h.c6, (e _).trans h.c7⟩
/-- Chains are where they were, if the blocks that were there are as they were. -/
theorem RestAt.of {W W1 : World} (hb : ∀ k, k < W.heap.size → W1.heap[k]? = W.heap[k]?) : ∀ {r : Chain} {A : Option Addr} {m : Nat}, RestAt W r A m → RestAt W1 r A m
  | [], _, _, h => h
  | _ :: _, _, _, ⟨h1, g, A1, m1, c1, h2, h3, h4⟩ => ⟨h1, g, A1, m1, c1, h2, h3.of (hb g h3.lt), RestAt.of hb h4⟩
theorem RestAt.below {W W1 : World} (hb : Below W.heap.size W W1) {r : Chain} {A : Option Addr} {m : Nat} (h : RestAt W r A m) : RestAt W1 r A m := h.of fun k hk => hb.block k hk
theorem KidsAt.of {W W1 : World} (hb : ∀ k, k < W.heap.size → W1.heap[k]? = W.heap[k]?) {cs : List Chain} {A : Option Addr} {m : Nat} (h : KidsAt W cs A m) : KidsAt W1 cs A m := by
  refine ⟨h.1, fun hm => ?_⟩
  obtain ⟨g, e, hi⟩ := h.2 hm
  refine ⟨g, e, fun i hl => ?_⟩
  obtain ⟨x, r, A1, m1, c1, h1, h2, h3⟩ := hi i hl
  exact ⟨x, r, A1, m1, c1, h1, h2.of (hb g h2.lt), h3.of hb⟩
theorem KidsAt.below {W W1 : World} (hb : Below W.heap.size W W1) {cs : List Chain} {A : Option Addr} {m : Nat} (h : KidsAt W cs A m) : KidsAt W1 cs A m := h.of fun k hk => hb.block k hk
/-- A node's rest, as a slice of chains. -/
def restL : Chain → List Chain
  | [] => []
  | x :: r => [x :: r]
theorem RestAt.kids {W : World} {r : Chain} {A : Option Addr} {m : Nat} (h : RestAt W r A m) : KidsAt W (restL r) A m := by
  cases r with
  | nil => exact ⟨h, fun hm => by have h0 : m = 0 := h; omega⟩
  | cons x r =>
    obtain ⟨h1, g, A1, m1, c1, h2, h3, h4⟩ := h
    exact ⟨h1, fun _ => ⟨g, h2, fun i hi => by
      have h0 : i = 0 := by simp [restL] at hi; omega
      subst h0
      exact ⟨x, r, A1, m1, c1, rfl, h3, h4⟩⟩⟩
/-- What a call leaves behind a box that was laid ahead of it. -/
theorem below_box {w w1 : World} {o : Obj} (hb : Below (w.alloc o).heap.size (w.alloc o) w1) : Below w.heap.size w w1 := below_then (below_alloc (Below.refl _ w) o) (by rw [World.size_alloc]; exact Nat.le_succ _) hb
/-- A node's cells. -/
abbrev nodeCells (y : Lay) (A : Option Addr) (m c : Nat) : Array Value := #[.int .i64 y.k, .int .i64 y.n, .bool y.f, .bool false, .string ⟨#[]⟩, .string ⟨#[]⟩, .string ⟨#[]⟩, .slice A m c]
/-- A node in a box that was laid ahead of a call lies there behind it. -/
theorem box8 {w w1 : World} {y : Lay} {A : Option Addr} {m c : Nat} {t : TypeId} (hb : Below (w.alloc (.cells (nodeCells y A m c) t)).heap.size (w.alloc (.cells (nodeCells y A m c) t)) w1) : Cells8 w1 w.heap.size 0 y A m c :=
  ⟨box_cell hb 0, box_cell hb 1, box_cell hb 2, box_cell hb 3, box_cell hb 4, box_cell hb 5, box_cell hb 6, box_cell hb 7⟩
/-- What is there ahead of a box is there behind it. -/
theorem same_alloc (w : World) (o : Obj) : ∀ k, k < w.heap.size → (w.alloc o).heap[k]? = w.heap[k]? := fun k hk => (below_alloc (Below.refl _ w) o).block k hk
end Go.Proofs.YtekpoglbpjodkaaGreatDoor
