/- Rows of nodes that a call has made: where their kids lie, and what keeps them. -/
import Derived.Test.YtekpoglbpjodkaaGreatDoorChain
namespace Go.Proofs.YtekpoglbpjodkaaGreatDoor
open Go.RowKit Go.Proofs.YtekpoglbpjodkaaGreatDoorW.PrintWords

/-- As RestAt, in blocks of some sort alone. -/
def RestIn (W : World) (P : Nat → Prop) : Chain → Option Addr → Nat → Prop
  | [], _, m => m = 0
  | x :: r, A, m => m = 1 ∧ ∃ g A1 m1 c1, A = some ⟨g, 0, none⟩ ∧ P g ∧ Cells8 W g 0 x A1 m1 c1 ∧ RestIn W P r A1 m1
theorem RestIn.rest {W : World} {P : Nat → Prop} : ∀ {r : Chain} {A : Option Addr} {m : Nat}, RestIn W P r A m → RestAt W r A m
  | [], _, _, h => h
  | _ :: _, _, _, ⟨h1, g, A1, m1, c1, h2, _, h3, h4⟩ => ⟨h1, g, A1, m1, c1, h2, h3, h4.rest⟩
theorem RestIn.of {W W1 : World} {P P1 : Nat → Prop} (hb : ∀ k, k < W.heap.size → P k → P1 k ∧ W1.heap[k]? = W.heap[k]?) : ∀ {r : Chain} {A : Option Addr} {m : Nat}, RestIn W P r A m → RestIn W1 P1 r A m
  | [], _, _, h => h
  | _ :: _, _, _, ⟨h1, g, A1, m1, c1, h2, hp, h3, h4⟩ => ⟨h1, g, A1, m1, c1, h2, (hb g h3.lt hp).1, h3.of (hb g h3.lt hp).2, RestIn.of hb h4⟩
def KidsIn (W : World) (P : Nat → Prop) (cs : List Chain) (A : Option Addr) (m : Nat) : Prop :=
  m = cs.length ∧ (0 < m → ∃ g, A = some ⟨g, 0, none⟩ ∧ P g ∧ ∀ i (h : i < cs.length), ∃ x r A1 m1 c1, cs[i] = x :: r ∧ Cells8 W g (i * 8) x A1 m1 c1 ∧ RestIn W P r A1 m1)
theorem KidsIn.kids {W : World} {P : Nat → Prop} {cs : List Chain} {A : Option Addr} {m : Nat} (h : KidsIn W P cs A m) : KidsAt W cs A m := by
  refine ⟨h.1, fun hm => ?_⟩
  obtain ⟨g, e, _, hi⟩ := h.2 hm
  refine ⟨g, e, fun i hl => ?_⟩
  obtain ⟨x, r, A1, m1, c1, h1, h2, h3⟩ := hi i hl
  exact ⟨x, r, A1, m1, c1, h1, h2, h3.rest⟩
/-- One chain's slice: the rest of a node. -/
theorem KidsIn.one {W : World} {P : Nat → Prop} {r : Chain} {A : Option Addr} {m : Nat} (h : KidsIn W P (restL r) A m) : RestIn W P r A m := by
  cases r with
  | nil => exact h.1
  | cons x r =>
    have hm : m = 1 := h.1
    obtain ⟨g, e, hp, hi⟩ := h.2 (by omega)
    obtain ⟨y, s, A1, m1, c1, h1, h2, h3⟩ := hi 0 (by simp [restL])
    have e2 : x = y ∧ r = s := by simpa [restL] using h1
    obtain ⟨rfl, rfl⟩ := e2
    exact ⟨hm, g, A1, m1, c1, e, hp, by simpa using h2, h3⟩

/-- An element of a row: a layer, and its kids' slice. -/
structure El where
  x : Lay
  A : Option Addr
  m : Nat
  c : Nat
def El.cells (e : El) : List Value := (nodeCells e.x e.A e.m e.c).toList
def elCells (es : List El) : List Value := es.flatMap El.cells
theorem elCells_len (es : List El) : (elCells es).length = es.length * 8 := by
  induction es with
  | nil => rfl
  | cons e es ih => simp [elCells, El.cells] at ih ⊢; omega
theorem elCells_get : ∀ (es : List El) (i j : Nat) (h : i < es.length), j < 8 → (elCells es)[i * 8 + j]? = (es[i].cells)[j]?
  | e :: es, 0, j, _, hj => by
    have : (e.cells).length = 8 := rfl
    simp only [elCells, List.flatMap_cons, Nat.zero_mul, Nat.zero_add, List.getElem_cons_zero]
    rw [List.getElem?_append_left (by omega)]
  | e :: es, i + 1, j, h, hj => by
    have hl : (e.cells).length = 8 := rfl
    have := elCells_get es i j (by simpa using h) hj
    simp only [elCells, List.flatMap_cons, List.getElem_cons_succ] at this ⊢
    rw [List.getElem?_append_right (by omega), hl, show (i + 1) * 8 + j - 8 = i * 8 + j by omega]
    exact this
theorem elCells_snoc (es : List El) (e : El) : elCells (es ++ [e]) = elCells es ++ e.cells := by simp [elCells]
theorem el_one (e : El) : ∀ u ∈ e.cells, u.oneCell' = true := by
  intro u hu
  simp [El.cells] at hu
  rcases hu with rfl | rfl | rfl | rfl | rfl | rfl <;> rfl
/-- The eight cells of an element of an owned row. -/
theorem own_cells8 {W : World} {base g n c : Nat} {t : TypeId} {es : List El} (h : W.ownsRow base t 8 (.slice (some ⟨g, 0, none⟩) n c) n (elCells es)) (i : Nat) (hi : i < es.length) : Cells8 W g (i * 8) es[i].x es[i].A es[i].m es[i].c := by
  have q : ∀ j u, j < 8 → (es[i].cells)[j]? = some u → W.cell? ⟨g, i * 8 + j, none⟩ = some u := fun j u hj hu => by
    have := h.cells (g := g) rfl (i * 8 + j) u (by rw [elCells_get es i j hi hj]; exact hu)
    rwa [add_plain] at this
  exact ⟨q 0 _ (by omega) rfl, q 1 _ (by omega) rfl, q 2 _ (by omega) rfl, q 3 _ (by omega) rfl, q 4 _ (by omega) rfl, q 5 _ (by omega) rfl, q 6 _ (by omega) rfl, q 7 _ (by omega) rfl⟩
/-- A row under way: its elements are the first chains, their rests lie apart from it. -/
def RowTo (W : World) (base : Nat) (v : Value) (cs : List Chain) (es : List El) : Prop :=
  es.length ≤ cs.length ∧ ∀ i (h : i < es.length) (h2 : i < cs.length), ∃ r, cs[i] = es[i].x :: r ∧ RestIn W (fun b => base ≤ b ∧ some b ≠ v.ownBlock) r es[i].A es[i].m
end Go.Proofs.YtekpoglbpjodkaaGreatDoor
