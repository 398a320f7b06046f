/- What a call may touch: two blocks alone, of those that were there. -/
import Derived.Test.YtekpoglbpjodkaaGreatDoorNRows
namespace Go.Proofs.YtekpoglbpjodkaaGreatDoor
open Go.RowKit Go.Proofs.YtekpoglbpjodkaaGreatDoorW.PrintWords

/-- Every block of some sort that was there is as it was. -/
structure Fr (P : Nat → Prop) (w w' : World) : Prop where
  os : w'.os = w.os
  tape : w'.tape = w.tape
  output : w'.output = w.output
  size : w.heap.size ≤ w'.heap.size
  block : ∀ k, k < w.heap.size → P k → w'.heap[k]? = w.heap[k]?
theorem Fr.refl (P : Nat → Prop) (w : World) : Fr P w w := ⟨rfl, rfl, rfl, Nat.le_refl _, fun _ _ _ => rfl⟩
theorem Fr.trans {P Q : Nat → Prop} {w w1 w2 : World} (h : Fr P w w1) (k : Fr Q w1 w2) (hPQ : ∀ j, j < w.heap.size → P j → Q j) : Fr P w w2 :=
  ⟨k.os.trans h.os, k.tape.trans h.tape, k.output.trans h.output, Nat.le_trans h.size k.size, fun j hj hp => (k.block j (Nat.lt_of_lt_of_le hj h.size) (hPQ j hj hp)).trans (h.block j hj hp)⟩
theorem Fr.of_below {P : Nat → Prop} {w w1 : World} (h : Below w.heap.size w w1) : Fr P w w1 := ⟨h.os, h.tape, h.output, h.size, fun j hj _ => h.block j hj⟩
theorem Fr.of_grown {P : Nat → Prop} {w w1 : World} {r : Option Nat} (h : w.grownBy w1 r) (hP : ∀ j, j < w.heap.size → P j → some j ≠ r) : Fr P w w1 := ⟨h.os, h.tape, h.output, h.size, fun j hj hp => h.block j hj (hP j hj hp)⟩
theorem Fr.below {P : Nat → Prop} {B : Nat} {w w1 : World} (h : Fr P w w1) (hB : B ≤ w.heap.size) (hP : ∀ j, j < B → P j) : Below B w w1 := ⟨h.os, h.tape, h.output, h.size, fun j hj => h.block j (Nat.lt_of_lt_of_le hj hB) (hP j hj)⟩
/-- All blocks but the mapper's and its numbers'. -/
def Apart (gm : Nat) (nv : Value) (j : Nat) : Prop := j ≠ gm ∧ some j ≠ nv.ownBlock
/-- The mapper at a block, with its numbers. -/
structure MapAt (w : World) (base gm : Nat) (nv : Value) (grp : Int) (k : Nat) (ns : List Value) : Prop where
  blk : w.heap[gm]? = some (.cells #[nv, .int .i64 grp] 48 (0, 0))
  own : w.ownsRow base 43 4 nv k ns
  ne : some gm ≠ nv.ownBlock
/-- A number's cells. -/
def numCells (id : Int) (x : Lay) (lv : Int) : List Value := [.int .i64 id, .bool x.f, .int .i64 x.n, .int .i64 lv]
/-- The numbers of a chain: each list's, in their order; so many are there ahead, so many lists stand about it. -/
def numsOf : Chain → Nat → Nat → List Value
  | [], _, _ => []
  | x :: r, k, lv => if x.k = 7 then numCells (k + 1) x lv ++ numsOf r (k + 1) (lv + 1) else numsOf r k lv
def listsOf : Chain → Nat
  | [] => 0
  | x :: r => (if x.k = 7 then 1 else 0) + listsOf r
theorem numsOf_len : ∀ (ch : Chain) (k lv : Nat), (numsOf ch k lv).length = listsOf ch * 4
  | [], _, _ => rfl
  | x :: r, k, lv => by
    unfold numsOf listsOf
    split
    · have := numsOf_len r (k + 1) (lv + 1)
      simp [numCells] at this ⊢
      omega
    · have := numsOf_len r k lv
      omega
/-- The numbers of a row of chains. -/
def numsAll : List Chain → Nat → Nat → List Value
  | [], _, _ => []
  | ch :: cs, k, lv => numsOf ch k lv ++ numsAll cs (k + listsOf ch) lv
def listsAll : List Chain → Nat
  | [] => 0
  | ch :: cs => listsOf ch + listsAll cs
end Go.Proofs.YtekpoglbpjodkaaGreatDoor
