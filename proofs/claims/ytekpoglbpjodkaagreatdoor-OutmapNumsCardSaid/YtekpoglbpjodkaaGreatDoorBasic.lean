/- Small facts on worlds, rows of bytes and strings, for the walks of this seat. -/
import Derived.Test.YtekpoglbpjodkaaGreatDoorProg
import Derived.Test.YtekpoglbpjodkaaGreatDoorWWords
import Derived.WalkKit
import Derived.WalkSpells
import Derived.WalkLawsBesides
import Derived.Lib.Hide
namespace Go.Proofs.YtekpoglbpjodkaaGreatDoor
open Go.RowKit Go.Proofs.YtekpoglbpjodkaaGreatDoorW.PrintWords

/-- A row of bytes that a conversion has laid: block g, its first n cells, no cell of them frozen. -/
structure ConvRow (W : World) (g : Nat) (t : TypeId) (xs : List Int) : Prop where
  mk' ::
  out : ∃ C m, W.heap[g]? = some (.cells C t (m, m + 1)) ∧ xs.length ≤ m ∧ ∀ j, j < xs.length → C[j]? = some (.int .u8 (xs.getD j 0))

theorem ConvRow.cell {W : World} {g : Nat} {t : TypeId} {xs : List Int} (h : ConvRow W g t xs) (j : Nat) (hj : j < xs.length) : W.cell? ⟨g, j, none⟩ = some (.int .u8 (xs.getD j 0)) := by
  obtain ⟨C, m, hb, hm, hc⟩ := h.out
  simp [World.cell?, hb, hc j hj]
theorem ConvRow.free {W : World} {g : Nat} {t : TypeId} {xs : List Int} (h : ConvRow W g t xs) (j : Nat) (hj : j < xs.length) : W.frozen? ⟨g, j, none⟩ = false := by
  obtain ⟨C, m, hb, hm, hc⟩ := h.out
  simp [World.frozen?, hb]
  omega
theorem ConvRow.set {W : World} {g : Nat} {t : TypeId} {xs : List Int} (h : ConvRow W g t xs) (j : Nat) (x : Int) : ConvRow (W.setCell ⟨g, j, none⟩ (.int .u8 x)) g t (xs.set j x) := by
  obtain ⟨C, m, hb, hm, hc⟩ := h.out
  refine ⟨C.setIfInBounds j (.int .u8 x), m, by simp [World.setCell, Array.getElem?_modify, hb], by simpa using hm, fun i hi => ?_⟩
  simp only [List.length_set] at hi
  have hci := hc i hi
  rw [Array.getElem?_setIfInBounds]
  by_cases e : j = i
  · subst e
    have : j < C.size := by
      rcases Nat.lt_or_ge j C.size with h | h
      · exact h
      · rw [Array.getElem?_eq_none h] at hci; cases hci
    simp [this, List.getD_eq_getElem?_getD, hi]
  · rw [if_neg e, hci]
    simp [List.getD_eq_getElem?_getD, e]
theorem ConvRow.drew {W : World} {g : Nat} {t : TypeId} {xs : List Int} (h : ConvRow W g t xs) (n : Nat) : ConvRow (W.drewN n) g t xs := ⟨h.out⟩
theorem ConvRow.reads {W : World} {g : Nat} {t : TypeId} {xs : List Int} (h : ConvRow W g t xs) (hs : xs.length ≤ 9223372036854775807) : ReadsInt W .u8 (some ⟨g, 0, none⟩) xs.length xs :=
  ⟨rfl, hs, fun _ => ⟨_, rfl, fun j hj => by rw [add_plain]; exact h.cell j hj⟩⟩
theorem ConvRow.new (W : World) (t : TypeId) (s : ByteArray) : ConvRow (Lib.bytesWorld W t s) W.heap.size t (bytesOf s) := by
  refine ⟨Lib.bytesCells W t s, (Lib.bytesCells W t s).size, Lib.bytesWorld_at_new W t s, ?_, fun j hj => ?_⟩
  · rw [bytesOf_length]
    rcases Nat.eq_zero_or_pos s.size with h | h
    · omega
    · have := Lib.bytesWorld_cell W t s (s.size - 1) (by omega)
      rw [World.cell?, Lib.bytesWorld_at_new] at this
      simp at this
      have h2 := (Array.getElem?_eq_some_iff.1 this).1
      omega
  · rw [bytesOf_length] at hj
    have := Lib.bytesWorld_cell W t s j hj
    rw [World.cell?, Lib.bytesWorld_at_new] at this
    simp at this
    rw [this]
    have h' : j < s.data.toList.length := by rw [data_length]; exact hj
    have h2 : j < s.data.size := hj
    simp [bytesOf, List.getD_eq_getElem?_getD, List.getElem?_eq_getElem h', Array.getElem?_eq_getElem h2]

/-- A letter in small. -/
def lowI (c : Int) : Int := if 65 ≤ c ∧ c ≤ 90 then c + 32 else c
def lowTo (l : List Int) (k : Nat) : List Int := (l.take k).map lowI ++ l.drop k
def lowS (s : ByteArray) : ByteArray := strOfNums ((bytesOf s).map lowI)
theorem lowTo_zero (l : List Int) : lowTo l 0 = l := by simp [lowTo]
theorem lowTo_all (l : List Int) : lowTo l l.length = l.map lowI := by simp [lowTo]
theorem lowTo_length (l : List Int) (k : Nat) : (lowTo l k).length = l.length := by simp [lowTo]; omega
theorem lowTo_at (l : List Int) (k : Nat) (h : k < l.length) : (lowTo l k).getD k 0 = l.getD k 0 := by
  simp [lowTo, List.getD_eq_getElem?_getD, List.getElem?_append, Nat.min_eq_left (Nat.le_of_lt h)]
theorem lowTo_step (l : List Int) (k : Nat) (h : k < l.length) : (lowTo l k).set k (lowI (l.getD k 0)) = lowTo l (k + 1) := by
  simp only [lowTo]
  rw [List.set_append_right _ _ (by simp; omega)]
  have e : k - ((l.take k).map lowI).length = 0 := by simp; omega
  rw [e, List.drop_eq_getElem_cons h, List.set_cons_zero, List.take_succ_eq_append_getElem h, List.map_append, List.append_assoc]
  simp only [List.getD_eq_getElem?_getD, List.getElem?_eq_getElem h, Option.getD_some, List.map_cons, List.map_nil, List.singleton_append]
theorem lowTo_same (l : List Int) (k : Nat) (h : k < l.length) (e : lowI (l.getD k 0) = l.getD k 0) : lowTo l (k + 1) = lowTo l k := by
  rw [← lowTo_step l k h, e, ← lowTo_at l k h]
  apply List.ext_getElem?
  intro i
  by_cases hi : k = i
  · subst hi; simp [lowTo_length, h, List.getD_eq_getElem?_getD]
  · simp [hi]
theorem bytesOf_range (s : ByteArray) (j : Nat) : 0 ≤ (bytesOf s).getD j 0 ∧ (bytesOf s).getD j 0 ≤ 255 := by
  have h := bt_range s j
  have e : (bytesOf s).getD j 0 = bt s j := by rw [← rd_bytesOf]; rfl
  rw [e]; exact h
theorem isEmpty_of {s : ByteArray} (h : s.size = 0) : s.toList.isEmpty = true := by
  rw [ByteArray.toList_eq]
  have : s.data.toList.length = 0 := by rw [data_length]; exact h
  rw [List.eq_nil_of_length_eq_zero this]; rfl
theorem notEmpty_of {s : ByteArray} (h : s.size ≠ 0) : s.toList.isEmpty = false := by
  rw [ByteArray.toList_eq]
  cases e : s.data.toList with
  | nil => exact absurd (by rw [← data_length, e]; rfl) h
  | cons a l => rfl
theorem toList_beq {a b : ByteArray} (h : a ≠ b) : (a.toList == b.toList) = false := by
  rw [ByteArray.toList_eq, ByteArray.toList_eq, beq_eq_false_iff_ne]
  intro e
  apply h
  cases a; cases b
  simp at e
  rw [e]
theorem new_cells (W : World) (cs : List Value) (t : TypeId) : ∀ j u, cs[j]? = some u → (W.alloc (.cells cs.toArray t)).cell? ⟨W.heap.size, j, none⟩ = some u := by
  intro j u h
  rw [blk_cell (heap_alloc_new W _)]
  simpa using h
/-- What lies in a box that was laid ahead of a call. -/
theorem box_cell {w w1 : World} {cs : Array Value} {t : TypeId} (hb : Below (w.alloc (.cells cs t)).heap.size (w.alloc (.cells cs t)) w1) (i : Nat) : w1.cell? ⟨w.heap.size, i, none⟩ = cs[i]? := by
  rw [hb.cell (p := ⟨w.heap.size, i, none⟩) (by rw [World.size_alloc]; exact Nat.lt_succ_self _)]
  exact blk_cell (heap_alloc_new w _) i
theorem box_lt {w w1 : World} {cs : Array Value} {t : TypeId} (hb : Below (w.alloc (.cells cs t)).heap.size (w.alloc (.cells cs t)) w1) : w.heap.size < w1.heap.size := by
  have := hb.size
  rw [World.size_alloc] at this
  omega
/-- Block g alone is written. -/
theorem gset {w w1 : World} {g : Nat} (h : w.grownBy w1 (some g)) (j : Nat) (u : Value) : w.grownBy (w1.setCell ⟨g, j, none⟩ u) (some g) :=
  ⟨h.os, h.tape, h.output, by simpa [World.setCell] using h.size, fun i hi hr => (Below.heap_setCell w1 ⟨g, j, none⟩ u i (fun e => hr (by rw [e]))).trans (h.block i hi hr)⟩
theorem gtrans {w w1 w2 : World} {g : Nat} (h : w.grownBy w1 (some g)) (k : w1.grownBy w2 (some g)) : w.grownBy w2 (some g) := World.grownBy.trans h k
/-- One call behind the other. -/
theorem bb {w w1 w2 : World} (h : Below w.heap.size w w1) (k : Below w1.heap.size w1 w2) : Below w.heap.size w w2 := below_then h h.size k
theorem strOfNums_size (l : List Int) : (strOfNums l).size = l.length := by simp [strOfNums, ByteArray.size]
theorem lowS_size (s : ByteArray) : (lowS s).size = s.size := by rw [lowS, strOfNums_size, List.length_map, bytesOf_length]
end Go.Proofs.YtekpoglbpjodkaaGreatDoor
