/- The numbers of rows of lists within lists: which stands where. -/
import Derived.Test.YtekpoglbpjodkaaGreatDoorDeep
import Derived.Laws.BitsLemmas
namespace Go.Proofs.YtekpoglbpjodkaaGreatDoor
open Go.RowKit Go.Proofs.YtekpoglbpjodkaaGreatDoorW.PrintWords

/-- So many lists of one sort about a rule. -/
def chN (x : Lay) : Nat → Chain
  | 0 => [ruleLay]
  | l + 1 => x :: itemLay :: chN x l
/-- A list's layer. -/
structure ListLay (x : Lay) : Prop where
  k : x.k = 7
  n : (x.f = false ∧ x.n = 0) ∨ (x.f = true ∧ 0 ≤ x.n ∧ x.n ≤ 999999999)
theorem chN_head {x : Lay} (hx : ListLay x) (l : Nat) : ∃ y r, chN x l = y :: r ∧ HeadOk y (kidsN (y :: r)) := by
  cases l with
  | zero => exact ⟨_, _, rfl, Or.inl rfl⟩
  | succ l => exact ⟨_, _, rfl, Or.inr (Or.inr ⟨hx.k, rfl⟩)⟩
theorem chN_ok {x : Lay} (hx : ListLay x) : ∀ l, OkCh (chN x l)
  | 0 => OkCh.rule _ rfl
  | l + 1 => by
    obtain ⟨y, r, e, h⟩ := chN_head hx l
    have := chN_ok hx l
    rw [chN]
    rw [e] at this ⊢
    exact OkCh.list _ _ _ hx.k rfl (OkCh.holder _ _ _ (Or.inr rfl) h this)
theorem chN_norm {x : Lay} (hx : ListLay x) : ∀ l, NormCh (chN x l)
  | 0 => by simp [chN, NormCh, NormLay, ruleLay]
  | l + 1 => by
    have ih := chN_norm hx l
    have hk := hx.k
    have h1 : NormLay x := by
      rcases hx.n with ⟨h1, h2⟩ | ⟨h1, h2, h3⟩
      · exact Or.inr (Or.inl ⟨hk, h1, h2⟩)
      · exact Or.inr (Or.inr ⟨hk, h1, h2, h3⟩)
    have h2 : NormLay itemLay := by simp [NormLay, itemLay]
    exact ⟨h1, fun h => by omega, h2, fun h => by simp [itemLay] at h, ih⟩
theorem chN_len (x : Lay) : ∀ l, (chN x l).length = 2 * l + 1
  | 0 => rfl
  | l + 1 => by have := chN_len x l; simp [chN, this]; omega
theorem chN_all {x : Lay} (hx : x.k = 7) : ∀ l, dAll (chN x l) = l
  | 0 => rfl
  | l + 1 => by have := chN_all hx l; simp [chN, dAll, isAll, itemLay, this, hx]
theorem chN_lists {x : Lay} (hx : x.k = 7) : ∀ l, dLists (chN x l) = l
  | 0 => rfl
  | l + 1 => by have := chN_lists hx l; simp [chN, dLists, isList, itemLay, this, hx]
theorem chN_of {x : Lay} (hx : x.k = 7) : ∀ l, listsOf (chN x l) = l
  | 0 => rfl
  | l + 1 => by have := chN_of hx l; simp [chN, listsOf, itemLay, this, hx]; omega
/-- A rows of lists, a sort each. -/
def rowsN (xs : List Lay) (D : Nat) : List Chain := xs.map fun x => chN x D
theorem rowsN_doc {xs : List Lay} {D : Nat} (hx : ∀ x ∈ xs, ListLay x) (hl : xs.length ≤ 100) (hD : D ≤ 70) : DocOk (rowsN xs D) := by
  refine ⟨fun ch hch => ?_, fun y r h => ?_, fun ch hch => ?_, by simpa [rowsN] using hl⟩
  · obtain ⟨x, hxm, rfl⟩ := List.mem_map.1 hch
    exact chN_ok (hx x hxm) D
  · obtain ⟨x, hxm, e⟩ := List.mem_map.1 h
    obtain ⟨z, s, e2, h2⟩ := chN_head (hx x hxm) D
    rw [e2] at e
    injection e with h3 h4
    subst h3 h4
    exact h2
  · obtain ⟨x, hxm, rfl⟩ := List.mem_map.1 hch
    exact ⟨by rw [chN_len]; omega, chN_norm (hx x hxm) D⟩
theorem rowsN_lists : ∀ {xs : List Lay} {D : Nat}, (∀ x ∈ xs, ListLay x) → listsAll (rowsN xs D) = xs.length * D
  | [], D, _ => by simp [rowsN, listsAll]
  | x :: xs, D, h => by
    have ih := rowsN_lists (D := D) (fun y hy => h y (List.mem_cons_of_mem _ hy))
    have h0 := chN_of (h x (by simp)).k D
    simp only [rowsN, List.map_cons, listsAll, List.length_cons] at ih ⊢
    rw [ih, h0, Nat.succ_mul]
    omega
theorem numsOf_at {x : Lay} (hx : x.k = 7) : ∀ (D k lv b c : Nat), b < D → c < 4 → (numsOf (chN x D) k lv)[b * 4 + c]? = (numCells ((k + b : Nat) + 1) x ((lv + b : Nat) : Int))[c]?
  | 0, _, _, b, _, hb, _ => by omega
  | D + 1, k, lv, 0, c, _, hc => by
    rw [chN, numsOf, if_pos hx, Nat.zero_mul, Nat.zero_add, List.getElem?_append_left (by simp [numCells]; omega)]
    rfl
  | D + 1, k, lv, b + 1, c, hb, hc => by
    have ih := numsOf_at hx D (k + 1) (lv + 1) b c (by omega) hc
    have hl : (numCells ((k : Int) + 1) x lv).length = 4 := rfl
    rw [chN, numsOf, if_pos hx, List.getElem?_append_right (by omega), hl, numsOf, if_neg (by decide), show (b + 1) * 4 + c - 4 = b * 4 + c by omega, ih, show k + 1 + b = k + (b + 1) by omega, show lv + 1 + b = lv + (b + 1) by omega]
theorem numsAll_at : ∀ (xs : List Lay) (D k a b c : Nat) (_ : ∀ x ∈ xs, ListLay x) (ha : a < xs.length), b < D → c < 4 → (numsAll (rowsN xs D) k 0)[(a * D + b) * 4 + c]? = (numCells ((k + (a * D + b) : Nat) + 1) xs[a] (b : Int))[c]?
  | x :: xs, D, k, 0, b, c, h, _, hb, hc => by
    have hx := (h x (by simp)).k
    have hl := numsOf_len (chN x D) k 0
    rw [chN_of hx] at hl
    rw [rowsN, List.map_cons, numsAll, Nat.zero_mul, Nat.zero_add, List.getElem?_append_left (by omega), numsOf_at hx D k 0 b c hb hc, Nat.zero_add]
    rfl
  | x :: xs, D, k, a + 1, b, c, h, ha, hb, hc => by
    have hx := (h x (by simp)).k
    have hl := numsOf_len (chN x D) k 0
    rw [chN_of hx] at hl
    have ih := numsAll_at xs D (k + D) a b c (fun y hy => h y (List.mem_cons_of_mem _ hy)) (by simpa using ha) hb hc
    rw [rowsN, List.map_cons, numsAll, List.getElem?_append_right (by rw [hl, Nat.succ_mul]; omega), hl, chN_of hx,
      show ((a + 1) * D + b) * 4 + c - D * 4 = (a * D + b) * 4 + c by rw [Nat.succ_mul]; omega]
    rw [rowsN] at ih
    rw [ih, show k + D + (a * D + b) = k + ((a + 1) * D + b) by rw [Nat.succ_mul]; omega]
    rfl
theorem mask_range (x : Int) : 0 ≤ bits .and .i64 x 16777215 ∧ bits .and .i64 x 16777215 ≤ 16777215 := by
  have h : (BitVec.ofInt 64 x &&& BitVec.ofInt 64 16777215).toNat ≤ 16777215 := by
    rw [BitVec.toNat_and]
    exact Nat.le_trans Nat.and_le_right (by decide)
  have e : bits .and .i64 x 16777215 = IntKind.i64.wrap ((BitVec.ofInt 64 x &&& BitVec.ofInt 64 16777215).toNat) := rfl
  rw [e, IntKind.wrap_i64]
  omega
end Go.Proofs.YtekpoglbpjodkaaGreatDoor
