/- Plain laws, no run in them: what stands between strokes, by a recursion on the bytes: it is what the library's Split gives, and what a loop gives that remembers where a piece began. -/
import Derived.Test.YtfdfkhpoblembaaDoorPartsIs
namespace Go.Proofs.YtfdfkhpoblembaaDoor
open Go.RowKit Go.Proofs.YtfdfkhpoblembaaDoorW.PrintWords

def headTo (a : List UInt8) : List (List UInt8) → List (List UInt8)
  | [] => [a]
  | p :: ps => (a ++ p) :: ps
def pieces : List UInt8 → List (List UInt8)
  | [] => [[]]
  | c :: r => if c = 47 then [] :: pieces r else headTo [c] (pieces r)
theorem headTo_ne (a : List UInt8) (x : List (List UInt8)) : headTo a x ≠ [] := by cases x <;> simp [headTo]
theorem pieces_ne (l : List UInt8) : pieces l ≠ [] := by
  cases l with
  | nil => simp [pieces]
  | cons c r =>
    unfold pieces
    split
    · simp
    · exact headTo_ne _ _
theorem headTo_nil {x : List (List UInt8)} (h : x ≠ []) : headTo [] x = x := by
  cases x with
  | nil => exact absurd rfl h
  | cons p ps => simp [headTo]
theorem headTo_headTo (a b : List UInt8) (x : List (List UInt8)) : headTo a (headTo b x) = headTo (a ++ b) x := by
  cases x <;> simp [headTo]
theorem pieces_none : ∀ l : List UInt8, (∀ c, c ∈ l → c ≠ 47) → pieces l = [l]
  | [], _ => rfl
  | c :: r, h => by
    rw [pieces, if_neg (h c (by simp)), pieces_none r (fun d hd => h d (by simp [hd]))]
    rfl
theorem pieces_app : ∀ (a r : List UInt8), (∀ c, c ∈ a → c ≠ 47) → pieces (a ++ 47 :: r) = a :: pieces r
  | [], r, _ => by simp [pieces]
  | c :: a, r, h => by
    rw [List.cons_append, pieces, if_neg (h c (by simp)), pieces_app a r (fun d hd => h d (by simp [hd]))]
    rfl

theorem occ_iff (l : List UInt8) (j : Nat) (h : l[j]? = some 47) : Lib.occAt l [47] j = true := by
  obtain ⟨hj, e⟩ := List.getElem?_eq_some_iff.1 h
  unfold Lib.occAt
  rw [List.drop_eq_getElem_cons hj, e]
  rfl
theorem splitK_pieces : ∀ (n : Nat) (l : List UInt8), l.length ≤ n → Lib.splitK [47] 0 (Lib.count l [47]) l = pieces l
  | n, l, hn => by
    rcases Lib.index_spec l [47] with ⟨h1, h2⟩ | ⟨i, h1, h2, h3, h4⟩
    · rw [Lib.count_miss h1, pieces_none l (fun c hc e => ?_)]
      · rfl
      · obtain ⟨j, hj, he⟩ := List.getElem_of_mem hc
        have := occ_iff l j (by rw [List.getElem?_eq_getElem hj, he, e])
        rw [h2 j (by omega)] at this
        cases this
    · have hi := Lib.occAt_head (t := []) rfl h3
      obtain ⟨hil, hie⟩ := List.getElem?_eq_some_iff.1 hi
      have hl : l = l.take i ++ 47 :: l.drop (i + 1) := by
        conv => lhs; rw [← List.take_append_drop i l, List.drop_eq_getElem_cons hil, hie]
      have hp : pieces l = l.take i :: pieces (l.drop (i + 1)) := by
        conv => lhs; rw [hl]
        refine pieces_app _ _ (fun c hc e => ?_)
        obtain ⟨j, hj, he⟩ := List.getElem_of_mem hc
        rw [List.getElem_take] at he
        have hji : j < i := by rw [List.length_take] at hj; omega
        have := occ_iff l j (by rw [List.getElem?_eq_getElem (by omega), he, e])
        rw [h4 j hji] at this
        cases this
      cases n with
      | zero => omega
      | succ n =>
        rw [Lib.count_hit (by simp) h1, hp, Nat.add_comm, Lib.splitK, h1, if_neg (by simp)]
        have := splitK_pieces n (l.drop (i + 1)) (by rw [List.length_drop]; omega)
        simp only [Int.toNat_natCast, Nat.add_zero, List.length_cons, List.length_nil, Nat.zero_add]
        rw [this]
theorem cutB_pieces (s : ByteArray) : (cutB s).map (·.data.toList) = pieces s.data.toList := by
  rw [cutB, Lib.splitB_data]
  exact splitK_pieces _ _ (Nat.le_refl _)
theorem data_inj : Function.Injective (fun s : ByteArray => s.data.toList) := fun a b h => by
  cases a; cases b
  simp at h
  rw [h]
theorem cutB_of {s : ByteArray} {l : List ByteArray} (h : l.map (·.data.toList) = pieces s.data.toList) : cutB s = l :=
  (List.map_inj_right (fun _ _ e => data_inj e)).1 ((cutB_pieces s).trans h.symm)

/-- The pieces that are done after k bytes, and where the one under way began. -/
def doneTo (s : ByteArray) : Nat → List ByteArray × Nat
  | 0 => ([], 0)
  | k + 1 => if bt s k = 47 then ((doneTo s k).1 ++ [s.extract (doneTo s k).2 k], k + 1) else doneTo s k
theorem doneTo_le (s : ByteArray) : ∀ k, (doneTo s k).2 ≤ k
  | 0 => Nat.le_refl _
  | k + 1 => by
    have := doneTo_le s k
    unfold doneTo
    split
    · exact Nat.le_refl _
    · omega
theorem bt_nat (s : ByteArray) (k : Nat) (h : k < s.size) : bt s k = ((s.data.toList[k]'(by rw [data_length]; exact h)).toNat : Int) := by
  rw [← bt_at s k (by simpa using h)]
  rfl
theorem doneTo_pieces (s : ByteArray) : ∀ k, k ≤ s.size → pieces s.data.toList = (doneTo s k).1.map (·.data.toList) ++ headTo ((s.data.toList.take k).drop (doneTo s k).2) (pieces (s.data.toList.drop k))
  | 0, _ => by simp [doneTo, headTo_nil (pieces_ne _)]
  | k + 1, h => by
    have hk : k < s.data.toList.length := by rw [data_length]; omega
    have hle := doneTo_le s k
    have e := doneTo_pieces s k (by omega)
    rw [List.drop_eq_getElem_cons hk, pieces] at e
    have hb := bt_nat s k (by omega)
    have hx : (s.data.toList[k] = 47) ↔ bt s k = 47 := by
      rw [hb]
      constructor
      · intro h; rw [h]; rfl
      · intro h; apply UInt8.toNat_inj.1; have : (s.data.toList[k]).toNat = 47 := by omega
        rw [this]; rfl
    unfold doneTo
    by_cases h47 : bt s k = 47
    · rw [if_pos h47, e, if_pos (hx.2 h47)]
      have h0 : (s.data.toList.take (k + 1)).drop (k + 1) = [] := List.drop_eq_nil_of_le (by rw [List.length_take]; omega)
      simp only [h0, headTo_nil (pieces_ne _), List.map_append, List.map_cons, List.map_nil, List.append_assoc, List.singleton_append]
      rw [headTo, List.append_nil, Lib.extract_data, List.drop_take]
    · rw [if_neg h47, e, if_neg (fun h => h47 (hx.1 h)), headTo_headTo, List.take_succ_eq_append_getElem hk, List.drop_append_of_le_length (by rw [List.length_take]; omega)]
theorem cutB_done (s : ByteArray) : cutB s = (doneTo s s.size).1 ++ [s.extract (doneTo s s.size).2 s.size] := by
  refine cutB_of ?_
  rw [doneTo_pieces s s.size (Nat.le_refl _)]
  have h0 : s.data.toList.drop s.size = [] := List.drop_eq_nil_of_le (by rw [data_length]; exact Nat.le_refl _)
  have h1 : s.data.toList.take s.size = s.data.toList := List.take_of_length_le (by rw [data_length]; exact Nat.le_refl _)
  rw [h0, h1, List.map_append, List.map_cons, List.map_nil]
  simp only [pieces, headTo, List.append_nil]
  rw [Lib.extract_data, List.take_of_length_le (by rw [List.length_drop, data_length]; exact Nat.le_refl _)]
end Go.Proofs.YtfdfkhpoblembaaDoor
