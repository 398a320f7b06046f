/- Parts of one proof. -/
import Derived.Test.YtmnajffpmbidiaaGreatDoorMdi
import Derived.Test.YtmnajffpmbidiaaGreatDoorMch
import Derived.Test.YtmnajffpmbidiaaGreatDoorProg
import Derived.Lib.LaidU8
import GoSem.PinnedTables
import Derived.WalkKit
set_option linter.all false
namespace Go.Proofs.YtmnajffpmbidiaaGreatDoor.Ev
open Go.Lib
theorem glob_row {w : World} {k : Nat} {xs : List AV} {us : List Value} (hl : xs.length = us.length) (hc : ∀ j u, us[j]? = some u → w.cell? ⟨k, j, none⟩ = some u) (hv : ∀ (j : Nat) c u, xs[j]? = some c → us[j]? = some u → VR (fun _ => none) [] w c u) :
    VR (fun _ => none) [] w (.iptr xs) (.pointer (some ⟨k, 0, none⟩)) := by
  refine .iptr _ _ (fun j => (us[j]?).getD default) (fun j c h => ?_) (fun j c h => ?_)
  · have hj : j < us.length := by rw [← hl]; exact (List.getElem?_eq_some_iff.1 h).1
    have h1 := hc j _ (List.getElem?_eq_getElem hj)
    have h2 : (⟨k, 0, none⟩ : Addr).add j = ⟨k, j, none⟩ := by
      unfold Addr.add
      split
      · rename_i e; subst e; rfl
      · simp
    refine ⟨⟨?_, fun id h => by cases h⟩, ?_⟩
    · unfold World.cell? at h1
      rcases Nat.lt_or_ge k w.heap.size with hlt | hge
      · simpa [h2] using hlt
      · rw [Array.getElem?_eq_none hge] at h1; simp at h1
    · rw [h2, h1, List.getElem?_eq_getElem hj]; rfl
  · have hj : j < us.length := by rw [← hl]; exact (List.getElem?_eq_some_iff.1 h).1
    rw [List.getElem?_eq_getElem hj]
    exact hv j c _ h (List.getElem?_eq_getElem hj)
theorem first_glob {w : World} (h : VarReads Tryz.prog w "unicode/utf8.first" firstData) : VR (fun _ => none) [] w (.iptr firstRow) (.pointer (some ⟨0, 0, none⟩)) := by
  obtain ⟨g, t, cs, fuel, p, hg, hty, hvar, hd⟩ := h
  obtain rfl : 0 = g := Option.some.inj ((show Tryz.prog.globalNamed "unicode/utf8.first" = some 0 by kernel_rfl).symm.trans hg)
  obtain rfl : 123 = t := Option.some.inj ((show (Tryz.prog.globals[0]?).map (·.type) = some 123 by kernel_rfl).symm.trans hty)
  have hcs := cells_of_tab (k := .u8) (zs := firstTab) (show Tryz.prog.underlying 123 = some (.array 256 5) by kernel_rfl) (show Tryz.prog.underlying 5 = some (.int .u8) by kernel_rfl) (by kernel_rfl) (by kernel_rfl) hd
  refine glob_row (us := cs.toList) (by rw [hcs]; simp [firstRow, firstTab]) (fun j u hj => ?_) (fun j c u hc hu => ?_)
  · rw [World.var?_cell hg hvar j, ← Array.getElem?_toList]; exact hj
  · rw [hcs] at hu
    have hj : j < 256 := by have := (List.getElem?_eq_some_iff.1 hc).1; simpa [firstRow] using this
    rw [firstRow_at hj] at hc
    simp [firstTab, hj] at hu
    injection hc with hc
    subst hc hu
    exact .int _ _
theorem acc_cellB : ∀ j : Fin 32, (match accRow[j.val]? with | some a => eqv a (.int .u8 (if j.val % 2 = 0 then accLo (j.val / 2) else accHi (j.val / 2) : Nat)) | none => false) = true := by decide +kernel
theorem acc_cell (j : Fin 32) : accRow[j.val]? = some (.int .u8 (if j.val % 2 = 0 then accLo (j.val / 2) else accHi (j.val / 2) : Nat)) := by
  have h := acc_cellB j
  cases hc : accRow[j.val]? with
  | none => rw [hc] at h; cases h
  | some a => rw [hc] at h; rw [eqv_eq h]
theorem acc_glob {w : World} (h : VarReads Tryz.prog w "unicode/utf8.acceptRanges" acceptData) : VR (fun _ => none) [] w (.iptr accRow) (.pointer (some ⟨1, 0, none⟩)) := by
  obtain ⟨g, t, cs, fuel, p, hg, hty, hvar, hd⟩ := h
  obtain rfl : 1 = g := Option.some.inj ((show Tryz.prog.globalNamed "unicode/utf8.acceptRanges" = some 1 by kernel_rfl).symm.trans hg)
  obtain rfl : 126 = t := Option.some.inj ((show (Tryz.prog.globals[1]?).map (·.type) = some 126 by kernel_rfl).symm.trans hty)
  have hu8 : Tryz.prog.underlying 5 = some (.int .u8) := by kernel_rfl
  have c1 : Tryz.prog.cellsOf 5 = 1 := by kernel_rfl
  have c2 : Tryz.prog.cellsOf 125 = 2 := by kernel_rfl
  have each : ∀ i, i < 16 → (cs.toList.drop (i * 2)).take 2 = [.int .u8 (accLo i : Int), .int .u8 (accHi i : Int)] := by
    intro i hi
    obtain ⟨fuel', d, q, hdi, he⟩ := array_elem (show Tryz.prog.underlying 126 = some (.array 16 125) by kernel_rfl) hd i hi
    simp only [List.getElem?_map,List.getElem?_range hi,Zh,Option.some.injEq] at hdi
    subst hdi
    rw [c2] at he
    exact ints_of_struct Tryz.underlying125 (fun j f hj => by
      match j, hj with
      | 0, hj => simp at hj; subst hj; exact ⟨hu8, rfl, c1⟩
      | 1, hj => simp at hj; subst hj; exact ⟨hu8, rfl, c1⟩
      | j + 2, hj => simp at hj) (by rw [c2]; rfl) he
  have hlen : ∀ j, j < 32 → cs.toList[j]? = some (.int .u8 (if j % 2 = 0 then accLo (j / 2) else accHi (j / 2) : Nat)) := by
    intro j hj
    have h1 := each (j / 2) (by omega)
    have e0 := congrArg (·[0]?) h1
    have e1 := congrArg (·[1]?) h1
    simp only [List.getElem?_take,List.getElem?_drop] at e0 e1
    by_cases hm : j % 2 = 0
    · rw [if_pos hm]
      have : j / 2 * 2 + 0 = j := by omega
      rw [this] at e0
      simpa using e0
    · rw [if_neg hm]
      have : j / 2 * 2 + 1 = j := by omega
      rw [this] at e1
      simpa using e1
  have hl : accRow.length = 32 := by decide +kernel
  refine glob_row (us := cs.toList.take 32) ?_ (fun j u hj => ?_) (fun j c u hc hu => ?_)
  · rw [hl, List.length_take]
    have : 31 < cs.toList.length := (List.getElem?_eq_some_iff.1 (hlen 31 (by decide))).1
    omega
  · rw [World.var?_cell hg hvar j, ← Array.getElem?_toList]
    rw [List.getElem?_take] at hj
    split at hj
    · exact hj
    · cases hj
  · have hj : j < 32 := by rw [← hl]; exact (List.getElem?_eq_some_iff.1 hc).1
    rw [acc_cell ⟨j, hj⟩] at hc
    rw [List.getElem?_take, if_pos hj, hlen j hj] at hu
    injection hc with hc
    injection hu with hu
    subst hc hu
    exact .int _ _
end Go.Proofs.YtmnajffpmbidiaaGreatDoor.Ev
