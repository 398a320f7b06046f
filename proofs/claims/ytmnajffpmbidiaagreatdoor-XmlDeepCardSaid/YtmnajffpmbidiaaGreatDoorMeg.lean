/- Parts of one proof, one behind the other: The reader of xml: elements within one another, reckoned with letters. -/
import Derived.Test.YtmnajffpmbidiaaGreatDoorMef
/- The reader of xml: elements within one another, reckoned with letters. -/
namespace Go.Proofs.YtmnajffpmbidiaaGreatDoor.Ev
set_option linter.all false
variable {ml : Int}
open Go.Proofs.YtmnajffpmbidiaaGreatDoor.Ic
set_option maxRecDepth 100000
set_option maxHeartbeats 4000000
set_option linter.unusedSimpArgs false
set_option linter.unusedSectionVars false
set_option linter.unusedVariables false
/-- So many elements a within one another, and what stands behind. -/
def nestT : Nat → List UInt8 → List UInt8
  | 0, r => r
  | j + 1, r => 60 :: 97 :: 62 :: nestT j (60 :: 47 :: 97 :: 62 :: r)
/-- The cells of the outermost of j + 1 elements. -/
def elC : Nat → List AV
  | 0 => [.str [], .str [97], .str [], .lst 0 [], .lst 0 []]
  | j + 1 => [.str [], .str [97], .str [], .lst 0 [], .lst 1 (elC j)]
theorem elC_low : ∀ j, lowL 0 (elC j) = true
  | 0 => rfl
  | j + 1 => by
    have ih := elC_low j
    simp only [elC, lowL, low, ih, Bool.and_self]
/-- What memory an element lays ahead of its content, and content ahead of an element. -/
abbrev addE (mi : Nat) (nsv : List UInt8) : Mem := [r27 [] [], scope1 nsv, .miter mi 1, r27 [] [97]]
abbrev addC : Mem := [rowL .nilS, rowB, r27 [] []]
theorem LoM.addE {A B : Mem} (h : LoM A B) {mi : Nat} {nsv : List UInt8} (hmi : mi < A.length + (B.length + 1)) : LoM A (B ++ addE mi nsv) := by
  refine h.more fun x hx => ?_
  simp only [Ev.addE, List.mem_cons, List.not_mem_nil, or_false] at hx
  rcases hx with rfl | rfl | rfl | rfl
  · rfl
  · rfl
  · exact decide_eq_true hmi
  · rfl
theorem LoM.addC {A B : Mem} (h : LoM A B) : LoM A (B ++ addC) := by
  refine h.more fun x hx => ?_
  simp only [Ev.addC, List.mem_cons, List.not_mem_nil, or_false] at hx
  rcases hx with rfl | rfl | rfl <;> rfl
section
variable {N : Nat}
variable (s : List UInt8) (hs : s.length < 4294967281) (hN : s.length < N)
include hs hN
theorem nest_el : ∀ (j at_ many : Nat) (A B : Mem) (mi : Nat) (nsv : List UInt8) (dp : Nat) (r : List UInt8) (d : Nat), s.drop at_ = nestT (j + 1) r → LoM A B → (∀ L : Mem, ∀ a m, (A ++ rdr s a m :: (B ++ L))[mi]? = some (scope1 nsv)) → many + j < 16384 → dp + j ≤ 256 → 7 + 2 * j ≤ d →
    evFI Tryz.prog (cfg ml) T N d 38 [.ptr A.length 0 0, .map mi, .int .i64 (dp : Nat)] (A ++ rdr s at_ many :: B) = some (.ret (.agg (elC j)), A ++ rdr s (at_ + 7 * (j + 1)) (many + (j + 1)) :: B) := by
  intro j
  induction j with
  | zero =>
    intro at_ many A B mi nsv dp r d hd hlo hm hmany hdp hdd
    have d0 : s.drop at_ = 60 :: 97 :: 62 :: 60 :: 47 :: 97 :: 62 :: r := hd
    have d1 := drop_one d0
    have d2 := drop_one d1
    have d4 := drop_one d2
    have d6 := drop_one (drop_one d4)
    have d7 := drop_one d6
    have hlt : at_ + 1 + 1 < s.length := (List.getElem?_eq_some_iff.1 (get_at d2)).1
    have m1 : 1 = nmN (s.drop (at_ + 1)) := by rw [d1]; rfl
    have m6 : 1 = nmN (s.drop (at_ + 1 + 1 + 1 + 1 + 1)) := by rw [d6]; rfl
    have t1 : (s.drop (at_ + 1)).take 1 = [97] := by rw [d1]; rfl
    have t6 : (s.drop (at_ + 1 + 1 + 1 + 1 + 1)).take 1 = [97] := by rw [d6]; rfl
    have h := elem_open (ml := ml) s hs hN at_ many A B hlo mi nsv dp hm 97 (get_at d0) (at_ + 1) rfl (get_at d1) (by decide) 1 m1 (at_ + 1 + 1) rfl (by rw [d2]; rfl) (by rw [d2]; rfl) (get_at d2) (by omega) (by omega) (at_ + 1 + 1 + 1) rfl d (by omega) 0 [] rfl (at_ + 1 + 1 + 1) (many + 1)
      (fun dd hdd => content_none (ml := ml) (by omega) s _ _ A _ (by omega) (by rw [d4]; simp [hasP]) _ _ dd (by omega))
      (by rw [d4]; simp [hasP]) (at_ + 1 + 1 + 1 + 1 + 1) rfl 97 (get_at d6) (by decide) 1 m6 (at_ + 1 + 1 + 1 + 1 + 1 + 1) rfl (by rw [d7]; rfl) (by rw [t1, t6]) 0 (by rw [d7]; rfl) (at_ + 1 + 1 + 1 + 1 + 1 + 1) rfl (get_at d7)
    rw [t1] at h
    exact h
  | succ j ih =>
    intro at_ many A B mi nsv dp r d hd hlo hm hmany hdp hdd
    have d0 : s.drop at_ = 60 :: 97 :: 62 :: 60 :: 97 :: 62 :: nestT j (60 :: 47 :: 97 :: 62 :: 60 :: 47 :: 97 :: 62 :: r) := hd
    have d1 := drop_one d0
    have d2 := drop_one d1
    have d4 := drop_one d2
    have hmi : mi < A.length + (B.length + 1) := by
      have := (List.getElem?_eq_some_iff.1 (hm [] 0 0)).1
      simpa [Nat.add_assoc] using this
    have d4' : s.drop (at_ + 1 + 1 + 1) = nestT (j + 1) (60 :: 47 :: 97 :: 62 :: r) := d4
    have d5 : s.drop (at_ + 1 + 1 + 1 + 7 * (j + 1)) = 60 :: 47 :: 97 :: 62 :: r := by
      have gen : ∀ (i k : Nat) (u : List UInt8), s.drop k = nestT i u → s.drop (k + 7 * i) = u := by
        intro i
        induction i with
        | zero => intro k u h; exact h
        | succ i ih =>
          intro k u h
          have h3 := drop_one (drop_one (drop_one (show s.drop k = 60 :: 97 :: 62 :: nestT i (60 :: 47 :: 97 :: 62 :: u) from h)))
          have h7 := drop_one (drop_one (drop_one (drop_one (ih _ _ h3))))
          rw [← h7]; congr 1; omega
      exact gen _ _ _ d4'
    generalize hA5 : at_ + 1 + 1 + 1 + 7 * (j + 1) = at5 at *
    have d6 := drop_one (drop_one d5)
    have d7 := drop_one d6
    have hlt : at5 < s.length := (List.getElem?_eq_some_iff.1 (get_at d5)).1
    have m1 : 1 = nmN (s.drop (at_ + 1)) := by rw [d1]; rfl
    have m6 : 1 = nmN (s.drop (at5 + 1 + 1)) := by rw [d6]; rfl
    have t1 : (s.drop (at_ + 1)).take 1 = [97] := by rw [d1]; rfl
    have t6 : (s.drop (at5 + 1 + 1)).take 1 = [97] := by rw [d6]; rfl
    have hC : ∀ dd, dd + 1 = d → evFI Tryz.prog (cfg ml) T N dd 67 [.ptr A.length 0 0, .map (A.length + (B.length + 2)), .int .i64 (dp : Nat)] (A ++ rdr s (at_ + 1 + 1 + 1) (many + 1) :: (B ++ addE mi nsv)) = some (.ret (.lst 1 (elC j)), A ++ rdr s at5 (many + 1 + (j + 1)) :: (B ++ addE mi nsv)) := fun dd hdd2 => by
      have hE : ∀ ddd, ddd + 1 = dd → evFI Tryz.prog (cfg ml) T N ddd 38 [.ptr A.length 0 0, .map (A.length + (B.length + 2)), .int .i64 ((dp + 1 : Nat) : Int)] (A ++ rdr s (at_ + 1 + 1 + 1) (many + 1) :: ((B ++ addE mi nsv) ++ addC)) = some (.ret (.agg (elC j)), A ++ rdr s at5 (many + 1 + (j + 1)) :: ((B ++ addE mi nsv) ++ addC)) := fun ddd h3 => by
        have h := ih (at_ + 1 + 1 + 1) (many + 1) A ((B ++ addE mi nsv) ++ addC) (A.length + (B.length + 2)) nsv (dp + 1) (60 :: 47 :: 97 :: 62 :: r) ddd d4' ((hlo.addE hmi).addC) (fun L a m => by
          rw [getE_k, List.getElem?_cons_succ, List.append_assoc, List.append_assoc, getE_k]; rfl) (by omega) (by omega) (by omega)
        rw [hA5] at h
        exact h
      cases j with
      | zero => exact content_one (ml := ml) s hs (by omega) _ _ A _ (hlo.addE hmi) _ dp (by omega) 97 _ d4 (by decide) (by decide) (by decide) at5 _ [] [97] [] 0 0 [] [] rfl rfl dd (by omega) hE (by omega) (by rw [d5]; simp [hasP])
      | succ j => exact content_one (ml := ml) s hs (by omega) _ _ A _ (hlo.addE hmi) _ dp (by omega) 97 _ d4 (by decide) (by decide) (by decide) at5 _ [] [97] [] 0 1 [] (elC j) rfl (elC_low j) dd (by omega) hE (by omega) (by rw [d5]; simp [hasP])
    have h := elem_open (ml := ml) s hs hN at_ many A B hlo mi nsv dp hm 97 (get_at d0) (at_ + 1) rfl (get_at d1) (by decide) 1 m1 (at_ + 1 + 1) rfl (by rw [d2]; rfl) (by rw [d2]; rfl) (get_at d2) (by omega) (by omega) (at_ + 1 + 1 + 1) rfl d (by omega) 1 (elC j) (elC_low j) at5 (many + 1 + (j + 1))
      (by rw [t1]; exact hC) (by rw [d5]; simp [hasP]) (at5 + 1 + 1) rfl 97 (get_at d6) (by decide) 1 m6 (at5 + 1 + 1 + 1) rfl (by rw [d7]; rfl) (by rw [t1, t6]) 0 (by rw [d7]; rfl) (at5 + 1 + 1 + 1) rfl (get_at d7)
    rw [t1] at h
    rw [show at_ + 7 * (j + 1 + 1) = at5 + 1 + 1 + 1 + 1 by omega, show many + (j + 1 + 1) = many + 1 + (j + 1) by omega]
    exact h
theorem nest_pan : ∀ (j at_ many : Nat) (A B : Mem) (mi : Nat) (nsv : List UInt8) (dp : Nat) (r : List UInt8) (d : Nat), s.drop at_ = nestT (j + 1) r → (∀ L : Mem, ∀ a m, (A ++ rdr s a m :: (B ++ L))[mi]? = some (scope1 nsv)) → many + j < 16384 → dp ≤ 257 → 256 < dp + j → 7 + 2 * j ≤ d →
    ∃ M, evFI Tryz.prog (cfg ml) T N d 38 [.ptr A.length 0 0, .map mi, .int .i64 (dp : Nat)] (A ++ rdr s at_ many :: B) = some (.pan (failv 6), M) ∧ M.take A.length = A := by
  intro j
  induction j with
  | zero =>
    intro at_ many A B mi nsv dp r d hd hm hmany hdp hdp2 hdd
    have d0 : s.drop at_ = 60 :: 97 :: 62 :: 60 :: 47 :: 97 :: 62 :: r := hd
    exact elem_full (ml := ml) s hs hN at_ many A B mi dp 97 (get_at d0) (at_ + 1) rfl (get_at (drop_one d0)) (by decide) (by omega) (by omega) d (by omega)
  | succ j ih =>
    intro at_ many A B mi nsv dp r d hd hm hmany hdp hdp2 hdd
    have d0 : s.drop at_ = 60 :: 97 :: 62 :: 60 :: 97 :: 62 :: nestT j (60 :: 47 :: 97 :: 62 :: 60 :: 47 :: 97 :: 62 :: r) := hd
    rcases Nat.lt_or_ge 256 dp with hfull | hle
    · exact elem_full (ml := ml) s hs hN at_ many A B mi dp 97 (get_at d0) (at_ + 1) rfl (get_at (drop_one d0)) (by decide) (by omega) hfull d (by omega)
    have d1 := drop_one d0
    have d2 := drop_one d1
    have d4 := drop_one d2
    have d4' : s.drop (at_ + 1 + 1 + 1) = nestT (j + 1) (60 :: 47 :: 97 :: 62 :: r) := d4
    have hlt : at_ + 1 + 1 < s.length := (List.getElem?_eq_some_iff.1 (get_at d2)).1
    have m1 : 1 = nmN (s.drop (at_ + 1)) := by rw [d1]; rfl
    have t1 : (s.drop (at_ + 1)).take 1 = [97] := by rw [d1]; rfl
    have hC : ∀ dd, dd + 1 = d → ∃ M, evFI Tryz.prog (cfg ml) T N dd 67 [.ptr A.length 0 0, .map (A.length + (B.length + 2)), .int .i64 (dp : Nat)] (A ++ rdr s (at_ + 1 + 1 + 1) (many + 1) :: (B ++ addE mi nsv)) = some (.pan (failv 6), M) ∧ M.take A.length = A := fun dd hdd2 =>
      content_cpan (ml := ml) s hs (by omega) _ _ A _ _ dp (by omega) 97 _ d4 (by decide) (by decide) (by decide) 6 dd (by omega) fun ddd h3 =>
        ih (at_ + 1 + 1 + 1) (many + 1) A ((B ++ addE mi nsv) ++ addC) (A.length + (B.length + 2)) nsv (dp + 1) (60 :: 47 :: 97 :: 62 :: r) ddd d4' (fun L a m => by
          rw [getE_k, List.getElem?_cons_succ, List.append_assoc, List.append_assoc, getE_k]; rfl) (by omega) (by omega) (by omega) (by omega)
    exact elem_cpan (ml := ml) s hs hN at_ many A B mi nsv dp hm 97 (get_at d0) (at_ + 1) rfl (get_at d1) (by decide) 1 m1 (at_ + 1 + 1) rfl (by rw [d2]; rfl) (by rw [d2]; rfl) (get_at d2) (by omega) hle (at_ + 1 + 1 + 1) rfl d (by omega) 6 (by rw [t1]; exact hC)
end
end Go.Proofs.YtmnajffpmbidiaaGreatDoor.Ev
