/- opc.Add into an empty Package, whatever the bytes (nil too); a second Add of a name that is there; Get of a part that is there. -/
import Derived.Test.YtfdfkhpoblembaaDoorFindOne
namespace Go.Proofs.YtfdfkhpoblembaaDoor
open Go.RowKit Go.Proofs.YtfdfkhpoblembaaDoorW.PrintWords

theorem clone_any (A : Option Addr) (n c : Nat) (xs : List Int) (w : World) (hbig : n ≤ 140737488355328) (hc : ReadsInt w .u8 A n xs) :
    Calls Tryd.prog 17 #[.slice A n c] w fun e w' => ∃ v', e = .returned v' ∧ w'.ownsRow w.heap.size 5 1 v' n (xs.map (Value.int .u8)) ∧ Below w.heap.size w w' := by
  cases A with
  | none =>
    have h0 : n = 0 := by
      rcases Nat.eq_zero_or_pos n with h | h
      · exact h
      · obtain ⟨ad, e, _⟩ := hc.2.2 h
        cases e
    have hx : xs = [] := List.eq_nil_of_length_eq_zero (by rw [hc.1, h0])
    subst h0 hx
    refine (Tryd.bytes_Clone_nil 0 c w).mono ?_
    rintro e w' ⟨rfl, rfl⟩
    exact ⟨_, rfl, own_nil _ _ _ _, Below.refl _ _⟩
  | some ad =>
    refine (Tryd.bytes_Clone_at ad n c xs w hc.1 hbig (fun i hi => ?_)).mono ?_
    · obtain ⟨ad', e, h⟩ := hc.2.2 (by omega)
      cases e
      exact h i hi
    · rintro e w' ⟨v, rfl, h1, _, h2⟩
      exact ⟨v, rfl, h1, h2⟩

set_option maxRecDepth 100000 in
set_option maxHeartbeats 1000000 in
theorem lays_any (g : Nat) (R : Value) (s k : ByteArray) (A : Option Addr) (n c : Nat) (xs : List Int) (w : World) (hg : w.heap[g]? = some (.cells #[.slice none 0 0, R] 39 (0, 0)))
    (hbig : n ≤ 140737488355328) (hc : ReadsInt w .u8 A n xs) :
    Calls Tryd.prog 16 #[.pointer (some ⟨g, 0, none⟩), .string s, .string k, .slice A n c] w fun e w' =>
      ∃ v d, e = .returned (.tuple #[]) ∧ w'.heap[g]? = some (.cells #[v, R] 39 (0, 0)) ∧ w'.ownsRow w.heap.size 44 4 v 1 [.string s, .string k, d, .slice none 0 0] ∧
        w'.ownsRow w.heap.size 5 1 d n (xs.map (Value.int .u8)) ∧ w.grownBy w' (some g) := by
  have hlt := blk_lt hg
  have hcell : w.cell? ⟨g, 0, none⟩ = some (.slice none 0 0) := by rw [blk_cell hg]; rfl
  have hfree : w.frozen? ⟨g, 0, none⟩ = false := blk_frozen hg 0
  have HG := Lib.hid hg; clear hg
  have Hc := Lib.hid hc; clear hc
  go_enter Tryd.func16, Tryd.ntmps16
  go_wp2_with (go_at_call 25; refine (bsearch_empty _ _ _).mono ?_; rintro e w' ⟨rfl, rfl⟩)
  go_region_with (first | (go_at_call 17; go_must (refine (clone_any A n c xs w.drew hbig Hc.out).mono ?_); rintro e w1 ⟨d, rfl, hd, hb1⟩; obtain ⟨A1, c1, rfl⟩ := own_slice hd; have hcell1 := (hb1.cell (p := ⟨g, 0, none⟩) hlt).trans hcell; have hlt1 : g < w1.heap.size := Nat.lt_of_lt_of_le hlt hb1.size) | (go_at_call 28; go_must (refine (insert_nil_part w1.heap.size [.string s, .string k, .slice A1 n c1, .slice none 0 0] _ rfl (new_cells w1 _ _) (by simp [Value.oneCell'])).mono ?_); rintro e w2 ⟨v, rfl, hv, hb2⟩; obtain ⟨A2, c2, rfl⟩ := own_slice hv; have hB2 : Below w.heap.size w w2 := below_then (below_alloc ((below_drew (Below.refl _ w)).trans hb1) _) (by rw [World.size_alloc]; exact Nat.le_succ_of_le hb1.size) hb2; have hfz2 := (hB2.frozen (p := ⟨g, 0, none⟩) hlt).trans hfree; have hcell2 := (hB2.cell (p := ⟨g, 0, none⟩) hlt).trans hcell))
  all_goals
    go_end0
    exact ⟨_, _, rfl, lays_end g R s k n xs w w1 w2 HG.out A1 A2 c1 c2 ((below_drew (Below.refl _ w)).trans hb1) hd hb2 hv⟩
set_option maxHeartbeats 1000000 in
theorem add_any (g : Nat) (R : Value) (s k : ByteArray) (A : Option Addr) (n c : Nat) (xs : List Int) (w : World) (hg : w.heap[g]? = some (.cells #[.slice none 0 0, R] 39 (0, 0)))
    (hbig : n ≤ 140737488355328) (hc : ReadsInt w .u8 A n xs)
    (hs : s.size ≤ 4000000000) (hk : k.size ≤ 140737488351232) (hn : isNameB s = true) (hkd : isKindB k = true) (hm : MaxLenAt w) :
    Calls Tryd.prog 6 #[.pointer (some ⟨g, 0, none⟩), .string s, .string k, .slice A n c] w fun e w' => e = .returned (.int .i64 0) ∧ OnePart w w' g R s k n xs := by
  have HG := Lib.hid hg; clear hg
  have Hc := Lib.hid hc; clear hc
  have Hm := Lib.hid hm; clear hm
  have Hn := Lib.hid hn; clear hn
  have Hkd := Lib.hid hkd; clear hkd
  go_enter Tryd.func6, Tryd.ntmps6
  go_wp2_with fail
  refine (isName_any _ _ hs Hm.out).mono ?_
  rw [Hn.out]
  rintro e w1 ⟨rfl, hb1⟩
  go_wp2_with fail
  refine (isKind_any _ _ hk).mono ?_
  rw [Hkd.out]
  rintro e w2 ⟨rfl, hd2⟩
  have hB := bb hb1 hd2.below
  clear hb1 hd2
  have hg2 : w2.heap[g]? = some (.cells #[.slice none 0 0, R] 39 (0, 0)) := (hB.block g (blk_lt HG.out)).trans HG.out
  have hcell : w2.cell? ⟨g, 0, none⟩ = some (.slice none 0 0) := by rw [blk_cell hg2]; rfl
  have HG2 := Lib.hid hg2; clear hg2
  go_wp2_with (go_at_call 15; refine (find_empty g _ _ hcell).mono ?_; rintro e w' ⟨rfl, rfl⟩)
  refine (lays_any g R s k A n c xs _ HG2.out hbig (Hc.out.below hB)).mono ?_
  rintro e w3 ⟨v, d, rfl, h1, h2, h3, h4⟩
  go_wp2
  go_ret
  exact ⟨rfl, v, d, h1, own_weaken h2 hB.size, own_weaken h3 hB.size, gtrans (grown_of_below hB (some g)) h4⟩

set_option maxHeartbeats 1000000 in
/-- A second Add of a name that is there, in whatever size. -/
theorem add_has (g gv cap : Nat) (s s0 k : ByteArray) (v : Value) (w : World) (hg : w.cell? ⟨g, 0, none⟩ = some (.slice (some ⟨gv, 0, none⟩) 1 cap)) (hp : w.cell? ⟨gv, 0, none⟩ = some (.string s0))
    (hs : s.size ≤ 4000000000) (hs0 : s0.size ≤ 140737488351232) (hk : k.size ≤ 140737488351232) (hn : isNameB s = true) (hkd : isKindB k = true) (he : lowS s0 = lowS s) (hm : MaxLenAt w) :
    Calls Tryd.prog 6 #[.pointer (some ⟨g, 0, none⟩), .string s, .string k, v] w fun e w' => e = .returned (.int .i64 8) ∧ Below w.heap.size w w' := by
  have hlg := World.block_lt_of_cell? w _ hg
  have hlp := World.block_lt_of_cell? w _ hp
  have HG := Lib.hid hg; have HP := Lib.hid hp; have Hm := Lib.hid hm; have Hn := Lib.hid hn; have Hkd := Lib.hid hkd; have He := Lib.hid he; clear hg hp hm hn hkd he
  go_enter Tryd.func6, Tryd.ntmps6
  go_wp2_with fail
  refine (isName_any _ _ hs Hm.out).mono ?_
  rw [Hn.out]
  rintro e w1 ⟨rfl, hb1⟩
  go_wp2_with fail
  refine (isKind_any _ _ hk).mono ?_
  rw [Hkd.out]
  rintro e w2 ⟨rfl, hd2⟩
  have hB := bb hb1 hd2.below
  clear hb1 hd2
  have G2 := Lib.hid ((hB.cell (p := ⟨g, 0, none⟩) hlg).trans HG.out)
  have P2 := Lib.hid ((hB.cell (p := ⟨gv, 0, none⟩) hlp).trans HP.out)
  have HB := Lib.hid hB; clear hB
  go_wp2_with fail
  refine (find_hit g gv cap s0 s _ G2.out P2.out hs0 (by omega) (by rw [He.out]; exact beq_self_eq_true _)).mono ?_
  rintro e w3 ⟨rfl, hb3⟩
  have HB3 := Lib.hid (bb HB.out hb3); clear hb3
  go_wp2
  go_ret
  exact ⟨rfl, HB3.out⟩

set_option maxHeartbeats 1000000 in
/-- Get of a part that is there. -/
theorem get_hit (g gv cap : Nat) (s0 s k : ByteArray) (A : Option Addr) (n c : Nat) (xs : List Int) (w : World) (hg : w.cell? ⟨g, 0, none⟩ = some (.slice (some ⟨gv, 0, none⟩) 1 cap)) (hp : w.cell? ⟨gv, 0, none⟩ = some (.string s0))
    (hp1 : w.cell? ⟨gv, 1, none⟩ = some (.string k)) (hp2 : w.cell? ⟨gv, 2, none⟩ = some (.slice A n c)) (hbig : n ≤ 140737488355328) (hc : ReadsInt w .u8 A n xs)
    (h1 : s0.size ≤ 140737488351232) (h2 : s.size ≤ 140737488351232) (he : lowS s0 = lowS s) :
    Calls Tryd.prog 7 #[.pointer (some ⟨g, 0, none⟩), .string s] w fun e w' => ∃ v, e = .returned (.tuple #[.string k, v, .int .i64 0]) ∧ w'.ownsRow w.heap.size 5 1 v n (xs.map (Value.int .u8)) ∧ Below w.heap.size w w' := by
  have hlp := World.block_lt_of_cell? w _ hp
  have HC := Lib.hid hc; have He := Lib.hid he; clear hc he
  have HP1 := Lib.hid hp1; have HP2 := Lib.hid hp2; clear hp1 hp2
  have HG := Lib.hid hg; have HP := Lib.hid hp; clear hg hp
  go_enter Tryd.func7, Tryd.ntmps7
  go_wp2_with fail
  refine (find_hit g gv cap s0 s _ HG.out HP.out h1 h2 (by rw [He.out]; exact beq_self_eq_true _)).mono ?_
  rintro e w1 ⟨rfl, hb1⟩
  have c1 := (hb1.cell (p := ⟨gv, 1, none⟩) hlp).trans HP1.out
  have c2 := (hb1.cell (p := ⟨gv, 2, none⟩) hlp).trans HP2.out
  have hl1 : gv < w1.heap.size := Nat.lt_of_lt_of_le hlp hb1.size
  have HC1 := Lib.hid (HC.out.below hb1)
  have HB1 := Lib.hid hb1; clear hb1
  go_wp2_with fail
  go_region_with (go_at_call 17; go_must (refine (clone_any A n c xs w1.drew hbig HC1.out).mono ?_); rintro e w2 ⟨v, rfl, hv, hb2⟩; have c1' := (hb2.cell (p := ⟨gv, 1, none⟩) hl1).trans c1; have hv2 : w2.ownsRow w.heap.size 5 1 v n (xs.map (Value.int .u8)) := own_weaken hv HB1.out.size; have HB2 := Lib.hid (bb HB1.out ((below_drew (Below.refl _ w1)).trans hb2)); have HV := Lib.hid hv2; clear hv hb2 hv2)
  all_goals (go_wp2; go_ret3; exact ⟨v, rfl, HV.out, HB2.out⟩)
end Go.Proofs.YtfdfkhpoblembaaDoor
