/- opc: a Package without parts: New, find, Add of a first part. -/
import Derived.Test.YtfdfkhpoblembaaDoorPartsIs
namespace Go.Proofs.YtfdfkhpoblembaaDoor
open Go.RowKit Go.Proofs.YtfdfkhpoblembaaDoorW.PrintWords

/-- A Package's cells at block g. -/
theorem new_any (w : World) :
    Calls Tryd.prog 5 #[] w fun e w' => e = .returned (.pointer (some ⟨w.heap.size, 0, none⟩)) ∧ w' = w.alloc (.cells #[.slice none 0 0, .slice none 0 0] 39) := by
  go_enter Tryd.func5, Tryd.ntmps5
  go_wp2
  go_ret
  exact ⟨rfl, rfl⟩

set_option maxHeartbeats 400000 in
theorem find_empty (g : Nat) (s : ByteArray) (w : World) (hg : w.cell? ⟨g, 0, none⟩ = some (.slice none 0 0)) :
    Calls Tryd.prog 15 #[.pointer (some ⟨g, 0, none⟩), .string s] w fun e w' => e = .returned (.pointer none) ∧ w = w' := by
  go_enter Tryd.func15, Tryd.ntmps15
  go_wp2
  refine wp_loop_rounds 1 ?_
  rw [rounds_succ]
  go_wp2
  go_ret
  exact ⟨rfl, rfl⟩

set_option maxHeartbeats 400000 in
theorem bsearch_empty (f : Value) (s : ByteArray) (w : World) :
    Calls Tryd.prog 25 #[.slice none 0 0, .string s, f] w fun e w' => e = .returned (.tuple #[.int .i64 0, .bool false]) ∧ w = w' := by
  go_enter Tryd.func25, Tryd.ntmps25
  go_wp2
  refine wp_loop_rounds 1 ?_
  rw [rounds_succ]
  go_wp2
  go_ret2
  exact ⟨rfl, rfl⟩
theorem info_part : (Tryd.prog.info? 44).map (fun i => (i.zero, i.size, i.bytes)) = some (some (.agg #[.string ⟨#[]⟩, .string ⟨#[]⟩, .slice none 0 0, .slice none 0 0]), 4, 80) := by kernel_rfl
set_option maxHeartbeats 400000 in
theorem insert_nil_part (B : Nat) (cs : List Value) (w : World) (hl : cs.length = 4) (hc : ∀ j u, cs[j]? = some u → w.cell? ⟨B, j, none⟩ = some u) (h1 : ∀ u ∈ cs, u.oneCell' = true) :
    Calls Tryd.prog 28 #[.slice none 0 0, .int .i64 0, .slice (some ⟨B, 0, none⟩) 1 1] w fun e w' =>
      ∃ v, e = .returned v ∧ w'.ownsRow w.heap.size 44 4 v 1 cs ∧ Below w.heap.size w w' := by
  obtain ⟨i0, hi, hzz⟩ := Option.map_eq_some_iff.1 info_part
  simp only [Prod.mk.injEq] at hzz
  obtain ⟨hz0, hz1, hz2⟩ := hzz
  have Hz0 := Lib.hid hz0; have Hz1 := Lib.hid hz1; have Hz2 := Lib.hid hz2; have Hi := Lib.hid hi; clear hz0 hz1 hz2 hi
  have Hl := Lib.hid hl; clear hl
  have hnews : ∀ j u, cs[j]? = some u → w.cell? ((⟨B, 0, none⟩ : Addr).add j) = some u := fun j u h => by rw [add_plain]; exact hc j u h
  have Hn := Lib.hid hnews; clear hnews hc
  have H1 := Lib.hid h1; clear h1
  go_enter Tryd.func28, Tryd.ntmps28
  go_wp2_with (at_builtin; go_must (refine wpList_append_own_at _ rfl _ _ 36 rfl w.heap.size 44 i0 _ 4 80 Tryd.underlying36 Hi.out Hz0.out Hz1.out Hz2.out rfl (by decide) _ 0 [] rfl (own_nil _ _ _ _) ⟨B, 0, none⟩ 1 1 cs rfl Hl.out Hn.out H1.out (by decide) (by decide) (Nat.le_refl _) ?_))
  intro v' w' ho hg hnil hblk
  go_wp2
  go_ret
  exact ⟨v', rfl, ho, (Below.refl _ _).grown hg (Nat.le_refl _) (by intro k hk; simp [Value.ownBlock] at hk)⟩
end Go.Proofs.YtfdfkhpoblembaaDoor
