/- style.Standard: it gives a row of its own. -/
import Derived.Test.YtekpoglbpjodkaaGreatDoorTBlocks
import Derived.Test.YtekpoglbpjodkaaGreatDoorShelf
namespace Go.Proofs.YtekpoglbpjodkaaGreatDoor
open Go.RowKit Go.Proofs.YtekpoglbpjodkaaGreatDoorW.PrintWords

theorem info_style : (Tryz.prog.info? 56).map (fun i => (i.zero, i.size, i.bytes)) = some (some (.agg #[.string ⟨#[]⟩, .string ⟨#[]⟩, .bool false, .int .i64 0, .int .i64 0, .int .i64 0]), 6, 64) := by kernel_rfl
set_option maxRecDepth 100000 in
set_option maxHeartbeats 4000000 in
theorem standard_any (W : World) :
    Calls Tryz.prog 15 #[] W fun e w' => ∃ A n c, e = .returned (.slice A n c) ∧ Below W.heap.size W w' := by
  obtain ⟨i0, hi, hzz⟩ := Option.map_eq_some_iff.1 info_style
  simp only [Prod.mk.injEq] at hzz
  obtain ⟨hz0, hz1, hz2⟩ := hzz
  have Hz0 := Lib.hid hz0; have Hz1 := Lib.hid hz1; have Hz2 := Lib.hid hz2; have Hi := Lib.hid hi; clear hz0 hz1 hz2 hi
  go_enter Tryz.func15, Tryz.ntmps15
  go_wp2
  go_loopw [1, 2] (fun o i wr => ∃ (k : Nat) (xs : List Value), 1 ≤ k ∧ k ≤ 7 ∧ i = .int .i64 k ∧ Below W.heap.size W wr ∧ wr.ownsRow W.heap.size 56 6 o k xs) (fun _ i _ => 7 - (intOf i).toNat)
  case atStart => exact ⟨1, _, Nat.le_refl _, by omega, rfl, below_alloc (Below.refl _ W) _, World.ownsRow_lit W _ 1 (Nat.le_refl _) (by decide) rfl⟩
  case round =>
    obtain ⟨k, xs, hk1, hk, rfl, hB, hO⟩ := hrel
    obtain ⟨Ao, co, rfl⟩ := own_slice hO
    have HB := Lib.hid hB; have HO := Lib.hid hO; clear hB hO
    by_cases hlt : k ≤ 6
    · have hlt2 : k < 100 := by omega
      go_wp2_with fail
      refine (Tryz.strconv_Itoa_small k hlt2 wr).mono ?_
      rintro e w1 ⟨rfl, rfl⟩
      have hds : (⟨(Lib.decDigits k).toArray⟩ : ByteArray).size ≤ 100 := by
        rcases (show k = 1 ∨ k = 2 ∨ k = 3 ∨ k = 4 ∨ k = 5 ∨ k = 6 by omega) with h | h | h | h | h | h <;> rw [h] <;> decide +kernel
      generalize (⟨(Lib.decDigits k).toArray⟩ : ByteArray) = ds at hds ⊢
      have HNew := Lib.hid (fresh_cells w1 [.string (⟨#[72, 101, 97, 100, 105, 110, 103]⟩ ++ ds), .string ⟨#[78, 111, 114, 109, 97, 108]⟩, .bool false, .int .i64 0, .int .i64 0, .int .i64 k] 56 w1.heap.size rfl)
      have HOA := Lib.hid (own_alloc HO.out (.cells #[.string (⟨#[72, 101, 97, 100, 105, 110, 103]⟩ ++ ds), .string ⟨#[78, 111, 114, 109, 97, 108]⟩, .bool false, .int .i64 0, .int .i64 0, .int .i64 k] 56))
      have HB3 := Lib.hid (below_then HB.out HB.out.size (below_alloc (Below.refl _ w1) (.cells #[.string (⟨#[72, 101, 97, 100, 105, 110, 103]⟩ ++ ds), .string ⟨#[78, 111, 114, 109, 97, 108]⟩, .bool false, .int .i64 0, .int .i64 0, .int .i64 k] 56)))
      have H63 := Lib.hid (le_maxLen (show k + 1 ≤ 1000 by omega))
      have HBy := Lib.hid (show (k + 1) * 64 ≤ 140737488355328 by omega)
      have H1c := Lib.hid (show ∀ u ∈ [Value.string (⟨#[72, 101, 97, 100, 105, 110, 103]⟩ ++ ds), .string ⟨#[78, 111, 114, 109, 97, 108]⟩, .bool false, .int .i64 0, .int .i64 0, .int .i64 k], u.oneCell' = true by simp [Value.oneCell'])
      go_wp2_with (at_builtin; go_loud (refine wpList_append_own_at _ rfl _ _ 28 rfl W.heap.size 56 i0 _ 6 64 Tryz.underlying28 Hi.out Hz0.out Hz1.out Hz2.out rfl (by decide) _ k xs rfl HOA.out ⟨w1.heap.size, 0, none⟩ 1 1 [.string (⟨#[72, 101, 97, 100, 105, 110, 103]⟩ ++ ds), .string ⟨#[78, 111, 114, 109, 97, 108]⟩, .bool false, .int .i64 0, .int .i64 0, .int .i64 k] rfl rfl HNew.out H1c.out H63.out HBy.out HB3.out.size ?_; intro v' w3 ho hg hnil hblk; have HP := Lib.hid ho; have HG := Lib.hid (HB3.out.grown hg HB3.out.size (own_base HOA.out)); clear ho hg hnil hblk))
      go_roundw
      case rel => exact ⟨k + 1, _, by omega, by omega, by go_num, HG.out, HP.out⟩
      case measure => simp [intOf]; omega
    · obtain rfl : k = 7 := by omega
      have hnb : ∀ j : Nat, j < 3 → ∃ s, (wr.alloc (.cells #[.string ⟨#[67, 111, 100, 101]⟩, .string ⟨#[82, 117, 108, 101]⟩, .string ⟨#[79, 112, 101, 110, 101, 114]⟩] 9)).cell? ⟨wr.heap.size, j, none⟩ = some (.string s) := by
        intro j hj
        rcases (show j = 0 ∨ j = 1 ∨ j = 2 by omega) with h | h | h <;> subst h <;> exact ⟨_, blk_cell (heap_alloc_new wr _) _⟩
      have HNB := Lib.hid hnb; clear hnb
      go_wp2
      have HB7 := Lib.hid (below_then HB.out HB.out.size (below_alloc (Below.refl _ wr) (.cells #[.string ⟨#[67, 111, 100, 101]⟩, .string ⟨#[82, 117, 108, 101]⟩, .string ⟨#[79, 112, 101, 110, 101, 114]⟩] 9)))
      have HO7 := Lib.hid (own_alloc HO.out (.cells #[.string ⟨#[67, 111, 100, 101]⟩, .string ⟨#[82, 117, 108, 101]⟩, .string ⟨#[79, 112, 101, 110, 101, 114]⟩] 9))
      have hlt0 : wr.heap.size < (wr.alloc (.cells #[.string ⟨#[67, 111, 100, 101]⟩, .string ⟨#[82, 117, 108, 101]⟩, .string ⟨#[79, 112, 101, 110, 101, 114]⟩] 9)).heap.size := by rw [World.size_alloc]; exact Nat.lt_succ_self _
      have hne0 : some wr.heap.size ≠ (Value.slice Ao 7 co).ownBlock := fun e => by have := own_lt HO.out _ e.symm; omega
      have HLT := Lib.hid hlt0; have HNE := Lib.hid hne0; clear hlt0 hne0 HB HO
      generalize hw7 : wr.alloc (.cells #[.string ⟨#[67, 111, 100, 101]⟩, .string ⟨#[82, 117, 108, 101]⟩, .string ⟨#[79, 112, 101, 110, 101, 114]⟩] 9) = w7 at HNB HB7 HO7 HLT ⊢
      clear hw7
      generalize wr.heap.size = gb at HNB HLT HNE ⊢
      go_loopw [1, 21] (fun o i wq => ∃ (j : Nat) (xs : List Value), j ≤ 3 ∧ i = .int .i64 j ∧ Below W.heap.size W wq ∧ wq.ownsRow W.heap.size 56 6 o (7 + j) xs ∧ gb < wq.heap.size ∧ some gb ≠ o.ownBlock ∧ (∀ l : Nat, l < 3 → ∃ s, wq.cell? ⟨gb, l, none⟩ = some (.string s))) (fun _ i _ => 3 - (intOf i).toNat)
      case atStart => exact ⟨0, _, by omega, rfl, HB7.out, HO7.out, HLT.out, HNE.out, HNB.out⟩
      case round =>
        obtain ⟨j, xs, hj, rfl, hB, hO, hgl, hgn, hc⟩ := hrel
        obtain ⟨k, hkj⟩ : ∃ k, k = 7 + j := ⟨_, rfl⟩
        rw [← hkj] at hO
        obtain ⟨Ao2, co2, rfl⟩ := own_slice hO
        have HB := Lib.hid hB; have HO := Lib.hid hO; have HGL := Lib.hid hgl; have HGN := Lib.hid hgn; have HC := Lib.hid hc; clear hB hO hgl hgn hc HB7 HO7 HLT HNE HNB
        by_cases hlt : j < 3
        · obtain ⟨s, hs⟩ := HC.out j hlt
          have H63 := Lib.hid (le_maxLen (show k + 1 ≤ 1000 by omega))
          have HBy := Lib.hid (show (k + 1) * 64 ≤ 140737488355328 by omega)
          have HNew := Lib.hid (fresh_cells wr [.string s, .string ⟨#[78, 111, 114, 109, 97, 108]⟩, .bool false, .int .i64 0, .int .i64 0, .int .i64 0] 56 wr.heap.size rfl)
          have HOA := Lib.hid (own_alloc HO.out (.cells #[.string s, .string ⟨#[78, 111, 114, 109, 97, 108]⟩, .bool false, .int .i64 0, .int .i64 0, .int .i64 0] 56))
          have HB3 := Lib.hid (below_then HB.out HB.out.size (below_alloc (Below.refl _ wr) (.cells #[.string s, .string ⟨#[78, 111, 114, 109, 97, 108]⟩, .bool false, .int .i64 0, .int .i64 0, .int .i64 0] 56)))
          have H1c := Lib.hid (show ∀ u ∈ [Value.string s, .string ⟨#[78, 111, 114, 109, 97, 108]⟩, .bool false, .int .i64 0, .int .i64 0, .int .i64 0], u.oneCell' = true by simp [Value.oneCell'])
          go_wp2_with (at_builtin; go_loud (refine wpList_append_own_at _ rfl _ _ 28 rfl W.heap.size 56 i0 _ 6 64 Tryz.underlying28 Hi.out Hz0.out Hz1.out Hz2.out rfl (by decide) _ k xs rfl HOA.out ⟨wr.heap.size, 0, none⟩ 1 1 [.string s, .string ⟨#[78, 111, 114, 109, 97, 108]⟩, .bool false, .int .i64 0, .int .i64 0, .int .i64 0] rfl rfl HNew.out H1c.out H63.out HBy.out HB3.out.size ?_; intro v' w3 ho hg hnil hblk; have HP := Lib.hid ho; have HG := Lib.hid (HB3.out.grown hg HB3.out.size (own_base HOA.out)); have HGr := Lib.hid hg; have HBl := Lib.hid hblk; clear ho hg hnil hblk))
          go_roundw
          case rel =>
            have hsz : (wr.alloc (.cells #[.string s, .string ⟨#[78, 111, 114, 109, 97, 108]⟩, .bool false, .int .i64 0, .int .i64 0, .int .i64 0] 56)).heap.size = wr.heap.size + 1 := World.size_alloc ..
            have hgl := HGL.out
            refine ⟨_, _, _, _, _, _, _, _, _, _, _, _, ⟨j + 1, _, by omega, rfl, HG.out, (by rw [show 7 + (j + 1) = k + 1 by omega]; exact HP.out), Nat.lt_of_lt_of_le (by omega) HGr.out.size, ?_, fun l hl => ?_⟩, rfl⟩
            · rcases HBl.out with h | h
              · rw [h]; exact HGN.out
              · rw [h]; intro e; injection e with e; omega
            · obtain ⟨s2, h2⟩ := HC.out l hl
              have hb : w3.heap[gb]? = wr.heap[gb]? := (HGr.out.block gb (by omega) HGN.out).trans (same_alloc wr _ gb hgl)
              exact ⟨s2, (World.cell?_of_block (w := wr) (a := ⟨gb, l, none⟩) hb).trans h2⟩
          case measure => simp [intOf]; omega
        · have H63 := Lib.hid (le_maxLen (show k + 1 ≤ 1000 by omega))
          have HBy := Lib.hid (show (k + 1) * 64 ≤ 140737488355328 by omega)
          have HNew := Lib.hid (fresh_cells wr [.string ⟨#[67, 111, 100, 101, 84, 101, 120, 116]⟩, .string ⟨#[]⟩, .bool true, .int .i64 0, .int .i64 0, .int .i64 0] 56 wr.heap.size rfl)
          have HOA := Lib.hid (own_alloc HO.out (.cells #[.string ⟨#[67, 111, 100, 101, 84, 101, 120, 116]⟩, .string ⟨#[]⟩, .bool true, .int .i64 0, .int .i64 0, .int .i64 0] 56))
          have HB3 := Lib.hid (below_then HB.out HB.out.size (below_alloc (Below.refl _ wr) (.cells #[.string ⟨#[67, 111, 100, 101, 84, 101, 120, 116]⟩, .string ⟨#[]⟩, .bool true, .int .i64 0, .int .i64 0, .int .i64 0] 56)))
          have H1c := Lib.hid (show ∀ u ∈ [Value.string ⟨#[67, 111, 100, 101, 84, 101, 120, 116]⟩, .string ⟨#[]⟩, .bool true, .int .i64 0, .int .i64 0, .int .i64 0], u.oneCell' = true by simp [Value.oneCell'])
          obtain rfl : j = 3 := by omega
          go_wp2_with (at_builtin; go_loud (refine wpList_append_own_at _ rfl _ _ 28 rfl W.heap.size 56 i0 _ 6 64 Tryz.underlying28 Hi.out Hz0.out Hz1.out Hz2.out rfl (by decide) _ k xs rfl HOA.out ⟨wr.heap.size, 0, none⟩ 1 1 [.string ⟨#[67, 111, 100, 101, 84, 101, 120, 116]⟩, .string ⟨#[]⟩, .bool true, .int .i64 0, .int .i64 0, .int .i64 0] rfl rfl HNew.out H1c.out H63.out HBy.out HB3.out.size ?_; intro v' w3 ho hg hnil hblk; have HP := Lib.hid ho; have HG := Lib.hid (HB3.out.grown hg HB3.out.size (own_base HOA.out)); clear ho hg hnil hblk))
          go_ret
          obtain ⟨A9, c9, rfl⟩ := own_slice HP.out
          exact ⟨A9, _, c9, rfl, HG.out⟩
end Go.Proofs.YtekpoglbpjodkaaGreatDoor
