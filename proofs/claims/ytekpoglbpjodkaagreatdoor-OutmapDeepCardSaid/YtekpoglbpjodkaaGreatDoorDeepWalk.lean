/- OutmapDeep tells true of every pair of numbers. -/
import Derived.Test.YtekpoglbpjodkaaGreatDoorDeep
import Derived.Deep.DeepCutAuto
namespace Go.Proofs.YtekpoglbpjodkaaGreatDoor
open Go.RowKit Go.Proofs.YtekpoglbpjodkaaGreatDoorW.PrintWords

set_option maxRecDepth 100000 in
set_option maxHeartbeats 4000000 in
theorem deep_out (q l : Int) (h : q < 0 ∨ 40 < q ∨ l < 0 ∨ 12 < l) (W : World) : Calls Tryz.prog 4 #[.int .i64 q, .int .i64 l] W fun e w' => e = .returned (.bool true) ∧ Below W.heap.size W w' := by
  have HK := Lib.hid (known_true W)
  have h' : decide (q < 0) = true ∨ decide (q < 0) = false ∧ (decide (40 < q) = true ∨ decide (40 < q) = false ∧ (decide (l < 0) = true ∨ decide (l < 0) = false ∧ decide (12 < l) = true)) := by
    by_cases a : q < 0
    · exact Or.inl (decide_eq_true a)
    · refine Or.inr ⟨decide_eq_false a, ?_⟩
      by_cases b : 40 < q
      · exact Or.inl (decide_eq_true b)
      · refine Or.inr ⟨decide_eq_false b, ?_⟩
        by_cases c : l < 0
        · exact Or.inl (decide_eq_true c)
        · exact Or.inr ⟨decide_eq_false c, decide_eq_true (by omega)⟩
  clear h
  rcases h' with a | ⟨a, b | ⟨b, c | ⟨c, d⟩⟩⟩
  all_goals
    go_enter Tryz.func4, Tryz.ntmps4
    go_wp2_with (go_at_call 10; refine HK.out.mono ?_; rintro e w1 ⟨rfl, hb1⟩)
    go_ret
    exact ⟨rfl, hb1⟩
set_option maxRecDepth 100000 in
set_option maxHeartbeats 8000000 in
theorem deep_in (q l : Int) (qn ln : Nat) (hqn : q = qn) (hln : l = ln) (hq0 : 0 ≤ q) (hq : q ≤ 40) (hl0 : 0 ≤ l) (hl : l ≤ 12) (W : World) : Calls Tryz.prog 4 #[.int .i64 q, .int .i64 l] W fun e w' => e = .returned (.bool true) ∧ Below W.heap.size W w' := by
  have HQn := Lib.hid hqn; have HLn := Lib.hid hln; clear hqn hln
  have HStart : Hid (NodeIs W W.heap.size (chL 0) (W.alloc (.cells (nodeCells ruleLay none 0 0) 24))) := ⟨ruleLay, [], none, 0, 0, rfl, below_alloc (Below.refl _ W) _, heap_alloc_new W _, rfl⟩
  unfold nodeCells ruleLay at HStart
  go_enter Tryz.func4, Tryz.ntmps4
  go_wp2_with fail
  go_loopw [6] (fun i wr => ∃ j : Nat, (j : Int) ≤ l ∧ i = .int .i64 j ∧ NodeIs W W.heap.size (chL j) wr) (fun i _ => (l - intOf i).toNat)
  case atStart => exact ⟨0, hl0, rfl, HStart.out⟩
  case round =>
    obtain ⟨j, hj, rfl, hN⟩ := hrel
    clear HStart
    by_cases hlt : (j : Int) < l
    · obtain ⟨x, r, A, m, c', hch, hb, hn, hr⟩ := hN
      have hlB := blk_lt hn
      obtain ⟨c0, c1, c2, c3, c4, c5, c6, c7⟩ := cells_of_block hn
      have HW := Lib.hid (NodeIs.wrap2 (y := itemLay) (z := listLay) (Nat.le_refl _) hb hn hr)
      have HCh := Lib.hid hch
      unfold set8 nodeCells itemLay listLay at HW
      obtain ⟨f0, f1, f2, f3, f4, f5, f6, f7⟩ := frozen8 hn
      clear hb hn hr hch
      go_wp2_with fail
      clear f0 f1 f2 f3 f4 f5 f6 f7 c0 c1 c2 c3 c4 c5 c6 c7
      go_roundw
      case rel => exact ⟨j + 1, by omega, by go_num, by rw [chL, HCh.out]; exact HW.out⟩
      case measure => simp [intOf]; omega
    · obtain rfl : j = ln := by have := HLn.out; omega
      have HN := Lib.hid hN; clear hN hj
      obtain ⟨w0, rfl⟩ : ∃ w0 : World, w0 = wr := ⟨_, rfl⟩
      go_wp2_with fail
      go_loopw [7] (fun i wr => ∃ k : Nat, (k : Int) ≤ q ∧ i = .int .i64 k ∧ NodeIs W W.heap.size (chQ j k) wr) (fun i _ => (q - intOf i).toNat)
      case atStart => exact ⟨0, hq0, rfl, HN.out⟩
      case round =>
        obtain ⟨k, hk, rfl, hN⟩ := hrel
        clear HN
        by_cases hlt : (k : Int) < q
        · obtain ⟨x, r, A, m, c', hch, hb, hn, hr⟩ := hN
          have hlB := blk_lt hn
          obtain ⟨c0, c1, c2, c3, c4, c5, c6, c7⟩ := cells_of_block hn
          have HW := Lib.hid (NodeIs.wrap (y := quoteLay) (Nat.le_refl _) hb hn hr)
          have HCh := Lib.hid hch
          unfold set8 nodeCells quoteLay at HW
          obtain ⟨f0, f1, f2, f3, f4, f5, f6, f7⟩ := frozen8 hn
          clear hb hn hr hch
          go_wp2_with fail
          clear f0 f1 f2 f3 f4 f5 f6 f7 c0 c1 c2 c3 c4 c5 c6 c7
          go_roundw
          case rel => exact ⟨k + 1, by omega, by go_num, by rw [chQ, HCh.out]; exact HW.out⟩
          case measure => simp [intOf]; omega
        · obtain rfl : k = qn := by have := HQn.out; omega
          have hj12 : j ≤ 12 := by have := HLn.out; omega
          have hk40 : k ≤ 40 := by have := HQn.out; omega
          have HDoc := Lib.hid (deep_doc j k hj12 hk40)
          obtain ⟨x, r, A, m, c', hch, hb, hn, hr⟩ := hN
          obtain ⟨c0, c1, c2, c3, c4, c5, c6, c7⟩ := cells_of_block hn
          have ha := below_alloc (Below.refl _ wr) (.cells (nodeCells x A m c') 24)
          have hkids : KidsAt (wr.alloc (.cells (nodeCells x A m c') 24)) [chQ j k] (some ⟨wr.heap.size, 0, none⟩) 1 := by
            refine ⟨rfl, fun _ => ⟨_, rfl, fun i hi => ?_⟩⟩
            have h00 : i = 0 := by simp at hi; omega
            subst h00
            exact ⟨x, r, A, m, c', by simpa using hch, cells8_of (heap_alloc_new wr _), (hr.of (P1 := fun _ => True) fun q hq _ => ⟨trivial, ha.block q hq⟩).rest⟩
          have HKd := Lib.hid hkids; have HBl := Lib.hid (below_then hb hb.size ha)
          have HKn := Lib.hid known_true
          clear hb hn hr hch ha hkids hj12 hk40
          by_cases hd : 32 < k + j ∨ 9 < j
          · have HM := Lib.hid (map_deep [chQ j k] HDoc.out (by simpa [most, chQ_all, chQ_lists] using hd) (some ⟨wr.heap.size, 0, none⟩) 1 1 _ HKd.out)
            unfold nodeCells at HM HBl
            have hbad : decide (32 < q + l) = true ∨ decide (32 < q + l) = false ∧ decide (9 < l) = true := by
              have h1 := HQn.out; have h2 := HLn.out
              by_cases h3 : 32 < q + l
              · exact Or.inl (decide_eq_true h3)
              · exact Or.inr ⟨decide_eq_false h3, decide_eq_true (by omega)⟩
            clear hd HDoc HKd
            rcases hbad with h1 | ⟨h1, h2⟩
            all_goals
              go_wp2_with fail
              refine HM.out.mono ?_
              rintro e w1 ⟨rfl, hb1⟩
              have HB1 := Lib.hid (below_then (bb HBl.out hb1) (bb HBl.out hb1).size (below_alloc (Below.refl _ w1) (.cells #[.slice none 0 0, .slice none 0 0, .slice none 0 0] 30)))
              clear hb1
              go_wp2_with fail
              refine (HKn.out _).mono ?_
              rintro e w2 ⟨rfl, hb2⟩
              go_wp2_with fail
              go_ret
              exact ⟨rfl, bb HB1.out hb2⟩
          · have HM := Lib.hid (map_ok [chQ j k] HDoc.out (by simp [most, chQ_all]; omega) (by simp [most, chQ_lists]; omega) (by simp [listsAll, chQ_of]; omega) (by intro ch hch; rw [List.mem_singleton.1 hch, chQ_of]; omega) (some ⟨wr.heap.size, 0, none⟩) 1 1 _ HKd.out)
            unfold nodeCells at HM HBl
            have h1 : decide (32 < q + l) = false := by have h1 := HQn.out; have h2 := HLn.out; exact decide_eq_false (by omega)
            have h2 : decide (9 < l) = false := by have h1 := HQn.out; have h2 := HLn.out; exact decide_eq_false (by omega)
            clear hd HDoc HKd
            go_wp2_with fail
            refine HM.out.mono ?_
            rintro e w1 ⟨Ab, cb, An, cn, As, ns, cst, rfl, _, _, hb1⟩
            have HB1 := Lib.hid (below_then (bb HBl.out hb1) (bb HBl.out hb1).size (below_alloc (Below.refl _ w1) (.cells #[.slice Ab ([chQ j k] : List Chain).length cb, .slice An (listsAll [chQ j k]) cn, .slice As ns cst] 30)))
            clear hb1
            go_wp2_with fail
            refine (HKn.out _).mono ?_
            rintro e w2 ⟨rfl, hb2⟩
            go_wp2_with fail
            go_ret
            exact ⟨rfl, bb HB1.out hb2⟩
theorem deep_walk (q l : Int) (W : World) : Calls Tryz.prog 4 #[.int .i64 q, .int .i64 l] W fun e w' => e = .returned (.bool true) ∧ Below W.heap.size W w' := by
  by_cases h : q < 0 ∨ 40 < q ∨ l < 0 ∨ 12 < l
  · exact deep_out q l h W
  · exact deep_in q l q.toNat l.toNat (by omega) (by omega) (by omega) (by omega) (by omega) (by omega) W
end Go.Proofs.YtekpoglbpjodkaaGreatDoor
