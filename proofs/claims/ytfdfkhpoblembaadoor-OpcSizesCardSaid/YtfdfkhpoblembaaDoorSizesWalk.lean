/- OpcSizes's walk: whatever name and bytes, it returns true, and makes memory alone. -/
import Derived.Test.YtfdfkhpoblembaaDoorSame
import Derived.Test.YtfdfkhpoblembaaDoorRefName
import Derived.Test.YtfdfkhpoblembaaDoorUp
import Derived.Test.YtfdfkhpoblembaaDoorKnown
namespace Go.Proofs.YtfdfkhpoblembaaDoor
open Go.RowKit Go.Proofs.YtfdfkhpoblembaaDoorW.PrintWords

def abS : ByteArray := ⟨#[97, 47, 98]⟩
def cdS : ByteArray := ⟨#[99, 47, 100]⟩
theorem conv_up {W : World} {g : Nat} {s : ByteArray} (h : ReadsInt W .u8 (some ⟨g, 0, none⟩) s.size ((bytesOf s).map upI)) (c : Nat) :
    (convert 22 9 (.slice (some ⟨g, 0, none⟩) s.size c)).run Tryd.prog W = .ok (.string (upS s)) W :=
  string_of_reads (P := Tryd.prog) (c := c) Tryd.underlying22 Tryd.underlying5 Tryd.underlying9 h
theorem upS_size (s : ByteArray) : (upS s).size = s.size := mapS_size _ _

set_option maxRecDepth 100000 in
set_option maxHeartbeats 4000000 in
theorem sizes_main (s : ByteArray) (A : Option Addr) (n c : Nat) (xs : List Int) (w : World) (hs : s.size ≤ 300) (hn : n ≤ 1000) (hd : ReadsInt w .u8 A n xs) (hN : isNameB s = true) (hm : MaxLenAt w) :
    Calls Tryd.prog 3 #[.string s, .slice A n c] w fun e w' => e = .returned (.bool true) ∧ Below w.heap.size w w' := by
  have kb := fun W => print_bytes (P := Tryd.prog) 9 22 5 Tryd.underlying9 Tryd.underlying22 Tryd.underlying5 s W
  have Hd := Lib.hid hd; have HN := Lib.hid hN; have Hm := Lib.hid hm; clear hd hN hm
  have Hs4 := Lib.hid (show s.size ≤ 140737488351232 by omega)
  go_enter Tryd.func3, Tryd.ntmps3
  go_wp2_with fail
  refine (refIsName_any s w Hs4.out).mono ?_
  rw [HN.out]
  rintro e w1 ⟨rfl, hb1⟩
  have HB1 := Lib.hid hb1; clear hb1
  go_wp2_with fail
  clear kb
  have hC0 := ConvRow.new w1 5 s
  have hB0 := bytes_below (Below.refl w1.heap.size w1) (Nat.le_refl _) 5 s
  generalize grownCap w1 s.size 0 5 = cap
  generalize Lib.bytesWorld w1 5 s = W0 at hC0 hB0 ⊢
  have hL : (bytesOf s).length = s.size := bytesOf_length s
  go_loopw [6] (fun i wr => ∃ k : Nat, k ≤ s.size ∧ i = .int .i64 k ∧ ConvRow wr w1.heap.size 5 (mapTo upI (bytesOf s) k) ∧ Below w1.heap.size w1 wr) (fun i _ => s.size - (intOf i).toNat)
  case atStart => exact ⟨0, Nat.zero_le _, rfl, by rw [mapTo_zero]; exact hC0, hB0⟩
  case round =>
    obtain ⟨k, hk, rfl, hC, hB⟩ := hrel
    clear hC0 hB0
    by_cases hlt : k < s.size
    · have hcell := hC.cell k (by rw [mapTo_length, hL]; exact hlt)
      have hfree := hC.free k (by rw [mapTo_length, hL]; exact hlt)
      rw [mapTo_at _ _ _ (by rw [hL]; exact hlt)] at hcell
      have hst := mapTo_step upI (bytesOf s) k (by rw [hL]; exact hlt)
      have hsm := mapTo_same upI (bytesOf s) k (by rw [hL]; exact hlt)
      obtain ⟨hr0, hr1⟩ := bytesOf_range s k
      generalize (bytesOf s).getD k 0 = c at hcell hst hsm hr0 hr1
      have Hst := Lib.hid hst; clear hst
      have Hsm := Lib.hid hsm; clear hsm
      have HL := Lib.hid hL; clear hL
      have HC := Lib.hid hC; clear hC
      have HB := Lib.hid hB; clear hB
      by_cases h1 : 97 ≤ c
      · by_cases h2 : c ≤ 122
        · have e1 : c - 32 = upI c := by unfold upI; rw [if_pos ⟨h1, h2⟩]
          have E1 := Lib.hid e1; clear e1
          go_wp2
          go_roundw
          case rel => exact ⟨k + 1, by omega, by go_num, by rw [← Hst.out, ← E1.out]; exact HC.out.set _ _, HB.out.setCell (Nat.le_refl _) _⟩
          case measure => simp [intOf]; omega
        · have e1 : upI c = c := by unfold upI; rw [if_neg (by omega)]
          have E1 := Lib.hid e1; clear e1
          go_wp2
          go_roundw
          case rel => exact ⟨k + 1, by omega, by go_num, by rw [Hsm.out E1.out]; exact HC.out, HB.out⟩
          case measure => simp [intOf]; omega
      · have e1 : upI c = c := by unfold upI; rw [if_neg (by omega)]
        have E1 := Lib.hid e1; clear e1
        go_wp2
        go_roundw
        case rel => exact ⟨k + 1, by omega, by go_num, by rw [Hsm.out E1.out]; exact HC.out, HB.out⟩
        case measure => simp [intOf]; omega
    · obtain rfl : k = s.size := by omega
      have hA : mapTo upI (bytesOf s) s.size = (bytesOf s).map upI := by rw [← hL]; exact mapTo_all _ _
      rw [hA] at hC
      have hn2 : ((bytesOf s).map upI).length = s.size := by simpa using hL
      have hR := hC.reads (by rw [hn2]; omega)
      rw [hn2] at hR
      have HR := Lib.hid hR
      have HBw := Lib.hid (bb HB1.out hB)
      have Hgw := Lib.hid (show w1.heap.size < wr.heap.size by obtain ⟨C, m, hb, _⟩ := hC.out; exact blk_lt hb)
      clear hR hC hA hn2 hL hB
      go_wp2_with fail
      refine (new_any wr).mono ?_
      rintro e w3 ⟨rfl, rfl⟩
      have hBa : Below wr.heap.size wr (wr.alloc (.cells #[.slice none 0 0, .slice none 0 0] 39)) := below_alloc (Below.refl _ wr) _
      have Hd3 := Lib.hid (Hd.out.below (bb HBw.out hBa))
      have Hm3 := Lib.hid (Hm.out.below (bb HBw.out hBa))
      have HBa := Lib.hid hBa; clear hBa
      have Hg3 := Lib.hid (heap_alloc_new wr (.cells #[.slice none 0 0, .slice none 0 0] 39))
      generalize hW3 : wr.alloc (.cells #[.slice none 0 0, .slice none 0 0] 39) = W3 at Hd3 Hm3 HBa Hg3 ⊢
      have hsz3 : W3.heap.size = wr.heap.size + 1 := by rw [← hW3, World.size_alloc]
      have Hsz3 := Lib.hid hsz3; clear hsz3 hW3
      go_wp2_with fail
      refine (add_any wr.heap.size (.slice none 0 0) s abS A n c xs W3 Hg3.out (by omega) Hd3.out (by omega) (by decide) HN.out (by decide +kernel) Hm3.out).mono ?_
      rintro e w4 ⟨rfl, v, d, h1, h2, h3, h4⟩
      obtain ⟨gv, cap2, rfl, hgv, hgl⟩ := h2.form (by decide)
      obtain ⟨A2, c2, rfl⟩ := own_slice h3
      have hB4 : Below wr.heap.size wr w4 := HBa.out.grown h4 (by rw [Hsz3.out]; omega) (fun k hk => by cases hk; exact Nat.le_refl _)
      have hp0 := h2.cells (g := gv) rfl 0 _ rfl
      have hp1 := h2.cells (g := gv) rfl 1 _ rfl
      have hp2 := h2.cells (g := gv) rfl 2 _ rfl
      rw [add_plain] at hp0 hp1 hp2
      have G4 := Lib.hid (show w4.cell? ⟨wr.heap.size, 0, none⟩ = some (.slice (some ⟨gv, 0, none⟩) 1 cap2) by rw [blk_cell h1]; rfl)
      have P0 := Lib.hid hp0; have P1 := Lib.hid hp1; have P2 := Lib.hid hp2
      have D4 := Lib.hid (own_reads' h3)
      have R4 := Lib.hid (HR.out.below hB4)
      have B4 := Lib.hid (bb HBw.out hB4)
      have M4 := Lib.hid (Hm.out.below B4.out)
      have hlp := Lib.hid (World.block_lt_of_cell? w4 _ hp0)
      have hlg := Lib.hid (blk_lt h1)
      generalize wr.heap.size = gp at G4 hlg
      clear h1 h2 h3 h4 hgv hgl hB4 hp0 hp1 hp2 Hd3 Hm3 HBa Hg3 Hsz3 HR
      have hcv4 := fun c => conv_up R4.out c
      go_wp2_with fail
      refine (add_has gp gv cap2 (upS s) s cdS _ w4 G4.out P0.out (by rw [upS_size]; omega) Hs4.out (by decide) (isName_up s HN.out) (by decide +kernel) (lowS_upS s).symm M4.out).mono ?_
      rintro e w5 ⟨rfl, hb5⟩
      clear hcv4
      have G5 := Lib.hid ((hb5.cell (p := ⟨gp, 0, none⟩) hlg.out).trans G4.out)
      have P05 := Lib.hid ((hb5.cell (p := ⟨gv, 0, none⟩) hlp.out).trans P0.out)
      have P15 := Lib.hid ((hb5.cell (p := ⟨gv, 1, none⟩) hlp.out).trans P1.out)
      have P25 := Lib.hid ((hb5.cell (p := ⟨gv, 2, none⟩) hlp.out).trans P2.out)
      have D5 := Lib.hid (D4.out.below hb5)
      have R5 := Lib.hid (R4.out.below hb5)
      have B5 := Lib.hid (bb B4.out hb5)
      clear hb5 G4 P0 P1 P2 D4 R4 M4
      have hcv5 := fun c => conv_up R5.out c
      go_wp2_with fail
      refine (get_hit gp gv cap2 s (upS s) abS A2 n c2 xs w5 G5.out P05.out P15.out P25.out (by omega) D5.out Hs4.out (by rw [upS_size]; exact Hs4.out) (lowS_upS s).symm).mono ?_
      rintro e w6 ⟨v6, rfl, hv6, hb6⟩
      clear hcv5
      obtain ⟨A6, c6, rfl⟩ := own_slice hv6
      have D6 := Lib.hid (own_reads' hv6)
      have B6 := Lib.hid (bb B5.out hb6)
      have R6 := Lib.hid (R5.out.below hb6)
      have E6 := Lib.hid (Hd.out.below B6.out)
      clear hv6 hb6 G5 P05 P15 P25 D5 R5
      have hab : (abS.toList == [97, 47, 98]) = true := by rw [ByteArray.toList_eq]; decide
      generalize abS = kk at hab ⊢
      go_wp2_with fail
      refine (same_true A6 A n c6 c xs w6 D6.out E6.out).mono ?_
      rintro e w7 ⟨rfl, hb7⟩
      have B7 := Lib.hid (bb B6.out hb7)
      have R7 := Lib.hid (R6.out.below hb7)
      clear hb7 D6 E6 R6
      have hcv7 := fun c => conv_up R7.out c
      go_wp2_with fail
      refine (refLower_any (upS s) w7 (by rw [upS_size]; exact Hs4.out)).mono ?_
      rw [lowS_upS]
      rintro e w8 ⟨rfl, hb8⟩
      have B8 := Lib.hid (bb B7.out hb8)
      clear hb8 hcv7 R7
      go_wp2_with fail
      refine (refLower_any s w8 Hs4.out).mono ?_
      rintro e w9 ⟨rfl, hb9⟩
      have B9 := Lib.hid (bb B8.out hb9)
      have M9 := Lib.hid (Hm.out.below B9.out)
      clear hb9
      have hq : ((lowS s).toList == (lowS s).toList) = true := beq_self_eq_true _
      generalize lowS s = ls at hq ⊢
      go_wp2_with fail
      refine (known_true w9 M9.out).mono ?_
      rintro e w10 ⟨rfl, hb10⟩
      have B10 := Lib.hid (bb B9.out hb10)
      clear hb10
      go_wp2
      go_ret
      exact ⟨rfl, B10.out⟩
end Go.Proofs.YtfdfkhpoblembaaDoor
