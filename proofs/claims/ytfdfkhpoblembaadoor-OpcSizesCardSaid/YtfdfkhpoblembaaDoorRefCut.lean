/- The reference of chapter 12: small letters, and what stands between strokes. -/
import Derived.Test.YtfdfkhpoblembaaDoorRefMay
import Derived.Test.YtfdfkhpoblembaaDoorEmpty
namespace Go.Proofs.YtfdfkhpoblembaaDoor
open Go.RowKit Go.Proofs.YtfdfkhpoblembaaDoorW.PrintWords

set_option maxHeartbeats 400000 in
theorem refLower_any (s : ByteArray) (w : World) (hs : s.size ≤ 140737488351232) :
    Calls Tryd.prog 9 #[.string s] w fun e w' => e = .returned (.string (lowS s)) ∧ Below w.heap.size w w' := by
  have kb := fun W => print_bytes (P := Tryd.prog) 9 22 5 Tryd.underlying9 Tryd.underlying22 Tryd.underlying5 s W
  go_enter Tryd.func9, Tryd.ntmps9
  go_wp2
  clear kb
  have hC0 := ConvRow.new w 5 s
  have hB0 := bytes_below (Below.refl w.heap.size w) (Nat.le_refl _) 5 s
  generalize grownCap w s.size 0 5 = cap
  generalize Lib.bytesWorld w 5 s = W0 at hC0 hB0 ⊢
  have hL : (bytesOf s).length = s.size := bytesOf_length s
  go_loopw [4] (fun i wr => ∃ k : Nat, k ≤ s.size ∧ i = .int .i64 k ∧ ConvRow wr w.heap.size 5 (lowTo (bytesOf s) k) ∧ Below w.heap.size w wr) (fun i _ => s.size - (intOf i).toNat)
  case atStart => exact ⟨0, Nat.zero_le _, rfl, by rw [lowTo_zero]; exact hC0, hB0⟩
  case round =>
    obtain ⟨k, hk, rfl, hC, hB⟩ := hrel
    clear hC0 hB0
    by_cases hlt : k < s.size
    · have hcell := hC.cell k (by rw [lowTo_length, hL]; exact hlt)
      have hfree := hC.free k (by rw [lowTo_length, hL]; exact hlt)
      rw [lowTo_at _ _ (by rw [hL]; exact hlt)] at hcell
      have hst := lowTo_step (bytesOf s) k (by rw [hL]; exact hlt)
      have hsm := lowTo_same (bytesOf s) k (by rw [hL]; exact hlt)
      obtain ⟨hr0, hr1⟩ := bytesOf_range s k
      generalize (bytesOf s).getD k 0 = c at hcell hst hsm hr0 hr1
      have Hst := Lib.hid hst; clear hst
      have Hsm := Lib.hid hsm; clear hsm
      have HL := Lib.hid hL; clear hL
      have HC := Lib.hid hC; clear hC
      by_cases h1 : 65 ≤ c
      · by_cases h2 : c ≤ 90
        · have e1 : c + 32 = lowI c := by unfold lowI; rw [if_pos ⟨h1, h2⟩]
          have E1 := Lib.hid e1; clear e1
          go_wp2
          go_roundw
          case rel => exact ⟨k + 1, by omega, by go_num, by rw [← Hst.out, ← E1.out]; exact HC.out.set _ _, hB.setCell (Nat.le_refl _) _⟩
          case measure => simp [intOf]; omega
        · have e1 : lowI c = c := by unfold lowI; rw [if_neg (by omega)]
          have E1 := Lib.hid e1; clear e1
          go_wp2
          go_roundw
          case rel => exact ⟨k + 1, by omega, by go_num, by rw [Hsm.out E1.out]; exact HC.out, hB⟩
          case measure => simp [intOf]; omega
      · have e1 : lowI c = c := by unfold lowI; rw [if_neg (by omega)]
        have E1 := Lib.hid e1; clear e1
        go_wp2
        go_roundw
        case rel => exact ⟨k + 1, by omega, by go_num, by rw [Hsm.out E1.out]; exact HC.out, hB⟩
        case measure => simp [intOf]; omega
    · obtain rfl : k = s.size := by omega
      have hA : lowTo (bytesOf s) s.size = (bytesOf s).map lowI := by rw [← hL]; exact lowTo_all _
      rw [hA] at hC
      have hn : ((bytesOf s).map lowI).length = s.size := by simpa using hL
      have hR := hC.reads (by rw [hn]; omega)
      rw [hn] at hR
      have hcv := fun (c : Nat) => string_of_reads (P := Tryd.prog) (c := c) Tryd.underlying22 Tryd.underlying5 Tryd.underlying9 hR
      clear hR hC hA hL hn
      go_wp2
      go_ret
      exact ⟨rfl, hB⟩

theorem info_string : (Tryd.prog.info? 9).map (fun i => (i.zero, i.size, i.bytes)) = some (some (.string ⟨#[]⟩), 1, 16) := by kernel_rfl
theorem doneTo_len (s : ByteArray) : ∀ k, (doneTo s k).1.length ≤ k
  | 0 => Nat.le_refl _
  | k + 1 => by
    have := doneTo_len s k
    unfold doneTo
    split
    · simp; omega
    · omega
theorem bt_append (s r : ByteArray) (k : Nat) (h : k < s.size) : bt (s ++ r) k = bt s k := by
  rw [bt_nat _ k (by rw [ByteArray.size_append]; omega), bt_nat s k h]
  simp only [ByteArray.data_append, Array.toList_append]
  rw [List.getElem_append_left (by rw [data_length]; exact h)]
theorem extract_append (s r : ByteArray) (a b : Nat) (h : b ≤ s.size) : (s ++ r).extract a b = s.extract a b := data_eq (by
  rw [Lib.extract_data, Lib.extract_data, ByteArray.data_append, Array.toList_append]
  rw [List.drop_append]
  by_cases hab : a ≤ b
  · rw [List.take_append_of_le_length (by rw [List.length_drop, data_length]; omega)]
  · rw [show b - a = 0 by omega, List.take_zero, List.take_zero])
theorem doneTo_append (s r : ByteArray) : ∀ k, k ≤ s.size → doneTo (s ++ r) k = doneTo s k
  | 0, _ => rfl
  | k + 1, h => by
    rw [doneTo, doneTo, doneTo_append s r k (by omega), bt_append s r k (by omega), extract_append s r _ k (by omega)]
theorem doneTo_stroke (s : ByteArray) : (doneTo (s ++ ⟨#[47]⟩) (s.size + 1)).1 = cutB s := by
  have h : bt (s ++ ⟨#[47]⟩) s.size = 47 := by
    rw [bt_nat _ _ (by rw [ByteArray.size_append]; exact Nat.lt_succ_self _)]
    simp only [ByteArray.data_append, Array.toList_append]
    rw [List.getElem_append_right (by rw [data_length]; exact Nat.le_refl _)]
    simp
  rw [doneTo, if_pos h, doneTo_append s _ _ (Nat.le_refl _), extract_append _ _ _ _ (Nat.le_refl _), cutB_done]
set_option maxRecDepth 100000 in
set_option maxHeartbeats 2000000 in
theorem refCut_any (s : ByteArray) (w : World) (hs : s.size ≤ 4000000000) :
    Calls Tryd.prog 21 #[.string s] w fun e w' => ∃ v, e = .returned v ∧ w'.ownsRow w.heap.size 9 1 v (cutB s).length ((cutB s).map Value.string) ∧ Below w.heap.size w w' := by
  have hsz : (s ++ ⟨#[47]⟩ : ByteArray).size = s.size + 1 := ByteArray.size_append
  have hfin := doneTo_stroke s
  rw [← hsz] at hfin
  obtain ⟨i0, hi, hzz⟩ := Option.map_eq_some_iff.1 info_string
  simp only [Prod.mk.injEq] at hzz
  obtain ⟨hz0, hz1, hz2⟩ := hzz
  have Hz0 := Lib.hid hz0; have Hz1 := Lib.hid hz1; have Hz2 := Lib.hid hz2; have Hi := Lib.hid hi; have Hfin := Lib.hid hfin; clear hz0 hz1 hz2 hi hfin
  have Hsz := Lib.hid hsz; clear hsz
  go_enter Tryd.func21, Tryd.ntmps21
  go_wp2
  generalize (s ++ ⟨#[47]⟩ : ByteArray) = S at Hfin Hsz ⊢
  have hN : S.size ≤ 4000000001 := by rw [Hsz.out]; omega
  clear Hsz
  go_loopw [3, 4, 5] (fun l fr i wr => ∃ (k : Nat), k ≤ S.size ∧ i = .int .i64 k ∧ fr = .int .i64 (doneTo S k).2 ∧ wr.ownsRow w.heap.size 9 1 l (doneTo S k).1.length ((doneTo S k).1.map Value.string) ∧ Below w.heap.size w wr) (fun _ _ i _ => S.size - (intOf i).toNat)
  case atStart => exact ⟨0, Nat.zero_le _, rfl, rfl, own_nil _ _ _ _, Below.refl _ _⟩
  case round =>
    obtain ⟨k, hk, rfl, rfl, hO, hB⟩ := hrel
    have HO := Lib.hid hO; have HB := Lib.hid hB; clear hO hB
    by_cases hlt : k < S.size
    · have hx : ∀ h : k < S.size, ((S[k]'h).toNat : Int) = bt S k := bt_at S k
      have hst : doneTo S (k + 1) = if bt S k = 47 then ((doneTo S k).1 ++ [S.extract (doneTo S k).2 k], k + 1) else doneTo S k := rfl
      have hle := doneTo_le S k
      have hln := doneTo_len S k
      have Hst := Lib.hid hst; clear hst
      generalize bt S k = c at hx Hst
      generalize hf : (doneTo S k).2 = f at hle Hst ⊢
      have HF := Lib.hid hf; clear hf
      by_cases hc : c = 47
      · have hcb : (c == 47) = true := by rw [hc]; rfl
        have Hst2 := Lib.hid (Hst.out.trans (if_pos hc)); clear Hst
        clear hc
        have hlen : ((doneTo S k).1.map Value.string).length = (doneTo S k).1.length := List.length_map _
        generalize (doneTo S k).1 = D at hlen hln HO Hst2
        have Hnew := Lib.hid (cell_one_new wr (.string (S.extract f k)) 9)
        clear hlen
        have hw1 : w.heap.size ≤ (wr.alloc (.cells #[.string (S.extract f k)] 9)).heap.size := by have := HB.out.size; rw [World.size_alloc]; omega
        have h63 : D.length + 1 ≤ maxLen := by have e : maxLen = 9223372036854775807 := by decide
                                               omega
        have hby : (D.length + 1) * 16 ≤ 140737488355328 := by omega
        have hoc : ∀ u ∈ [Value.string (S.extract f k)], u.oneCell' = true := by simp [Value.oneCell']
        have HW1 := Lib.hid hw1; have H63 := Lib.hid h63; have HBy := Lib.hid hby; have HOC := Lib.hid hoc; clear hw1 h63 hby hoc
        have HOA := Lib.hid (own_alloc HO.out (.cells #[.string (S.extract f k)] 9))
        go_wp2_with (at_builtin; go_loud (refine wpList_append_own_at _ rfl _ _ 52 rfl w.heap.size 9 i0 _ 1 16 Tryd.underlying52 Hi.out Hz0.out Hz1.out Hz2.out rfl (by decide) _ D.length (D.map Value.string) rfl HOA.out ⟨wr.heap.size, 0, none⟩ 1 1 [.string (S.extract f k)] rfl rfl Hnew.out HOC.out H63.out HBy.out HW1.out ?_; intro v' w3 ho hg hnil hblk; have HB3 := Lib.hid (show Below w.heap.size w w3 from (below_then HB.out HB.out.size (below_alloc (Below.refl _ wr) _)).grown hg HW1.out (own_base HOA.out)); have HO3 := Lib.hid ho; clear ho hg hnil hblk))
        go_roundw
        case rel => exact ⟨k + 1, by omega, by go_num, by rw [Hst2.out]; go_num, by rw [Hst2.out]; simpa using HO3.out, HB3.out⟩
        case measure => simp [intOf]; omega
      · have hcb : (c == 47) = false := beq_eq_false_iff_ne.2 hc
        have Hst2 := Lib.hid (Hst.out.trans (if_neg hc)); clear Hst
        clear hc
        go_wp2
        go_roundw
        case rel => exact ⟨k + 1, by omega, by go_num, by rw [Hst2.out, HF.out], by rw [Hst2.out]; exact HO.out, HB.out⟩
        case measure => simp [intOf]; omega
    · obtain rfl : k = S.size := by omega
      have hfin2 := Hfin.out
      rw [hfin2] at HO
      clear hfin2
      go_wp2
      go_ret
      exact ⟨_, rfl, HO.out, HB.out⟩
end Go.Proofs.YtfdfkhpoblembaaDoor
