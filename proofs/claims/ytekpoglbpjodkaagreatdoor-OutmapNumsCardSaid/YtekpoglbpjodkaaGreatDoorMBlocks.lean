/- mapper.blocks of a row of chains: its blocks, their numbers. -/
import Derived.Test.YtekpoglbpjodkaaGreatDoorMapper
namespace Go.Proofs.YtekpoglbpjodkaaGreatDoor
open Go.RowKit Go.Proofs.YtekpoglbpjodkaaGreatDoorW.PrintWords

set_option maxRecDepth 100000 in
set_option maxHeartbeats 4000000 in
theorem mblocks_row (cs : List Chain) (hih : ∀ ch ∈ cs, MBlockOk ch) (hl : cs.length ≤ 100) : MBlocksOk cs := by
  intro W base gm nv grp k ns A m c lv hk hm hg hk5 hlv
  have HK5 := Lib.hid hk5; have HLV := Lib.hid hlv; clear hk5 hlv
  obtain ⟨i0, hi, hzz⟩ := Option.map_eq_some_iff.1 info_block
  simp only [Prod.mk.injEq] at hzz
  obtain ⟨hz0, hz1, hz2⟩ := hzz
  have Hz0 := Lib.hid hz0; have Hz1 := Lib.hid hz1; have Hz2 := Lib.hid hz2; have Hi := Lib.hid hi; clear hz0 hz1 hz2 hi
  have HK := Lib.hid hk; have HM := Lib.hid hm; have HI := Lib.hid hih; have HG := Lib.hid hg
  have hm100 : m ≤ 100 := by rw [hk.1]; exact hl
  clear hk hm hih hl hg
  go_enter Tryz.func14, Tryz.ntmps14
  go_wp2
  go_loopw [7, 12] (fun o i wr => ∃ (j : Nat) (bs : List Value) (nv' : Value), j ≤ m ∧ i = .int .i64 j ∧ Fr (Apart gm nv) W wr ∧ wr.ownsRow W.heap.size 60 6 o j bs ∧ BlksOf (cs.take j) bs ∧ MapAt wr base gm nv' grp (k + listsAll (cs.take j)) (ns ++ numsAll (cs.take j) k lv) ∧ ∀ b, nv'.ownBlock = some b → nv.ownBlock = some b ∨ W.heap.size ≤ b) (fun _ i _ => m - (intOf i).toNat)
  case atStart => exact ⟨0, [], nv, Nat.zero_le _, rfl, Fr.refl _ _, own_nil _ _ _ _, rfl, by simpa [listsAll, numsAll] using HM.out, fun b h => Or.inl h⟩
  case round =>
    obtain ⟨j, bs, nv', hj, rfl, hF, hO, hBs, hMp, hnb⟩ := hrel
    obtain ⟨Ao, co, rfl⟩ := own_slice hO
    by_cases hlt : j < m
    · obtain ⟨g, rfl, hgb, hel⟩ := HK.out.2 (by omega)
      have hkl : j < cs.length := by rw [← HK.out.1]; exact hlt
      obtain ⟨y, r, A1, m1, c1, e1, e2, e3⟩ := hel j hkl
      obtain ⟨q0, q1, q2, q3, q4, q5, q6, q7⟩ := e2.of (hF.block g e2.lt ⟨by have := HG.out; omega, fun e => by have := own_base HM.out.own _ e.symm; omega⟩)
      have HF := Lib.hid hF; have HO := Lib.hid hO; have HBs := Lib.hid hBs; have HMp := Lib.hid hMp; have HNb := Lib.hid hnb; have E1 := Lib.hid e1; have E3 := Lib.hid e3
      clear hF hO hBs hMp hnb e1 e2 e3 hel
      go_wp2_with fail
      have hmem : cs[j] ∈ cs := List.getElem_mem hkl
      have htk := listsAll_take cs j hkl
      have hle := listsAll_le cs (j + 1)
      have hk5 := HK5.out
      have hbw := below_alloc (Below.refl _ wr) (.cells (nodeCells y A1 m1 c1) 24)
      have hr : RestIn (wr.alloc (.cells (nodeCells y A1 m1 c1) 24)) (fun b => b < base) r A1 m1 := (RestIn.fr HM.out HG.out HF.out E3.out).of fun q hq hp => ⟨hp, hbw.block q hq⟩
      refine (HI.out cs[j] hmem _ base gm nv' grp (k + listsAll (cs.take j)) (ns ++ numsAll (cs.take j) k lv) y r A1 m1 c1 lv E1.out hr (HMp.out.below hbw) HG.out (by omega) (HLV.out _ hmem)).mono ?_
      rintro e w2 ⟨cells, nv2, rfl, hbk, hmp2, hf2, hnb2⟩
      have HBk := Lib.hid hbk
      obtain ⟨tag, st, num, l2, A9, n9, c9, rfl, _⟩ := hbk
      have hdis : ∀ b, (Value.slice Ao j co).ownBlock = some b → Apart gm nv' b := fun b hb => ⟨fun e => by
          have h1 := own_base HO.out b hb
          have h2 := HM.out.lt
          omega, fun e => by
          rcases own_type_ne HO.out HMp.out.own (by decide) with h | h
          · rw [h] at hb; cases hb
          · exact h (hb.trans e)⟩
      have hown : w2.ownsRow W.heap.size 60 6 (.slice Ao j co) j bs := own_move (own_alloc HO.out (.cells (nodeCells y A1 m1 c1) 24)) fun b hb => hf2.block b (Nat.lt_of_lt_of_le (own_lt HO.out b hb) (by rw [World.size_alloc]; omega)) (hdis b hb)
      have HOA := Lib.hid (own_alloc hown (.cells (blockCells tag st num l2 A9 n9 c9) 60))
      have HNew := Lib.hid (fresh_cells w2 (blockCells tag st num l2 A9 n9 c9).toList 60 w2.heap.size rfl)
      have H63 := Lib.hid (le_maxLen (show j + 1 ≤ 1000 by omega))
      have HBy := Lib.hid (show (j + 1) * 96 ≤ 140737488355328 by omega)
      have H1c := Lib.hid (show ∀ u ∈ (blockCells tag st num l2 A9 n9 c9).toList, u.oneCell' = true by simp [Value.oneCell'])
      have HSz := Lib.hid (show W.heap.size ≤ (w2.alloc (.cells (blockCells tag st num l2 A9 n9 c9) 60)).heap.size by have := HF.out.size; have := hf2.size; have := hbw.size; rw [World.size_alloc]; omega)
      have HDis := Lib.hid hdis; clear hdis
      have Hmp2 := Lib.hid hmp2; have Hf2 := Lib.hid hf2; have Hnb2 := Lib.hid hnb2; have Hbw := Lib.hid hbw
      clear hmp2 hf2 hnb2 hbw hown hr htk hle hk5 hmem q0 q1 q2 q3 q4 q5 q6 q7
      go_wp2_with (at_builtin; go_loud (refine wpList_append_own_at _ rfl _ _ 26 rfl W.heap.size 60 i0 _ 6 96 Tryz.underlying26 Hi.out Hz0.out Hz1.out Hz2.out rfl (by decide) _ j bs rfl HOA.out ⟨w2.heap.size, 0, none⟩ 1 1 (blockCells tag st num l2 A9 n9 c9).toList rfl rfl HNew.out H1c.out H63.out HBy.out HSz.out ?_; intro v' w3 ho hg hnil hblk; have HP := Lib.hid ho; have HGr := Lib.hid hg; have HBl := Lib.hid hblk; clear ho hg hnil hblk))
      go_roundw
      case rel =>
        have hfs := HF.out.size
        have hbs := Hbw.out.size
        have h2s := Hf2.out.size
        have hgmW := HM.out.lt
        have hob : ∀ b, (Value.slice Ao j co).ownBlock = some b → W.heap.size ≤ b := fun b hb => own_base HO.out b hb
        have f1 : Fr (Apart gm nv) W w2 := (HF.out.trans (Fr.of_below (P := Apart gm nv) Hbw.out) (fun _ _ h => h)).trans Hf2.out fun q hq hp => ⟨hp.1, fun e => by
          rcases HNb.out q e.symm with h | h
          · exact hp.2 h.symm
          · omega⟩
        have f2 : Fr (Apart gm nv) W w3 := (f1.trans (Fr.of_below (P := Apart gm nv) (below_alloc (Below.refl _ w2) _)) (fun _ _ h => h)).trans (Fr.of_grown (P := fun q => q < W.heap.size) HGr.out fun q _ hq e => by have := hob q e.symm; omega) fun q hq _ => hq
        have m2 := Hmp2.out.below (below_alloc (Below.refl _ w2) (.cells (blockCells tag st num l2 A9 n9 c9) 60))
        have m3 : MapAt w3 base gm nv2 grp (k + listsAll (cs.take (j + 1))) (ns ++ numsAll (cs.take (j + 1)) k lv) := by
          rw [listsAll_take cs j hkl, numsAll_take cs j k lv hkl, ← List.append_assoc, ← Nat.add_assoc]
          refine ⟨(HGr.out.block gm m2.lt (fun e => by have := hob gm e.symm; omega)).trans m2.blk, own_other m2.own HGr.out ?_, m2.ne⟩
          exact own_type_ne m2.own HOA.out (by decide)
        refine ⟨j + 1, _, nv2, by omega, by go_num, f2, HP.out, ?_, m3, fun b hb => ?_⟩
        · rw [List.take_succ_eq_append_getElem hkl]
          exact HBs.out.snoc HBk.out
        · rcases Hnb2.out b hb with h | h
          · exact HNb.out b h
          · exact Or.inr (by omega)
      case measure => simp [intOf]; omega
    · obtain hjm : j = cs.length := by have := HK.out.1; omega
      have HJ := Lib.hid hjm
      have HF := Lib.hid hF; have HO := Lib.hid hO; have HBs := Lib.hid hBs; have HMp := Lib.hid hMp; have HNb := Lib.hid hnb
      clear hF hO hBs hMp hnb hjm
      go_wp2
      go_ret
      have ht : cs.take j = cs := List.take_of_length_le (Nat.le_of_eq HJ.out.symm)
      refine ⟨_, bs, nv', rfl, by rw [← HJ.out]; exact HO.out, by have := HBs.out; rwa [ht] at this, by have := HMp.out; rwa [ht] at this, HF.out, HNb.out⟩
end Go.Proofs.YtekpoglbpjodkaaGreatDoor
