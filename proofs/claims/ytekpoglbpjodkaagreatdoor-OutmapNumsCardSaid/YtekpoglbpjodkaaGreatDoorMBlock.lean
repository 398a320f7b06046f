/- mapper.block of a chain: a rule, a quote, a list. -/
import Derived.Test.YtekpoglbpjodkaaGreatDoorMList
import Derived.Test.YtekpoglbpjodkaaGreatDoorNode
namespace Go.Proofs.YtekpoglbpjodkaaGreatDoor
open Go.RowKit Go.Proofs.YtekpoglbpjodkaaGreatDoorW.PrintWords

/-- Six cells set anew. -/
abbrev six (w : World) (g : Nat) (v0 v1 v2 v3 v4 v5 : Value) : World := (((((w.setCell ⟨g, 0, none⟩ v0).setCell ⟨g, 1, none⟩ v1).setCell ⟨g, 2, none⟩ v2).setCell ⟨g, 3, none⟩ v3).setCell ⟨g, 4, none⟩ v4).setCell ⟨g, 5, none⟩ v5
theorem six_end {W w : World} {base gm : Nat} {nv0 nv : Value} {grp : Int} {k : Nat} {ns : List Value} (v0 v1 v2 v3 v4 v5 : Value) (hc : Carry W w base gm nv0 nv grp k ns) (hgl : gm < W.heap.size)
    (h : w.heap[W.heap.size + 1]? = some (.cells #[.string ⟨#[]⟩, .string ⟨#[]⟩, .int .i64 0, .int .i64 0, .slice none 0 0, .slice none 0 0] 60 (0, 0))) :
    Carry W (six w (W.heap.size + 1) v0 v1 v2 v3 v4 v5) base gm nv0 nv grp k ns ∧
    (six w (W.heap.size + 1) v0 v1 v2 v3 v4 v5).cell? ⟨W.heap.size + 1, 0, none⟩ = some v0 ∧
    (six w (W.heap.size + 1) v0 v1 v2 v3 v4 v5).cell? ⟨W.heap.size + 1, 1, none⟩ = some v1 ∧
    (six w (W.heap.size + 1) v0 v1 v2 v3 v4 v5).cell? ⟨W.heap.size + 1, 2, none⟩ = some v2 ∧
    (six w (W.heap.size + 1) v0 v1 v2 v3 v4 v5).cell? ⟨W.heap.size + 1, 3, none⟩ = some v3 ∧
    (six w (W.heap.size + 1) v0 v1 v2 v3 v4 v5).cell? ⟨W.heap.size + 1, 4, none⟩ = some v4 ∧
    (six w (W.heap.size + 1) v0 v1 v2 v3 v4 v5).cell? ⟨W.heap.size + 1, 5, none⟩ = some v5 := by
  unfold six
  have hr : ∀ b, some (W.heap.size + 1) = some b → W.heap.size ≤ b ∧ nv.ownBlock ≠ some b := fun b e => by injection e with e; subst e; exact ⟨by omega, hc.own_ne h (by decide)⟩
  have h8 := blk_set (blk_set (blk_set (blk_set (blk_set (blk_set h 0 v0) 1 v1) 2 v2) 3 v3) 4 v4) 5 v5
  have hg := gset (gset (gset (gset (gset (gset (grown_of_below (Below.refl _ w) (some (W.heap.size + 1))) 0 v0) 1 v1) 2 v2) 3 v3) 4 v4) 5 v5
  simp only [List.setIfInBounds_toArray, List.set_cons_succ, List.set_cons_zero] at h8
  exact ⟨hc.grown hgl hg hr, blk_cell h8 0, blk_cell h8 1, blk_cell h8 2, blk_cell h8 3, blk_cell h8 4, blk_cell h8 5⟩
set_option maxRecDepth 100000 in
set_option maxHeartbeats 2000000 in
theorem mblock_quote (x : Lay) (r : Chain) (hx : x.k = 6) (hih : MBlocksOk (restL r)) : MBlockOk (x :: r) := by
  intro W base gm nv grp k ns x' r' A m c lv he hr hm hg hk hlv
  obtain ⟨rfl, rfl⟩ : x = x' ∧ r = r' := by injection he with h1 h2; exact ⟨h1, h2⟩
  have hl : listsOf (x :: r) = listsAll (restL r) := by rw [listsOf, listsAll_rest, if_neg (by omega)]; omega
  have hnn : numsOf (x :: r) k lv = numsAll (restL r) k lv := by rw [numsOf, numsAll_rest, if_neg (by omega)]
  rw [hl, hnn]
  rw [hl] at hk hlv
  have HX := Lib.hid hx
  have b2 : (x.k == 2) = false := by rw [hx]; rfl
  have b3 : (x.k == 3) = false := by rw [hx]; rfl
  have b4 : (x.k == 4) = false := by rw [hx]; rfl
  have b5 : (x.k == 5) = false := by rw [hx]; rfl
  have b6 : (x.k == 6) = true := by rw [hx]; rfl
  have hgl := hm.lt
  have hbA := below_alloc (below_alloc (Below.refl _ W) (.cells (nodeCells x A m c) 24)) (.cells #[.string ⟨#[]⟩, .string ⟨#[]⟩, .int .i64 0, .int .i64 0, .slice none 0 0, .slice none 0 0] 60)
  have HX2 := Lib.hid (boxed_block2 W x A m c)
  have HXs := Lib.hid (show ((W.alloc (.cells (nodeCells x A m c) 24)).alloc (.cells #[.string ⟨#[]⟩, .string ⟨#[]⟩, .int .i64 0, .int .i64 0, .slice none 0 0, .slice none 0 0] 60)).heap.size = W.heap.size + 2 by rw [World.size_alloc, World.size_alloc])
  have HCall := Lib.hid (hih ((W.alloc (.cells (nodeCells x A m c) 24)).alloc (.cells #[.string ⟨#[]⟩, .string ⟨#[]⟩, .int .i64 0, .int .i64 0, .slice none 0 0, .slice none 0 0] 60)) base gm nv grp k ns A m c lv (RestIn.kidsIn (hr.of fun q hq hp => ⟨hp, hbA.block q hq⟩)) (hm.below hbA) hg hk (fun ch hch => by have := listsOf_rest r ch hch; rw [listsAll_rest] at hlv; omega))
  have HCa := Lib.hid ((Carry.start hm).below hgl hbA)
  clear hx hih hr hm hg hk hlv hl hnn hbA he
  unfold mkNode
  go_enter Tryz.func24, Tryz.ntmps24
  go_wp2_with fail
  refine HCall.out.mono ?_
  rintro e w1 ⟨v, bs, nv', rfl, hown, hblk, hmp, hfr, hnb⟩
  obtain ⟨Ao, co, rfl⟩ := own_slice hown
  have hb := (hfr.block _ (by have := HXs.out; omega) ⟨show W.heap.size + 1 ≠ gm by omega, fun e => HCa.out.own_ne HX2.out (by decide) e.symm⟩).trans HX2.out
  have HC1 := Lib.hid (HCa.out.call hmp hfr hnb)
  have p0 : w1.cell? ⟨W.heap.size + 1, 0, none⟩ = some (.string ⟨#[]⟩) := blk_cell hb 0
  have p1 : w1.cell? ⟨W.heap.size + 1, 1, none⟩ = some (.string ⟨#[]⟩) := blk_cell hb 1
  have p2 : w1.cell? ⟨W.heap.size + 1, 2, none⟩ = some (.int .i64 0) := blk_cell hb 2
  have p3 : w1.cell? ⟨W.heap.size + 1, 3, none⟩ = some (.int .i64 0) := blk_cell hb 3
  have p4 : w1.cell? ⟨W.heap.size + 1, 4, none⟩ = some (.slice none 0 0) := blk_cell hb 4
  have p5 : w1.cell? ⟨W.heap.size + 1, 5, none⟩ = some (.slice none 0 0) := blk_cell hb 5
  have f0 : w1.frozen? ⟨W.heap.size + 1, 0, none⟩ = false := blk_frozen hb 0
  have f1 : w1.frozen? ⟨W.heap.size + 1, 1, none⟩ = false := blk_frozen hb 1
  have f2 : w1.frozen? ⟨W.heap.size + 1, 2, none⟩ = false := blk_frozen hb 2
  have f3 : w1.frozen? ⟨W.heap.size + 1, 3, none⟩ = false := blk_frozen hb 3
  have f4 : w1.frozen? ⟨W.heap.size + 1, 4, none⟩ = false := blk_frozen hb 4
  have f5 : w1.frozen? ⟨W.heap.size + 1, 5, none⟩ = false := blk_frozen hb 5
  have HE := Lib.hid (six_end (.string ⟨#[113, 117, 111, 116, 101]⟩) (.string ⟨#[]⟩) (.int .i64 0) (.int .i64 0) (.slice none 0 0) (.slice Ao (restL r).length co) HC1.out hgl hb)
  generalize (restL r).length = nr at HE ⊢
  clear hown hblk hmp hfr hnb hb HC1 HCa HCall HX2 HXs
  go_wp2_with fail
  clear p0 p1 p2 p3 p4 p5 f0 f1 f2 f3 f4 f5
  obtain ⟨hca, r0, r1, r2, r3, r4, r5⟩ := HE.out
  clear HE
  unfold six at hca r0 r1 r2 r3 r4 r5
  generalize ((((((w1.setCell ⟨W.heap.size + 1, 0, none⟩ (.string ⟨#[113, 117, 111, 116, 101]⟩)).setCell ⟨W.heap.size + 1, 1, none⟩ (.string ⟨#[]⟩)).setCell ⟨W.heap.size + 1, 2, none⟩ (.int .i64 0)).setCell ⟨W.heap.size + 1, 3, none⟩ (.int .i64 0)).setCell ⟨W.heap.size + 1, 4, none⟩ (.slice none 0 0)).setCell ⟨W.heap.size + 1, 5, none⟩ (.slice Ao nr co)) = wz at hca r0 r1 r2 r3 r4 r5 ⊢
  have HCz := Lib.hid hca; clear hca
  refine bodyPost_ret (by simp [results, Tryz.results24, go_sem, r0, r1, r2, r3, r4, r5]; try rfl) rfl ?_
  exact ⟨(blockCells ⟨#[113, 117, 111, 116, 101]⟩ ⟨#[]⟩ 0 0 Ao nr co).toList, nv', rfl, ⟨_, _, _, _, _, _, _, rfl, fun x' r' he hk7 => by injection he with h1 h2; subst h1; have := HX.out; omega⟩, HCz.out.mp, HCz.out.fr, HCz.out.nb⟩
set_option maxRecDepth 100000 in
set_option maxHeartbeats 2000000 in
theorem mblock_list (x y : Lay) (s : Chain) (hx : x.k = 7) (hyk : y.k ≠ 7) (hy : ∀ z t, s = z :: t → z.k ≠ 2) (hih : MBlocksOk (restL s)) : MBlockOk (x :: y :: s) := by
  intro W base gm nv grp k ns x' r' A m c lv he hr hm hg hk hlv
  obtain ⟨rfl, rfl⟩ : x = x' ∧ (y :: s) = r' := by injection he with h1 h2; exact ⟨h1, h2⟩
  have HX := Lib.hid hx
  have b2 : (x.k == 2) = false := by rw [hx]; rfl
  have b3 : (x.k == 3) = false := by rw [hx]; rfl
  have b4 : (x.k == 4) = false := by rw [hx]; rfl
  have b5 : (x.k == 5) = false := by rw [hx]; rfl
  have b6 : (x.k == 6) = false := by rw [hx]; rfl
  have hgl := hm.lt
  have hbA := below_alloc (below_alloc (Below.refl _ W) (.cells (nodeCells x A m c) 24)) (.cells #[.string ⟨#[]⟩, .string ⟨#[]⟩, .int .i64 0, .int .i64 0, .slice none 0 0, .slice none 0 0] 60)
  have HX1 := Lib.hid (boxed_block1 W x A m c)
  have HX2 := Lib.hid (boxed_block2 W x A m c)
  have HXs := Lib.hid (show ((W.alloc (.cells (nodeCells x A m c) 24)).alloc (.cells #[.string ⟨#[]⟩, .string ⟨#[]⟩, .int .i64 0, .int .i64 0, .slice none 0 0, .slice none 0 0] 60)).heap.size = W.heap.size + 2 by rw [World.size_alloc, World.size_alloc])
  have HCall := Lib.hid (mlist_any x y s hx hyk hih ((W.alloc (.cells (nodeCells x A m c) 24)).alloc (.cells #[.string ⟨#[]⟩, .string ⟨#[]⟩, .int .i64 0, .int .i64 0, .slice none 0 0, .slice none 0 0] 60)) base gm nv grp k ns A m c lv (hr.of fun q hq hp => ⟨hp, hbA.block q hq⟩) hy (hm.below hbA) hg hk hlv)
  have HCa := Lib.hid ((Carry.start hm).below hgl hbA)
  clear hx hih hr hm hg hk hlv hbA he hyk hy
  unfold mkNode at *
  go_enter Tryz.func24, Tryz.ntmps24
  go_wp2_with fail
  refine HCall.out.mono ?_
  rintro e w1 ⟨cells, nv', rfl, hblk, hmp, hfr, hnb⟩
  have HBlk := Lib.hid hblk
  obtain ⟨tag, st, num, l2, A9, n9, c9, rfl, _⟩ := hblk
  have hb := (hfr.block _ (by have := HXs.out; omega) ⟨show W.heap.size + 1 ≠ gm by omega, fun e => HCa.out.own_ne HX2.out (by decide) e.symm⟩).trans HX2.out
  have HC1 := Lib.hid (HCa.out.call hmp hfr hnb)
  have p0 : w1.cell? ⟨W.heap.size + 1, 0, none⟩ = some (.string ⟨#[]⟩) := blk_cell hb 0
  have p1 : w1.cell? ⟨W.heap.size + 1, 1, none⟩ = some (.string ⟨#[]⟩) := blk_cell hb 1
  have p2 : w1.cell? ⟨W.heap.size + 1, 2, none⟩ = some (.int .i64 0) := blk_cell hb 2
  have p3 : w1.cell? ⟨W.heap.size + 1, 3, none⟩ = some (.int .i64 0) := blk_cell hb 3
  have p4 : w1.cell? ⟨W.heap.size + 1, 4, none⟩ = some (.slice none 0 0) := blk_cell hb 4
  have p5 : w1.cell? ⟨W.heap.size + 1, 5, none⟩ = some (.slice none 0 0) := blk_cell hb 5
  have f0 : w1.frozen? ⟨W.heap.size + 1, 0, none⟩ = false := blk_frozen hb 0
  have f1 : w1.frozen? ⟨W.heap.size + 1, 1, none⟩ = false := blk_frozen hb 1
  have f2 : w1.frozen? ⟨W.heap.size + 1, 2, none⟩ = false := blk_frozen hb 2
  have f3 : w1.frozen? ⟨W.heap.size + 1, 3, none⟩ = false := blk_frozen hb 3
  have f4 : w1.frozen? ⟨W.heap.size + 1, 4, none⟩ = false := blk_frozen hb 4
  have f5 : w1.frozen? ⟨W.heap.size + 1, 5, none⟩ = false := blk_frozen hb 5
  have HE := Lib.hid (six_end (.string tag) (.string st) (.int .i64 num) (.int .i64 l2) (.slice none 0 0) (.slice A9 n9 c9) HC1.out hgl hb)
  clear hmp hfr hnb hb HC1 HCa HCall HX1 HX2 HXs
  go_wp2_with fail
  clear p0 p1 p2 p3 p4 p5 f0 f1 f2 f3 f4 f5
  obtain ⟨hca, r0, r1, r2, r3, r4, r5⟩ := HE.out
  clear HE
  unfold six at hca r0 r1 r2 r3 r4 r5
  generalize ((((((w1.setCell ⟨W.heap.size + 1, 0, none⟩ (.string tag)).setCell ⟨W.heap.size + 1, 1, none⟩ (.string st)).setCell ⟨W.heap.size + 1, 2, none⟩ (.int .i64 num)).setCell ⟨W.heap.size + 1, 3, none⟩ (.int .i64 l2)).setCell ⟨W.heap.size + 1, 4, none⟩ (.slice none 0 0)).setCell ⟨W.heap.size + 1, 5, none⟩ (.slice A9 n9 c9)) = wz at hca r0 r1 r2 r3 r4 r5 ⊢
  have HCz := Lib.hid hca; clear hca
  refine bodyPost_ret (by simp [results, Tryz.results24, go_sem, r0, r1, r2, r3, r4, r5]; try rfl) rfl ?_
  exact ⟨(blockCells tag st num l2 A9 n9 c9).toList, nv', rfl, HBlk.out, HCz.out.mp, HCz.out.fr, HCz.out.nb⟩
theorem mblock_ruleOk (x : Lay) (hx : x.k = 4) : MBlockOk [x] := by
  intro W base gm nv grp k ns x' r' A m c lv he hr hm hg hk hlv
  obtain ⟨rfl, rfl⟩ : x = x' ∧ [] = r' := by injection he with h1 h2; exact ⟨h1, h2⟩
  have hl : listsOf [x] = 0 := by simp [listsOf, hx]
  have hn : numsOf [x] k lv = [] := by simp [numsOf, hx]
  rw [hl, hn, List.append_nil, Nat.add_zero]
  refine (mblock_rule gm x hx A m c lv W).mono ?_
  rintro e w1 ⟨rfl, hb⟩
  have hc := (Carry.start hm).below hm.lt hb
  exact ⟨_, nv, rfl, ⟨_, _, _, _, _, _, _, rfl, fun x' r' he hk7 => by injection he with h1 h2; subst h1; omega⟩, hc.mp, hc.fr, hc.nb⟩
/-- Every chain that a document may hold. -/
theorem mblock_chain : ∀ {ch : Chain}, OkCh ch → ch.length ≤ 150 → (∀ x r, ch = x :: r → x.k = 4 ∨ x.k = 6 ∨ x.k = 7) → MBlockOk ch := by
  intro ch h
  suffices hs : ch.length ≤ 150 → ((∀ x r, ch = x :: r → x.k = 4 ∨ x.k = 6 ∨ x.k = 7) → MBlockOk ch) ∧ (∀ x r, ch = x :: r → x.k = 8 → MBlocksOk (restL r) ∧ ∀ z t, r = z :: t → z.k ≠ 2) from fun hl => (hs hl).1
  have single : ∀ r : Chain, (r ≠ [] → MBlockOk r) → MBlocksOk (restL r) := fun r hr => by
    refine mblocks_row _ (fun c hc => ?_) ?_
    · cases r with
      | nil => cases hc
      | cons z t => rw [List.mem_singleton.1 hc]; exact hr (by simp)
    · cases r <;> simp [restL]
  induction h with
  | rule x hx => exact fun _ => ⟨fun _ => mblock_ruleOk x hx, fun x' r he h8 => by injection he with h1 _; subst h1; omega⟩
  | empty x hx =>
    refine fun _ => ⟨fun h => ?_, fun x' r he h8 => ?_⟩
    · rcases h x [] rfl with h | h | h
      · omega
      · exact mblock_quote x [] h (single [] (fun h => absurd rfl h))
      · omega
    · injection he with h1 h2
      subst h2
      exact ⟨single [] (fun h => absurd rfl h), fun z t h => by cases h⟩
  | holder x y r hx hy _ ih =>
    intro hl
    have ih := ih (by simp at hl ⊢; omega)
    have hyk : y.k = 4 ∨ y.k = 6 ∨ y.k = 7 := by rcases hy with h | h | ⟨h, _⟩ <;> simp [h]
    have hb : MBlocksOk (restL (y :: r)) := single _ fun _ => ih.1 fun x' r' he => by injection he with h1 _; subst h1; exact hyk
    refine ⟨fun h => ?_, fun x' r' he h8 => ?_⟩
    · rcases h x _ rfl with h | h | h
      · omega
      · exact mblock_quote x _ h hb
      · omega
    · injection he with h1 h2
      subst h2
      exact ⟨hb, fun z t h => by injection h with h _; subst h; omega⟩
  | list x y r hx hy _ ih =>
    intro hl
    have ih := (ih (by simp at hl ⊢; omega)).2 y r rfl hy
    refine ⟨fun _ => mblock_list x y r hx (by omega) ih.2 ih.1, fun x' r' he h8 => by injection he with h1 _; subst h1; omega⟩
end Go.Proofs.YtekpoglbpjodkaaGreatDoor
