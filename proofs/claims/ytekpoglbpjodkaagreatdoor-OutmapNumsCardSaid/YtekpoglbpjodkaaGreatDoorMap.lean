/- outmap.Map of a document of normal chains: refused where it is too deep; else its blocks and numbers. -/
import Derived.Test.YtekpoglbpjodkaaGreatDoorMBlock
import Derived.Test.YtekpoglbpjodkaaGreatDoorNormalT
import Derived.Test.YtekpoglbpjodkaaGreatDoorDepth
import Derived.Test.YtekpoglbpjodkaaGreatDoorLong
import Derived.Test.YtekpoglbpjodkaaGreatDoorStd
namespace Go.Proofs.YtekpoglbpjodkaaGreatDoor
open Go.RowKit Go.Proofs.YtekpoglbpjodkaaGreatDoorW.PrintWords

theorem RestAt.rin {W : World} : ∀ {r : Chain} {A : Option Addr} {m : Nat}, RestAt W r A m → RestIn W (fun b => b < W.heap.size) r A m
  | [], _, _, h => h
  | _ :: _, _, _, ⟨h1, g, A1, m1, c1, h2, h3, h4⟩ => ⟨h1, g, A1, m1, c1, h2, h3.lt, h3, h4.rin⟩
theorem KidsAt.kin {W : World} {cs : List Chain} {A : Option Addr} {m : Nat} (h : KidsAt W cs A m) : KidsIn W (fun b => b < W.heap.size) cs A m := by
  refine ⟨h.1, fun hm => ?_⟩
  obtain ⟨g, e, hi⟩ := h.2 hm
  have hg : g < W.heap.size := by
    obtain ⟨x, r, A1, m1, c1, _, h2, _⟩ := hi 0 (by rw [← h.1]; exact hm)
    exact h2.lt
  refine ⟨g, e, hg, fun i hl => ?_⟩
  obtain ⟨x, r, A1, m1, c1, h1, h2, h3⟩ := hi i hl
  exact ⟨x, r, A1, m1, c1, h1, h2, h3.rin⟩
theorem DocOk.depth {cs : List Chain} (h : DocOk cs) (A : Option Addr) (m c : Nat) (W : World) (hk : KidsAt W cs A m) :
    Calls Tryz.prog 12 #[mkNode docLay A m c] W fun e w' => e = .returned (.tuple #[.int .i64 (most dAll cs : Nat), .int .i64 (most dLists cs : Nat)]) ∧ Below W.heap.size W w' := by
  have := depth_node cs (fun ch hch => depth_chain ch (by have := (h.norm ch hch).1; omega)) docLay A m c W hk (by rw [hk.1]; exact h.few) (fun ch hch => by have := (h.norm ch hch).1; omega)
  simpa [isAll, isList, docLay] using this
theorem okch_no5 {ch : Chain} (h : OkCh ch) : ∀ x ∈ ch, x.k ≠ 5 := by
  induction h with
  | rule x hx => intro z hz; rw [List.mem_singleton.1 hz]; omega
  | empty x hx => intro z hz; rw [List.mem_singleton.1 hz]; omega
  | holder x y r hx _ _ ih => intro z hz; rcases List.mem_cons.1 hz with rfl | hz; · omega
                              · exact ih z hz
  | list x y r hx _ _ ih => intro z hz; rcases List.mem_cons.1 hz with rfl | hz; · omega
                            · exact ih z hz
theorem DocOk.long {cs : List Chain} (h : DocOk cs) (A : Option Addr) (m c : Nat) (W : World) (hk : KidsAt W cs A m) :
    Calls Tryz.prog 13 #[mkNode docLay A m c] W fun e w' => e = .returned (.bool false) ∧ Below W.heap.size W w' :=
  long_node cs (fun ch hch => long_chain ch (okch_no5 (h.ok ch hch))) docLay (by decide) A m c W hk (by rw [hk.1]; exact h.few)
theorem DocOk.blocks {cs : List Chain} (h : DocOk cs) : MBlocksOk cs :=
  mblocks_row cs (fun ch hch => mblock_chain (h.ok ch hch) (h.norm ch hch).1 (fun x r e => by
    have := h.head x r (e ▸ hch)
    rcases this with h | h | ⟨h, _⟩ <;> simp [h])) h.few
theorem two_0 (w : World) (a b : Obj) : ((w.alloc a).alloc b).heap[w.heap.size]? = some a := by
  rw [same_alloc (w.alloc a) b w.heap.size (by rw [World.size_alloc]; omega)]
  exact heap_alloc_new w a
theorem two_1 (w : World) (a b : Obj) : ((w.alloc a).alloc b).heap[w.heap.size + 1]? = some b := by
  have := heap_alloc_new (w.alloc a) b
  rwa [World.size_alloc] at this
theorem two_s (w : World) (a b : Obj) : ((w.alloc a).alloc b).heap.size = w.heap.size + 2 := by rw [World.size_alloc, World.size_alloc]
theorem cells_of_block {w : World} {g : Nat} {v0 v1 v2 v3 v4 v5 v6 v7 : Value} {t : TypeId} (h : w.heap[g]? = some (.cells #[v0, v1, v2, v3, v4, v5, v6, v7] t (0, 0))) :
    w.cell? ⟨g, 0, none⟩ = some v0 ∧ w.cell? ⟨g, 1, none⟩ = some v1 ∧ w.cell? ⟨g, 2, none⟩ = some v2 ∧ w.cell? ⟨g, 3, none⟩ = some v3 ∧ w.cell? ⟨g, 4, none⟩ = some v4 ∧ w.cell? ⟨g, 5, none⟩ = some v5 ∧ w.cell? ⟨g, 6, none⟩ = some v6 ∧ w.cell? ⟨g, 7, none⟩ = some v7 :=
  ⟨blk_cell h 0, blk_cell h 1, blk_cell h 2, blk_cell h 3, blk_cell h 4, blk_cell h 5, blk_cell h 6, blk_cell h 7⟩
abbrev three3 (w : World) (g : Nat) (v0 v1 v2 : Value) : World := ((w.setCell ⟨g, 0, none⟩ v0).setCell ⟨g, 1, none⟩ v1).setCell ⟨g, 2, none⟩ v2
theorem three_end {W w : World} (v0 v1 v2 : Value) (hb : Below W.heap.size W w) (h : w.heap[W.heap.size + 1]? = some (.cells #[.slice none 0 0, .slice none 0 0, .slice none 0 0] 30 (0, 0))) :
    Below W.heap.size W (((w.setCell ⟨W.heap.size + 1, 0, none⟩ v0).setCell ⟨W.heap.size + 1, 1, none⟩ v1).setCell ⟨W.heap.size + 1, 2, none⟩ v2) ∧
    (((w.setCell ⟨W.heap.size + 1, 0, none⟩ v0).setCell ⟨W.heap.size + 1, 1, none⟩ v1).setCell ⟨W.heap.size + 1, 2, none⟩ v2).cell? ⟨W.heap.size + 1, 0, none⟩ = some v0 ∧
    (((w.setCell ⟨W.heap.size + 1, 0, none⟩ v0).setCell ⟨W.heap.size + 1, 1, none⟩ v1).setCell ⟨W.heap.size + 1, 2, none⟩ v2).cell? ⟨W.heap.size + 1, 1, none⟩ = some v1 ∧
    (((w.setCell ⟨W.heap.size + 1, 0, none⟩ v0).setCell ⟨W.heap.size + 1, 1, none⟩ v1).setCell ⟨W.heap.size + 1, 2, none⟩ v2).cell? ⟨W.heap.size + 1, 2, none⟩ = some v2 := by
  have h8 := blk_set (blk_set (blk_set h 0 v0) 1 v1) 2 v2
  simp only [List.setIfInBounds_toArray, List.set_cons_succ, List.set_cons_zero] at h8
  exact ⟨((hb.setCell (Nat.le_succ _) _).setCell (Nat.le_succ _) _).setCell (Nat.le_succ _) _, blk_cell h8 0, blk_cell h8 1, blk_cell h8 2⟩
/-- A document that is not too deep. -/
def fits (cs : List Chain) : Prop := most dAll cs ≤ 32 ∧ most dLists cs ≤ 9
set_option maxRecDepth 100000 in
set_option maxHeartbeats 2000000 in
theorem map_deep (cs : List Chain) (h : DocOk cs) (hd : 32 < most dAll cs ∨ 9 < most dLists cs) (A : Option Addr) (m c : Nat) (W : World) (hk : KidsAt W cs A m) :
    Calls Tryz.prog 7 #[mkNode docLay A m c] W fun e w' => e = .returned (.tuple #[.agg #[.slice none 0 0, .slice none 0 0, .slice none 0 0], .int .i64 19]) ∧ Below W.heap.size W w' := by
  have HN := Lib.hid (normal_any cs h A m c); have HD := Lib.hid (h.depth A m c); have HK := Lib.hid hk
  have hall : most dAll cs ≤ 200 := most_le _ _ _ fun ch hch => Nat.le_trans (dAll_le ch) (by have := (h.norm ch hch).1; omega)
  have hlis : most dLists cs ≤ 200 := most_le _ _ _ fun ch hch => Nat.le_trans (dLists_le ch) (by have := (h.norm ch hch).1; omega)
  clear hk h
  generalize most dAll cs = al at HD hd hall ⊢
  generalize most dLists cs = li at HD hd hlis ⊢
  unfold mkNode docLay at *
  have HB0 := Lib.hid (below_alloc (below_alloc (Below.refl _ W) (.cells (nodeCells docLay A m c) 24)) (.cells #[.slice none 0 0, .slice none 0 0, .slice none 0 0] 30))
  have HQ0 := Lib.hid (two_0 W (.cells (nodeCells docLay A m c) 24) (.cells #[.slice none 0 0, .slice none 0 0, .slice none 0 0] 30))
  have HQ1 := Lib.hid (two_1 W (.cells (nodeCells docLay A m c) 24) (.cells #[.slice none 0 0, .slice none 0 0, .slice none 0 0] 30))
  have HQs := Lib.hid (two_s W (.cells (nodeCells docLay A m c) 24) (.cells #[.slice none 0 0, .slice none 0 0, .slice none 0 0] 30))
  go_enter Tryz.func7, Tryz.ntmps7
  go_wp2_with fail
  unfold nodeCells docLay at HB0 HQ0 HQ1 HQs
  generalize (W.alloc (.cells #[.int .i64 1, .int .i64 0, .bool false, .bool false, .string ⟨#[]⟩, .string ⟨#[]⟩, .string ⟨#[]⟩, .slice A m c] 24)).alloc (.cells #[.slice none 0 0, .slice none 0 0, .slice none 0 0] 30) = w0 at HB0 HQ0 HQ1 HQs ⊢
  refine (HN.out _ (HK.out.below HB0.out)).mono ?_
  rintro e w1 ⟨rfl, hb1⟩
  have hq0 := (hb1.block _ (by rw [HQs.out]; omega)).trans HQ0.out
  have hq1 := (hb1.block _ (by rw [HQs.out]; omega)).trans HQ1.out
  have hqs : W.heap.size + 2 ≤ w1.heap.size := by have := hb1.size; have := HQs.out; omega
  have hb := bb HB0.out hb1
  obtain ⟨c0, c1, c2, c3, c4, c5, c6, c7⟩ := cells_of_block hq0
  have HB1 := Lib.hid hb; have HP0 := Lib.hid hq0; have HP1 := Lib.hid hq1; have HPs := Lib.hid hqs
  clear hb1 hq0 hq1 hqs hb HB0 HQ0 HQ1 HQs
  go_wp2_with fail
  refine (HD.out _ (HK.out.below HB1.out)).mono ?_
  rintro e w2 ⟨rfl, hb2⟩
  have hq0 := (hb2.block _ (by have := HPs.out; omega)).trans HP0.out
  have hq1 := (hb2.block _ (by have := HPs.out; omega)).trans HP1.out
  have hqs : W.heap.size + 2 ≤ w2.heap.size := by have := hb2.size; have := HPs.out; omega
  have hb := bb HB1.out hb2
  clear c0 c1 c2 c3 c4 c5 c6 c7
  obtain ⟨c0, c1, c2, c3, c4, c5, c6, c7⟩ := cells_of_block hq0
  have HB2 := Lib.hid hb; have HR0 := Lib.hid hq0; have HR1 := Lib.hid hq1; have HRs := Lib.hid hqs
  clear hb2 hq0 hq1 hqs hb HB1 HP0 HP1 HPs
  obtain ⟨hc, r0, r1, r2⟩ := three_end (.slice none 0 0) (.slice none 0 0) (.slice none 0 0) HB2.out HR1.out
  have p0 : w2.cell? ⟨W.heap.size + 1, 0, none⟩ = some (.slice none 0 0) := blk_cell HR1.out 0
  have p1 : w2.cell? ⟨W.heap.size + 1, 1, none⟩ = some (.slice none 0 0) := blk_cell HR1.out 1
  have p2 : w2.cell? ⟨W.heap.size + 1, 2, none⟩ = some (.slice none 0 0) := blk_cell HR1.out 2
  have f0 : w2.frozen? ⟨W.heap.size + 1, 0, none⟩ = false := blk_frozen HR1.out 0
  have f1 : w2.frozen? ⟨W.heap.size + 1, 1, none⟩ = false := blk_frozen HR1.out 1
  have f2 : w2.frozen? ⟨W.heap.size + 1, 2, none⟩ = false := blk_frozen HR1.out 2
  have HE := Lib.hid (three_end (.slice none 0 0) (.slice none 0 0) (.slice none 0 0) HB2.out HR1.out)
  clear c0 c1 c2 c3 c4 c5 c6 c7 hc r0 r1 r2
  have hdd : (decide ((32 : Int) < (al : Int)) = true) ∨ (decide ((32 : Int) < (al : Int)) = false ∧ decide ((9 : Int) < (li : Int)) = true) := by
    rcases hd with h | h
    · exact Or.inl (decide_eq_true (by omega))
    · by_cases h2 : 32 < al
      · exact Or.inl (decide_eq_true (by omega))
      · exact Or.inr ⟨decide_eq_false (by omega), decide_eq_true (by omega)⟩
  clear hd
  rcases hdd with hd | ⟨hd, he⟩
  all_goals
    go_wp2_with fail
    clear p0 p1 p2 f0 f1 f2
    obtain ⟨hc, r0, r1, r2⟩ := HE.out
    clear HE
    generalize (((w2.setCell ⟨W.heap.size + 1, 0, none⟩ (.slice none 0 0)).setCell ⟨W.heap.size + 1, 1, none⟩ (.slice none 0 0)).setCell ⟨W.heap.size + 1, 2, none⟩ (.slice none 0 0)) = wz at hc r0 r1 r2 ⊢
    refine bodyPost_ret (by simp [results, Tryz.results7, go_sem, r0, r1, r2]; try rfl) rfl ?_
    exact ⟨rfl, hc⟩
theorem KidsIn.of {W W1 : World} {P P1 : Nat → Prop} (hb : ∀ k, k < W.heap.size → P k → P1 k ∧ W1.heap[k]? = W.heap[k]?) {cs : List Chain} {A : Option Addr} {m : Nat} (h : KidsIn W P cs A m) : KidsIn W1 P1 cs A m := by
  refine ⟨h.1, fun hm => ?_⟩
  obtain ⟨g, e, hp, hi⟩ := h.2 hm
  have hg : g < W.heap.size := by
    obtain ⟨x, r, A1, m1, c1, _, h2, _⟩ := hi 0 (by rw [← h.1]; exact hm)
    exact h2.lt
  refine ⟨g, e, (hb g hg hp).1, fun i hl => ?_⟩
  obtain ⟨x, r, A1, m1, c1, h1, h2, h3⟩ := hi i hl
  exact ⟨x, r, A1, m1, c1, h1, h2.of (hb g hg hp).2, h3.of hb⟩
/-- What Map tells of a document that is not too deep. -/
def MapOk (cs : List Chain) (W : World) (e : Ending) (w' : World) : Prop := ∃ Ab cb An cn As ns cst, e = .returned (.tuple #[.agg #[.slice Ab cs.length cb, .slice An (listsAll cs) cn, .slice As ns cst], .int .i64 0]) ∧
  (∃ bs, w'.ownsRow W.heap.size 60 6 (.slice Ab cs.length cb) cs.length bs ∧ BlksOf cs bs) ∧ w'.ownsRow W.heap.size 43 4 (.slice An (listsAll cs) cn) (listsAll cs) (numsAll cs 0 0) ∧ Below W.heap.size W w'
theorem map_end {W w5 w6 : World} {cs : List Chain} {base gm : Nat} {Ab As : Option Addr} {cb ns cst : Nat} {An : Option Addr} {cn : Nat} {bs : List Value} (hgm : W.heap.size + 2 ≤ gm) (hbase : W.heap.size + 2 ≤ base) (hB : Below W.heap.size W w5) 
    (hown : w5.ownsRow (gm + 1) 60 6 (.slice Ab cs.length cb) cs.length bs) (hbl : BlksOf cs bs) (hmp : MapAt w5 base gm (.slice An (listsAll cs) cn) 0 (listsAll cs) (numsAll cs 0 0)) (h6 : Below w5.heap.size w5 w6) :
    MapOk cs W (.returned (.tuple #[.agg #[.slice Ab cs.length cb, .slice An (listsAll cs) cn, .slice As ns cst], .int .i64 0])) (((w6.setCell ⟨W.heap.size + 1, 0, none⟩ (.slice Ab cs.length cb)).setCell ⟨W.heap.size + 1, 1, none⟩ (.slice An (listsAll cs) cn)).setCell ⟨W.heap.size + 1, 2, none⟩ (.slice As ns cst)) := by
  have hk : ∀ j, j ≠ W.heap.size + 1 → (((w6.setCell ⟨W.heap.size + 1, 0, none⟩ (.slice Ab cs.length cb)).setCell ⟨W.heap.size + 1, 1, none⟩ (.slice An (listsAll cs) cn)).setCell ⟨W.heap.size + 1, 2, none⟩ (.slice As ns cst)).heap[j]? = w6.heap[j]? := fun j hj => by
    rw [Below.heap_setCell _ _ _ _ hj, Below.heap_setCell _ _ _ _ hj, Below.heap_setCell _ _ _ _ hj]
  have hs5 := hB.size
  refine ⟨Ab, cb, An, cn, As, ns, cst, rfl, ⟨bs, ?_, hbl⟩, ?_, ?_⟩
  · exact own_weaken (own_move (pw_own_below hown h6) fun b hb => hk b (by have := own_base hown b hb; omega)) (by omega)
  · exact own_weaken (own_move (pw_own_below hmp.own h6) fun b hb => hk b (by have := own_base hmp.own b hb; omega)) (by omega)
  · exact (((below_then hB hs5 h6).setCell (Nat.le_succ _) _).setCell (Nat.le_succ _) _).setCell (Nat.le_succ _) _
set_option maxRecDepth 100000 in
set_option maxHeartbeats 4000000 in
theorem map_ok (cs : List Chain) (h : DocOk cs) (hd : most dAll cs ≤ 32) (hd2 : most dLists cs ≤ 9) (hl1 : listsAll cs ≤ 500) (hl2 : ∀ ch ∈ cs, listsOf ch ≤ 200) (A : Option Addr) (m c : Nat) (W : World) (hk : KidsAt W cs A m) :
    Calls Tryz.prog 7 #[mkNode docLay A m c] W (MapOk cs W) := by
  have HN := Lib.hid (normal_any cs h A m c); have HD := Lib.hid (h.depth A m c); have HK := Lib.hid hk; have HLg := Lib.hid (h.long A m c); have HBl := Lib.hid h.blocks
  have H1 := Lib.hid hl1; have H2 := Lib.hid hl2
  clear hk h hl1 hl2
  generalize most dAll cs = al at HD hd ⊢
  generalize most dLists cs = li at HD hd2 ⊢
  have e1 : decide ((32 : Int) < (al : Int)) = false := decide_eq_false (by omega)
  have e2 : decide ((9 : Int) < (li : Int)) = false := decide_eq_false (by omega)
  unfold mkNode docLay at *
  have HB0 := Lib.hid (below_alloc (below_alloc (Below.refl _ W) (.cells (nodeCells docLay A m c) 24)) (.cells #[.slice none 0 0, .slice none 0 0, .slice none 0 0] 30))
  have HQ0 := Lib.hid (two_0 W (.cells (nodeCells docLay A m c) 24) (.cells #[.slice none 0 0, .slice none 0 0, .slice none 0 0] 30))
  have HQ1 := Lib.hid (two_1 W (.cells (nodeCells docLay A m c) 24) (.cells #[.slice none 0 0, .slice none 0 0, .slice none 0 0] 30))
  have HQs := Lib.hid (two_s W (.cells (nodeCells docLay A m c) 24) (.cells #[.slice none 0 0, .slice none 0 0, .slice none 0 0] 30))
  go_enter Tryz.func7, Tryz.ntmps7
  go_wp2_with fail
  unfold nodeCells docLay at HB0 HQ0 HQ1 HQs
  generalize (W.alloc (.cells #[.int .i64 1, .int .i64 0, .bool false, .bool false, .string ⟨#[]⟩, .string ⟨#[]⟩, .string ⟨#[]⟩, .slice A m c] 24)).alloc (.cells #[.slice none 0 0, .slice none 0 0, .slice none 0 0] 30) = w0 at HB0 HQ0 HQ1 HQs ⊢
  refine (HN.out _ (HK.out.below HB0.out)).mono ?_
  rintro e w1 ⟨rfl, hb1⟩
  have hq0 := (hb1.block _ (by rw [HQs.out]; omega)).trans HQ0.out
  have hq1 := (hb1.block _ (by rw [HQs.out]; omega)).trans HQ1.out
  have hqs : W.heap.size + 2 ≤ w1.heap.size := by have := hb1.size; have := HQs.out; omega
  have hb := bb HB0.out hb1
  obtain ⟨c0, c1, c2, c3, c4, c5, c6, c7⟩ := cells_of_block hq0
  have HB1 := Lib.hid hb; have HP0 := Lib.hid hq0; have HP1 := Lib.hid hq1; have HPs := Lib.hid hqs
  clear hb1 hq0 hq1 hqs hb HB0 HQ0 HQ1 HQs
  go_wp2_with fail
  refine (HD.out _ (HK.out.below HB1.out)).mono ?_
  rintro e w2 ⟨rfl, hb2⟩
  have hq0 := (hb2.block _ (by have := HPs.out; omega)).trans HP0.out
  have hq1 := (hb2.block _ (by have := HPs.out; omega)).trans HP1.out
  have hqs : W.heap.size + 2 ≤ w2.heap.size := by have := hb2.size; have := HPs.out; omega
  have hb := bb HB1.out hb2
  clear c0 c1 c2 c3 c4 c5 c6 c7
  obtain ⟨c0, c1, c2, c3, c4, c5, c6, c7⟩ := cells_of_block hq0
  have HB2 := Lib.hid hb; have HR0 := Lib.hid hq0; have HR1 := Lib.hid hq1; have HRs := Lib.hid hqs
  clear hb2 hq0 hq1 hqs hb HB1 HP0 HP1 HPs
  go_wp2_with fail
  refine (HLg.out _ (HK.out.below HB2.out)).mono ?_
  rintro e w3 ⟨rfl, hb3⟩
  have hq0 := (hb3.block _ (by have := HRs.out; omega)).trans HR0.out
  have hq1 := (hb3.block _ (by have := HRs.out; omega)).trans HR1.out
  have hqs : W.heap.size + 2 ≤ w3.heap.size := by have := hb3.size; have := HRs.out; omega
  have hb := bb HB2.out hb3
  clear c0 c1 c2 c3 c4 c5 c6 c7
  have hbm := below_alloc (Below.refl _ w3) (.cells #[.slice none 0 0, .int .i64 0] 48)
  have c7 : (w3.alloc (.cells #[.slice none 0 0, .int .i64 0] 48)).cell? ⟨W.heap.size, 7, none⟩ = some (.slice A m c) := blk_cell ((hbm.block _ (by omega)).trans hq0) 7
  have hmp4 : MapAt (w3.alloc (.cells #[.slice none 0 0, .int .i64 0] 48)) w3.heap.size w3.heap.size (.slice none 0 0) 0 0 [] := ⟨heap_alloc_new w3 _, own_nil _ _ _ _, fun e => by cases e⟩
  have hkin : KidsIn (w3.alloc (.cells #[.slice none 0 0, .int .i64 0] 48)) (fun b => b < w3.heap.size) cs A m := (HK.out.below hb).kin.of fun q hq hp => ⟨hp, hbm.block q hq⟩
  have HCall : Hid (Calls Tryz.prog 14 #[.pointer (some ⟨w3.heap.size, 0, none⟩), .slice A m c, .int .i64 0] (w3.alloc (.cells #[.slice none 0 0, .int .i64 0] 48)) _) := Lib.hid (HBl.out _ w3.heap.size w3.heap.size _ 0 0 [] A m c 0 hkin hmp4 (Nat.le_refl _) (by have := H1.out; omega) (fun ch hch => by have := H2.out ch hch; omega))
  have HB3 := Lib.hid (below_then hb hb.size hbm)
  have HS1 := Lib.hid ((hbm.block _ (by omega)).trans hq1)
  have HSs := Lib.hid hqs
  have HSz : Hid ((w3.alloc (.cells #[.slice none 0 0, .int .i64 0] 48)).heap.size = w3.heap.size + 1) := Lib.hid (World.size_alloc _ _)
  clear hb3 hq0 hq1 hqs hb hbm hmp4 hkin HB2 HR0 HR1 HRs
  go_wp2_with fail
  refine HCall.out.mono ?_
  rintro e w5 ⟨v, bs, nv', rfl, hown, hblk, hmp, hfr, hnb⟩
  rw [HSz.out] at hown
  have hgs := HSs.out
  have hq1 := (hfr.block (W.heap.size + 1) (by have := HSz.out; omega) ⟨by omega, fun e => by cases e⟩).trans HS1.out
  have hB5 := HB3.out.trans (hfr.below (B := W.heap.size) (by have := HSz.out; omega) (fun j hj => ⟨by omega, fun e => by cases e⟩))
  obtain ⟨Ab, cb, rfl⟩ := own_slice hown
  rw [Nat.zero_add, List.nil_append] at hmp
  obtain ⟨An, cn, rfl⟩ := own_slice hmp.own
  have p6 : w5.cell? ⟨w3.heap.size, 0, none⟩ = some (.slice An (listsAll cs) cn) := blk_cell hmp.blk 0
  have hl5 : w3.heap.size < w5.heap.size := blk_lt hmp.blk
  have hl6 : W.heap.size + 1 < w5.heap.size := blk_lt hq1
  have HOwn := Lib.hid hown; have HBlk := Lib.hid hblk; have HMp := Lib.hid hmp; have HQ1 := Lib.hid hq1; have HB5 := Lib.hid hB5; have HP6 := Lib.hid p6
  clear hown hblk hmp hfr hnb hq1 hB5 c7 HCall HB3 HS1 HSz
  go_wp2_with fail
  go_region_with ((go_at_call 15; refine (standard_any _).mono ?_; rintro e w6 ⟨As, ns, cst, rfl, hb6⟩; have p6 : w6.cell? ⟨w3.heap.size, 0, none⟩ = some (.slice An (listsAll cs) cn) := (hb6.cell (p := ⟨w3.heap.size, 0, none⟩) hl5).trans HP6.out; have p0 : w6.cell? ⟨W.heap.size + 1, 0, none⟩ = some (.slice none 0 0) := blk_cell ((hb6.block _ hl6).trans HQ1.out) 0; have p1 : w6.cell? ⟨W.heap.size + 1, 1, none⟩ = some (.slice none 0 0) := blk_cell ((hb6.block _ hl6).trans HQ1.out) 1; have p2 : w6.cell? ⟨W.heap.size + 1, 2, none⟩ = some (.slice none 0 0) := blk_cell ((hb6.block _ hl6).trans HQ1.out) 2; have f0 : w6.frozen? ⟨W.heap.size + 1, 0, none⟩ = false := blk_frozen ((hb6.block _ hl6).trans HQ1.out) 0; have f1 : w6.frozen? ⟨W.heap.size + 1, 1, none⟩ = false := blk_frozen ((hb6.block _ hl6).trans HQ1.out) 1; have f2 : w6.frozen? ⟨W.heap.size + 1, 2, none⟩ = false := blk_frozen ((hb6.block _ hl6).trans HQ1.out) 2; have HB6 : Hid (Below w5.heap.size w5 w6) := Lib.hid ⟨hb6.os, hb6.tape, hb6.output, hb6.size, hb6.block⟩; have HQ6 := Lib.hid ((hb6.block _ hl6).trans HQ1.out); clear hb6))
  all_goals
    have hm := map_end (As := As) (ns := ns) (cst := cst) HSs.out HSs.out HB5.out HOwn.out HBlk.out HMp.out HB6.out
    have HE := Lib.hid (three_end (.slice Ab cs.length cb) (.slice An (listsAll cs) cn) (.slice As ns cst) (below_then HB5.out HB5.out.size HB6.out) HQ6.out)
    have HM := Lib.hid hm; clear hm
    go_wp2_with fail
    clear p0 p1 p2 f0 f1 f2 p6
    obtain ⟨hc, r0, r1, r2⟩ := HE.out
    clear HE
    have hm := HM.out; clear HM
    generalize (((w6.setCell ⟨W.heap.size + 1, 0, none⟩ (.slice Ab cs.length cb)).setCell ⟨W.heap.size + 1, 1, none⟩ (.slice An (listsAll cs) cn)).setCell ⟨W.heap.size + 1, 2, none⟩ (.slice As ns cst)) = wz at hc r0 r1 r2 hm ⊢
    have HM := Lib.hid hm; clear hm
    refine bodyPost_ret (by simp [results, Tryz.results7, go_sem, r0, r1, r2]; try rfl) rfl ?_
    exact HM.out
end Go.Proofs.YtekpoglbpjodkaaGreatDoor
