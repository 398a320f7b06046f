/- tree.blocks of normal chains: the same chains, in memory of its own. -/
import Derived.Test.YtekpoglbpjodkaaGreatDoorNRows
namespace Go.Proofs.YtekpoglbpjodkaaGreatDoor
open Go.RowKit Go.Proofs.YtekpoglbpjodkaaGreatDoorW.PrintWords

theorem info_node : (Tryz.prog.info? 24).map (fun i => (i.zero, i.size, i.bytes)) = some (some (.agg #[.int .i64 0, .int .i64 0, .bool false, .bool false, .string ⟨#[]⟩, .string ⟨#[]⟩, .string ⟨#[]⟩, .slice none 0 0]), 8, 96) := by kernel_rfl
/-- A layer of a normal document. -/
def NormLay (x : Lay) : Prop := ((x.k = 4 ∨ x.k = 6 ∨ x.k = 8) ∧ x.n = 0 ∧ x.f = false) ∨ (x.k = 7 ∧ x.f = false ∧ x.n = 0) ∨ (x.k = 7 ∧ x.f = true ∧ 0 ≤ x.n ∧ x.n ≤ 999999999)
/-- What tree.blocks gives of a row of chains. -/
def TBlocksOk (cs : List Chain) : Prop := ∀ (W : World) (A : Option Addr) (m c : Nat), KidsAt W cs A m →
  Calls Tryz.prog 31 #[.slice A m c] W fun e w' => ∃ A' c', e = .returned (.slice A' m c') ∧ KidsIn w' (fun b => W.heap.size ≤ b) cs A' m ∧ Below W.heap.size W w'

theorem row_step {W W1 : World} {base : Nat} {v v1 : Value} {cs : List Chain} {es : List El} (h : RowTo W base v cs es) (hb : ∀ k, k < W.heap.size → base ≤ k → some k ≠ v.ownBlock → some k ≠ v1.ownBlock ∧ W1.heap[k]? = W.heap[k]?) : RowTo W1 base v1 cs es := by
  refine ⟨h.1, fun i hi h2 => ?_⟩
  obtain ⟨r, e, hr⟩ := h.2 i hi h2
  exact ⟨r, e, hr.of fun k hk hP => ⟨⟨hP.1, (hb k hk hP.1 hP.2).1⟩, (hb k hk hP.1 hP.2).2⟩⟩
theorem row_snoc {W : World} {base : Nat} {v : Value} {cs : List Chain} {es : List El} (h : RowTo W base v cs es) (e : El) (r : Chain) (hk : es.length < cs.length) (he : cs[es.length] = e.x :: r) (hr : RestIn W (fun b => base ≤ b ∧ some b ≠ v.ownBlock) r e.A e.m) : RowTo W base v cs (es ++ [e]) := by
  refine ⟨by simp; omega, fun i hi h2 => ?_⟩
  by_cases hl : i < es.length
  · obtain ⟨s, e1, h1⟩ := h.2 i hl h2
    exact ⟨s, by rw [List.getElem_append_left hl]; exact e1, by rw [List.getElem_append_left hl]; exact h1⟩
  · obtain rfl : i = es.length := by simp at hi; omega
    exact ⟨r, by simpa using he, by simpa using hr⟩

theorem le_maxLen {n : Nat} (h : n ≤ 1000) : n ≤ maxLen := Nat.le_trans h (by decide)
/-- A new block's cells, as an append asks for them. -/
theorem fresh_cells (w : World) (cs : List Value) (t : TypeId) (B : Nat) (hB : w.heap.size = B) : ∀ j u, cs[j]? = some u → (w.alloc (.cells cs.toArray t)).cell? ((⟨B, 0, none⟩ : Addr).add j) = some u := by
  intro j u h
  subst hB
  rw [add_plain]
  exact new_cells w cs t j u h
/-- What one append leaves. -/
theorem push_end {W W3 w1 : World} {cs : List Chain} {es : List El} {k co : Nat} {Ao : Option Addr} {e : El} {r : Chain} {v' : Value} (hes : es.length = k) (hB3 : Below W.heap.size W W3) (hR3 : RowTo W3 W.heap.size (.slice Ao k co) cs es)
    (hO3 : W3.ownsRow W.heap.size 24 8 (.slice Ao k co) k (elCells es)) (hcs : cs[k]? = some (e.x :: r)) (hr : RestIn W3 (fun b => W.heap.size ≤ b ∧ some b ≠ (Value.slice Ao k co).ownBlock) r e.A e.m)
    (ho : w1.ownsRow W.heap.size 24 8 v' (k + 1) (elCells es ++ e.cells)) (hg : W3.grownBy w1 (Value.slice Ao k co).ownBlock) (hblk : v'.ownBlock = (Value.slice Ao k co).ownBlock ∨ v'.ownBlock = some W3.heap.size) :
    ∃ es' : List El, es'.length = k + 1 ∧ Below W.heap.size W w1 ∧ w1.ownsRow W.heap.size 24 8 v' es'.length (elCells es') ∧ RowTo w1 W.heap.size v' cs es' := by
  have hl : (es ++ [e]).length = k + 1 := by simp [hes]
  obtain ⟨hkl, hck⟩ := List.getElem?_eq_some_iff.1 hcs
  have hstep : ∀ j, j < W3.heap.size → W.heap.size ≤ j → some j ≠ (Value.slice Ao k co).ownBlock → some j ≠ v'.ownBlock ∧ w1.heap[j]? = W3.heap[j]? := fun j hj _ hne => by
    refine ⟨?_, hg.block j hj hne⟩
    rcases hblk with h | h
    · rw [h]; exact hne
    · rw [h]; intro e; injection e with e; omega
  refine ⟨es ++ [e], hl, hB3.grown hg hB3.size (own_base hO3), by rw [hl, elCells_snoc]; exact ho, ?_⟩
  exact row_snoc (row_step hR3 hstep) e r (by rw [hes]; exact hkl) (by simp only [hes]; exact hck) (hr.of fun j hj hP => ⟨⟨hP.1, (hstep j hj hP.1 hP.2).1⟩, (hstep j hj hP.1 hP.2).2⟩)

/-- A node's box, and the box of the node that is to come of it. -/
abbrev boxed (wr : World) (y : Lay) (A1 : Option Addr) (m1 c1 : Nat) (x : Lay) : World := (wr.alloc (.cells (nodeCells y A1 m1 c1) 24)).alloc (.cells (nodeCells x none 0 0) 24)
theorem boxed_below (wr : World) (y : Lay) (A1 : Option Addr) (m1 c1 : Nat) (x : Lay) : Below wr.heap.size wr (boxed wr y A1 m1 c1 x) := below_alloc (below_alloc (Below.refl _ wr) _) _
theorem boxed_size (wr : World) (y : Lay) (A1 : Option Addr) (m1 c1 : Nat) (x : Lay) : (boxed wr y A1 m1 c1 x).heap.size = wr.heap.size + 1 + 1 := by rw [World.size_alloc, World.size_alloc]
theorem boxed_first (wr : World) (y : Lay) (A1 : Option Addr) (m1 c1 : Nat) (x : Lay) : (boxed wr y A1 m1 c1 x).heap[wr.heap.size]? = some (.cells (nodeCells y A1 m1 c1) 24 (0, 0)) :=
  ((below_alloc (Below.refl _ (wr.alloc (.cells (nodeCells y A1 m1 c1) 24))) _).block _ (by rw [World.size_alloc]; exact Nat.lt_succ_self _)).trans (heap_alloc_new wr _)
theorem boxed_second (wr : World) (y : Lay) (A1 : Option Addr) (m1 c1 : Nat) (x : Lay) : (boxed wr y A1 m1 c1 x).heap[wr.heap.size + 1]? = some (.cells (nodeCells x none 0 0) 24 (0, 0)) := by
  have := heap_alloc_new (wr.alloc (.cells (nodeCells y A1 m1 c1) 24)) (.cells (nodeCells x none 0 0) 24)
  rwa [World.size_alloc] at this
theorem list_mid {wr w2 : World} {y x : Lay} {A1 : Option Addr} {m1 c1 : Nat} (hb2 : Below (boxed wr y A1 m1 c1 x).drew.heap.size (boxed wr y A1 m1 c1 x).drew w2) :
    Below (boxed wr y A1 m1 c1 x).heap.size (boxed wr y A1 m1 c1 x) w2 ∧ w2.heap[wr.heap.size]? = some (.cells (nodeCells y A1 m1 c1) 24 (0, 0)) ∧ w2.heap[wr.heap.size + 1]? = some (.cells (nodeCells x none 0 0) 24 (0, 0)) := by
  have hb3 : Below (boxed wr y A1 m1 c1 x).heap.size (boxed wr y A1 m1 c1 x) w2 := (below_drew (Below.refl _ (boxed wr y A1 m1 c1 x))).trans hb2
  exact ⟨hb3, (hb3.block _ (by rw [boxed_size]; omega)).trans (boxed_first wr y A1 m1 c1 x), (hb3.block _ (by rw [boxed_size]; omega)).trans (boxed_second wr y A1 m1 c1 x)⟩
/-- What a call behind two boxes, and a write into the second one, leave of a row under way. -/
theorem push_mid {W wr w2 W3 : World} {cs : List Chain} {es : List El} {k co m1 : Nat} {Ao A' : Option Addr} {r : Chain} {a b : Obj} (hB : Below W.heap.size W wr) (hO : wr.ownsRow W.heap.size 24 8 (.slice Ao k co) k (elCells es)) (hR : RowTo wr W.heap.size (.slice Ao k co) cs es)
    (hb2 : Below ((wr.alloc a).alloc b).heap.size ((wr.alloc a).alloc b) w2) (hk : RestIn w2 (fun j => ((wr.alloc a).alloc b).heap.size ≤ j) r A' m1) (h3 : w2.grownBy W3 (some (wr.heap.size + 1))) :
    Below W.heap.size W W3 ∧ W3.ownsRow W.heap.size 24 8 (.slice Ao k co) k (elCells es) ∧ RowTo W3 W.heap.size (.slice Ao k co) cs es ∧ RestIn W3 (fun j => W.heap.size ≤ j ∧ some j ≠ (Value.slice Ao k co).ownBlock) r A' m1 := by
  have hs : ((wr.alloc a).alloc b).heap.size = wr.heap.size + 1 + 1 := by rw [World.size_alloc, World.size_alloc]
  have hbw : Below wr.heap.size wr w2 := below_then (below_alloc (below_alloc (Below.refl _ wr) a) b) (by omega) hb2
  have hBs := hB.size
  have hlt := own_lt hO
  have hws := hbw.size
  refine ⟨(below_then hB hBs hbw).grown h3 (by omega) (fun j hj => by injection hj with hj; omega), ?_, row_step hR fun j hj _ hne => ⟨hne, (h3.block j (by omega) (fun e => by injection e with e; omega)).trans (hbw.block j hj)⟩, ?_⟩
  · refine own_other (pw_own_below hO hbw) h3 (Or.inr fun e => ?_)
    have := hlt _ e
    omega
  · refine hk.of fun j hj hP => ⟨⟨by omega, fun e => ?_⟩, h3.block j hj (fun e => by injection e with e; omega)⟩
    have := hlt _ e.symm
    omega

set_option maxRecDepth 100000 in
set_option maxHeartbeats 4000000 in
theorem tblocks_row (cs : List Chain) (hih : ∀ x r, x :: r ∈ cs → TBlocksOk (restL r)) (hn : ∀ x r, x :: r ∈ cs → NormLay x ∧ (x.k = 4 → r = [])) (hl : cs.length ≤ 100) : TBlocksOk cs := by
  intro W A m c hk
  obtain ⟨i0, hi, hzz⟩ := Option.map_eq_some_iff.1 info_node
  simp only [Prod.mk.injEq] at hzz
  obtain ⟨hz0, hz1, hz2⟩ := hzz
  have Hz0 := Lib.hid hz0; have Hz1 := Lib.hid hz1; have Hz2 := Lib.hid hz2; have Hi := Lib.hid hi; clear hz0 hz1 hz2 hi
  have hm : m ≤ 100 := by rw [hk.1]; exact hl
  have HK := Lib.hid hk; have HI := Lib.hid hih; have HN := Lib.hid hn; clear hk hih hn hl
  go_enter Tryz.func31, Tryz.ntmps31
  go_wp2
  go_loopw [3, 9] (fun o i wr => ∃ es : List El, es.length ≤ m ∧ i = .int .i64 es.length ∧ Below W.heap.size W wr ∧ wr.ownsRow W.heap.size 24 8 o es.length (elCells es) ∧ RowTo wr W.heap.size o cs es) (fun _ i _ => m - (intOf i).toNat)
  case atStart => exact ⟨[], Nat.zero_le _, rfl, Below.refl _ _, own_nil _ _ _ _, Nat.zero_le _, fun i hi _ => absurd hi (Nat.not_lt_zero _)⟩
  case round =>
    obtain ⟨es, hk, rfl, hB, hO, hR⟩ := hrel
    by_cases hlt : es.length < m
    · obtain ⟨g, rfl, hg⟩ := HK.out.2 (by omega)
      have hkl : es.length < cs.length := by rw [← HK.out.1]; exact hlt
      obtain ⟨y, r, A1, m1, c1, e1, e2, e3⟩ := hg es.length hkl
      obtain ⟨hny, hnr⟩ := HN.out y r (by rw [← e1]; exact List.getElem_mem hkl)
      have hih := HI.out y r (by rw [← e1]; exact List.getElem_mem hkl)
      obtain ⟨q0, q1, q2, q3, q4, q5, q6, q7⟩ := e2.of (hB.block g e2.lt)
      obtain ⟨Ao, co, rfl⟩ := own_slice hO
      have HO := Lib.hid hO; have HB := Lib.hid hB; have HR := Lib.hid hR; have E1 := Lib.hid (show cs[es.length]? = some (y :: r) by rw [List.getElem?_eq_getElem hkl, e1]); have E3 := Lib.hid e3; have HIH := Lib.hid hih; have HNR := Lib.hid hnr
      clear hO hB hR e1 e2 e3 hg hih hnr
      have HKL := Lib.hid hkl; clear hkl
      generalize hes : es.length = k at *
      have HES := Lib.hid hes; clear hes
      have H63 := Lib.hid (le_maxLen (show k + 1 ≤ 1000 by omega))
      have HBy := Lib.hid (show (k + 1) * 96 ≤ 140737488355328 by omega)
      have HWs := Lib.hid HB.out.size
      rcases hny with ⟨h4, hy0, hyf⟩ | ⟨h1, hyf, hy0⟩ | ⟨h1, hyf, hy0, hy1⟩
      · have HE := Lib.hid (show y = ⟨y.k, 0, false⟩ by cases y; simp_all)
        clear hy0 hyf
        have hb2 : (y.k == 2) = false := by rcases h4 with h | h | h <;> rw [h] <;> rfl
        have hb3 : (y.k == 3) = false := by rcases h4 with h | h | h <;> rw [h] <;> rfl
        have hb5 : (y.k == 5) = false := by rcases h4 with h | h | h <;> rw [h] <;> rfl
        have hb7 : (y.k == 7) = false := by rcases h4 with h | h | h <;> rw [h] <;> rfl
        rcases h4 with h1 | h68
        · have hb6 : (y.k == 6) = false := by rw [h1]; rfl
          have hb8 : (y.k == 8) = false := by rw [h1]; rfl
          have HRE := Lib.hid (HNR.out h1)
          clear h1
          have HNew := Lib.hid (fresh_cells ((wr.alloc (.cells (nodeCells y A1 m1 c1) 24)).alloc (.cells (nodeCells ⟨y.k, 0, false⟩ none 0 0) 24)) (El.cells ⟨⟨y.k, 0, false⟩, none, 0, 0⟩) 24 (wr.heap.size + 1 + 1) (by rw [World.size_alloc, World.size_alloc]))
          have HOA := Lib.hid (own_alloc (own_alloc (own_alloc HO.out (.cells (nodeCells y A1 m1 c1) 24)) (.cells (nodeCells ⟨y.k, 0, false⟩ none 0 0) 24)) (.cells (nodeCells ⟨y.k, 0, false⟩ none 0 0) 24))
          have HB3 := Lib.hid (below_then HB.out HB.out.size (below_alloc (below_alloc (below_alloc (Below.refl _ wr) (.cells (nodeCells y A1 m1 c1) 24)) (.cells (nodeCells ⟨y.k, 0, false⟩ none 0 0) 24)) (.cells (nodeCells ⟨y.k, 0, false⟩ none 0 0) 24)))
          have HR3 := Lib.hid (row_step (W1 := ((wr.alloc (.cells (nodeCells y A1 m1 c1) 24)).alloc (.cells (nodeCells ⟨y.k, 0, false⟩ none 0 0) 24)).alloc (.cells (nodeCells ⟨y.k, 0, false⟩ none 0 0) 24)) (v1 := .slice Ao k co) HR.out fun j hj _ hne => ⟨hne, (below_alloc (below_alloc (below_alloc (Below.refl _ wr) _) _) _).block j hj⟩)
          go_wp2_with (at_builtin; go_loud (refine wpList_append_own_at _ rfl _ _ 22 rfl W.heap.size 24 i0 _ 8 96 Tryz.underlying22 Hi.out Hz0.out Hz1.out Hz2.out rfl (by decide) _ k (elCells es) rfl HOA.out ⟨wr.heap.size + 1 + 1, 0, none⟩ 1 1 (El.cells ⟨⟨y.k, 0, false⟩, none, 0, 0⟩) rfl rfl HNew.out (el_one _) H63.out HBy.out HB3.out.size ?_; intro v' w3 ho hg hnil hblk; have HP := Lib.hid (push_end HES.out HB3.out HR3.out HOA.out (by rw [E1.out, HE.out]) (show RestIn _ _ r none 0 by rw [HRE.out]; rfl) ho hg hblk); clear ho hg hnil hblk))
          clear q0 q1 q2 q3 q4 q5 q6 q7
          go_roundw
          case rel =>
            obtain ⟨es', e1, e2, e3, e4⟩ := HP.out
            exact ⟨es', by omega, by rw [e1]; go_num, e2, e3, e4⟩
          case measure => simp [intOf]; omega
        · rcases h68 with h1 | h1
          · skip
            have hb4 : (y.k == 4) = false := by rw [h1]; rfl
            have hb6 : (y.k == 6) = true := by rw [h1]; rfl
            have hb8 : (y.k == 8) = false := by rw [h1]; rfl
            clear h1
            go_wp2_with fail
            clear q0 q1 q2 q3 q4 q5 q6 q7
            refine (HIH.out _ A1 m1 c1 (E3.out.of fun j hj => (below_alloc (below_alloc (Below.refl _ wr) (.cells (nodeCells y A1 m1 c1) 24)) (.cells (nodeCells ⟨y.k, 0, false⟩ none 0 0) 24)).block j (Nat.lt_of_lt_of_le hj HB.out.size) |>.trans (HB.out.block j hj)).kids).mono ?_
            rintro e w2 ⟨A', c', rfl, hk2, hb2⟩
            have hs2 : ((wr.alloc (.cells (nodeCells y A1 m1 c1) 24)).alloc (.cells (nodeCells ⟨y.k, 0, false⟩ none 0 0) 24)).heap.size = wr.heap.size + 1 + 1 := by rw [World.size_alloc, World.size_alloc]
            have hbx : w2.heap[wr.heap.size + 1]? = some (.cells (nodeCells ⟨y.k, 0, false⟩ none 0 0) 24 (0, 0)) := by
              rw [hb2.block _ (by rw [hs2]; omega)]
              have := heap_alloc_new (wr.alloc (.cells (nodeCells y A1 m1 c1) 24)) (.cells (nodeCells ⟨y.k, 0, false⟩ none 0 0) 24)
              rwa [World.size_alloc] at this
            have hgr : w2.grownBy ((w2.setCell ⟨wr.heap.size + 1, 7, none⟩ (.slice A' m1 c')).alloc (.cells (nodeCells ⟨y.k, 0, false⟩ A' m1 c') 24)) (some (wr.heap.size + 1)) := gtrans (gset (grown_of_below (Below.refl _ w2) _) 7 _) (grown_of_below (below_alloc (Below.refl _ _) _) _)
            have HM := Lib.hid (push_mid HB.out HO.out HR.out hb2 hk2.one hgr)
            have p0 : w2.cell? ⟨wr.heap.size + 1, 0, none⟩ = some (.int .i64 y.k) := blk_cell hbx 0
            have p1 : w2.cell? ⟨wr.heap.size + 1, 1, none⟩ = some (.int .i64 0) := blk_cell hbx 1
            have p2 : w2.cell? ⟨wr.heap.size + 1, 2, none⟩ = some (.bool false) := blk_cell hbx 2
            have p3 : w2.cell? ⟨wr.heap.size + 1, 3, none⟩ = some (.bool false) := blk_cell hbx 3
            have p4 : w2.cell? ⟨wr.heap.size + 1, 4, none⟩ = some (.string ⟨#[]⟩) := blk_cell hbx 4
            have p5 : w2.cell? ⟨wr.heap.size + 1, 5, none⟩ = some (.string ⟨#[]⟩) := blk_cell hbx 5
            have p6 : w2.cell? ⟨wr.heap.size + 1, 6, none⟩ = some (.string ⟨#[]⟩) := blk_cell hbx 6
            have p7 : w2.cell? ⟨wr.heap.size + 1, 7, none⟩ = some (.slice none 0 0) := blk_cell hbx 7
            have pf : w2.frozen? ⟨wr.heap.size + 1, 7, none⟩ = false := blk_frozen hbx 7
            have HNew := Lib.hid (fresh_cells (w2.setCell ⟨wr.heap.size + 1, 7, none⟩ (.slice A' m1 c')) (El.cells ⟨⟨y.k, 0, false⟩, A', m1, c'⟩) 24 w2.heap.size (by simp [World.setCell]))
            clear hbx hgr hb2 hk2 hs2
            go_wp2_with (at_builtin; go_loud (refine wpList_append_own_at _ rfl _ _ 22 rfl W.heap.size 24 i0 _ 8 96 Tryz.underlying22 Hi.out Hz0.out Hz1.out Hz2.out rfl (by decide) _ k (elCells es) rfl HM.out.2.1 ⟨w2.heap.size, 0, none⟩ 1 1 (El.cells ⟨⟨y.k, 0, false⟩, A', m1, c'⟩) rfl rfl HNew.out (el_one _) H63.out HBy.out HM.out.1.size ?_; intro v' w3 ho hg hnil hblk; have HP := Lib.hid (push_end HES.out HM.out.1 HM.out.2.2.1 HM.out.2.1 (by rw [E1.out, HE.out]) HM.out.2.2.2 ho hg hblk); clear ho hg hnil hblk))
            go_roundw
            case rel =>
              obtain ⟨es', e1, e2, e3, e4⟩ := HP.out
              exact ⟨es', by omega, by rw [e1]; go_num, e2, e3, e4⟩
            case measure => simp [intOf]; omega
          · skip
            have hb4 : (y.k == 4) = false := by rw [h1]; rfl
            have hb6 : (y.k == 6) = false := by rw [h1]; rfl
            have hb8 : (y.k == 8) = true := by rw [h1]; rfl
            clear h1
            go_wp2_with fail
            clear q0 q1 q2 q3 q4 q5 q6 q7
            refine (HIH.out _ A1 m1 c1 (E3.out.of fun j hj => (below_alloc (below_alloc (Below.refl _ wr) (.cells (nodeCells y A1 m1 c1) 24)) (.cells (nodeCells ⟨y.k, 0, false⟩ none 0 0) 24)).block j (Nat.lt_of_lt_of_le hj HB.out.size) |>.trans (HB.out.block j hj)).kids).mono ?_
            rintro e w2 ⟨A', c', rfl, hk2, hb2⟩
            have hs2 : ((wr.alloc (.cells (nodeCells y A1 m1 c1) 24)).alloc (.cells (nodeCells ⟨y.k, 0, false⟩ none 0 0) 24)).heap.size = wr.heap.size + 1 + 1 := by rw [World.size_alloc, World.size_alloc]
            have hbx : w2.heap[wr.heap.size + 1]? = some (.cells (nodeCells ⟨y.k, 0, false⟩ none 0 0) 24 (0, 0)) := by
              rw [hb2.block _ (by rw [hs2]; omega)]
              have := heap_alloc_new (wr.alloc (.cells (nodeCells y A1 m1 c1) 24)) (.cells (nodeCells ⟨y.k, 0, false⟩ none 0 0) 24)
              rwa [World.size_alloc] at this
            have hgr : w2.grownBy ((w2.setCell ⟨wr.heap.size + 1, 7, none⟩ (.slice A' m1 c')).alloc (.cells (nodeCells ⟨y.k, 0, false⟩ A' m1 c') 24)) (some (wr.heap.size + 1)) := gtrans (gset (grown_of_below (Below.refl _ w2) _) 7 _) (grown_of_below (below_alloc (Below.refl _ _) _) _)
            have HM := Lib.hid (push_mid HB.out HO.out HR.out hb2 hk2.one hgr)
            have p0 : w2.cell? ⟨wr.heap.size + 1, 0, none⟩ = some (.int .i64 y.k) := blk_cell hbx 0
            have p1 : w2.cell? ⟨wr.heap.size + 1, 1, none⟩ = some (.int .i64 0) := blk_cell hbx 1
            have p2 : w2.cell? ⟨wr.heap.size + 1, 2, none⟩ = some (.bool false) := blk_cell hbx 2
            have p3 : w2.cell? ⟨wr.heap.size + 1, 3, none⟩ = some (.bool false) := blk_cell hbx 3
            have p4 : w2.cell? ⟨wr.heap.size + 1, 4, none⟩ = some (.string ⟨#[]⟩) := blk_cell hbx 4
            have p5 : w2.cell? ⟨wr.heap.size + 1, 5, none⟩ = some (.string ⟨#[]⟩) := blk_cell hbx 5
            have p6 : w2.cell? ⟨wr.heap.size + 1, 6, none⟩ = some (.string ⟨#[]⟩) := blk_cell hbx 6
            have p7 : w2.cell? ⟨wr.heap.size + 1, 7, none⟩ = some (.slice none 0 0) := blk_cell hbx 7
            have pf : w2.frozen? ⟨wr.heap.size + 1, 7, none⟩ = false := blk_frozen hbx 7
            have HNew := Lib.hid (fresh_cells (w2.setCell ⟨wr.heap.size + 1, 7, none⟩ (.slice A' m1 c')) (El.cells ⟨⟨y.k, 0, false⟩, A', m1, c'⟩) 24 w2.heap.size (by simp [World.setCell]))
            clear hbx hgr hb2 hk2 hs2
            go_wp2_with (at_builtin; go_loud (refine wpList_append_own_at _ rfl _ _ 22 rfl W.heap.size 24 i0 _ 8 96 Tryz.underlying22 Hi.out Hz0.out Hz1.out Hz2.out rfl (by decide) _ k (elCells es) rfl HM.out.2.1 ⟨w2.heap.size, 0, none⟩ 1 1 (El.cells ⟨⟨y.k, 0, false⟩, A', m1, c'⟩) rfl rfl HNew.out (el_one _) H63.out HBy.out HM.out.1.size ?_; intro v' w3 ho hg hnil hblk; have HP := Lib.hid (push_end HES.out HM.out.1 HM.out.2.2.1 HM.out.2.1 (by rw [E1.out, HE.out]) HM.out.2.2.2 ho hg hblk); clear ho hg hnil hblk))
            go_roundw
            case rel =>
              obtain ⟨es', e1, e2, e3, e4⟩ := HP.out
              exact ⟨es', by omega, by rw [e1]; go_num, e2, e3, e4⟩
            case measure => simp [intOf]; omega
      · have HE := Lib.hid (show y = ⟨y.k, 0, false⟩ by cases y; simp_all)
        clear hy0
        have hb2 : (y.k == 2) = false := by rw [h1]; rfl
        have hb3 : (y.k == 3) = false := by rw [h1]; rfl
        have hb4 : (y.k == 4) = false := by rw [h1]; rfl
        have hb5 : (y.k == 5) = false := by rw [h1]; rfl
        have hb6 : (y.k == 6) = false := by rw [h1]; rfl
        have hb7 : (y.k == 7) = true := by rw [h1]; rfl
        have hb8 : (y.k == 8) = false := by rw [h1]; rfl
        clear h1
        go_wp2_with fail
        clear q0 q1 q2 q3 q4 q5 q6 q7
        go_region_with (go_at_call 31; go_must (refine (HIH.out (boxed wr ⟨y.k, y.n, false⟩ A1 m1 c1 ⟨y.k, 0, false⟩).drew A1 m1 c1 (RestAt.of (W1 := (boxed wr ⟨y.k, y.n, false⟩ A1 m1 c1 ⟨y.k, 0, false⟩).drew) (fun j hj => ((boxed_below wr ⟨y.k, y.n, false⟩ A1 m1 c1 ⟨y.k, 0, false⟩).block j (Nat.lt_of_lt_of_le hj HB.out.size)).trans (HB.out.block j hj)) E3.out).kids).mono ?_); rintro e w2 ⟨A', c', rfl, hk2, hb2⟩; obtain ⟨hb3, hnb, hbx⟩ := list_mid hb2; have HB3 := Lib.hid hb3; have HK2 := Lib.hid hk2.one; have n2 : w2.cell? ⟨wr.heap.size, 2, none⟩ = some (.bool false) := blk_cell hnb 2; have n7 : w2.cell? ⟨wr.heap.size, 7, none⟩ = some (.slice A1 m1 c1) := blk_cell hnb 7; have HBX := Lib.hid hbx; have p2 : w2.cell? ⟨wr.heap.size + 1, 2, none⟩ = some (.bool false) := blk_cell hbx 2; have p7 : w2.cell? ⟨wr.heap.size + 1, 7, none⟩ = some (.slice none 0 0) := blk_cell hbx 7; have pf2 : w2.frozen? ⟨wr.heap.size + 1, 2, none⟩ = false := blk_frozen hbx 2; have pf7 : w2.frozen? ⟨wr.heap.size + 1, 7, none⟩ = false := blk_frozen hbx 7; clear hb2 hk2 hb3 hbx hnb)
        all_goals (
          have hbx := HBX.out
          have hgr : w2.grownBy (((w2.setCell ⟨wr.heap.size + 1, 2, none⟩ (.bool false)).setCell ⟨wr.heap.size + 1, 7, none⟩ (.slice A' m1 c')).alloc (.cells (nodeCells ⟨y.k, 0, false⟩ A' m1 c') 24)) (some (wr.heap.size + 1)) := gtrans (gset (gset (grown_of_below (Below.refl _ w2) _) 2 _) 7 _) (grown_of_below (below_alloc (Below.refl _ _) _) _)
          have HM := Lib.hid (push_mid HB.out HO.out HR.out HB3.out HK2.out hgr)
          have p0 : w2.cell? ⟨wr.heap.size + 1, 0, none⟩ = some (.int .i64 y.k) := blk_cell hbx 0
          have p1 : w2.cell? ⟨wr.heap.size + 1, 1, none⟩ = some (.int .i64 0) := blk_cell hbx 1
          have p3 : w2.cell? ⟨wr.heap.size + 1, 3, none⟩ = some (.bool false) := blk_cell hbx 3
          have p4 : w2.cell? ⟨wr.heap.size + 1, 4, none⟩ = some (.string ⟨#[]⟩) := blk_cell hbx 4
          have p5 : w2.cell? ⟨wr.heap.size + 1, 5, none⟩ = some (.string ⟨#[]⟩) := blk_cell hbx 5
          have p6 : w2.cell? ⟨wr.heap.size + 1, 6, none⟩ = some (.string ⟨#[]⟩) := blk_cell hbx 6
          have HNew := Lib.hid (fresh_cells ((w2.setCell ⟨wr.heap.size + 1, 2, none⟩ (.bool false)).setCell ⟨wr.heap.size + 1, 7, none⟩ (.slice A' m1 c')) (El.cells ⟨⟨y.k, 0, false⟩, A', m1, c'⟩) 24 w2.heap.size (by simp [World.setCell]))
          clear hbx hgr
          go_wp2_with (at_builtin; go_loud (refine wpList_append_own_at _ rfl _ _ 22 rfl W.heap.size 24 i0 _ 8 96 Tryz.underlying22 Hi.out Hz0.out Hz1.out Hz2.out rfl (by decide) _ k (elCells es) rfl HM.out.2.1 ⟨w2.heap.size, 0, none⟩ 1 1 (El.cells ⟨⟨y.k, 0, false⟩, A', m1, c'⟩) rfl rfl HNew.out (el_one _) H63.out HBy.out HM.out.1.size ?_; intro v' w3 ho hg hnil hblk; have HP := Lib.hid (push_end HES.out HM.out.1 HM.out.2.2.1 HM.out.2.1 (by rw [E1.out, HE.out]) HM.out.2.2.2 ho hg hblk); clear ho hg hnil hblk))
          go_roundw
          case rel =>
            obtain ⟨es', e1, e2, e3, e4⟩ := HP.out
            exact ⟨es', by omega, by rw [e1]; go_num, e2, e3, e4⟩
          case measure => simp [intOf]; omega)
      · have HE := Lib.hid (show y = ⟨y.k, y.n, true⟩ by cases y; simp_all)
        have hmx : (if (0 : Int) < y.n then y.n else 0) = y.n := by split <;> omega
        have hb2 : (y.k == 2) = false := by rw [h1]; rfl
        have hb3 : (y.k == 3) = false := by rw [h1]; rfl
        have hb4 : (y.k == 4) = false := by rw [h1]; rfl
        have hb5 : (y.k == 5) = false := by rw [h1]; rfl
        have hb6 : (y.k == 6) = false := by rw [h1]; rfl
        have hb7 : (y.k == 7) = true := by rw [h1]; rfl
        have hb8 : (y.k == 8) = false := by rw [h1]; rfl
        clear h1
        go_wp2_with fail
        clear q0 q1 q2 q3 q4 q5 q6 q7
        go_region_with (go_at_call 31; go_must (refine (HIH.out (boxed wr ⟨y.k, y.n, true⟩ A1 m1 c1 ⟨y.k, 0, false⟩).drew A1 m1 c1 (RestAt.of (W1 := (boxed wr ⟨y.k, y.n, true⟩ A1 m1 c1 ⟨y.k, 0, false⟩).drew) (fun j hj => ((boxed_below wr ⟨y.k, y.n, true⟩ A1 m1 c1 ⟨y.k, 0, false⟩).block j (Nat.lt_of_lt_of_le hj HB.out.size)).trans (HB.out.block j hj)) E3.out).kids).mono ?_); rintro e w2 ⟨A', c', rfl, hk2, hb2⟩; obtain ⟨hb3, hnb, hbx⟩ := list_mid hb2; have HB3 := Lib.hid hb3; have HK2 := Lib.hid hk2.one; have n2 : w2.cell? ⟨wr.heap.size, 2, none⟩ = some (.bool true) := blk_cell hnb 2; have n1 : w2.cell? ⟨wr.heap.size, 1, none⟩ = some (.int .i64 y.n) := blk_cell hnb 1; have pf1 : w2.frozen? ⟨wr.heap.size + 1, 1, none⟩ = false := blk_frozen hbx 1; have n7 : w2.cell? ⟨wr.heap.size, 7, none⟩ = some (.slice A1 m1 c1) := blk_cell hnb 7; have HBX := Lib.hid hbx; have p2 : w2.cell? ⟨wr.heap.size + 1, 2, none⟩ = some (.bool false) := blk_cell hbx 2; have p7 : w2.cell? ⟨wr.heap.size + 1, 7, none⟩ = some (.slice none 0 0) := blk_cell hbx 7; have pf2 : w2.frozen? ⟨wr.heap.size + 1, 2, none⟩ = false := blk_frozen hbx 2; have pf7 : w2.frozen? ⟨wr.heap.size + 1, 7, none⟩ = false := blk_frozen hbx 7; clear hb2 hk2 hb3 hbx hnb)
        all_goals (
          have hbx := HBX.out
          have hgr : w2.grownBy ((((w2.setCell ⟨wr.heap.size + 1, 2, none⟩ (.bool true)).setCell ⟨wr.heap.size + 1, 7, none⟩ (.slice A' m1 c')).setCell ⟨wr.heap.size + 1, 1, none⟩ (.int .i64 y.n)).alloc (.cells (nodeCells ⟨y.k, y.n, true⟩ A' m1 c') 24)) (some (wr.heap.size + 1)) := gtrans (gset (gset (gset (grown_of_below (Below.refl _ w2) _) 2 _) 7 _) 1 _) (grown_of_below (below_alloc (Below.refl _ _) _) _)
          have HM := Lib.hid (push_mid HB.out HO.out HR.out HB3.out HK2.out hgr)
          have p0 : w2.cell? ⟨wr.heap.size + 1, 0, none⟩ = some (.int .i64 y.k) := blk_cell hbx 0
          have p1 : w2.cell? ⟨wr.heap.size + 1, 1, none⟩ = some (.int .i64 0) := blk_cell hbx 1
          have p3 : w2.cell? ⟨wr.heap.size + 1, 3, none⟩ = some (.bool false) := blk_cell hbx 3
          have p4 : w2.cell? ⟨wr.heap.size + 1, 4, none⟩ = some (.string ⟨#[]⟩) := blk_cell hbx 4
          have p5 : w2.cell? ⟨wr.heap.size + 1, 5, none⟩ = some (.string ⟨#[]⟩) := blk_cell hbx 5
          have p6 : w2.cell? ⟨wr.heap.size + 1, 6, none⟩ = some (.string ⟨#[]⟩) := blk_cell hbx 6
          have HNew := Lib.hid (fresh_cells (((w2.setCell ⟨wr.heap.size + 1, 2, none⟩ (.bool true)).setCell ⟨wr.heap.size + 1, 7, none⟩ (.slice A' m1 c')).setCell ⟨wr.heap.size + 1, 1, none⟩ (.int .i64 y.n)) (El.cells ⟨⟨y.k, y.n, true⟩, A', m1, c'⟩) 24 w2.heap.size (by simp [World.setCell]))
          clear hbx hgr
          go_wp2_with (at_builtin; go_loud (refine wpList_append_own_at _ rfl _ _ 22 rfl W.heap.size 24 i0 _ 8 96 Tryz.underlying22 Hi.out Hz0.out Hz1.out Hz2.out rfl (by decide) _ k (elCells es) rfl HM.out.2.1 ⟨w2.heap.size, 0, none⟩ 1 1 (El.cells ⟨⟨y.k, y.n, true⟩, A', m1, c'⟩) rfl rfl HNew.out (el_one _) H63.out HBy.out HM.out.1.size ?_; intro v' w3 ho hg hnil hblk; have HP := Lib.hid (push_end HES.out HM.out.1 HM.out.2.2.1 HM.out.2.1 (by rw [E1.out, HE.out]) HM.out.2.2.2 ho hg hblk); clear ho hg hnil hblk))
          go_roundw
          case rel =>
            obtain ⟨es', e1, e2, e3, e4⟩ := HP.out
            exact ⟨es', by omega, by rw [e1]; go_num, e2, e3, e4⟩
          case measure => simp [intOf]; omega)
    · obtain hkm : es.length = m := by omega
      have HKM := Lib.hid hkm
      obtain ⟨Ao, co, rfl⟩ := own_slice hO
      have HO := Lib.hid hO; have HB := Lib.hid hB; have HR := Lib.hid hR
      clear hO hB hR
      generalize hes : es.length = k at *
      go_wp2
      go_ret
      refine ⟨Ao, co, by rw [← HKM.out]; rfl, ?_, HB.out⟩
      refine ⟨HK.out.1, fun hpos => ?_⟩
      obtain ⟨g, rfl, hgb⟩ : ∃ g, Ao = some ⟨g, 0, none⟩ ∧ W.heap.size ≤ g := by
        rcases HO.out.2 with ⟨e, e0⟩ | ⟨g, cp, cur, e, e0, _⟩
        · have := HKM.out; omega
        · injection e with e1 e2 e3; exact ⟨g, e1, e0⟩
      refine ⟨g, rfl, hgb, fun i hi => ?_⟩
      have hie : i < es.length := by have := HKM.out; have := HK.out.1; omega
      obtain ⟨r, e1, e2⟩ := HR.out.2 i hie hi
      exact ⟨es[i].x, r, es[i].A, es[i].m, es[i].c, e1, own_cells8 HO.out i hie, e2.of fun j _ hP => ⟨hP.1, rfl⟩⟩
end Go.Proofs.YtekpoglbpjodkaaGreatDoor
