/- OutmapNums tells true of every row of numbers and every depth. -/
import Derived.Test.YtekpoglbpjodkaaGreatDoorNums
import Derived.Deep.DeepCutAuto
import Derived.RegionTactic
import Derived.Deep.QuietTactic
import Derived.BigQuiet
namespace Go.Proofs.YtekpoglbpjodkaaGreatDoor
open Go.RowKit Go.Proofs.YtekpoglbpjodkaaGreatDoorW.PrintWords

def flagOf (s : Int) : Bool := bits .and .i64 s 1 == 1
/-- A list's layer, of its sort. -/
def layOf (s : Int) : Lay := ⟨7, if flagOf s = true then bits .and .i64 (s / 2) 16777215 else 0, flagOf s⟩
theorem layOf_ok (s : Int) : ListLay (layOf s) := by
  refine ⟨rfl, ?_⟩
  have := mask_range (s / 2)
  cases h : flagOf s with
  | false => exact Or.inl ⟨h, by simp [layOf, h]⟩
  | true => exact Or.inr ⟨h, by simp [layOf, h]; omega, by simp [layOf, h]; omega⟩
/-- What region 11 leaves: a list about an item about the node. -/
theorem NodeIs.start {w : World} : NodeIs w w.heap.size [ruleLay] (w.alloc (.cells (nodeCells ruleLay none 0 0) 24)) := ⟨ruleLay, [], none, 0, 0, rfl, below_alloc (Below.refl _ w) _, heap_alloc_new w _, rfl⟩
theorem NodeIs.drew {W w : World} {B : Nat} {ch : Chain} (h : NodeIs W B ch w) : NodeIs W B ch w.drew := by
  obtain ⟨x, r, A, m, c, e, hb, hn, hr⟩ := h
  exact ⟨x, r, A, m, c, e, below_drew hb, hn, hr.drew⟩
/-- The list's number is set. -/
theorem NodeIs.setN {W w : World} {B : Nat} {k n : Int} {f : Bool} {r : Chain} (hB : W.heap.size ≤ B) (h : NodeIs W B (⟨k, 0, f⟩ :: r) w) : NodeIs W B (⟨k, n, f⟩ :: r) (w.setCell ⟨B, 1, none⟩ (.int .i64 n)) := by
  obtain ⟨x, s, A, m, c, e, hb, hn, hr⟩ := h
  injection e with e1 e2
  subst e1 e2
  refine ⟨_, _, A, m, c, rfl, hb.setCell hB _, ?_, hr.of fun q hq hp => ⟨hp, Below.heap_setCell _ _ _ _ (by dsimp only; omega)⟩⟩
  have := blk_set hn 1 (.int .i64 n)
  simpa [nodeCells] using this
/-- The node becomes the one kid of an item, that the one of a list: the stores behind the boxes. -/
theorem NodeIs.wrap2b {W wr : World} {B0 : Nat} {x y z : Lay} {r : Chain} {A : Option Addr} {m c : Nat} (hB0 : W.heap.size ≤ B0) (hb : Below W.heap.size W wr) (h : wr.heap[B0]? = some (.cells (nodeCells x A m c) 24 (0, 0))) (hr : RestIn wr (fun b => B0 < b) r A m) :
    NodeIs W B0 (z :: y :: x :: r) (set8 ((wr.alloc (.cells (nodeCells x A m c) 24)).alloc (.cells (nodeCells y (some ⟨wr.heap.size, 0, none⟩) 1 1) 24)) B0 (.int .i64 z.k) (.int .i64 z.n) (.bool z.f) (.bool false) (.string ⟨#[]⟩) (.string ⟨#[]⟩) (.string ⟨#[]⟩) (.slice (some ⟨wr.heap.size + 1, 0, none⟩) 1 1)) := by
  have hlt := blk_lt h
  have ha := below_alloc (below_alloc (Below.refl _ wr) (.cells (nodeCells x A m c) 24)) (.cells (nodeCells y (some ⟨wr.heap.size, 0, none⟩) 1 1) 24)
  refine ⟨z, y :: x :: r, _, _, _, rfl, set8_below (below_then hb hb.size ha) hB0 _ _ _ _ _ _ _ _, set8_is ((ha.block _ hlt).trans h), rfl, wr.heap.size + 1, _, _, _, rfl, (by omega), cells8_of ((set8_far _ _ _ _ _ _ _ _ _ _ _ (by omega)).trans (two_1 wr _ _)), rfl, wr.heap.size, A, m, c, rfl, hlt, cells8_of ((set8_far _ _ _ _ _ _ _ _ _ _ _ (by omega)).trans (two_0 wr _ _)), hr.of fun q hq hp => ⟨hp, (set8_far _ _ _ _ _ _ _ _ _ _ _ (by omega)).trans (ha.block q hq)⟩⟩
/-- One more chain in the row. -/
theorem row_more {W w0 wr w1 : World} {cs : List Chain} {es : List El} {k co : Nat} {Ao : Option Addr} {x : Lay} {r : Chain} {A : Option Addr} {m c : Nat} {v' : Value} (hes : es.length = k) (hB : Below W.heap.size W w0) (hO : w0.ownsRow W.heap.size 24 8 (.slice Ao k co) k (elCells es)) (hR : RowTo w0 W.heap.size (.slice Ao k co) cs es)
    (hb : Below w0.heap.size w0 wr) (hr : RestIn wr (fun b => w0.heap.size < b) r A m) (hcs : cs[k]? = some (x :: r))
    (ho : w1.ownsRow W.heap.size 24 8 v' (k + 1) (elCells es ++ (nodeCells x A m c).toList)) (hg : (wr.alloc (.cells (nodeCells x A m c) 24)).grownBy w1 (Value.slice Ao k co).ownBlock) (hblk : v'.ownBlock = (Value.slice Ao k co).ownBlock ∨ v'.ownBlock = some (wr.alloc (.cells (nodeCells x A m c) 24)).heap.size) :
    ∃ es' : List El, es'.length = k + 1 ∧ Below W.heap.size W w1 ∧ w1.ownsRow W.heap.size 24 8 v' es'.length (elCells es') ∧ RowTo w1 W.heap.size v' cs es' := by
  have ha := below_alloc (Below.refl _ wr) (.cells (nodeCells x A m c) 24)
  have hb3 := below_then hb hb.size ha
  have hlt := own_lt hO
  have hs := hB.size
  refine push_end (e := ⟨x, A, m, c⟩) hes (below_then hB hB.size hb3) (row_step hR fun j hj _ hne => ⟨hne, hb3.block j hj⟩) (pw_own_below hO hb3) hcs (hr.of fun q hq hp => ⟨⟨by omega, fun e => by have := hlt _ e.symm; omega⟩, ha.block q hq⟩) ho hg hblk
theorem RowTo.kids {w : World} {base : Nat} {cs : List Chain} {es : List El} {Ao : Option Addr} {n co : Nat} (hn : es.length = n) (hc : cs.length = n) (hO : w.ownsRow base 24 8 (.slice Ao n co) n (elCells es)) (hR : RowTo w base (.slice Ao n co) cs es) : KidsAt w cs Ao n := by
  refine ⟨hc.symm, fun hpos => ?_⟩
  obtain ⟨g, cap, e, _, _⟩ := hO.form hpos
  injection e with e1 _ _
  subst e1
  refine ⟨g, rfl, fun i hi => ?_⟩
  have hie : i < es.length := by omega
  obtain ⟨r, e1, e2⟩ := hR.2 i hie hi
  have h8 : w.ownsRow base 24 8 (.slice (some ⟨g, 0, none⟩) n co) n (elCells es) := hO
  exact ⟨es[i].x, r, es[i].A, es[i].m, es[i].c, e1, own_cells8 h8 i hie, e2.rest⟩
theorem nums_map {xs : List Lay} {dn : Nat} {cs : List Chain} (hx : ∀ x ∈ xs, ListLay x) (hl : xs.length ≤ 9) (hd : dn ≤ 8) (hcs : rowsN xs (dn + 1) = cs) (A : Option Addr) (m c : Nat) (W : World) (hk : KidsAt W cs A m) :
    Calls Tryz.prog 7 #[mkNode docLay A m c] W (MapOk cs W) := by
  subst hcs
  refine map_ok _ (rowsN_doc hx (by omega) (by omega)) ?_ ?_ ?_ ?_ A m c W hk
  · refine most_le _ _ _ fun ch hch => ?_
    obtain ⟨x, hxm, rfl⟩ := List.mem_map.1 hch
    rw [chN_all (hx x hxm).k]
    omega
  · refine most_le _ _ _ fun ch hch => ?_
    obtain ⟨x, hxm, rfl⟩ := List.mem_map.1 hch
    rw [chN_lists (hx x hxm).k]
    omega
  · rw [rowsN_lists hx]
    exact Nat.le_trans (Nat.mul_le_mul hl (show dn + 1 ≤ 9 by omega)) (by decide)
  · intro ch hch
    obtain ⟨x, hxm, rfl⟩ := List.mem_map.1 hch
    rw [chN_of (hx x hxm).k]
    omega
/-- A number's four cells in a row of numbers. -/
theorem num_cells {w : World} {base g n c t : Nat} {xs : List Value} {x : Lay} {b : Int} (h : w.ownsRow base 43 4 (.slice (some ⟨g, 0, none⟩) n c) n xs) (hx : ∀ cc, cc < 4 → xs[t * 4 + cc]? = (numCells ((t : Int) + 1) x b)[cc]?) :
    w.cell? ⟨g, t * 4, none⟩ = some (.int .i64 ((t : Int) + 1)) ∧ w.cell? ⟨g, t * 4 + 1, none⟩ = some (.bool x.f) ∧ w.cell? ⟨g, t * 4 + 2, none⟩ = some (.int .i64 x.n) ∧ w.cell? ⟨g, t * 4 + 3, none⟩ = some (.int .i64 b) := by
  have q : ∀ j u, j < 4 → (numCells ((t : Int) + 1) x b)[j]? = some u → w.cell? ⟨g, t * 4 + j, none⟩ = some u := fun j u hj hu => by
    have := h.cells (g := g) rfl (t * 4 + j) u (by rw [hx j hj]; exact hu)
    rwa [add_plain] at this
  exact ⟨q 0 _ (by omega) rfl, q 1 _ (by omega) rfl, q 2 _ (by omega) rfl, q 3 _ (by omega) rfl⟩
set_option maxRecDepth 100000 in
set_option maxHeartbeats 8000000 in
theorem nums_in (ad : Addr) (n c : Nat) (zs : List Int) (hzl : zs.length = n) (d : Int) (dn : Nat) (hdn : d = dn) (hn1 : 1 ≤ n) (hn9 : n ≤ 9) (hd0 : 0 ≤ d) (hd8 : d ≤ 8) (W : World) (hz : ∀ i, i < n → W.cell? (ad.add i) = some (.int .i64 (zs.getD i 0))) :
    Calls Tryz.prog 5 #[.slice (some ad) n c, .int .i64 d] W fun e w' => e = .returned (.bool true) ∧ Below W.heap.size W w' := by
  obtain ⟨i0, hi, hzz⟩ := Option.map_eq_some_iff.1 info_node
  simp only [Prod.mk.injEq] at hzz
  obtain ⟨hz0, hz1, hz2⟩ := hzz
  have Hz0 := Lib.hid hz0; have Hz1 := Lib.hid hz1; have Hz2 := Lib.hid hz2; have Hi := Lib.hid hi; clear hz0 hz1 hz2 hi
  have HZ := Lib.hid hz; have HDn := Lib.hid hdn; have HZl := Lib.hid hzl; clear hz hdn hzl
  generalize hcs : rowsN (zs.map layOf) (dn + 1) = cs
  have HCs := Lib.hid hcs; clear hcs
  go_enter Tryz.func5, Tryz.ntmps5
  go_wp2_with fail
  go_loopw [5, 6] (fun v i wr => ∃ es : List El, es.length ≤ n ∧ i = .int .i64 es.length ∧ Below W.heap.size W wr ∧ wr.ownsRow W.heap.size 24 8 v es.length (elCells es) ∧ RowTo wr W.heap.size v cs es) (fun _ i _ => n - (intOf i).toNat)
  case atStart => exact ⟨[], Nat.zero_le _, rfl, Below.refl _ _, own_nil _ _ _ _, Nat.zero_le _, fun i hi _ => absurd hi (Nat.not_lt_zero _)⟩
  case round =>
    obtain ⟨es, hj, rfl, hB, hO, hR⟩ := hrel
    obtain ⟨Ao, co, rfl⟩ := own_slice hO
    have HB := Lib.hid hB; have HO := Lib.hid hO; have HR := Lib.hid hR; clear hB hO hR
    generalize hes : es.length = j at *
    have HEs := Lib.hid hes; clear hes
    by_cases hlt : j < n
    · have hgl := World.block_lt_of_cell? W _ (HZ.out j hlt)
      obtain ⟨x, hx⟩ : ∃ x, x = zs.getD j 0 := ⟨_, rfl⟩
      have HX := Lib.hid hx; clear hx
      have i1 : (0 : Int) ≤ (j : Int) := by omega
      have i2 : (j : Int) < (n : Int) := by omega
      go_wp2_with fail
      obtain ⟨w0, rfl⟩ : ∃ w0 : World, w0 = wr := ⟨_, rfl⟩
      go_loopw [8] (fun i wr => ∃ k : Nat, (k : Int) ≤ d + 1 ∧ i = .int .i64 k ∧ NodeIs w0 w0.heap.size (chN (layOf x) k) wr) (fun i _ => (d + 1 - intOf i).toNat)
      case atStart => exact ⟨0, by omega, rfl, NodeIs.start⟩
      case round =>
        obtain ⟨k, hk, rfl, hN⟩ := hrel
        by_cases hlt2 : (k : Int) ≤ d
        · --BEGIN in
          obtain ⟨y, r, A, m, c', hch, hb, hn, hr⟩ := hN
          have hsz0 := HB.out.size
          have hsz1 := hb.size
          have q : wr.cell? (ad.add j) = some (.int .i64 x) := (hb.cell (p := (ad.add j)) (by have := HB.out.size; omega)).trans ((HB.out.cell (p := (ad.add j)) hgl).trans (by rw [HX.out]; exact HZ.out j hlt))
          have ha := below_alloc (Below.refl _ wr) (.cells (nodeCells y A m c') 24)
          have ha2 := below_alloc ha (.cells (nodeCells itemLay (some ⟨wr.heap.size, 0, none⟩) 1 1) 24)
          have q1 := (ha.cell (p := (ad.add j)) (by omega)).trans q
          have q2 := (ha2.cell (p := (ad.add j)) (by omega)).trans q
          obtain ⟨c0, c1, c2, c3, c4, c5, c6, c7⟩ := cells_of_block hn
          have hn2 := (ha2.block _ (blk_lt hn)).trans hn
          have HW := Lib.hid (NodeIs.drew (NodeIs.wrap2b (y := itemLay) (z := ⟨7, 0, flagOf x⟩) (Nat.le_refl _) hb hn hr))
          have HCh := Lib.hid hch
          unfold set8 nodeCells itemLay flagOf at HW
          unfold nodeCells at q1
          unfold nodeCells itemLay at q2
          unfold nodeCells itemLay at hn2
          obtain ⟨r0, r1, r2, r3, r4, r5, r6, r7⟩ := cells_of_block hn2
          obtain ⟨f0, f1, f2, f3, f4, f5, f6, f7⟩ := frozen8 hn2
          clear hb hn hr hch ha ha2 hn2
          go_upto_region 11 with fail
          go_cut [] (fun wx => NodeIs w0 w0.heap.size (⟨7, 0, flagOf x⟩ :: itemLay :: chN (layOf x) k) wx)
          case first =>
            go_region
            all_goals
              clear c0 c1 c2 c3 c4 c5 c6 c7 f0 f1 f2 f3 f4 f5 f6 f7 q q1 q2 r0 r1 r2 r3 r4 r5 r6 r7
              go_wp2_with fail
              go_meet
              rw [HCh.out]
              exact HW.out
          case rest =>
            obtain ⟨y', r', A, m, c', hch, hb, hn, hr⟩ := hcut
            have HN := Lib.hid (show NodeIs w0 w0.heap.size (⟨7, 0, flagOf x⟩ :: itemLay :: chN (layOf x) k) wc from ⟨y', r', A, m, c', hch, hb, hn, hr⟩)
            injection hch with hy hr'
            subst hy hr'
            clear c0 c1 c2 c3 c4 c5 c6 c7 f0 f1 f2 f3 f4 f5 f6 f7 q q1 q2 r0 r1 r2 r3 r4 r5 r6 r7 HW HCh
            have q : wc.cell? (ad.add j) = some (.int .i64 x) := (hb.cell (p := (ad.add j)) (by omega)).trans ((HB.out.cell (p := (ad.add j)) hgl).trans (by rw [HX.out]; exact HZ.out j hlt))
            have p1 : wc.cell? ⟨w0.heap.size, 1, none⟩ = some (.int .i64 0) := blk_cell hn 1
            have p2 : wc.cell? ⟨w0.heap.size, 2, none⟩ = some (.bool (flagOf x)) := blk_cell hn 2
            have f1 : wc.frozen? ⟨w0.heap.size, 1, none⟩ = false := blk_frozen hn 1
            clear hb hn hr
            by_cases hf : flagOf x = true
            · rw [hf] at p2
              have HL := Lib.hid (show chN (layOf x) (k + 1) = ⟨7, bits .and .i64 (x / 2) 16777215, flagOf x⟩ :: itemLay :: chN (layOf x) k by rw [chN]; simp [layOf, hf])
              have HF := Lib.hid hf; clear hf
              go_wp2_with fail
              clear p1 p2 f1 q
              go_roundw
              case rel => exact ⟨k + 1, by omega, by go_num, by rw [HL.out]; exact HN.out.setN (Nat.le_refl _)⟩
              case measure => simp [intOf]; omega
            · have hf2 : flagOf x = false := by simpa using hf
              rw [hf2] at p2
              have HL := Lib.hid (show chN (layOf x) (k + 1) = ⟨7, 0, flagOf x⟩ :: itemLay :: chN (layOf x) k by rw [chN]; simp [layOf, hf])
              clear hf hf2
              go_wp2_with fail
              clear p1 p2 f1 q
              go_roundw
              case rel => exact ⟨k + 1, by omega, by go_num, by rw [HL.out]; exact HN.out⟩
              case measure => simp [intOf]; omega
        · --BEGIN ap
          obtain rfl : k = dn + 1 := by have := HDn.out; omega
          obtain ⟨y, r, A, m, c', hch, hb, hn, hr⟩ := hN
          obtain ⟨c0, c1, c2, c3, c4, c5, c6, c7⟩ := cells_of_block hn
          have hs0 := HB.out.size
          have hs1 := hb.size
          have HCk := Lib.hid (show cs[j]? = some (y :: r) by
            have h2 := HZl.out
            rw [← HCs.out, rowsN, ← hch, List.getElem?_map, List.getElem?_map, List.getElem?_eq_getElem (by omega)]
            rw [HX.out]
            simp [List.getD_eq_getElem?_getD, List.getElem?_eq_getElem (show j < zs.length by omega)])
          have HOA := Lib.hid (own_alloc (pw_own_below HO.out hb) (.cells (nodeCells y A m c') 24))
          have HNew := Lib.hid (fresh_cells wr (nodeCells y A m c').toList 24 wr.heap.size rfl)
          have H63 := Lib.hid (le_maxLen (show j + 1 ≤ 1000 by omega))
          have HBy := Lib.hid (show (j + 1) * 96 ≤ 140737488355328 by omega)
          have H1c := Lib.hid (el_one ⟨y, A, m, c'⟩)
          have HSz := Lib.hid (show W.heap.size ≤ (wr.alloc (.cells (nodeCells y A m c') 24)).heap.size by rw [World.size_alloc]; omega)
          have HB' := Lib.hid hb; have HR' := Lib.hid hr
          clear hb hn hr hch
          go_wp2_with (at_builtin; go_loud (refine wpList_append_own_at _ rfl _ _ 22 rfl W.heap.size 24 i0 _ 8 96 Tryz.underlying22 Hi.out Hz0.out Hz1.out Hz2.out rfl (by decide) _ j (elCells es) rfl HOA.out ⟨wr.heap.size, 0, none⟩ 1 1 (nodeCells y A m c').toList rfl rfl HNew.out H1c.out H63.out HBy.out HSz.out ?_; intro v' w3 ho hg hnil hblk; have HP := Lib.hid (row_more HEs.out HB.out HO.out HR.out HB'.out HR'.out HCk.out ho hg hblk); clear ho hg hnil hblk))
          clear c0 c1 c2 c3 c4 c5 c6 c7
          go_roundw
          case rel =>
            obtain ⟨es', e1, e2, e3, e4⟩ := HP.out
            exact ⟨es', by omega, by rw [e1]; go_num, e2, e3, e4⟩
          case measure => simp [intOf]; omega
    · obtain rfl : j = n := by omega
      have hle : cs.length = j := by rw [← HCs.out, rowsN, List.length_map, List.length_map]; exact HZl.out
      have HKd := Lib.hid (RowTo.kids HEs.out hle HO.out HR.out)
      have hlay : ∀ x ∈ zs.map layOf, ListLay x := fun x hx => by
        obtain ⟨s, _, rfl⟩ := List.mem_map.1 hx
        exact layOf_ok s
      have hzl := HZl.out
      have hdn8 : dn ≤ 8 := by have := HDn.out; omega
      have HM := Lib.hid (nums_map hlay (by rw [List.length_map]; omega) hdn8 HCs.out Ao j co wr HKd.out)
      have hM := rowsN_lists (D := dn + 1) hlay
      rw [HCs.out, List.length_map, hzl] at hM
      have hMb : j * (dn + 1) ≤ 81 := Nat.mul_le_mul (show j ≤ 9 by omega) (show dn + 1 ≤ 9 by omega)
      have hMp : 1 ≤ j * (dn + 1) := Nat.mul_le_mul hn1 (show 1 ≤ dn + 1 by omega)
      have hmul : (j : Int) * (d + 1) = ((j * (dn + 1) : Nat) : Int) := by rw [HDn.out]; push_cast; rfl
      have HAt := Lib.hid (fun a b c (ha : a < (zs.map layOf).length) (hb : b < dn + 1) (hc : c < 4) => numsAll_at (zs.map layOf) (dn + 1) 0 a b c hlay ha hb hc)
      rw [HCs.out] at HAt
      have HHM := Lib.hid hM
      have hMj : j * (dn + 1) = j * (dn + 1) := rfl
      generalize hMM : j * (dn + 1) = M at hM hMb hMp hmul
      have HMj := Lib.hid hMM; clear hMM hMj
      clear hle hlay hzl
      have HM2 := Lib.hid hM; clear hM
      have HKn := Lib.hid known_true
      go_wp2_with fail
      refine HM.out.mono ?_
      rintro e w1 ⟨Ab, cb, An, cn, As, nst, cst, rfl, _, hnums, hb1⟩
      rw [HM2.out] at hnums
      rw [HM2.out]
      obtain ⟨gn, cap, en, _, hgn⟩ := hnums.form hMp
      injection en with e1 e2 e3
      subst e1
      subst e3
      have hbl := below_then HB.out HB.out.size hb1
      have ha := below_alloc (Below.refl _ w1) (.cells #[.slice Ab cs.length cb, .slice (some ⟨gn, 0, none⟩) M cn, .slice As nst cst] 30)
      have hw0 := heap_alloc_new w1 (.cells #[.slice Ab cs.length cb, .slice (some ⟨gn, 0, none⟩) M cn, .slice As nst cst] 30)
      have hws : (w1.alloc (.cells #[.slice Ab cs.length cb, .slice (some ⟨gn, 0, none⟩) M cn, .slice As nst cst] 30)).heap.size = w1.heap.size + 1 := World.size_alloc _ _
      have hn2 := own_alloc hnums (.cells #[.slice Ab cs.length cb, .slice (some ⟨gn, 0, none⟩) M cn, .slice As nst cst] 30)
      have HBW := Lib.hid (below_then hbl hbl.size ha)
      have HNu := Lib.hid hn2; have HW0 := Lib.hid hw0; have HWs := Lib.hid hws
      clear hnums hb1 hbl ha hw0 hws hn2 HB HO HR HKd HM
      go_wp2_with fail
      generalize w1.alloc (.cells #[.slice Ab cs.length cb, .slice (some ⟨gn, 0, none⟩) M cn, .slice As nst cst] 30) = ww at HBW HNu HW0 HWs ⊢
      generalize w1.heap.size = N1 at HW0 HWs ⊢
      go_loopw [11] (fun i wr => ∃ t : Nat, t ≤ M ∧ i = .int .i64 t ∧ Below ww.heap.size ww wr) (fun i _ => M - (intOf i).toNat)
      case atStart => exact ⟨0, Nat.zero_le _, rfl, Below.refl _ _⟩
      case round =>
        obtain ⟨t, ht, rfl, hb⟩ := hrel
        have hws := HWs.out
        have hw1 := (hb.block N1 (by omega)).trans HW0.out
        have c1 : wr.cell? ⟨N1, 1, none⟩ = some (.slice (some ⟨gn, 0, none⟩) M cn) := blk_cell hw1 1
        by_cases hlt : t < M
        · have hdn1 : 0 < dn + 1 := by omega
          have hab : t / (dn + 1) * (dn + 1) + t % (dn + 1) = t := Nat.div_add_mod' t (dn + 1)
          have hbD : t % (dn + 1) < dn + 1 := Nat.mod_lt _ hdn1
          have haj : t / (dn + 1) < j := by
            rw [Nat.div_lt_iff_lt_mul hdn1]
            have := HMj.out
            omega
          have hdiv : (t : Int) / (d + 1) = ((t / (dn + 1) : Nat) : Int) := by rw [HDn.out]; push_cast; rfl
          have hmod : (t : Int) % (d + 1) = ((t % (dn + 1) : Nat) : Int) := by rw [HDn.out]; push_cast; rfl
          have hzl := HZl.out
          have hat := HAt.out (t / (dn + 1)) (t % (dn + 1))
          have hgw : (ad.add (t / (dn + 1))).block < W.heap.size := World.block_lt_of_cell? W _ (HZ.out _ haj)
          have hq : wr.cell? (ad.add (t / (dn + 1))) = some (.int .i64 (zs.getD (t / (dn + 1)) 0)) := (hb.cell (p := (ad.add (t / (dn + 1)))) (by have := HBW.out.size; omega)).trans ((HBW.out.cell (p := (ad.add (t / (dn + 1)))) hgw).trans (HZ.out _ haj))
          have hn := pw_own_below HNu.out hb
          rw [hab] at hat
          have hxs : (zs.map layOf)[t / (dn + 1)]'(by rw [List.length_map]; omega) = layOf (zs.getD (t / (dn + 1)) 0) := by
            simp [List.getD_eq_getElem?_getD, List.getElem?_eq_getElem (show t / (dn + 1) < zs.length by omega)]
          obtain ⟨k0, k1, k2, k3⟩ := num_cells (x := layOf (zs.getD (t / (dn + 1)) 0)) (b := ((t % (dn + 1) : Nat) : Int)) hn (fun cc hc => by rw [hat cc (by rw [List.length_map]; omega) hbD hc, hxs, Nat.zero_add])
          clear hat hn hxs hab
          generalize zs.getD (t / (dn + 1)) 0 = x at hq k1 k2
          generalize t / (dn + 1) = a at hq hdiv haj
          generalize t % (dn + 1) = b at hmod k3 hbD
          have hai : (a : Int) < (j : Int) := by omega
          have hti : (t : Int) < (M : Int) := by omega
          have ht0 : (0 : Int) ≤ (t : Int) := by omega
          have ha0 : (0 : Int) ≤ (a : Int) := by omega
          have hl0 : gn < wr.heap.size := World.block_lt_of_cell? wr _ k0
          have HBr := Lib.hid hb
          clear hb hw1 hws hgw hzl hbD hdn1 haj
          by_cases hf : (bits .and .i64 x 1 == 1) = true
          · have e1 : (layOf x).f = true := hf
            have e2 : (layOf x).n = bits .and .i64 (x / 2) 16777215 := by simp [layOf, flagOf, hf]
            rw [e1] at k1
            rw [e2] at k2
            clear e1 e2
            have ha := below_alloc (Below.refl _ wr) (.cells #[.int .i64 ((t : Int) + 1), .bool true, .int .i64 (bits .and .i64 (x / 2) 16777215), .int .i64 b] 43)
            have K0 := (ha.cell (p := ⟨gn, t * 4, none⟩) hl0).trans k0
            have K1 := (ha.cell (p := ⟨gn, t * 4 + 1, none⟩) hl0).trans k1
            have K2 := (ha.cell (p := ⟨gn, t * 4 + 2, none⟩) hl0).trans k2
            have K3 := (ha.cell (p := ⟨gn, t * 4 + 3, none⟩) hl0).trans k3
            have C1 := (ha.cell (p := ⟨N1, 1, none⟩) (World.block_lt_of_cell? wr _ c1)).trans c1
            have HA := Lib.hid (below_then HBr.out HBr.out.size ha)
            clear ha k0 k1 k2 k3
            go_wp2_with fail
            go_quiet (fail)
            go_wp2_with fail
            go_roundw
            case rel => exact ⟨t + 1, by omega, by go_num, pw_below_drewN HA.out _⟩
            case measure => simp [intOf]; omega
          · have hf2 : (bits .and .i64 x 1 == 1) = false := by simpa using hf
            have e1 : (layOf x).f = false := hf2
            have e2 : (layOf x).n = 0 := by simp [layOf, flagOf, hf2]
            clear hf
            rw [e1] at k1
            rw [e2] at k2
            clear e1 e2
            have ha := below_alloc (Below.refl _ wr) (.cells #[.int .i64 ((t : Int) + 1), .bool false, .int .i64 0, .int .i64 b] 43)
            have K0 := (ha.cell (p := ⟨gn, t * 4, none⟩) hl0).trans k0
            have K1 := (ha.cell (p := ⟨gn, t * 4 + 1, none⟩) hl0).trans k1
            have K2 := (ha.cell (p := ⟨gn, t * 4 + 2, none⟩) hl0).trans k2
            have K3 := (ha.cell (p := ⟨gn, t * 4 + 3, none⟩) hl0).trans k3
            have C1 := (ha.cell (p := ⟨N1, 1, none⟩) (World.block_lt_of_cell? wr _ c1)).trans c1
            have HA := Lib.hid (below_then HBr.out HBr.out.size ha)
            clear ha k0 k1 k2 k3
            go_wp2_with fail
            go_quiet (fail)
            go_wp2_with fail
            go_roundw
            case rel => exact ⟨t + 1, by omega, by go_num, pw_below_drewN HA.out _⟩
            case measure => simp [intOf]; omega
        · obtain rfl : t = M := by omega
          have HBr := Lib.hid (below_then HBW.out HBW.out.size hb)
          clear hb hw1
          go_wp2_with fail
          refine (HKn.out _).mono ?_
          rintro e w2 ⟨rfl, hb2⟩
          go_wp2_with fail
          go_ret
          exact ⟨rfl, bb HBr.out hb2⟩
set_option maxRecDepth 100000 in
set_option maxHeartbeats 4000000 in
theorem nums_out (A : Option Addr) (n c : Nat) (hn : n ≤ 9223372036854775807) (d : Int) (h : n < 1 ∨ 9 < n ∨ d < 0 ∨ 8 < d) (W : World) : Calls Tryz.prog 5 #[.slice A n c, .int .i64 d] W fun e w' => e = .returned (.bool true) ∧ Below W.heap.size W w' := by
  have HK := Lib.hid (known_true W)
  have h' : n < 1 ∨ 1 ≤ n ∧ (9 < n ∨ n ≤ 9 ∧ (d < 0 ∨ 0 ≤ d ∧ 8 < d)) := by omega
  clear h
  rcases h' with a | ⟨a, b | ⟨b, c | ⟨c, d⟩⟩⟩
  all_goals
    go_enter Tryz.func5, Tryz.ntmps5
    go_wp2_with (go_at_call 10; refine HK.out.mono ?_; rintro e w1 ⟨rfl, hb1⟩)
    go_ret
    exact ⟨rfl, hb1⟩
theorem nums_walk (A : Option Addr) (n c : Nat) (zs : List Int) (d : Int) (hzl : zs.length = n) (hn : n ≤ 9223372036854775807) (W : World) (hz : 0 < n → ∃ ad, A = some ad ∧ ∀ i, i < n → W.cell? (ad.add i) = some (.int .i64 (zs.getD i 0))) :
    Calls Tryz.prog 5 #[.slice A n c, .int .i64 d] W fun e w' => e = .returned (.bool true) ∧ Below W.heap.size W w' := by
  by_cases h : n < 1 ∨ 9 < n ∨ d < 0 ∨ 8 < d
  · exact nums_out A n c hn d h W
  · obtain ⟨ad, rfl, hz2⟩ := hz (by omega)
    exact nums_in ad n c zs hzl d d.toNat (by omega) (by omega) (by omega) (by omega) (by omega) W hz2
end Go.Proofs.YtekpoglbpjodkaaGreatDoor
