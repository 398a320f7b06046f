/- tree.blocks of chains, all of it; tree.Same of a chain and its like. -/
import Derived.Test.YtekpoglbpjodkaaGreatDoorTBlocks
namespace Go.Proofs.YtekpoglbpjodkaaGreatDoor
open Go.RowKit Go.Proofs.YtekpoglbpjodkaaGreatDoorW.PrintWords

/-- A normal chain. -/
def NormCh : Chain → Prop
  | [] => True
  | x :: r => NormLay x ∧ (x.k = 4 → r = []) ∧ NormCh r
theorem tblocks_all : ∀ (n : Nat) (cs : List Chain), (∀ ch ∈ cs, ch.length ≤ n ∧ NormCh ch) → cs.length ≤ 100 → TBlocksOk cs
  | 0, cs, h, hl => tblocks_row cs (fun x r hx => by have := (h _ hx).1; simp at this) (fun x r hx => by have := (h _ hx).1; simp at this) hl
  | n + 1, cs, h, hl => tblocks_row cs (fun x r hx => by
      refine tblocks_all n (restL r) (fun ch hch => ?_) (by cases r <;> simp [restL])
      cases r with
      | nil => cases hch
      | cons y s =>
        rw [List.mem_singleton.1 hch]
        have := h _ hx
        exact ⟨by have := this.1; simp at this ⊢; omega, this.2.2.2⟩) (fun x r hx => ⟨(h _ hx).2.1, (h _ hx).2.2.1⟩) hl

/-- Two rows of the same chains. -/
def SameOk (ch : Chain) : Prop := ∀ (W : World) (x : Lay) (r : Chain) (A B : Option Addr) (m c d : Nat), ch = x :: r → RestAt W r A m → RestAt W r B m →
  Calls Tryz.prog 23 #[mkNode x A m c, mkNode x B m d] W fun e w' => e = .returned (.bool true) ∧ Below W.heap.size W w'
set_option maxRecDepth 100000 in
set_option maxHeartbeats 4000000 in
theorem equalFunc_rows (cs : List Chain) (hcs : ∀ ch ∈ cs, SameOk ch) (A B : Option Addr) (m c d : Nat) (W : World) (ha : KidsAt W cs A m) (hb : KidsAt W cs B m) (hm : m ≤ 100) :
    Calls Tryz.prog 32 #[.slice A m c, .slice B m d, .func (.func 23) #[] #[]] W fun e w' => e = .returned (.bool true) ∧ Below W.heap.size W w' := by
  have HA := Lib.hid ha; have HB := Lib.hid hb; have HC := Lib.hid hcs; clear ha hb hcs
  go_enter Tryz.func32, Tryz.ntmps32
  go_wp2
  go_loopw [17] (fun i wr => ∃ k : Nat, k ≤ m ∧ i = .int .i64 k ∧ Below W.heap.size W wr) (fun i _ => m - (intOf i).toNat)
  case atStart => exact ⟨0, Nat.zero_le _, rfl, Below.refl _ _⟩
  case round =>
    obtain ⟨k, hk, rfl, hBw⟩ := hrel
    by_cases hlt : k < m
    · obtain ⟨g, rfl, hg⟩ := HA.out.2 (by omega)
      obtain ⟨g2, rfl, hg2⟩ := HB.out.2 (by omega)
      have hkl : k < cs.length := by rw [← HA.out.1]; exact hlt
      obtain ⟨y, r, A1, m1, c1, e1, e2, e3⟩ := hg k hkl
      obtain ⟨y2, r2, B1, n1, d1, f1, f2, f3⟩ := hg2 k hkl
      obtain ⟨rfl, rfl⟩ : y = y2 ∧ r = r2 := by rw [e1] at f1; cases f1; exact ⟨rfl, rfl⟩
      obtain rfl : n1 = m1 := (f3.kids.1).trans (e3.kids.1).symm
      obtain ⟨q0, q1, q2, q3, q4, q5, q6, q7⟩ := e2.of (hBw.block g e2.lt)
      obtain ⟨p0, p1, p2, p3, p4, p5, p6, p7⟩ := f2.of (hBw.block g2 f2.lt)
      have hlg : g < wr.heap.size := Nat.lt_of_lt_of_le e2.lt hBw.size
      have hlg2 : g2 < wr.heap.size := Nat.lt_of_lt_of_le f2.lt hBw.size
      have E1 := Lib.hid e1; have E3 := Lib.hid e3; have F3 := Lib.hid f3; have HBw := Lib.hid hBw
      clear e1 e2 e3 f1 f2 f3 hg hg2 hBw
      go_wp2_with fail
      have hbw2 := below_alloc (below_alloc (Below.refl _ wr) (.cells (nodeCells y A1 n1 c1) 24)) (.cells (nodeCells y B1 n1 d1) 24)
      refine (HC.out cs[k] (List.getElem_mem hkl) _ y r A1 B1 n1 c1 d1 E1.out (E3.out.of fun j hj => (hbw2.block j (Nat.lt_of_lt_of_le hj HBw.out.size)).trans (HBw.out.block j hj)) (F3.out.of fun j hj => (hbw2.block j (Nat.lt_of_lt_of_le hj HBw.out.size)).trans (HBw.out.block j hj))).mono ?_
      rintro e w2 ⟨rfl, hb2⟩
      have HB2 := Lib.hid (bb (bb HBw.out hbw2) hb2)
      clear hb2 hbw2 q0 q1 q2 q3 q4 q5 q6 q7 p0 p1 p2 p3 p4 p5 p6 p7
      go_wp2
      go_roundw
      case rel => exact ⟨k + 1, by omega, by go_num, HB2.out⟩
      case measure => simp [intOf]; omega
    · obtain rfl : k = m := by omega
      have HBw := Lib.hid hBw; clear hBw HA HB HC
      go_wp2
      go_ret
      exact ⟨rfl, HBw.out⟩
set_option maxRecDepth 100000 in
set_option maxHeartbeats 4000000 in
theorem same_node (cs : List Chain) (hcs : ∀ ch ∈ cs, SameOk ch) (x : Lay) (A B : Option Addr) (m c d : Nat) (W : World) (ha : KidsAt W cs A m) (hb : KidsAt W cs B m) (hm : m ≤ 100) :
    Calls Tryz.prog 23 #[mkNode x A m c, mkNode x B m d] W fun e w' => e = .returned (.bool true) ∧ Below W.heap.size W w' := by
  have HA := Lib.hid ha; have HB := Lib.hid hb; have HC := Lib.hid hcs; clear ha hb hcs
  unfold mkNode
  have ff : (x.f == x.f) = true := beq_self_eq_true _
  have hbw := below_alloc (below_alloc (Below.refl _ W) (.cells (nodeCells x A m c) 24)) (.cells (nodeCells x B m d) 24)
  have HBW := Lib.hid hbw; clear hbw
  go_enter Tryz.func23, Tryz.ntmps23
  go_wp2_with fail
  refine (equalFunc_rows cs HC.out A B m c d _ (HA.out.below HBW.out) (HB.out.below HBW.out) hm).mono ?_
  rintro e w1 ⟨rfl, hb1⟩
  have HB1 := Lib.hid (bb HBW.out hb1); clear hb1
  go_wp2
  go_ret
  exact ⟨rfl, HB1.out⟩
theorem same_chain : ∀ ch : Chain, SameOk ch
  | [] => fun _ _ _ _ _ _ _ _ h => by cases h
  | y :: s => fun W x r A B m c d h hr hr2 => by
    obtain ⟨rfl, rfl⟩ : y = x ∧ s = r := by cases h; exact ⟨rfl, rfl⟩
    have h1 := hr.kids
    have ih := same_chain s
    exact same_node (restL s) (fun ch hch => by
      cases s with
      | nil => cases hch
      | cons z q => rw [List.mem_singleton.1 hch]; exact ih) y A B m c d W h1 hr2.kids (by rw [h1.1]; cases s <;> simp [restL])
end Go.Proofs.YtekpoglbpjodkaaGreatDoor
