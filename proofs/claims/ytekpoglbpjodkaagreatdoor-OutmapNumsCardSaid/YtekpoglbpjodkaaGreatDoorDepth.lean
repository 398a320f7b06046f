/- tree.Depth of chains. -/
import Derived.Test.YtekpoglbpjodkaaGreatDoorChain
import Derived.Outline
namespace Go.Proofs.YtekpoglbpjodkaaGreatDoor
open Go.RowKit Go.Proofs.YtekpoglbpjodkaaGreatDoorW.PrintWords

def isAll (x : Lay) : Nat := if x.k = 7 ∨ x.k = 6 then 1 else 0
def isList (x : Lay) : Nat := if x.k = 7 then 1 else 0
def dAll : Chain → Nat
  | [] => 0
  | x :: r => dAll r + isAll x
def dLists : Chain → Nat
  | [] => 0
  | x :: r => dLists r + isList x
def most (f : Chain → Nat) (cs : List Chain) : Nat := cs.foldl (fun a c => max a (f c)) 0
theorem most_step (f : Chain → Nat) (cs : List Chain) (k : Nat) (h : k < cs.length) : most f (cs.take (k + 1)) = max (most f (cs.take k)) (f cs[k]) := by
  unfold most
  rw [List.take_succ_eq_append_getElem h, List.foldl_append]
  rfl
theorem dAll_le : ∀ ch : Chain, dAll ch ≤ ch.length
  | [] => Nat.le_refl _
  | x :: r => by
    have := dAll_le r
    unfold dAll isAll
    rw [List.length_cons]
    split <;> omega
theorem dLists_le : ∀ ch : Chain, dLists ch ≤ ch.length
  | [] => Nat.le_refl _
  | x :: r => by
    have := dLists_le r
    unfold dLists isList
    rw [List.length_cons]
    split <;> omega
theorem foldl_max_le (f : Chain → Nat) (B : Nat) : ∀ (cs : List Chain) (a : Nat), a ≤ B → (∀ ch ∈ cs, f ch ≤ B) → cs.foldl (fun a c => max a (f c)) a ≤ B
  | [], _, h, _ => h
  | ch :: cs, a, h, hc => foldl_max_le f B cs _ (Nat.max_le.2 ⟨h, hc ch (by simp)⟩) (fun d hd => hc d (by simp [hd]))
theorem most_le (f : Chain → Nat) (B : Nat) (cs : List Chain) (h : ∀ ch ∈ cs, f ch ≤ B) : most f cs ≤ B := foldl_max_le f B cs 0 (Nat.zero_le _) h
/-- What Depth tells of a chain. -/
def DepthOk (ch : Chain) : Prop := ∀ (W : World) (x : Lay) (r : Chain) (A : Option Addr) (m c : Nat), ch = x :: r → RestAt W r A m →
  Calls Tryz.prog 12 #[mkNode x A m c] W fun e w' => e = .returned (.tuple #[.int .i64 (dAll ch), .int .i64 (dLists ch)]) ∧ Below W.heap.size W w'
set_option maxRecDepth 100000 in
set_option maxHeartbeats 2000000 in
theorem depth_node (cs : List Chain) (hcs : ∀ ch ∈ cs, DepthOk ch) (x : Lay) (A : Option Addr) (m c : Nat) (W : World) (hk : KidsAt W cs A m) (hm : m ≤ 100) (hd : ∀ ch ∈ cs, ch.length ≤ 200) :
    Calls Tryz.prog 12 #[mkNode x A m c] W fun e w' => e = .returned (.tuple #[.int .i64 (most dAll cs + isAll x : Nat), .int .i64 (most dLists cs + isList x : Nat)]) ∧ Below W.heap.size W w' := by
  have HK := Lib.hid hk; have HC := Lib.hid hcs; have HD := Lib.hid hd; clear hk hcs hd
  unfold mkNode
  go_enter Tryz.func12, Tryz.ntmps12
  go_wp2
  go_loopw [2, 3, 11] (fun a l i wr => ∃ k : Nat, k ≤ m ∧ i = .int .i64 k ∧ a = .int .i64 (most dAll (cs.take k) : Nat) ∧ l = .int .i64 (most dLists (cs.take k) : Nat) ∧ Below W.heap.size W wr ∧ wr.cell? ⟨W.heap.size, 0, none⟩ = some (.int .i64 x.k)) (fun _ _ i _ => m - (intOf i).toNat)
  case atStart => exact ⟨0, Nat.zero_le _, rfl, rfl, rfl, below_alloc (Below.refl _ W) _, blk_cell (heap_alloc_new W _) 0⟩
  case round =>
    obtain ⟨k, hk, rfl, rfl, rfl, hB, hx0⟩ := hrel
    by_cases hlt : k < m
    · obtain ⟨g, rfl, hg⟩ := HK.out.2 (by omega)
      obtain ⟨y, r, A1, m1, c1, e1, e2, e3⟩ := hg k (by rw [← HK.out.1]; exact hlt)
      obtain ⟨q0, q1, q2, q3, q4, q5, q6, q7⟩ := e2.of (hB.block g e2.lt)
      have E1 := Lib.hid e1; have E3 := Lib.hid e3; have HB := Lib.hid hB; have HG := Lib.hid hg; clear e1 e2 e3 hB hg
      generalize hAl : (most dAll (cs.take k) : Nat) = al
      generalize hLi : (most dLists (cs.take k) : Nat) = li
      have HAl := Lib.hid hAl; have HLi := Lib.hid hLi; clear hAl hLi
      go_wp2_with fail
      have hkl : k < cs.length := by rw [← HK.out.1]; exact hlt
      refine (HC.out cs[k] (List.getElem_mem hkl) _ y r A1 m1 c1 E1.out (E3.out.of fun j hj => (same_alloc wr _ j (Nat.lt_of_lt_of_le hj HB.out.size)).trans (HB.out.block j hj))).mono ?_
      rintro e w2 ⟨rfl, hb2⟩
      have hbx := below_box hb2
      have hlx := World.block_lt_of_cell? wr _ hx0
      have X2 := Lib.hid ((hbx.cell (p := ⟨W.heap.size, 0, none⟩) hlx).trans hx0)
      have HB2 := Lib.hid (below_then HB.out HB.out.size hbx); clear hb2 hbx hlx
      have hst := most_step dAll cs k hkl
      have hst2 := most_step dLists cs k hkl
      rw [HAl.out] at hst
      rw [HLi.out] at hst2
      have Hst := Lib.hid hst; have Hst2 := Lib.hid hst2; clear hst hst2
      generalize dAll cs[k] = da at Hst ⊢
      generalize dLists cs[k] = dl at Hst2 ⊢
      clear q0 q1 q2 q3 q4 q5 q6 q7 E1 E3 HG
      go_wp2
      go_roundw
      case rel => exact ⟨k + 1, by omega, by go_num, by rw [Hst.out]; go_num, by rw [Hst2.out]; go_num, HB2.out, X2.out⟩
      case measure => simp [intOf]; omega
    · obtain rfl : k = m := by omega
      have ht : cs.take k = cs := List.take_of_length_le (by rw [HK.out.1]; exact Nat.le_refl _)
      rw [ht]
      have HB := Lib.hid hB; clear hB ht
      have hal : most dAll cs ≤ 200 := most_le _ _ _ fun ch hch => Nat.le_trans (dAll_le ch) (HD.out ch hch)
      have hli : most dLists cs ≤ 200 := most_le _ _ _ fun ch hch => Nat.le_trans (dLists_le ch) (HD.out ch hch)
      generalize hAl : most dAll cs = al at hal ⊢
      generalize hLi : most dLists cs = li at hli ⊢
      have HAl := Lib.hid hAl; have HLi := Lib.hid hLi
      clear HK HC HD hAl hLi
      by_cases h7 : x.k = 7
      · have hb : (x.k == 7) = true := by rw [h7]; rfl
        have I1 := Lib.hid (show isAll x = 1 by unfold isAll; rw [if_pos (Or.inl h7)])
        have I2 := Lib.hid (show isList x = 1 by unfold isList; rw [if_pos h7])
        clear h7
        go_wp2
        go_ret2
        exact ⟨by rw [HAl.out, HLi.out, I1.out, I2.out]; rfl, HB.out⟩
      · have hb : (x.k == 7) = false := beq_eq_false_iff_ne.2 h7
        by_cases h6 : x.k = 6
        · have hb6 : (x.k == 6) = true := by rw [h6]; rfl
          have I1 := Lib.hid (show isAll x = 1 by unfold isAll; rw [if_pos (Or.inr h6)])
          have I2 := Lib.hid (show isList x = 0 by unfold isList; rw [if_neg h7])
          clear h7 h6
          go_wp2
          go_ret2
          exact ⟨by rw [HAl.out, HLi.out, I1.out, I2.out]; rfl, HB.out⟩
        · have hb6 : (x.k == 6) = false := beq_eq_false_iff_ne.2 h6
          have I1 := Lib.hid (show isAll x = 0 by unfold isAll; rw [if_neg (fun h => h.elim h7 h6)])
          have I2 := Lib.hid (show isList x = 0 by unfold isList; rw [if_neg h7])
          clear h7 h6
          go_wp2
          go_ret2
          exact ⟨by rw [HAl.out, HLi.out, I1.out, I2.out]; rfl, HB.out⟩
theorem depth_chain : ∀ ch : Chain, ch.length ≤ 200 → DepthOk ch
  | [], _ => fun _ _ _ _ _ _ h => by cases h
  | y :: s, hl => fun W x r A m c h hr => by
    obtain ⟨rfl, rfl⟩ : y = x ∧ s = r := by cases h; exact ⟨rfl, rfl⟩
    have h1 := hr.kids
    have hm : m ≤ 100 := by rw [h1.1]; cases s <;> simp [restL]
    have ih := depth_chain s (by simp at hl; omega)
    have := depth_node (restL s) (fun ch hch => by
      cases s with
      | nil => cases hch
      | cons z q => rw [List.mem_singleton.1 hch]; exact ih) y A m c W h1 hm (fun ch hch => by
      cases s with
      | nil => cases hch
      | cons z q => rw [List.mem_singleton.1 hch]; simp at hl ⊢; omega)
    have e1 : most dAll (restL s) = dAll s := by cases s <;> simp [restL, most, dAll]
    have e2 : most dLists (restL s) = dLists s := by cases s <;> simp [restL, most, dLists]
    rw [e1, e2] at this
    exact this
end Go.Proofs.YtekpoglbpjodkaaGreatDoor
