/- outmap.isLong of chains: nothing in them is long. -/
import Derived.Test.YtekpoglbpjodkaaGreatDoorChain
namespace Go.Proofs.YtekpoglbpjodkaaGreatDoor
open Go.RowKit Go.Proofs.YtekpoglbpjodkaaGreatDoorW.PrintWords

def LongOk (ch : Chain) : Prop := ∀ (W : World) (x : Lay) (r : Chain) (A : Option Addr) (m c : Nat), ch = x :: r → RestAt W r A m →
  Calls Tryz.prog 13 #[mkNode x A m c] W fun e w' => e = .returned (.bool false) ∧ Below W.heap.size W w'
set_option maxRecDepth 100000 in
set_option maxHeartbeats 2000000 in
theorem long_node (cs : List Chain) (hcs : ∀ ch ∈ cs, LongOk ch) (x : Lay) (hx : x.k ≠ 5) (A : Option Addr) (m c : Nat) (W : World) (hk : KidsAt W cs A m) (hm : m ≤ 100) :
    Calls Tryz.prog 13 #[mkNode x A m c] W fun e w' => e = .returned (.bool false) ∧ Below W.heap.size W w' := by
  have HK := Lib.hid hk; have HC := Lib.hid hcs; clear hk hcs
  have hx5 : (x.k == 5) = false := beq_eq_false_iff_ne.2 hx
  clear hx
  unfold mkNode
  go_enter Tryz.func13, Tryz.ntmps13
  go_wp2
  go_loopw [3, 31] (fun l i wr => ∃ k : Nat, k ≤ m ∧ i = .int .i64 k ∧ l = .bool false ∧ Below W.heap.size W wr) (fun _ i _ => m - (intOf i).toNat)
  case atStart => exact ⟨0, Nat.zero_le _, rfl, rfl, below_alloc (Below.refl _ W) _⟩
  case round =>
    obtain ⟨k, hk, rfl, rfl, hB⟩ := hrel
    by_cases hlt : k < m
    · obtain ⟨g, rfl, hg⟩ := HK.out.2 (by omega)
      obtain ⟨y, r, A1, m1, c1, e1, e2, e3⟩ := hg k (by rw [← HK.out.1]; exact hlt)
      obtain ⟨q0, q1, q2, q3, q4, q5, q6, q7⟩ := e2.of (hB.block g e2.lt)
      have E1 := Lib.hid e1; have E3 := Lib.hid e3; have HB := Lib.hid hB; clear e1 e2 e3 hB hg
      go_wp2_with fail
      have hkl : k < cs.length := by rw [← HK.out.1]; exact hlt
      refine (HC.out cs[k] (List.getElem_mem hkl) _ y r A1 m1 c1 E1.out (E3.out.of fun j hj => (same_alloc wr _ j (Nat.lt_of_lt_of_le hj HB.out.size)).trans (HB.out.block j hj))).mono ?_
      rintro e w2 ⟨rfl, hb2⟩
      have HB2 := Lib.hid (below_then HB.out HB.out.size (below_box hb2)); clear hb2
      clear q0 q1 q2 q3 q4 q5 q6 q7 E1 E3
      go_wp2
      go_roundw
      case rel => exact ⟨k + 1, by omega, by go_num, rfl, HB2.out⟩
      case measure => simp [intOf]; omega
    · obtain rfl : k = m := by omega
      have HB := Lib.hid hB; clear hB
      clear HK HC
      go_wp2
      go_ret
      exact ⟨rfl, HB.out⟩
theorem long_chain : ∀ ch : Chain, (∀ x ∈ ch, x.k ≠ 5) → LongOk ch
  | [], _ => fun _ _ _ _ _ _ h => by cases h
  | y :: s, hl => fun W x r A m c h hr => by
    obtain ⟨rfl, rfl⟩ : y = x ∧ s = r := by cases h; exact ⟨rfl, rfl⟩
    have h1 := hr.kids
    have hm : m ≤ 100 := by rw [h1.1]; cases s <;> simp [restL]
    have ih := long_chain s (fun x hx => hl x (by simp [hx]))
    exact long_node (restL s) (fun ch hch => by
      cases s with
      | nil => cases hch
      | cons z q => rw [List.mem_singleton.1 hch]; exact ih) y (hl y (by simp)) A m c W h1 hm
end Go.Proofs.YtekpoglbpjodkaaGreatDoor
