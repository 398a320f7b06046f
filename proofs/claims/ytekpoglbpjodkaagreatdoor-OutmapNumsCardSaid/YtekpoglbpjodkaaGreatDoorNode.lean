/- tree.isNode of chains: they are nodes. -/
import Derived.Test.YtekpoglbpjodkaaGreatDoorChain
import Derived.Test.YtekpoglbpjodkaaGreatDoorShelf
namespace Go.Proofs.YtekpoglbpjodkaaGreatDoor
open Go.RowKit Go.Proofs.YtekpoglbpjodkaaGreatDoorW.PrintWords

set_option maxRecDepth 100000 in
set_option maxHeartbeats 1000000 in
theorem validString_empty (W : World) : Calls Tryz.prog 77 #[.string ⟨#[]⟩] W fun e w' => e = .returned (.bool true) ∧ W = w' := by
  go_enter Tryz.func77, Tryz.ntmps77
  go_wp2
  refine wp_loop_rounds 1 ?_
  rw [rounds_succ]
  go_wp2
  go_ret
  exact ⟨rfl, rfl⟩
theorem isText_empty (W : World) : Calls Tryz.prog 57 #[.string ⟨#[]⟩] W fun e w' => e = .returned (.bool true) ∧ W = w' := by
  go_enter Tryz.func57, Tryz.ntmps57
  go_wp2_with fail
  refine (validString_empty W).mono ?_
  rintro e w1 ⟨rfl, rfl⟩
  go_wp2_with fail
  refine (Tryz.strings_IndexByte ⟨#[]⟩ 0 _).mono ?_
  rintro e w1 ⟨rfl, rfl⟩
  have h : Lib.indexByte (⟨#[]⟩ : ByteArray).data.toList (Int.toNat 0).toUInt8 = -1 := rfl
  go_wp2
  go_ret
  exact ⟨rfl, rfl⟩
/-- What may stand in a holder of blocks. -/
def HeadOk : Lay → Nat → Prop := fun y m => y.k = 4 ∨ y.k = 6 ∨ (y.k = 7 ∧ m = 1)
set_option maxRecDepth 100000 in
set_option maxHeartbeats 1000000 in
theorem holder_within (y : Lay) (A : Option Addr) (m c : Nat) (W : World) (h : HeadOk y m) :
    Calls Tryz.prog 185 #[.agg #[], mkNode y A m c] W fun e w' => e = .returned (.bool true) ∧ Below W.heap.size W w' := by
  unfold mkNode
  rcases h with h | h | ⟨h, rfl⟩
  all_goals rw [h]
  all_goals go_enter Tryz.func185, Tryz.ntmps185
  all_goals go_wp2
  all_goals go_ret
  all_goals exact ⟨rfl, below_alloc (below_alloc (Below.refl _ W) _) _⟩
set_option maxRecDepth 100000 in
theorem lister_within (y : Lay) (A : Option Addr) (m c : Nat) (W : World) (h : y.k = 8) :
    Calls Tryz.prog 186 #[.agg #[], mkNode y A m c] W fun e w' => e = .returned (.bool true) ∧ Below W.heap.size W w' := by
  unfold mkNode
  rw [h]
  go_enter Tryz.func186, Tryz.ntmps186
  go_wp2
  go_ret
  exact ⟨rfl, below_alloc (below_alloc (Below.refl _ W) _) _⟩
theorem holder_not_none (w : World) : (Instr.typeAssert (.iface 110 (.agg #[])) 92 95 true).run Tryz.prog w = .ok (.tuple #[.agg #[], .bool false]) w := by kernel_rfl
theorem lister_not_none (w : World) : (Instr.typeAssert (.iface 111 (.agg #[])) 92 95 true).run Tryz.prog w = .ok (.tuple #[.agg #[], .bool false]) w := by kernel_rfl
theorem none_is_none (w : World) : (Instr.typeAssert (.iface 95 (.agg #[])) 92 95 true).run Tryz.prog w = .ok (.tuple #[.agg #[], .bool true]) w := by kernel_rfl
/- 349: the model's count of steps for finding a method (one more than the dump's types). -/
theorem holder_method (w : World) : (method 349 110 (.agg #[]) "rubricator/tree.within").run Tryz.prog w = .ok (185, .agg #[]) w := by kernel_rfl
theorem lister_method (w : World) : (method 349 111 (.agg #[]) "rubricator/tree.within").run Tryz.prog w = .ok (186, .agg #[]) w := by kernel_rfl
/-- What isNode tells of a chain. -/
def NodeOk (ch : Chain) : Prop := ∀ (W : World) (x : Lay) (r : Chain) (A : Option Addr) (m c : Nat), ch = x :: r → RestAt W r A m →
  Calls Tryz.prog 43 #[mkNode x A m c] W fun e w' => e = .returned (.bool true) ∧ Below W.heap.size W w'
/-- How many kids a chain's head has. -/
def kidsN : Chain → Nat
  | [] => 0
  | [_] => 0
  | _ :: _ :: _ => 1
theorem RestAt.many {W : World} {y : Lay} {r : Chain} {A : Option Addr} {m : Nat} (h : RestAt W r A m) : m = kidsN (y :: r) := by
  cases r with
  | nil => exact h
  | cons z s => exact h.1
set_option maxRecDepth 100000 in
set_option maxHeartbeats 2000000 in
/-- Doc, Quote, Item: what stands in them may stand in a holder. -/
theorem node_holder (cs : List Chain) (hcs : ∀ ch ∈ cs, NodeOk ch) (hh : ∀ y r, y :: r ∈ cs → HeadOk y (kidsN (y :: r))) (x : Lay) (hx : x.k = 1 ∨ x.k = 6 ∨ x.k = 8) (A : Option Addr) (m c : Nat) (W : World) (hk : KidsAt W cs A m) (hm : m ≤ 100) :
    Calls Tryz.prog 43 #[mkNode x A m c] W fun e w' => e = .returned (.bool true) ∧ Below W.heap.size W w' := by
  have HK := Lib.hid hk; have HC := Lib.hid hcs; have HH := Lib.hid hh; clear hk hcs hh
  unfold mkNode
  have hsort : ∀ w : World, Calls Tryz.prog 58 #[mkNode x A m c] w fun e w' => e = .returned (.iface 110 (.agg #[])) ∧ Below w.heap.size w w' := by
    intro w
    unfold mkNode
    rcases hx with h | h | h
    all_goals rw [h]
    all_goals go_enter Tryz.func58, Tryz.ntmps58
    all_goals go_wp2
    all_goals go_ret
    all_goals exact ⟨rfl, below_alloc (Below.refl _ w) _⟩
  have HS := Lib.hid hsort; clear hsort hx
  have hta := holder_not_none
  go_enter Tryz.func43, Tryz.ntmps43
  go_wp2_with (first
    | (go_at_call 57; refine (isText_empty _).mono ?_; rintro e w' ⟨rfl, rfl⟩)
    | (go_at_call 58; refine (HS.out _).mono ?_; rintro e w1 ⟨rfl, hb1⟩; have c7 : w1.cell? ⟨W.heap.size, 7, none⟩ = some (.slice A m c) := box_cell hb1 7; have hl1 := box_lt hb1; have HB1 := Lib.hid (below_box hb1); clear hb1))
  clear hta
  go_loopw [39] (fun i wr => ∃ k : Nat, k ≤ m ∧ i = .int .i64 k ∧ Below W.heap.size W wr) (fun i _ => m - (intOf i).toNat)
  case atStart => exact ⟨0, Nat.zero_le _, rfl, below_alloc HB1.out _⟩
  case round =>
    obtain ⟨k, hk, rfl, hB⟩ := hrel
    clear c7 hl1 HB1
    by_cases hlt : k < m
    · obtain ⟨g, rfl, hg⟩ := HK.out.2 (by omega)
      obtain ⟨y, r, A1, m1, c1, e1, e2, e3⟩ := hg k (by rw [← HK.out.1]; exact hlt)
      obtain ⟨q0, q1, q2, q3, q4, q5, q6, q7⟩ := e2.of (hB.block g e2.lt)
      have E1 := Lib.hid e1; have E3 := Lib.hid e3; have HB := Lib.hid hB; clear e1 e2 e3 hB hg
      have hkl : k < cs.length := by rw [← HK.out.1]; exact hlt
      have HH1 := Lib.hid (show HeadOk y m1 by rw [E3.out.many (y := y)]; exact HH.out y r (by rw [← E1.out]; exact List.getElem_mem hkl))
      have hme := holder_method
      go_wp2_with fail
      clear hme q0 q1 q2 q3 q4 q5 q6 q7
      refine (holder_within y A1 m1 c1 _ HH1.out).mono ?_
      rintro e w2 ⟨rfl, hb2⟩
      have hbx := box8 (w := wr) (y := y) (A := A1) (m := m1) (c := c1) (t := 24) hb2
      obtain ⟨q0, q1, q2, q3, q4, q5, q6, q7⟩ := hbx
      have HB2 := Lib.hid (below_then HB.out HB.out.size (below_box hb2)); clear hb2
      go_wp2_with fail
      clear q0 q1 q2 q3 q4 q5 q6 q7
      refine (HC.out cs[k] (List.getElem_mem hkl) _ y r A1 m1 c1 E1.out (E3.out.of fun j hj => HB2.out.block j hj)).mono ?_
      rintro e w3 ⟨rfl, hb3⟩
      have HB3 := Lib.hid (bb HB2.out hb3); clear hb3
      go_wp2
      go_roundw
      case rel => exact ⟨k + 1, by omega, by go_num, HB3.out⟩
      case measure => simp [intOf]; omega
    · obtain rfl : k = m := by omega
      have HB := Lib.hid hB; clear hB
      clear HK HC HH
      go_wp2
      go_ret
      exact ⟨rfl, HB.out⟩
set_option maxRecDepth 100000 in
set_option maxHeartbeats 2000000 in
/-- List: items stand in it. -/
theorem node_list (cs : List Chain) (hcs : ∀ ch ∈ cs, NodeOk ch) (hh : ∀ y r, y :: r ∈ cs → y.k = 8) (x : Lay) (hx : x.k = 7) (A : Option Addr) (m c : Nat) (W : World) (hk : KidsAt W cs A m) (hm : m ≤ 100) :
    Calls Tryz.prog 43 #[mkNode x A m c] W fun e w' => e = .returned (.bool true) ∧ Below W.heap.size W w' := by
  have HK := Lib.hid hk; have HC := Lib.hid hcs; have HH := Lib.hid hh; clear hk hcs hh
  unfold mkNode
  have hsort : ∀ w : World, Calls Tryz.prog 58 #[mkNode x A m c] w fun e w' => e = .returned (.iface 111 (.agg #[])) ∧ Below w.heap.size w w' := by
    intro w
    unfold mkNode
    rw [hx]
    all_goals go_enter Tryz.func58, Tryz.ntmps58
    all_goals go_wp2
    all_goals go_ret
    all_goals exact ⟨rfl, below_alloc (Below.refl _ w) _⟩
  have HS := Lib.hid hsort; clear hsort hx
  have hta := lister_not_none
  go_enter Tryz.func43, Tryz.ntmps43
  go_wp2_with (first
    | (go_at_call 57; refine (isText_empty _).mono ?_; rintro e w' ⟨rfl, rfl⟩)
    | (go_at_call 58; refine (HS.out _).mono ?_; rintro e w1 ⟨rfl, hb1⟩; have c7 : w1.cell? ⟨W.heap.size, 7, none⟩ = some (.slice A m c) := box_cell hb1 7; have hl1 := box_lt hb1; have HB1 := Lib.hid (below_box hb1); clear hb1))
  clear hta
  go_loopw [39] (fun i wr => ∃ k : Nat, k ≤ m ∧ i = .int .i64 k ∧ Below W.heap.size W wr) (fun i _ => m - (intOf i).toNat)
  case atStart => exact ⟨0, Nat.zero_le _, rfl, below_alloc HB1.out _⟩
  case round =>
    obtain ⟨k, hk, rfl, hB⟩ := hrel
    clear c7 hl1 HB1
    by_cases hlt : k < m
    · obtain ⟨g, rfl, hg⟩ := HK.out.2 (by omega)
      obtain ⟨y, r, A1, m1, c1, e1, e2, e3⟩ := hg k (by rw [← HK.out.1]; exact hlt)
      obtain ⟨q0, q1, q2, q3, q4, q5, q6, q7⟩ := e2.of (hB.block g e2.lt)
      have E1 := Lib.hid e1; have E3 := Lib.hid e3; have HB := Lib.hid hB; clear e1 e2 e3 hB hg
      have hkl : k < cs.length := by rw [← HK.out.1]; exact hlt
      have HH1 := Lib.hid (show y.k = 8 from HH.out y r (by rw [← E1.out]; exact List.getElem_mem hkl))
      have hme := lister_method
      go_wp2_with fail
      clear hme q0 q1 q2 q3 q4 q5 q6 q7
      refine (lister_within y A1 m1 c1 _ HH1.out).mono ?_
      rintro e w2 ⟨rfl, hb2⟩
      have hbx := box8 (w := wr) (y := y) (A := A1) (m := m1) (c := c1) (t := 24) hb2
      obtain ⟨q0, q1, q2, q3, q4, q5, q6, q7⟩ := hbx
      have HB2 := Lib.hid (below_then HB.out HB.out.size (below_box hb2)); clear hb2
      go_wp2_with fail
      clear q0 q1 q2 q3 q4 q5 q6 q7
      refine (HC.out cs[k] (List.getElem_mem hkl) _ y r A1 m1 c1 E1.out (E3.out.of fun j hj => HB2.out.block j hj)).mono ?_
      rintro e w3 ⟨rfl, hb3⟩
      have HB3 := Lib.hid (bb HB2.out hb3); clear hb3
      go_wp2
      go_roundw
      case rel => exact ⟨k + 1, by omega, by go_num, HB3.out⟩
      case measure => simp [intOf]; omega
    · obtain rfl : k = m := by omega
      have HB := Lib.hid hB; clear hB
      clear HK HC HH
      go_wp2
      go_ret
      exact ⟨rfl, HB.out⟩
set_option maxRecDepth 100000 in
set_option maxHeartbeats 2000000 in
/-- Rule: nothing stands in it. -/
theorem node_rule (x : Lay) (hx : x.k = 4) (A : Option Addr) (c : Nat) (W : World) :
    Calls Tryz.prog 43 #[mkNode x A 0 c] W fun e w' => e = .returned (.bool true) ∧ Below W.heap.size W w' := by
  unfold mkNode
  have hsort : ∀ w : World, Calls Tryz.prog 58 #[mkNode x A 0 c] w fun e w' => e = .returned (.iface 95 (.agg #[])) ∧ Below w.heap.size w w' := by
    intro w
    unfold mkNode
    rw [hx]
    go_enter Tryz.func58, Tryz.ntmps58
    go_wp2
    go_ret
    exact ⟨rfl, below_alloc (Below.refl _ w) _⟩
  have HS := Lib.hid hsort; clear hsort hx
  have hta := none_is_none
  go_enter Tryz.func43, Tryz.ntmps43
  go_wp2_with (first
    | (go_at_call 57; refine (isText_empty _).mono ?_; rintro e w' ⟨rfl, rfl⟩)
    | (go_at_call 58; refine (HS.out _).mono ?_; rintro e w1 ⟨rfl, hb1⟩; have c7 : w1.cell? ⟨W.heap.size, 7, none⟩ = some (.slice A 0 c) := box_cell hb1 7; have hl1 := box_lt hb1; have HB1 := Lib.hid (below_box hb1); clear hb1))
  go_ret
  exact ⟨rfl, below_alloc HB1.out _⟩
/-- Chains that may stand in a document. -/
inductive OkCh : Chain → Prop
  | rule (x : Lay) : x.k = 4 → OkCh [x]
  | empty (x : Lay) : x.k = 6 ∨ x.k = 8 → OkCh [x]
  | holder (x y : Lay) (r : Chain) : x.k = 6 ∨ x.k = 8 → HeadOk y (kidsN (y :: r)) → OkCh (y :: r) → OkCh (x :: y :: r)
  | list (x y : Lay) (r : Chain) : x.k = 7 → y.k = 8 → OkCh (y :: r) → OkCh (x :: y :: r)
theorem node_chain {ch : Chain} (h : OkCh ch) : NodeOk ch := by
  induction h with
  | rule x hx =>
    intro W x' r A m c e hr
    obtain ⟨rfl, rfl⟩ : x = x' ∧ [] = r := by cases e; exact ⟨rfl, rfl⟩
    have h0 : m = 0 := hr
    subst h0
    exact node_rule x hx A c W
  | empty x hx =>
    intro W x' r A m c e hr
    obtain ⟨rfl, rfl⟩ : x = x' ∧ [] = r := by cases e; exact ⟨rfl, rfl⟩
    have h1 := hr.kids
    exact node_holder (restL []) (fun _ h => by cases h) (fun _ _ h => by cases h) x (Or.inr hx) A m c W h1 (by rw [h1.1]; simp [restL])
  | holder x y r hx hy _ ih =>
    intro W x' r' A m c e hr
    obtain ⟨rfl, rfl⟩ : x = x' ∧ y :: r = r' := by cases e; exact ⟨rfl, rfl⟩
    have h1 := hr.kids
    exact node_holder (restL (y :: r)) (fun ch hch => by rw [List.mem_singleton.1 hch]; exact ih) (fun a b hab => by cases List.mem_singleton.1 hab; exact hy) x (Or.inr hx) A m c W h1 (by rw [h1.1]; simp [restL])
  | list x y r hx hy _ ih =>
    intro W x' r' A m c e hr
    obtain ⟨rfl, rfl⟩ : x = x' ∧ y :: r = r' := by cases e; exact ⟨rfl, rfl⟩
    have h1 := hr.kids
    exact node_list (restL (y :: r)) (fun ch hch => by rw [List.mem_singleton.1 hch]; exact ih) (fun a b hab => by cases List.mem_singleton.1 hab; exact hy) x hx A m c W h1 (by rw [h1.1]; simp [restL])
end Go.Proofs.YtekpoglbpjodkaaGreatDoor
