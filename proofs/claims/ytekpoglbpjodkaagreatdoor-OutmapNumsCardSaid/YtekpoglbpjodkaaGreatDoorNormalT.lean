/- tree.Normal tells that a document of normal chains is normal. -/
import Derived.Test.YtekpoglbpjodkaaGreatDoorNormal
namespace Go.Proofs.YtekpoglbpjodkaaGreatDoor
open Go.RowKit Go.Proofs.YtekpoglbpjodkaaGreatDoorW.PrintWords

set_option maxRecDepth 100000 in
set_option maxHeartbeats 2000000 in
theorem normal_any (cs : List Chain) (h : DocOk cs) (A : Option Addr) (m c : Nat) (W : World) (hk : KidsAt W cs A m) :
    Calls Tryz.prog 11 #[mkNode docLay A m c] W fun e w' => e = .returned (.bool true) ∧ Below W.heap.size W w' := by
  have HD := Lib.hid (norm_any cs h A m c)
  have HS := Lib.hid (fun (B : Option Addr) (d : Nat) (w : World) (ha : KidsAt w cs A m) (hb : KidsAt w cs B m) => same_node cs (fun ch _ => same_chain ch) docLay A B m c d w ha hb (by rw [hk.1]; exact h.few))
  have HK := Lib.hid hk
  clear hk h
  unfold mkNode docLay
  have HBW := Lib.hid (below_alloc (Below.refl _ W) (.cells (nodeCells docLay A m c) 24))
  go_enter Tryz.func11, Tryz.ntmps11
  go_wp2_with fail
  refine (HD.out (W.alloc (.cells (nodeCells docLay A m c) 24)) (HK.out.below HBW.out)).mono ?_
  rintro e w1 ⟨A', c', rfl, hk1, hb1⟩
  obtain ⟨q0, q1, q2, q3, q4, q5, q6, q7⟩ := box8 hb1
  have hlt := box_lt hb1
  have HB1 := Lib.hid (bb HBW.out hb1); have HK1 := Lib.hid hk1; clear hb1 hk1
  unfold mkNode docLay
  go_wp2_with fail
  have hbw2 := below_alloc (Below.refl _ w1) (.cells (nodeCells docLay A' m c') 24)
  refine (HS.out A' c' (w1.alloc (.cells (nodeCells docLay A' m c') 24)) ((HK.out.below HB1.out).below hbw2) (HK1.out.below hbw2)).mono ?_
  rintro e w2 ⟨rfl, hb2⟩
  have HB2 := Lib.hid (bb (bb HB1.out hbw2) hb2)
  clear hb2 hbw2 q0 q1 q2 q3 q4 q5 q6 q7
  go_wp2
  go_ret
  exact ⟨rfl, HB2.out⟩
end Go.Proofs.YtekpoglbpjodkaaGreatDoor
