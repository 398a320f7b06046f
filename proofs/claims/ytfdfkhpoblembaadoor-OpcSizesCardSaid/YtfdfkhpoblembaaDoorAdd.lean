/- opc.Add of a first part whose name and type are good. -/
import Derived.Test.YtfdfkhpoblembaaDoorLays
namespace Go.Proofs.YtfdfkhpoblembaaDoor
open Go.RowKit Go.Proofs.YtfdfkhpoblembaaDoorW.PrintWords

/-- What a Package with one part looks like: block g; what its parts' row holds; the bytes. -/
def OnePart (w w' : World) (g : Nat) (R : Value) (s k : ByteArray) (n : Nat) (xs : List Int) : Prop :=
  ∃ v d, w'.heap[g]? = some (.cells #[v, R] 39 (0, 0)) ∧ w'.ownsRow w.heap.size 44 4 v 1 [.string s, .string k, d, .slice none 0 0] ∧
        w'.ownsRow w.heap.size 5 1 d n (xs.map (Value.int .u8)) ∧ w.grownBy w' (some g)

set_option maxHeartbeats 1000000 in
theorem add_empty (g : Nat) (R : Value) (s k : ByteArray) (ad : Addr) (n c : Nat) (xs : List Int) (w : World) (hg : w.heap[g]? = some (.cells #[.slice none 0 0, R] 39 (0, 0)))
    (hx : xs.length = n) (hbig : n ≤ 140737488355328) (hc : ∀ i, i < n → w.cell? (ad.add i) = some (.int .u8 (xs.getD i 0)))
    (hs : s.size ≤ 4000000000) (hk : k.size ≤ 140737488351232) (hn : isNameB s = true) (hkd : isKindB k = true) (hm : MaxLenAt w) :
    Calls Tryd.prog 6 #[.pointer (some ⟨g, 0, none⟩), .string s, .string k, .slice (some ad) n c] w fun e w' => e = .returned (.int .i64 0) ∧ OnePart w w' g R s k n xs := by
  have HG := Lib.hid hg; clear hg
  have Hx := Lib.hid hx; clear hx
  have Hc := Lib.hid hc; clear hc
  have Hm := Lib.hid hm; clear hm
  have Hn := Lib.hid hn; clear hn
  have Hkd := Lib.hid hkd; clear hkd
  go_enter Tryd.func6, Tryd.ntmps6
  go_wp2_with fail
  refine (isName_any _ _ hs Hm.out).mono ?_
  rw [Hn.out]
  rintro e w1 ⟨rfl, hb1⟩
  go_wp2_with fail
  refine (isKind_any _ _ hk).mono ?_
  rw [Hkd.out]
  rintro e w2 ⟨rfl, hd2⟩
  have hB := bb hb1 hd2.below
  clear hb1 hd2
  have hg2 : w2.heap[g]? = some (.cells #[.slice none 0 0, R] 39 (0, 0)) := (hB.block g (blk_lt HG.out)).trans HG.out
  have hcell : w2.cell? ⟨g, 0, none⟩ = some (.slice none 0 0) := by rw [blk_cell hg2]; rfl
  have HG2 := Lib.hid hg2; clear hg2
  go_wp2_with (go_at_call 15; refine (find_empty g _ _ hcell).mono ?_; rintro e w' ⟨rfl, rfl⟩)
  refine (lays_empty g R _ _ ad n c xs _ HG2.out Hx.out hbig (fun i hi => ?_)).mono ?_
  · have h := Hc.out i hi
    exact (hB.cell (World.block_lt_of_cell? w _ h)).trans h
  rintro e w3 ⟨v, d, rfl, h1, h2, h3, h4⟩
  go_wp2
  go_ret
  exact ⟨rfl, v, d, h1, own_weaken h2 hB.size, own_weaken h3 hB.size, gtrans (grown_of_below hB (some g)) h4⟩
end Go.Proofs.YtfdfkhpoblembaaDoor
