/- The mapper: blocks of chains, the numbers of their lists. -/
import Derived.Test.YtekpoglbpjodkaaGreatDoorFrame
import Derived.Test.YtekpoglbpjodkaaGreatDoorTBlocks
import Derived.Handy
namespace Go.Proofs.YtekpoglbpjodkaaGreatDoor
open Go.RowKit Go.Proofs.YtekpoglbpjodkaaGreatDoorW.PrintWords

theorem info_num : (Tryz.prog.info? 43).map (fun i => (i.zero, i.size, i.bytes)) = some (some (.agg #[.int .i64 0, .bool false, .int .i64 0, .int .i64 0]), 4, 32) := by kernel_rfl
theorem info_block : (Tryz.prog.info? 60).map (fun i => (i.zero, i.size, i.bytes)) = some (some (.agg #[.string ⟨#[]⟩, .string ⟨#[]⟩, .int .i64 0, .int .i64 0, .slice none 0 0, .slice none 0 0]), 6, 96) := by kernel_rfl
/-- A block's cells. -/
abbrev blockCells (tag st : ByteArray) (num lv : Int) (A : Option Addr) (n c : Nat) : Array Value := #[.string tag, .string st, .int .i64 num, .int .i64 lv, .slice none 0 0, .slice A n c]
set_option maxRecDepth 100000 in
set_option maxHeartbeats 2000000 in
/-- A rule's block. -/
theorem mblock_rule (gm : Nat) (x : Lay) (hx : x.k = 4) (A : Option Addr) (m c : Nat) (lv : Int) (W : World) :
    Calls Tryz.prog 24 #[.pointer (some ⟨gm, 0, none⟩), mkNode x A m c, .int .i64 lv] W fun e w' => e = .returned (.agg (blockCells ⟨#[]⟩ ⟨#[82, 117, 108, 101]⟩ 0 0 none 0 0)) ∧ Below W.heap.size W w' := by
  have b2 : (x.k == 2) = false := by rw [hx]; rfl
  have b3 : (x.k == 3) = false := by rw [hx]; rfl
  have b4 : (x.k == 4) = true := by rw [hx]; rfl
  clear hx
  unfold mkNode
  go_enter Tryz.func24, Tryz.ntmps24
  go_wp2
  go_returns
  exact ⟨rfl, below_alloc (below_alloc (Below.refl _ W) _) _⟩

/-- What a block's cells are, its chain given. -/
def BlkOf (ch : Chain) (cells : List Value) : Prop := ∃ tag st num lv A n c, cells = (blockCells tag st num lv A n c).toList ∧ ∀ x r, ch = x :: r → x.k = 7 → tag = ⟨#[108, 105, 115, 116]⟩ ∧ n = (restL r).length
/-- A row of blocks, one for each chain. -/
def BlksOf : List Chain → List Value → Prop
  | [], cells => cells = []
  | ch :: cs, cells => ∃ a b, cells = a ++ b ∧ BlkOf ch a ∧ BlksOf cs b
theorem BlkOf.len {ch : Chain} {cells : List Value} (h : BlkOf ch cells) : cells.length = 6 := by
  obtain ⟨_, _, _, _, _, _, _, rfl, _⟩ := h
  rfl
theorem BlksOf.len : ∀ {cs : List Chain} {cells : List Value}, BlksOf cs cells → cells.length = cs.length * 6
  | [], _, h => by rw [show _ = ([] : List Value) from h]; rfl
  | _ :: cs, _, ⟨a, b, e, h1, h2⟩ => by
    have := h1.len
    have := h2.len
    rw [e, List.length_append, List.length_cons]
    omega
theorem BlksOf.snoc : ∀ {cs : List Chain} {cells : List Value} {ch : Chain} {a : List Value}, BlksOf cs cells → BlkOf ch a → BlksOf (cs ++ [ch]) (cells ++ a)
  | [], _, _, a, h, h1 => by
    rw [show _ = ([] : List Value) from h]
    exact ⟨a, [], by simp, h1, rfl⟩
  | _ :: _, _, _, a2, ⟨a, b, e, h1, h2⟩, h3 => ⟨a, b ++ a2, by rw [e, List.append_assoc], h1, h2.snoc h3⟩
theorem MapAt.below {w w1 : World} {base gm : Nat} {nv : Value} {grp : Int} {k : Nat} {ns : List Value} (h : MapAt w base gm nv grp k ns) (hb : Below w.heap.size w w1) : MapAt w1 base gm nv grp k ns :=
  ⟨(hb.block gm (blk_lt h.blk)).trans h.blk, pw_own_below h.own hb, h.ne⟩
theorem MapAt.lt {w : World} {base gm : Nat} {nv : Value} {grp : Int} {k : Nat} {ns : List Value} (h : MapAt w base gm nv grp k ns) : gm < w.heap.size := blk_lt h.blk
/-- What mapper.block makes of a chain. -/
def MBlockOk (ch : Chain) : Prop := ∀ (W : World) (base gm : Nat) (nv : Value) (grp : Int) (k : Nat) (ns : List Value) (x : Lay) (r : Chain) (A : Option Addr) (m c lv : Nat), ch = x :: r → RestIn W (fun b => b < base) r A m → MapAt W base gm nv grp k ns → base ≤ gm → k + listsOf ch ≤ 500 → lv + listsOf ch ≤ 200 →
  Calls Tryz.prog 24 #[.pointer (some ⟨gm, 0, none⟩), mkNode x A m c, .int .i64 lv] W fun e w' => ∃ cells nv', e = .returned (.agg cells.toArray) ∧ BlkOf ch cells ∧
    MapAt w' base gm nv' grp (k + listsOf ch) (ns ++ numsOf ch k lv) ∧ Fr (Apart gm nv) W w' ∧ ∀ b, nv'.ownBlock = some b → nv.ownBlock = some b ∨ W.heap.size ≤ b
/-- What mapper.blocks makes of a row of chains. -/
def MBlocksOk (cs : List Chain) : Prop := ∀ (W : World) (base gm : Nat) (nv : Value) (grp : Int) (k : Nat) (ns : List Value) (A : Option Addr) (m c lv : Nat), KidsIn W (fun b => b < base) cs A m → MapAt W base gm nv grp k ns → base ≤ gm → k + listsAll cs ≤ 500 → (∀ ch ∈ cs, lv + listsOf ch ≤ 200) →
  Calls Tryz.prog 14 #[.pointer (some ⟨gm, 0, none⟩), .slice A m c, .int .i64 lv] W fun e w' => ∃ v bs nv', e = .returned v ∧ w'.ownsRow W.heap.size 60 6 v cs.length bs ∧ BlksOf cs bs ∧
    MapAt w' base gm nv' grp (k + listsAll cs) (ns ++ numsAll cs k lv) ∧ Fr (Apart gm nv) W w' ∧ ∀ b, nv'.ownBlock = some b → nv.ownBlock = some b ∨ W.heap.size ≤ b
/-- Nodes that lie ahead of the mapper are as they were behind what leaves all but the mapper and its numbers alone. -/
theorem RestIn.fr {W W1 : World} {base gm : Nat} {nv : Value} {grp : Int} {k : Nat} {ns : List Value} (hm : MapAt W base gm nv grp k ns) (hg : base ≤ gm) (hf : Fr (Apart gm nv) W W1) {r : Chain} {A : Option Addr} {m : Nat} (h : RestIn W (fun b => b < base) r A m) : RestIn W1 (fun b => b < base) r A m :=
  h.of fun j hj hp => ⟨hp, hf.block j hj ⟨by omega, fun e => by have := own_base hm.own _ e.symm; omega⟩⟩
theorem listsAll_take : ∀ (cs : List Chain) (j : Nat) (h : j < cs.length), listsAll (cs.take (j + 1)) = listsAll (cs.take j) + listsOf cs[j]
  | ch :: cs, 0, _ => by simp [listsAll]
  | ch :: cs, j + 1, h => by
    have := listsAll_take cs j (by simpa using h)
    simp only [List.take_succ_cons, listsAll, List.getElem_cons_succ] at this ⊢
    omega
theorem listsAll_le : ∀ (cs : List Chain) (j : Nat), listsAll (cs.take j) ≤ listsAll cs
  | [], j => by simp
  | ch :: cs, 0 => by simp [listsAll]
  | ch :: cs, j + 1 => by
    have := listsAll_le cs j
    simp only [List.take_succ_cons, listsAll]
    omega
theorem numsAll_take : ∀ (cs : List Chain) (j k lv : Nat) (h : j < cs.length), numsAll (cs.take (j + 1)) k lv = numsAll (cs.take j) k lv ++ numsOf cs[j] (k + listsAll (cs.take j)) lv
  | ch :: cs, 0, k, lv, _ => by simp [numsAll, listsAll]
  | ch :: cs, j + 1, k, lv, h => by
    have := numsAll_take cs j (k + listsOf ch) lv (by simpa using h)
    simp only [List.take_succ_cons, numsAll, listsAll, List.getElem_cons_succ] at this ⊢
    rw [this, List.append_assoc, Nat.add_assoc]
end Go.Proofs.YtekpoglbpjodkaaGreatDoor
