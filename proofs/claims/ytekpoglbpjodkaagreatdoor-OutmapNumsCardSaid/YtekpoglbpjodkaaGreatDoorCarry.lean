/- What a walk carries past the mapper: its numbers, and all that was there. -/
import Derived.Test.YtekpoglbpjodkaaGreatDoorMBlocks
namespace Go.Proofs.YtekpoglbpjodkaaGreatDoor
open Go.RowKit Go.Proofs.YtekpoglbpjodkaaGreatDoorW.PrintWords

structure Carry (W w : World) (base gm : Nat) (nv0 nv : Value) (grp : Int) (k : Nat) (ns : List Value) : Prop where
  mp : MapAt w base gm nv grp k ns
  fr : Fr (Apart gm nv0) W w
  nb : ∀ b, nv.ownBlock = some b → nv0.ownBlock = some b ∨ W.heap.size ≤ b
theorem Carry.start {W : World} {base gm : Nat} {nv : Value} {grp : Int} {k : Nat} {ns : List Value} (h : MapAt W base gm nv grp k ns) : Carry W W base gm nv nv grp k ns := ⟨h, Fr.refl _ _, fun _ hb => Or.inl hb⟩
theorem Carry.grown {W w w1 : World} {base gm : Nat} {nv0 nv : Value} {grp : Int} {k : Nat} {ns : List Value} {r : Option Nat} (h : Carry W w base gm nv0 nv grp k ns) (hW : gm < W.heap.size) (hg : w.grownBy w1 r) (hr : ∀ b, r = some b → W.heap.size ≤ b ∧ nv.ownBlock ≠ some b) : Carry W w1 base gm nv0 nv grp k ns := by
  refine ⟨⟨(hg.block gm h.mp.lt (fun e => by have := (hr gm e.symm).1; omega)).trans h.mp.blk, own_other h.mp.own hg ?_, h.mp.ne⟩, h.fr.trans (Fr.of_grown (P := fun q => q < W.heap.size) hg fun q _ hq e => by have := (hr q e.symm).1; omega) fun q hq _ => hq, h.nb⟩
  cases e : nv.ownBlock with
  | none => exact Or.inl rfl
  | some b => exact Or.inr fun e2 => (hr b e2.symm).2 e
theorem grownBy_of_below {w w1 : World} (h : Below w.heap.size w w1) (r : Option Nat) : w.grownBy w1 r := ⟨h.os, h.tape, h.output, h.size, fun j hj _ => h.block j hj⟩
theorem Carry.below {W w w1 : World} {base gm : Nat} {nv0 nv : Value} {grp : Int} {k : Nat} {ns : List Value} (h : Carry W w base gm nv0 nv grp k ns) (hW : gm < W.heap.size) (hb : Below w.heap.size w w1) : Carry W w1 base gm nv0 nv grp k ns :=
  h.grown hW (grownBy_of_below hb none) fun b e => by cases e
theorem Carry.call {W w w1 : World} {base gm : Nat} {nv0 nv nv' : Value} {grp : Int} {k k' : Nat} {ns ns' : List Value} (h : Carry W w base gm nv0 nv grp k ns) (hm : MapAt w1 base gm nv' grp k' ns') (hf : Fr (Apart gm nv) w w1) (hn : ∀ b, nv'.ownBlock = some b → nv.ownBlock = some b ∨ w.heap.size ≤ b) : Carry W w1 base gm nv0 nv' grp k' ns' := by
  refine ⟨hm, h.fr.trans hf fun q hq hp => ⟨hp.1, fun e => ?_⟩, fun b hb => ?_⟩
  · rcases h.nb q e.symm with h2 | h2
    · exact hp.2 h2.symm
    · omega
  · have := h.fr.size
    rcases hn b hb with h2 | h2
    · exact h.nb b h2
    · exact Or.inr (by omega)
/-- One number more: the mapper's slice is set anew. -/
theorem Carry.num {W w w1 : World} {base gm : Nat} {nv0 nv : Value} {grp : Int} {k : Nat} {ns news : List Value} {g2 cap2 : Nat} {o : Obj} (h : Carry W w base gm nv0 nv grp k ns)
    (ho : w1.ownsRow base 43 4 (.slice (some ⟨g2, 0, none⟩) (k + 1) cap2) (k + 1) (ns ++ news)) (hg2 : (w.alloc o).drew.grownBy w1 nv.ownBlock) (hat : nv.ownBlock = some g2 ∨ g2 = (w.alloc o).drew.heap.size) :
    Carry W (w1.setCell ⟨gm, 0, none⟩ (.slice (some ⟨g2, 0, none⟩) (k + 1) cap2)) base gm nv0 (.slice (some ⟨g2, 0, none⟩) (k + 1) cap2) grp (k + 1) (ns ++ news) := by
  have hsz : (w.alloc o).drew.heap.size = w.heap.size + 1 := by rw [World.size_drew, World.size_alloc]
  have hlt := h.mp.lt
  have hs := h.fr.size
  have hne : gm ≠ g2 := by
    rcases hat with e | e
    · intro e2; exact h.mp.ne (by rw [e2, e])
    · omega
  have hb : w1.heap[gm]? = some (.cells #[nv, .int .i64 grp] 48 (0, 0)) := (hg2.block gm (by omega) h.mp.ne).trans ((same_alloc w o gm hlt).trans h.mp.blk)
  refine ⟨⟨?_, ?_, fun e => hne (by injection e)⟩, ?_, fun b hb2 => ?_⟩
  · simpa using blk_set hb 0 (.slice (some ⟨g2, 0, none⟩) (k + 1) cap2)
  · exact own_move ho fun b hb2 => Below.heap_setCell _ _ _ _ (by injection hb2 with e; dsimp only at e ⊢; omega)
  · have f1 : Fr (Apart gm nv) w (w1.setCell ⟨gm, 0, none⟩ (.slice (some ⟨g2, 0, none⟩) (k + 1) cap2)) := by
      refine ⟨hg2.os, hg2.tape, hg2.output, ?_, fun j hj hp => ?_⟩
      · have := hg2.size; simp [World.setCell]; omega
      · rw [Below.heap_setCell _ _ _ _ hp.1, hg2.block j (by omega) hp.2]
        exact same_alloc w o j hj
    exact h.fr.trans f1 fun q hq hp => ⟨hp.1, fun e => by
      rcases h.nb q e.symm with h2 | h2
      · exact hp.2 h2.symm
      · omega⟩
  · injection hb2 with hb2
    dsimp only at hb2
    subst hb2
    rcases hat with e | e
    · exact h.nb _ e
    · exact Or.inr (by omega)
/-- A block that is neither the mapper nor its numbers is as it was behind that. -/
theorem num_keeps {w w1 : World} {gm : Nat} {nv u : Value} {o : Obj} (hg2 : (w.alloc o).drew.grownBy w1 nv.ownBlock) (j : Nat) (hj : j < w.heap.size) (h1 : j ≠ gm) (h2 : nv.ownBlock ≠ some j) : (w1.setCell ⟨gm, 0, none⟩ u).heap[j]? = w.heap[j]? := by
  rw [Below.heap_setCell _ _ _ _ h1, hg2.block j (by rw [World.size_drew, World.size_alloc]; omega) (Ne.symm h2)]
  exact same_alloc w o j hj
theorem num_size {w w1 : World} {gm : Nat} {nv u : Value} {o : Obj} (hg2 : (w.alloc o).drew.grownBy w1 nv.ownBlock) : w.heap.size < (w1.setCell ⟨gm, 0, none⟩ u).heap.size := by
  have := hg2.size
  rw [World.size_drew, World.size_alloc] at this
  simp [World.setCell]
  omega
end Go.Proofs.YtekpoglbpjodkaaGreatDoor
