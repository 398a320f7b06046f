/- Parts of one proof. -/
import Derived.Test.YtlimneghgioeaaaGreatDoorMdf
import Derived.Test.YtlimneghgioeaaaGreatDoorMdi
set_option linter.all false
namespace Go.Proofs.YtlimneghgioeaaaGreatDoor.Ev
open Go.RowKit
theorem cellsElem : Tryz.prog.cellsOf 25 = 5 := by kernel_rfl
theorem cellsAttr : Tryz.prog.cellsOf 45 = 3 := by kernel_rfl
theorem cellsStr : Tryz.prog.cellsOf 9 = 1 := by kernel_rfl
theorem cellsAttrs : Tryz.prog.cellsOf 22 = 1 := by kernel_rfl
theorem cellsElems : Tryz.prog.cellsOf 23 = 1 := by kernel_rfl
theorem bytesAttr : 1 ≤ Tryz.prog.bytesOf 45 := of_decide_eq_true (by kernel_rfl)
theorem bytesElem : 1 ≤ Tryz.prog.bytesOf 25 := of_decide_eq_true (by kernel_rfl)
section
variable {H : Type} {enc : TypeId × Value → H} {w : World} {base : Nat} {spare : Nat → Bool} {held : Bool}
set_option maxRecDepth 100000 in
theorem open_at {B fuel : Nat} {cs : List Value} {x : DataW H × List MemPlace} (hB : Slim Tryz.prog B 45 x.1) (h : DataW.trod enc Tryz.prog w base spare held fuel 45 cs = some x) :
    ∃ a : List UInt8 × List UInt8 × List UInt8, CR w (atC a) cs ∧ (a.1.length ≤ B ∧ a.2.1.length ≤ B ∧ a.2.2.length ≤ B) := by
  obtain ⟨hl, hf⟩ := open_flds Tryz.underlying45 hB h
  rw [cellsAttr] at hl
  match cs, hl with
  | [c0, c1, c2], _ =>
    obtain ⟨y0, n0, _, b0, h0⟩ := hf 0 _ rfl
    obtain ⟨y1, n1, _, b1, h1⟩ := hf 1 _ rfl
    obtain ⟨y2, n2, _, b2, h2⟩ := hf 2 _ rfl
    have h0 : DataW.trod enc Tryz.prog w base spare held n0 9 [c0] = some y0 := by simpa [cellsStr] using h0
    have h1 : DataW.trod enc Tryz.prog w base spare held n1 9 [c1] = some y1 := by simpa [cellsStr] using h1
    have h2 : DataW.trod enc Tryz.prog w base spare held n2 9 [c2] = some y2 := by simpa [cellsStr] using h2
    obtain ⟨s0, e0, l0⟩ := open_str Tryz.underlying9 b0 h0
    obtain ⟨s1, e1, l1⟩ := open_str Tryz.underlying9 b1 h1
    obtain ⟨s2, e2, l2⟩ := open_str Tryz.underlying9 b2 h2
    exact ⟨(s0, s1, s2), e0.app (e1.app e2), l0, l1, l2⟩
theorem kC_flat : ∀ l : List El, kC l = l.flatMap eC
  | [] => rfl
  | x :: l => by rw [kC, List.flatMap_cons, kC_flat l]
set_option maxRecDepth 100000 in
theorem open_el {B : Nat} : ∀ (N fuel : Nat) (cs : List Value) (x : DataW H × List MemPlace), fuel < N → Slim Tryz.prog B 25 x.1 → DataW.trod enc Tryz.prog w base spare held fuel 25 cs = some x → ∃ e : El, CR w (eC e) cs ∧ Small B e
  | 0, _, _, _, hN, _, _ => absurd hN (Nat.not_lt_zero _)
  | N + 1, fuel, cs, x, hN, hB, h => by
    obtain ⟨hl, hf⟩ := open_flds Tryz.underlying25 hB h
    rw [cellsElem] at hl
    match cs, hl with
    | [c0, c1, c2, c3, c4], _ =>
      obtain ⟨y0, n0, _, b0, h0⟩ := hf 0 _ rfl
      obtain ⟨y1, n1, _, b1, h1⟩ := hf 1 _ rfl
      obtain ⟨y2, n2, _, b2, h2⟩ := hf 2 _ rfl
      obtain ⟨y3, n3, _, b3, h3⟩ := hf 3 _ rfl
      obtain ⟨y4, n4, l4, b4, h4⟩ := hf 4 _ rfl
      have h0 : DataW.trod enc Tryz.prog w base spare held n0 9 [c0] = some y0 := by simpa [cellsStr] using h0
      have h1 : DataW.trod enc Tryz.prog w base spare held n1 9 [c1] = some y1 := by simpa [cellsStr] using h1
      have h2 : DataW.trod enc Tryz.prog w base spare held n2 9 [c2] = some y2 := by simpa [cellsStr] using h2
      have h3 : DataW.trod enc Tryz.prog w base spare held n3 22 [c3] = some y3 := by simpa [cellsAttrs] using h3
      have h4 : DataW.trod enc Tryz.prog w base spare held n4 23 [c4] = some y4 := by simpa [cellsElems] using h4
      obtain ⟨s0, e0, k0⟩ := open_str Tryz.underlying9 b0 h0
      obtain ⟨s1, e1, k1⟩ := open_str Tryz.underlying9 b1 h1
      obtain ⟨s2, e2, k2⟩ := open_str Tryz.underlying9 b2 h2
      obtain ⟨al, e3, k3, q3⟩ := open_lst atC 3 (fun _ => rfl) (fun a : List UInt8 × List UInt8 × List UInt8 => a.1.length ≤ B ∧ a.2.1.length ≤ B ∧ a.2.2.length ≤ B) Tryz.underlying22 cellsAttr bytesAttr n3 _ _ (fun m cs y _ hb hy => open_at hb hy) b3 h3
      obtain ⟨ks, e4, k4, q4⟩ := open_lst eC 5 eC_len (Small B) Tryz.underlying23 cellsElem bytesElem n4 _ _ (fun m cs y hm hb hy => open_el N m cs y (by omega) hb hy) b4 h4
      refine ⟨.mk s0 s1 s2 al ks, ?_, .mk _ _ _ _ _ k0 k1 k2 k3 k4 q4 q3⟩
      have := e0.app (e1.app (e2.app (e3.app e4)))
      rw [← kC_flat] at this
      exact this
theorem arg_el {v : Value} {d : DataW H} {p : List MemPlace} {B : Nat} (hv : ∃ cs : Array Value, v = .agg cs ∧ v.cells.toList = cs.toList) (hB : Slim Tryz.prog B 25 d) (h : DataW.Trod enc Tryz.prog w base spare held 25 v d p) :
    ∃ e : El, VR (fun _ => none) [] w (.agg (eC e)) v ∧ Small B e := by
  obtain ⟨fuel, hf⟩ := h
  obtain ⟨e, he, hs⟩ := open_el (fuel + 1) fuel _ _ (Nat.lt_succ_self _) hB hf
  obtain ⟨cs, rfl, hc⟩ := hv
  rw [hc] at he
  exact ⟨e, he.agg, hs⟩
end
end Go.Proofs.YtlimneghgioeaaaGreatDoor.Ev
