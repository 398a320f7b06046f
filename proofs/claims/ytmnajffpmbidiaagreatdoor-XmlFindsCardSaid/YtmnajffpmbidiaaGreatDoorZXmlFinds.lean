/- XmlFinds: whatever the arguments, the law returns true and each argument reads afterwards as it read before; where the listed variables of the library hold what their text lays. -/
import Derived.Test.YtmnajffpmbidiaaGreatDoorCards
import Derived.Test.YtmnajffpmbidiaaGreatDoorTie
import Derived.Test.YtmnajffpmbidiaaGreatDoorMdj
import Derived.Test.YtmnajffpmbidiaaGreatDoorMeb
import Derived.Test.YtmnajffpmbidiaaGreatDoorMed
import Derived.Shelf.Vars
import Derived.WideShapes
import Derived.Carry
import Derived.Lay
import Derived.WalkKit
import Derived.ProofKit
import Derived.OpenShut
import Derived.SizedLaws
import Derived.ChangeOld
import Derived.Deep.DeepHandedRow
namespace Go.Proofs.YtmnajffpmbidiaaGreatDoor.xmlFinds
set_option linter.all false
open Go.ChangeShapes Go.WideShapes Go.ChangeAt Go.RowKit
theorem own : ownKnob Tryz.prog.godebug = none := by kernel_rfl
theorem laidOut : laidOutB Tryz.prog = true := by kernel_rfl
open Ev
theorem libs_ok (m : Int) : LibOk Tryz.prog (Ic.cfg m) := by
  intro f s hf args H v H' hs η w us r hv
  have hg : (Ic.cfg m).glob 5 = some [.int .i64 m] := rfl
  simp only [Ic.cfg, Ic.libs] at hf
  split at hf
  · injection hf with hf; subst hf
    unfold trueLib at hs
    split at hs
    · injection hs with hs; injection hs with h1 h2; subst h1 h2
      obtain rfl : us = #[] := Array.eq_empty_of_size_eq_zero hv.1
      obtain ⟨u0, hc0, hv0⟩ := glob_cell r hg
      cases hv0
      exact lib_of r (known_calls m w hc0) fun w' => .bool true
    · cases hs
  · injection hf with hf; subst hf
    exact klib_ok hg (f := 32) (s := replLib) rfl hs r hv
  · injection hf with hf; subst hf
    exact klib_ok hg (f := 82) (s := idxLib) rfl hs r hv
  · injection hf with hf; subst hf
    exact klib_ok hg (f := 87) (s := idxByteLib) rfl hs r hv
  · cases hf
theorem rel_m {m : Int} {w : World} (hc : w.cell? ⟨5, 0, none⟩ = some (.int .i64 m)) : Rel (Ic.cfg m) (fun _ => none) [] w := relGlob fun k cs h => by
  simp only [Ic.cfg] at h
  split at h
  · rename_i hk; subst hk
    injection h with h; subst h
    exact glob_one hc (.int _ _)
  · cases h
set_option maxRecDepth 100000 in
/-- WHAT THE RECKONING GIVES, FOR EVERY ARGUMENT AND EVERY WORLD. -/
theorem contract (H : Type) (enc : TypeId × Value → H) (W : World) (base : Nat) (args : Array Value) (ds gs : List (DataW H)) (before : List MemPlace)
    (hval0 : ∀ (j : Nat) t v, Tryz.f11.params[j]? = some t → args[j]? = some v → Value.okWide Tryz.prog W .any base t v)
    (hW : DataW.Whole enc Tryz.prog Tryz.f11.params.toList Rows.xmlFindsSpec.vars false W args.toList ds gs before)
    (hwt : (DataW.weightsEach Tryz.prog (Tryz.f11.params.toList ++ (OpenSpec.ofChange Rows.xmlFindsSpec).bare.plain.varTypes Tryz.prog) (ds ++ gs)).all (· ≤ reachBytes) = true) (hsh : W.ShapedOpen Tryz.prog) :
    Calls Tryz.prog 11 args W fun e W' => ∃ v, e = .returned v ∧ Rows.xmlFindsSpec.post enc Tryz.prog Tryz.f11 false true false false W args v W' := by
  have hval := hval0
  have hW' := hW
  obtain ⟨p, q, hA0, hV, rfl, hfz, hnd⟩ := hW
  have hA : DataW.TrodAll enc Tryz.prog W 0 (fun _ => true) true Tryz.f11.params.toList args.toList ds p := hA0
  rw [Tryz.params11] at hA hval hwt
  obtain ⟨v0, vs0, d0, ds0, p0, q0, hargs, rfl, rfl, h0, r0⟩ := trodAll_cons hA
  obtain ⟨v1, vs1, d1, ds1, p1, q1, rfl, rfl, rfl, h1, r1⟩ := trodAll_cons r0
  obtain ⟨v2, vs2, d2, ds2, p2, q2, rfl, rfl, rfl, h2, r2⟩ := trodAll_cons r1
  obtain ⟨v3, vs3, d3, ds3, p3, q3, rfl, rfl, rfl, h3, r3⟩ := trodAll_cons r2
  obtain ⟨rfl, rfl, rfl⟩ := trodAll_nil r3
  obtain rfl : args = #[v0, v1, v2, v3] := by cases args; simp_all
  obtain ⟨rfl, rfl⟩ := trodVars_none hV
  have k0 := h0
  have k1 := h1
  have k2 := h2
  have k3 := h3
  have lt0 : ∀ x ∈ p0, x.block < W.heap.size := by obtain ⟨m, hm⟩ := k0; exact DataW.trod_lt m _ _ _ hm
  have lt1 : ∀ x ∈ p1, x.block < W.heap.size := by obtain ⟨m, hm⟩ := k1; exact DataW.trod_lt m _ _ _ hm
  have lt2 : ∀ x ∈ p2, x.block < W.heap.size := by obtain ⟨m, hm⟩ := k2; exact DataW.trod_lt m _ _ _ hm
  have lt3 : ∀ x ∈ p3, x.block < W.heap.size := by obtain ⟨m, hm⟩ := k3; exact DataW.trod_lt m _ _ _ hm
  have hB0 : Slim Tryz.prog 1125899906842624 27 d0 := fun x hx => by
    have h := List.all_eq_true.1 hwt x (by simp [DataW.weightsEach, hx])
    have h := of_decide_eq_true h
    unfold reachBytes at h
    omega
  have hB1 : Slim Tryz.prog 1125899906842624 27 d1 := fun x hx => by
    have h := List.all_eq_true.1 hwt x (by simp [DataW.weightsEach, hx])
    have h := of_decide_eq_true h
    unfold reachBytes at h
    omega
  have ok : ∀ v, Value.okWide Tryz.prog W .any base 27 v → ∃ cs : Array Value, v = .agg cs ∧ v.cells.toList = cs.toList := fun v h => by
    unfold Value.okWide at h
    rw [Tryz.underlying27] at h
    obtain ⟨cs, rfl, _⟩ := h
    exact ⟨cs, rfl, rfl⟩
  obtain ⟨a, va, sa⟩ := arg_el (ok v0 (hval 0 _ v0 rfl rfl)) hB0 h0
  obtain ⟨b, vb, sb⟩ := arg_el (ok v1 (hval 1 _ v1 rfl rfl)) hB1 h1
  obtain ⟨s, rfl⟩ := okWide_string Tryz.underlying9 (hval 2 _ v2 rfl rfl)
  obtain ⟨n, rfl⟩ := okWide_string Tryz.underlying9 (hval 3 _ v3 rfl rfl)
  obtain ⟨m, hc⟩ := cell_of_shapedOpen_int (P := Tryz.prog) (g := 5) (t := 3) (zero := #[.int .i64 0]) hsh (of_decide_eq_true (by kernel_rfl)) (by kernel_rfl) rfl (by kernel_rfl) (by kernel_rfl) Tryz.underlying3
  have heq := law_eq (ml := m) Tryz.prog (by kernel_rfl) 9223372036854775808 (Nat.le_refl _) a b s.data.toList n.data.toList sa sb []
  clear hA0 hval0 hV
  refine (useG (us := #[v0, v1, .string s, .string n]) (w := W) (by kernel_rfl) (libs_ok m) Ic.T_ok (rel_m hc) heq ⟨rfl, fun j c u h1 h2 => ?_⟩).mono fun e W' hend => ?_
  · match j with
    | 0 => simp at h1 h2; subst h1 h2; exact va
    | 1 => simp at h1 h2; subst h1 h2; exact vb
    | 2 => simp at h1 h2; subst h1 h2; exact .str _ _ rfl
    | 3 => simp at h1 h2; subst h1 h2; exact .str _ _ rfl
    | j + 4 => simp at h1
  obtain ⟨u, he, bel, η', hr⟩ := hend
  cases hr
  subst he
  exact ⟨_, rfl, _, _, _, [], _, [], hW', trodAll_mk1 (shut_bool Tryz.underlying4 _), trodAll_cons_mk (Below.trod laidOut (by kernel_rfl) (of_decide_eq_true (by kernel_rfl)) k0 bel lt0) (trodAll_cons_mk (Below.trod laidOut (by kernel_rfl) (of_decide_eq_true (by kernel_rfl)) k1 bel lt1) (trodAll_cons_mk (Below.trod laidOut (by kernel_rfl) (of_decide_eq_true (by kernel_rfl)) k2 bel lt2) (trodAll_cons_mk (Below.trod laidOut (by kernel_rfl) (of_decide_eq_true (by kernel_rfl)) k3 bel lt3) trodAll_mk0))), rfl, bel.frame _, fun h => by cases h⟩

/-- A WORLD FOR THE WITNESS: the settled one, with the library's tables as their text lays them. -/
noncomputable def laidWorld (os : Os) : World := World.laidAll Tryz.prog os Rows.xmlFindsRow.laid
/-- THE WITNESS's ARGUMENTS. -/
abbrev witArgs : Array Value := #[.agg #[.string ⟨#[]⟩, .string ⟨#[]⟩, .string ⟨#[]⟩, .slice none 0 0, .slice none 0 0], .agg #[.string ⟨#[]⟩, .string ⟨#[]⟩, .string ⟨#[]⟩, .slice none 0 0, .slice none 0 0], .string ⟨#[]⟩, .string ⟨#[]⟩]
theorem laid_met (os : Os) : laidMet Tryz.prog Rows.xmlFindsRow.laid ((laidWorld os).forCall (fun _ _ => 0) ⟨#[], witArgs, []⟩).memory :=
  laidMet_laidAll witArgs (by kernel_rfl) (by kernel_rfl)
theorem reads (os : Os) {H : Type} (enc : TypeId × Value → H) : ∃ places, DataW.whole enc Tryz.prog ((laidWorld os).forCall (fun _ _ => 0) ⟨#[], witArgs, []⟩).memory Tryz.f11.params.toList Rows.xmlFindsSpec.vars false witArgs.toList 8 = some ([.agg [.lit (.string []), .lit (.string []), .lit (.string []), .nil, .nil], .agg [.lit (.string []), .lit (.string []), .lit (.string []), .nil, .nil], .lit (.string []), .lit (.string [])], [], places) :=
  ⟨[], by kernel_rfl⟩
set_option maxRecDepth 100000 in
/-- THE ROW's STEP. -/
theorem lifted (os : Os) (started : os.Started) (H : Type) (enc : TypeId × Value → H) (F : Stop.Interp) :
    ReturnsInHanded {} Tryz.checked os 11 .any ((OpenSpec.ofChange Rows.xmlFindsSpec).preRow enc Tryz.prog Tryz.f11 Rows.xmlFindsRow.domain false Rows.xmlFindsRow.laid) (((OpenSpec.ofChange Rows.xmlFindsSpec).at F).post enc Tryz.prog Tryz.f11 false true false false) := by
  obtain ⟨places, hx⟩ := reads os enc
  have fits : Input.okWideB Tryz.prog ((laidWorld os).forCall (fun _ _ => 0) ⟨#[], witArgs, []⟩) 11 ⟨#[], witArgs, []⟩ = true := by kernel_rfl
  refine returnsInHanded_of_row (C := Tryz.checked) (s := OpenSpec.ofChange Rows.xmlFindsSpec) own started (by kernel_rfl) Tryz.func11
    ⟨laidWorld os, fun _ _ => 0, ⟨#[], witArgs, []⟩, World.laidAll_os _ _ _, World.shaped_of_ZipB (by kernel_rfl) (by kernel_rfl), (Input.okWide_of_okWideB (base := 0) fits).1, (Input.okWide_of_okWideB fits).2,
      OpenSpec.preRow_of_cond 8 hx (by kernel_rfl) (fun k hk => by cases hk) (by kernel_rfl) (laid_met os), by simp [Assume.holds]⟩ ?_
  intro W base args ds gs before hval hW _ hc hwt _ hsh _
  exact contract H enc W base args ds gs before hval hW hwt hsh
/-- THE ROW. -/
theorem said : Rows.XmlFindsSaid :=
  OpenClaim.holds_of_cond 11 Tryz.f11 rfl rfl rfl rfl rfl rfl rfl ⟨rfl, rfl, rfl, rfl, rfl⟩ rfl rfl rfl rfl rfl (by kernel_rfl) Tryz.func11 (by kernel_rfl)
    (of_decide_eq_true (by kernel_rfl)) (by unfold Func.isWrapper; first | (rw [if_pos (by decide +kernel)]; kernel_rfl) | (rw [if_neg (by decide +kernel)]; exact ⟨rfl, rfl⟩))
    (fun os started H enc _ F => by rw [OpenClaim.pre_eq_preRow]; exact lifted os started H enc F)
/-- No parameter wants a stand-in; the program's own looks are on. -/
theorem plain (f : FuncId) (fn : Func) (hf : Tryz.pinned.checked.prog.funcNamed "rubricator/rubricatorlaw10.XmlFinds" = some f) (hfn : Tryz.pinned.checked.prog.funcs[f]? = some fn) :
    true = Tryz.pinned.checked.prog.looks [] ∧ ∀ (j : Nat) t, fn.params[j]? = some t → Tryz.pinned.checked.prog.wantsStandIn t = false := by
  obtain rfl : f = 11 := Option.some.inj ((show Tryz.prog.funcNamed "rubricator/rubricatorlaw10.XmlFinds" = some 11 by kernel_rfl).symm.trans hf) |>.symm
  obtain rfl : fn = Tryz.f11 := (Option.some.inj (Tryz.func11.symm.trans hfn)).symm
  refine ⟨by kernel_rfl, fun j t ht => ?_⟩
  rw [Tryz.params11] at ht
  have ht := Array.mem_of_getElem? ht
  simp only [List.mem_toArray, List.mem_cons, List.mem_nil_iff, or_false] at ht
  rcases ht with rfl | rfl | rfl | rfl
  · exact (show Tryz.prog.wantsStandIn 27 = false by kernel_rfl)
  · exact (show Tryz.prog.wantsStandIn 27 = false by kernel_rfl)
  · exact (show Tryz.prog.wantsStandIn 9 = false by kernel_rfl)
  · exact (show Tryz.prog.wantsStandIn 9 = false by kernel_rfl)
/-- THE CARD. -/
theorem card : Rows.XmlFindsCardSaid :=
  Claim7.holds_tied_plain_at .later [] _ _ _ _ said (fun _ h => by cases h) (by kernel_rfl) (fun _ h => by cases h) xmlFinds_row_tie rfl ⟨rfl, rfl⟩ (by kernel_rfl) rfl plain (by kernel_rfl)
#print axioms card
end Go.Proofs.YtmnajffpmbidiaaGreatDoor.xmlFinds
