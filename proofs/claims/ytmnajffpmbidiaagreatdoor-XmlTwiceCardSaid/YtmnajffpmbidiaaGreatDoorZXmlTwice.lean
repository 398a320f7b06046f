/- XmlTwice: whatever the arguments, the law returns true and each argument reads afterwards as it read before; where the listed variables of the library hold what their text lays. -/
import Derived.Test.YtmnajffpmbidiaaGreatDoorCards
import Derived.Test.YtmnajffpmbidiaaGreatDoorTie
import Derived.Test.YtmnajffpmbidiaaGreatDoorMdi
import Derived.Test.YtmnajffpmbidiaaGreatDoorMdj
import Derived.Test.YtmnajffpmbidiaaGreatDoorMea
import Derived.Shelf.Vars
import Derived.WideShapes
import Derived.Carry
import Derived.Lay
import Derived.MakeChecks
import Derived.WalkKit
import Derived.ProofKit
import Derived.OpenShut
import Derived.SizedLaws
import Derived.ChangeOld
import Derived.Deep.DeepHandedRow
namespace Go.Proofs.YtmnajffpmbidiaaGreatDoor.xmlTwice
set_option linter.all false
open Go.ChangeShapes Go.WideShapes Go.ChangeAt Go.RowKit
theorem own : ownKnob Tryz.prog.godebug = none := by kernel_rfl
theorem laidOut : laidOutB Tryz.prog = true := by kernel_rfl
open Ev
theorem fold_ok {g : Cfg} {args : List AV} {H : Mem} {v : AV} {H' : Mem} (hs : foldLib args H = some (v, H')) {η : Nat → Option Nat} {w : World} {us : Array Value} (r : Rel g η H w) (hv : VRs η H w args us) :
    Calls Tryz.prog 58 us w fun e w' => ∃ η', Ext η H w η' H' w' ∧ Rel g η' H' w' ∧ EndR η' H' w' (.ret v) e := by
  unfold foldLib at hs
  split at hs
  · split at hs
    · rename_i hl
      injection hs with hs; injection hs with h1 h2; subst h1 h2
      obtain ⟨a, b, rfl, ha, hb⟩ := args2 hv
      cases ha with
      | str _ s' h =>
        subst h
        cases hb with
        | str _ t' h =>
          subst h
          refine lib_of r ((Tryz.strings_EqualFold s' t' w (by rw [← data_len]; exact hl.1) (fun j b hb => of_decide_eq_true (List.all_eq_true.1 hl.2.1 b (List.mem_of_getElem? hb))) (fun j b hb => of_decide_eq_true (List.all_eq_true.1 hl.2.2 b (List.mem_of_getElem? hb)))).mono ?_) fun w' => .bool _
          rintro e w' ⟨rfl, rfl⟩
          exact ⟨rfl, Below.refl _ _⟩
    · cases hs
  · cases hs
theorem libs_ok (m : Int) : LibOk Tryz.prog (Ic.cfg m) := by
  intro f s hf args H v H' hs η w us r hv
  have hg : (Ic.cfg m).glob 5 = some [.int .i64 m] := rfl
  simp only [Ic.cfg, Ic.libs] at hf
  split at hf
  · injection hf with hf; subst hf
    unfold trueLib at hs
    split at hs
    · injection hs with hs; injection hs with h1 h2; subst h1 h2
      obtain rfl : us = #[] := Array.eq_empty_of_size_eq_zero hv.1
      obtain ⟨u0, hc0, hv0⟩ := glob_cell r hg
      cases hv0
      exact lib_of r (known_calls m w hc0) fun w' => .bool true
    · cases hs
  · injection hf with hf; subst hf
    exact klib_ok hg (f := 32) (s := replLib) rfl hs r hv
  · injection hf with hf; subst hf
    exact fold_ok hs r hv
  · injection hf with hf; subst hf
    exact klib_ok hg (f := 82) (s := idxLib) rfl hs r hv
  · injection hf with hf; subst hf
    exact klib_ok hg (f := 87) (s := idxByteLib) rfl hs r hv
  · cases hf
theorem rel_m {m : Int} {w : World} (hc : w.cell? ⟨5, 0, none⟩ = some (.int .i64 m)) (h0 : Lib.VarReads Tryz.prog w "unicode/utf8.first" Lib.firstData) (h1 : Lib.VarReads Tryz.prog w "unicode/utf8.acceptRanges" Lib.acceptData) : Rel (Ic.cfg m) (fun _ => none) [] w := relGlob fun k cs h => by
  simp only [Ic.cfg] at h
  split at h
  · rename_i hk; subst hk
    injection h with h; subst h
    exact glob_one hc (.int _ _)
  · split at h
    · rename_i hk; subst hk
      injection h with h; subst h
      exact first_glob h0
    · split at h
      · rename_i hk; subst hk
        injection h with h; subst h
        exact acc_glob h1
      · cases h
theorem reads_first {w : World} (h : laidMetH Tryz.prog Rows.xmlTwiceRow.laid w) : Lib.VarReads Tryz.prog w "unicode/utf8.first" Lib.firstData := by
  rw [MakeChecks.laidMetH_plain _ _ _ (by kernel_rfl)] at h
  exact Lib.laidMet.reads h (List.mem_of_getElem? (i := 9) (by kernel_rfl))
theorem reads_acc {w : World} (h : laidMetH Tryz.prog Rows.xmlTwiceRow.laid w) : Lib.VarReads Tryz.prog w "unicode/utf8.acceptRanges" Lib.acceptData := by
  rw [MakeChecks.laidMetH_plain _ _ _ (by kernel_rfl)] at h
  exact Lib.laidMet.reads h (List.mem_of_getElem? (i := 3) (by kernel_rfl))
set_option maxRecDepth 100000 in
/-- WHAT THE RECKONING GIVES, FOR EVERY ARGUMENT AND EVERY WORLD. -/
theorem contract (H : Type) (enc : TypeId × Value → H) (W : World) (base : Nat) (args : Array Value) (ds gs : List (DataW H)) (before : List MemPlace)
    (hval0 : ∀ (j : Nat) t v, Tryz.f7.params[j]? = some t → args[j]? = some v → Value.okWide Tryz.prog W .any base t v)
    (hW : DataW.Whole enc Tryz.prog Tryz.f7.params.toList Rows.xmlTwiceSpec.vars false W args.toList ds gs before)
    (hwt : (DataW.weightsEach Tryz.prog (Tryz.f7.params.toList ++ (OpenSpec.ofChange Rows.xmlTwiceSpec).bare.plain.varTypes Tryz.prog) (ds ++ gs)).all (· ≤ reachBytes) = true) (hsh : W.ShapedOpen Tryz.prog)
    (hlm : laidMetH Tryz.prog Rows.xmlTwiceRow.laid W) :
    Calls Tryz.prog 7 args W fun e W' => ∃ v, e = .returned v ∧ Rows.xmlTwiceSpec.post enc Tryz.prog Tryz.f7 false true false false W args v W' := by
  have hval := hval0
  have hW' := hW
  obtain ⟨p, q, hA0, hV, rfl, hfz, hnd⟩ := hW
  have hA : DataW.TrodAll enc Tryz.prog W 0 (fun _ => true) true Tryz.f7.params.toList args.toList ds p := hA0
  rw [Tryz.params7] at hA hval hwt
  obtain ⟨v0, vs0, d0, ds0, p0, q0, hargs, rfl, rfl, h0, r0⟩ := trodAll_cons hA
  obtain ⟨v1, vs1, d1, ds1, p1, q1, rfl, rfl, rfl, h1, r1⟩ := trodAll_cons r0
  obtain ⟨v2, vs2, d2, ds2, p2, q2, rfl, rfl, rfl, h2, r2⟩ := trodAll_cons r1
  obtain ⟨rfl, rfl, rfl⟩ := trodAll_nil r2
  obtain rfl : args = #[v0, v1, v2] := by cases args; simp_all
  obtain ⟨rfl, rfl⟩ := trodVars_none hV
  have k0 := h0
  have k1 := h1
  have k2 := h2
  have lt0 : ∀ x ∈ p0, x.block < W.heap.size := by obtain ⟨m, hm⟩ := k0; exact DataW.trod_lt m _ _ _ hm
  have lt1 : ∀ x ∈ p1, x.block < W.heap.size := by obtain ⟨m, hm⟩ := k1; exact DataW.trod_lt m _ _ _ hm
  have lt2 : ∀ x ∈ p2, x.block < W.heap.size := by obtain ⟨m, hm⟩ := k2; exact DataW.trod_lt m _ _ _ hm
  have hB0 : Slim Tryz.prog 1125899906842624 9 d0 := fun x hx => by
    have h := List.all_eq_true.1 hwt x (by simp [DataW.weightsEach, hx])
    have h := of_decide_eq_true h
    unfold reachBytes at h
    omega
  have hB1 : Slim Tryz.prog 1125899906842624 9 d1 := fun x hx => by
    have h := List.all_eq_true.1 hwt x (by simp [DataW.weightsEach, hx])
    have h := of_decide_eq_true h
    unfold reachBytes at h
    omega
  obtain ⟨s0, rfl⟩ := okWide_string Tryz.underlying9 (hval 0 _ v0 rfl rfl)
  have hl0 : s0.data.toList.length ≤ 1125899906842624 := by
    obtain ⟨m, hm⟩ := h0
    obtain ⟨s', hcr, hle⟩ := open_str Tryz.underlying9 hB0 hm
    have h1 := hcr.2 0 (.str s') (.string s0) rfl rfl
    cases h1 with
    | str _ _ h => rw [h]; exact hle
  obtain ⟨s1, rfl⟩ := okWide_string Tryz.underlying9 (hval 1 _ v1 rfl rfl)
  have hl1 : s1.data.toList.length ≤ 1125899906842624 := by
    obtain ⟨m, hm⟩ := h1
    obtain ⟨s', hcr, hle⟩ := open_str Tryz.underlying9 hB1 hm
    have h1 := hcr.2 0 (.str s') (.string s1) rfl rfl
    cases h1 with
    | str _ _ h => rw [h]; exact hle
  obtain ⟨n2, rfl⟩ := okWide_int Tryz.underlying3 (hval 2 _ v2 rfl rfl)
  have hn2 : (Lit.int .i64 n2).wf = true := by
    obtain ⟨m, hm⟩ := h2
    obtain ⟨z, hz, _, hw⟩ := DataW.trod_int Tryz.underlying3 hm
    have e : n2 = z := by simpa [Value.cells] using hz
    rw [e]; exact hw
  obtain ⟨m, hc⟩ := cell_of_shapedOpen_int (P := Tryz.prog) (g := 5) (t := 3) (zero := #[.int .i64 0]) hsh (of_decide_eq_true (by kernel_rfl)) (by kernel_rfl) rfl (by kernel_rfl) (by kernel_rfl) Tryz.underlying3
  have heq := law_twice (ml := m) (N := 9223372036854775808) (by decide) s0.data.toList s1.data.toList n2 hl0 hl1 (by decide) 20 (by decide)
  clear hA0 hval0 hV
  refine (useG (us := #[.string s0, .string s1, .int .i64 n2]) (w := W) (by kernel_rfl) (libs_ok m) Ic.T_ok (rel_m hc (reads_first hlm) (reads_acc hlm)) heq ⟨rfl, fun j c u h1 h2 => ?_⟩).mono fun e W' hend => ?_
  · match j with
    | 0 => simp at h1 h2; subst h1 h2; exact .str _ _ rfl
    | 1 => simp at h1 h2; subst h1 h2; exact .str _ _ rfl
    | 2 => simp at h1 h2; subst h1 h2; exact .int _ _
    | j + 3 => simp at h1
  obtain ⟨u, he, bel, η', hr⟩ := hend
  cases hr
  subst he
  exact ⟨_, rfl, _, _, _, [], _, [], hW', trodAll_mk1 (shut_bool Tryz.underlying4 _), trodAll_cons_mk (Below.trod laidOut (by kernel_rfl) (of_decide_eq_true (by kernel_rfl)) k0 bel lt0) (trodAll_cons_mk (Below.trod laidOut (by kernel_rfl) (of_decide_eq_true (by kernel_rfl)) k1 bel lt1) (trodAll_cons_mk (Below.trod laidOut (by kernel_rfl) (of_decide_eq_true (by kernel_rfl)) k2 bel lt2) (trodAll_mk0))), rfl, bel.frame _, fun h => by cases h⟩

/-- A WORLD FOR THE WITNESS: the settled one, with the library's tables as their text lays them. -/
noncomputable def laidWorld (os : Os) : World := World.laidAll Tryz.prog os Rows.xmlTwiceRow.laid
/-- THE WITNESS's ARGUMENTS. -/
abbrev witArgs : Array Value := #[.string ⟨#[]⟩, .string ⟨#[]⟩, .int .i64 0]
theorem laid_met (os : Os) : laidMet Tryz.prog Rows.xmlTwiceRow.laid ((laidWorld os).forCall (fun _ _ => 0) ⟨#[], witArgs, []⟩).memory :=
  laidMet_laidAll witArgs (by kernel_rfl) (by kernel_rfl)
theorem reads (os : Os) {H : Type} (enc : TypeId × Value → H) : ∃ places, DataW.whole enc Tryz.prog ((laidWorld os).forCall (fun _ _ => 0) ⟨#[], witArgs, []⟩).memory Tryz.f7.params.toList Rows.xmlTwiceSpec.vars false witArgs.toList 8 = some ([.lit (.string []), .lit (.string []), .lit (.int .i64 0)], [], places) :=
  ⟨[], by kernel_rfl⟩
set_option maxRecDepth 100000 in
/-- THE ROW's STEP. -/
theorem lifted (os : Os) (started : os.Started) (H : Type) (enc : TypeId × Value → H) (F : Stop.Interp) :
    ReturnsInHanded {} Tryz.checked os 7 .any ((OpenSpec.ofChange Rows.xmlTwiceSpec).preRow enc Tryz.prog Tryz.f7 Rows.xmlTwiceRow.domain false Rows.xmlTwiceRow.laid) (((OpenSpec.ofChange Rows.xmlTwiceSpec).at F).post enc Tryz.prog Tryz.f7 false true false false) := by
  obtain ⟨places, hx⟩ := reads os enc
  have fits : Input.okWideB Tryz.prog ((laidWorld os).forCall (fun _ _ => 0) ⟨#[], witArgs, []⟩) 7 ⟨#[], witArgs, []⟩ = true := by kernel_rfl
  refine returnsInHanded_of_row (C := Tryz.checked) (s := OpenSpec.ofChange Rows.xmlTwiceSpec) own started (by kernel_rfl) Tryz.func7
    ⟨laidWorld os, fun _ _ => 0, ⟨#[], witArgs, []⟩, World.laidAll_os _ _ _, World.shaped_of_ZipB (by kernel_rfl) (by kernel_rfl), (Input.okWide_of_okWideB (base := 0) fits).1, (Input.okWide_of_okWideB fits).2,
      OpenSpec.preRow_of_cond 8 hx (by kernel_rfl) (fun k hk => by cases hk) (by kernel_rfl) (laid_met os), by simp [Assume.holds]⟩ ?_
  intro W base args ds gs before hval hW _ hc hwt hlm hsh _
  exact contract H enc W base args ds gs before hval hW hwt hsh hlm
/-- THE ROW. -/
theorem said : Rows.XmlTwiceSaid :=
  OpenClaim.holds_of_cond 7 Tryz.f7 rfl rfl rfl rfl rfl rfl rfl ⟨rfl, rfl, rfl, rfl, rfl⟩ rfl rfl rfl rfl rfl (by kernel_rfl) Tryz.func7 (by kernel_rfl)
    (of_decide_eq_true (by kernel_rfl)) (by unfold Func.isWrapper; first | (rw [if_pos (by decide +kernel)]; kernel_rfl) | (rw [if_neg (by decide +kernel)]; exact ⟨rfl, rfl⟩))
    (fun os started H enc _ F => by rw [OpenClaim.pre_eq_preRow]; exact lifted os started H enc F)
/-- No parameter wants a stand-in; the program's own looks are on. -/
theorem plain (f : FuncId) (fn : Func) (hf : Tryz.pinned.checked.prog.funcNamed "rubricator/rubricatorlaw10.XmlTwice" = some f) (hfn : Tryz.pinned.checked.prog.funcs[f]? = some fn) :
    true = Tryz.pinned.checked.prog.looks [] ∧ ∀ (j : Nat) t, fn.params[j]? = some t → Tryz.pinned.checked.prog.wantsStandIn t = false := by
  obtain rfl : f = 7 := Option.some.inj ((show Tryz.prog.funcNamed "rubricator/rubricatorlaw10.XmlTwice" = some 7 by kernel_rfl).symm.trans hf) |>.symm
  obtain rfl : fn = Tryz.f7 := (Option.some.inj (Tryz.func7.symm.trans hfn)).symm
  refine ⟨by kernel_rfl, fun j t ht => ?_⟩
  rw [Tryz.params7] at ht
  have ht := Array.mem_of_getElem? ht
  simp only [List.mem_toArray, List.mem_cons, List.mem_nil_iff, or_false] at ht
  rcases ht with rfl | rfl | rfl
  · exact (show Tryz.prog.wantsStandIn 9 = false by kernel_rfl)
  · exact (show Tryz.prog.wantsStandIn 9 = false by kernel_rfl)
  · exact (show Tryz.prog.wantsStandIn 3 = false by kernel_rfl)
/-- THE CARD. -/
theorem card : Rows.XmlTwiceCardSaid :=
  Claim7.holds_tied_plain_at .later [] _ _ _ _ said (fun _ h => by cases h) (by kernel_rfl) (fun _ h => by cases h) xmlTwice_row_tie rfl ⟨rfl, rfl⟩ (by kernel_rfl) rfl plain (by kernel_rfl)
#print axioms card
end Go.Proofs.YtmnajffpmbidiaaGreatDoor.xmlTwice
