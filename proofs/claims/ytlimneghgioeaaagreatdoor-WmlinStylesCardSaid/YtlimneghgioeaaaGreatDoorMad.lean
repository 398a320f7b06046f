/- Parts of one proof. -/
import Derived.Test.YtlimneghgioeaaaGreatDoorMac
set_option linter.all false
namespace Go.Proofs.YtlimneghgioeaaaGreatDoor.Ev
variable {P : Program} {g : Cfg} {F : FSem} {H : Mem}
theorem evI_arg (a : AAct) (x : Operand) : a.evI g (argI x) = a.eval g x := by cases x <;> rfl
section
variable {ρ : Operand → AV} {σ : IArg → AV} (hσ : ∀ x, σ (argI x) = ρ x) {o : Oper} {r : Res1}
include hσ
theorem loadR_sound {t a} (ho : o.op = .load t a) (h : opI P ρ σ (loadR P t a o) H = some r) : exec1 P ρ o H = some r := by
  unfold loadR at h
  split at h
  · rename_i hag
    split at h
    · rename_i n hn
      simp only [opI,hσ] at h
      simp only [exec1,ho,loadA,hag,hn,mkVal,Zo]
      rw [Option.map_map]
      exact h
    · exact h
  · rename_i hag
    simp only [opI,hσ] at h
    simp only [exec1,ho,loadA,hag,mkVal] at h ⊢
    rw [Option.map_bind]
    exact h
  · exact h
theorem partsR_sound (place : Nat → Option (Nat × Nat)) : ∀ (l : List (Nat × Operand)) (q : List (Nat × Nat × IArg)) (cells : List AV), partsR place l = some q → ∀ cs, fillI cells (q.map fun p => (p.1, p.2.1, σ p.2.2)) = some cs → fillA place cells (l.map fun p => (p.1, ρ p.2)) = some cs
  | [], q, cells, h, cs, h2 => by
    simp only [partsR] at h
    injection h with h; subst h
    exact h2
  | (i, x) :: rest, q, cells, h, cs, h2 => by
    simp only [partsR] at h
    split at h
    · rename_i off size l hp hl
      injection h with h; subst h
      simp only [Zv,fillI,hσ] at h2
      simp only [Zv,fillA,hp]
      split at h2
      · rename_i hc
        rw [if_pos hc]
        exact partsR_sound place rest l _ hl cs h2
      · cases h2
    · cases h
theorem bldR_sound {t parts} (ho : o.op = .build t parts) (h : opI P ρ σ (bldR P t parts.toList o) H = some r) : exec1 P ρ o H = some r := by
  unfold bldR at h
  split at h
  · exact h
  · rename_i z hz
    split at h
    · exact h
    · rename_i hk
      split at h
      · rename_i fields hu
        split at h
        · rename_i hall
          split at h
          · rename_i l hl
            simp only [opI] at h
            obtain ⟨cs, h1, rfl⟩ := Option.map_eq_some_iff.1 h
            have h2 := partsR_sound hσ _ _ _ _ hl _ h1
            have hbl : buildA P t (parts.toList.map fun p => (p.1, ρ p.2)) = some (.agg cs) := by
              simp only [buildA,hz,Zo,hu,if_neg hk,if_pos hall,h2,Zh]
            simp only [exec1,ho,hbl,mkVal,Zh]
          · exact h
        · exact h
      · exact h
theorem bldSR_sound {t n parts} (ho : o.op = .buildSlice t n parts) (h : opI P ρ σ (bldSR P t n parts.toList o) H = some r) : exec1 P ρ o H = some r := by
  unfold bldSR at h
  split at h
  · rename_i elem hu
    split at h
    · rename_i s z hs hz
      split at h
      · rename_i hc
        split at h
        · rename_i l hl
          simp only [opI] at h
          obtain ⟨cs, h1, rfl⟩ := Option.map_eq_some_iff.1 h
          have h2 := partsR_sound hσ _ _ _ _ hl _ h1
          have hbl : buildSliceA P H t n (parts.toList.map fun p => (p.1, ρ p.2)) = some (.slc H.length 0 n s 0, H ++ [.row cs 0 (elem + 1)]) := by
            simp only [buildSliceA,hz,hs,Zo,hu,if_pos hc,h2,Zh]
          simp only [exec1,ho,hbl,mkVM,Zh]
        · exact h
      · exact h
    · exact h
  · exact h
theorem faddrR_sound {s x i} (ho : o.op = .fieldAddr s x i) (h : opI P ρ σ (faddrR P s x i o) H = some r) : exec1 P ρ o H = some r := by
  unfold faddrR at h
  split at h
  · rename_i fields hu
    split at h
    · rename_i f hf
      split at h
      · rename_i m hm
        simp only [opI,hσ] at h
        simp only [exec1,ho,fieldAddrA,hu,hf,Zo,hm,mkVal]
        split at h
        · rename_i e; simp only [e,Zh]; exact h
        · rename_i cs e
          split at h
          · rename_i hc; simp only [e,if_pos hc,Zh]; exact h
          · cases h
        · cases h
      · exact h
    · exact h
  · exact h
theorem fldR_sound {t x i} (ho : o.op = .field t x i) (h : opI P ρ σ (fldR P t x i o) H = some r) : exec1 P ρ o H = some r := by
  unfold fldR at h
  split at h
  · rename_i fields hu
    split at h
    · rename_i f hf
      split at h
      · rename_i n hag hn
        simp only [opI,hσ] at h
        simp only [exec1,ho,fieldA,hu,mkVal]
        split at h
        · rename_i cs e
          split at h
          · rename_i hc; simp only [e,hf,Zo,partA,hag,hn,if_pos hc,Zh]; exact h
          · cases h
        · cases h
      · rename_i hag
        simp only [opI,hσ] at h
        simp only [exec1,ho,fieldA,hu,mkVal] at h ⊢
        split at h
        · rename_i cs e
          simp only [e,hf,Zo,partA,hag]; exact h
        · cases h
      · exact h
    · exact h
  · exact h
theorem iaddrR_sound {t x i} (ho : o.op = .indexAddr t x i) (h : opI P ρ σ (iaddrR P t x i o) H = some r) : exec1 P ρ o H = some r := by
  unfold iaddrR at h
  split at h
  · rename_i len e hu
    split at h
    · rename_i s hs
      simp only [opI,hσ] at h
      obtain ⟨j, hj, h⟩ := Option.bind_eq_some_iff.1 h
      simp only [exec1,ho,ixAddrA,hu,hj,Zo,mkVal]
      split at h
      · rename_i e'
        split at h
        · rename_i hc; simp only [e',hs,Zo,if_pos hc,Zh]; exact h
        · cases h
      · rename_i e'
        split at h
        · rename_i hc; simp only [e',hs,Zo,if_pos hc,Zh]; exact h
        · cases h
      · cases h
    · exact h
  · rename_i e hu
    split at h
    · rename_i s hs
      simp only [opI,hσ] at h
      obtain ⟨j, hj, h⟩ := Option.bind_eq_some_iff.1 h
      simp only [exec1,ho,ixAddrA,hu,hj,Zo,mkVal]
      split at h
      · rename_i e'
        split at h
        · rename_i hc; simp only [e',hs,hc.2,hc.1,and_self,if_true,Zh]; simpa only [hc.2] using h
        · cases h
      · rename_i e'
        split at h
        · rename_i hc; simp only [e',hs,Zo,if_pos hc,Zh]; exact h
        · cases h
      · cases h
    · exact h
  · exact h
theorem ixR_sound {t x i} (ho : o.op = .index t x i) (h : opI P ρ σ (ixR P t x i o) H = some r) : exec1 P ρ o H = some r := by
  unfold ixR at h
  split at h
  · rename_i hu
    simp only [opI,hσ] at h
    obtain ⟨j, hj, h⟩ := Option.bind_eq_some_iff.1 h
    simp only [exec1,ho,ixA,hu,hj,Zo,mkVal]
    split at h
    · rename_i e'
      simp only [e',Option.map_map]; exact h
    · cases h
  · exact h
theorem bin_sound {op t x y b} (ho : o.op = .binOp op t x y b) (h : opI P ρ σ (.bin op (argI x) (argI y)) H = some r) : exec1 P ρ o H = some r := by
  simp only [opI,hσ] at h
  simp only [exec1,ho]
  split at h
  · rename_i e1 e2
    simp only [e1,e2,guardA,binA,if_true]; exact h
  · rename_i e1 e2
    simp only [e1,e2,guardA,binA,if_true]; exact h
  · cases h
theorem eqb_sound {neg : Bool} {op t x y b} (ho : o.op = .binOp op t x y b) (hu : P.underlying t = some .bool) (hop : op = if neg then .neq else .eql) (h : opI P ρ σ (.eqb neg (argI x) (argI y)) H = some r) : exec1 P ρ o H = some r := by
  simp only [opI,hσ] at h
  split at h
  · rename_i a c e1 e2
    simp only [exec1,ho,e1,e2,guardA,if_true,binA]
    subst hop
    cases neg <;> simp [cmpA, eqlA, hu, eqA, mkVal] <;> simpa using h
  · cases h
omit hσ in
theorem exec1_bin {op t x y b} (ho : o.op = .binOp op t x y b) (hny : ∀ j p q, ρ y ≠ .ptr j p q) : exec1 P ρ o H = if guardA x y (ρ x) (ρ y) then mkVal (binA P op t (ρ x) (ρ y)) H else none := by
  simp only [exec1,ho]
  split
  · rename_i e; exact absurd e (hny _ _ _)
  · rfl
theorem nilT_sound {neg : Bool} {op t x y b d w} (ho : o.op = .binOp op t x y b) (hu : P.underlying t = some d) (hw : nilR d y = some w) (hy : ∀ v, ρ (.const v) = ofV v) (hop : op = if neg then .neq else .eql) (h : opI P ρ σ (.nilT neg w (argI x)) H = some r) : exec1 P ρ o H = some r := by
  simp only [opI,hσ] at h
  obtain ⟨c, hc, rfl⟩ := Option.map_eq_some_iff.1 h
  unfold nilR at hw
  split at hw
  · rename_i v
    have hg : ∀ z, guardA x (.const v) (ρ x) z = true := fun z => by
      unfold guardA; split <;> simp
    subst hop
    split at hw
    · rename_i hv
      injection hw with hw; subst hw
      rw [exec1_bin ho (by rw [hy, hv]; intros; simp)]
      simp only [hg,if_true,hy,hv,binA]
      cases neg <;> simp [cmpA, eqlA, hu, mkVal] <;> (generalize ρ x = q at hc ⊢; cases q <;> simp_all [isNilA, nilPtr])
    · rename_i hv
      injection hw with hw; subst hw
      rw [exec1_bin ho (by rw [hy, hv]; intros; simp)]
      simp only [hg,if_true,hy,hv,binA]
      cases neg <;> simp [cmpA, eqlA, hu, mkVal] <;> (generalize ρ x = q at hc ⊢; cases q <;> simp_all [isNilA, nilSl])
    · rename_i hv
      injection hw with hw; subst hw
      rw [exec1_bin ho (by rw [hy, hv]; intros; simp)]
      simp only [hg,if_true,hy,hv,binA]
      cases neg <;> simp [cmpA, eqlA, hu, mkVal] <;> (generalize ρ x = q at hc ⊢; cases q <;> simp_all [isNilA, nilMap])
    · rename_i hv
      injection hw with hw; subst hw
      rw [exec1_bin ho (by rw [hy, hv]; intros; simp)]
      simp only [hg,if_true,hy,hv,binA]
      cases neg <;> simp [cmpA, eqlA, hu, mkVal] <;> (generalize ρ x = q at hc ⊢; cases q <;> simp_all [isNilA, nilFn])
    · rename_i hv
      injection hw with hw; subst hw
      rw [exec1_bin ho (by rw [hy, hv]; intros; simp)]
      simp only [hg,if_true,hy,hv,binA]
      cases neg <;> simp [cmpA, eqlA, hu, mkVal] <;> (generalize ρ x = q at hc ⊢; cases q <;> simp_all [isNilA, nilIf])
    · cases hw
  · cases hw
omit hσ in
theorem eqFA_cells : ∀ (fs : List Field) (d : Nat) (pl : List (Nat × Nat)) (xs ys : List AV), eqPlan P fs = some pl → fs.length < d → ∀ b, eqCells pl xs ys = some b → eqFA P d fs xs ys = some b
  | [], d, pl, xs, ys, h, _, b, hb => by
    simp only [eqPlan] at h
    injection h with h; subst h
    simp only [eqCells] at hb
    unfold eqFA; exact hb
  | f :: fs, 0, _, _, _, _, h, _, _ => by omega
  | f :: fs, d + 1, pl, xs, ys, h, hd, b, hb => by
    simp only [Zf] at hd
    simp only [eqPlan] at h
    unfold eqFA
    split at h
    · rename_i hn
      rw [if_pos hn]
      exact eqFA_cells fs d pl xs ys h (by omega) b hb
    · rename_i hn
      rw [if_neg hn]
      split at h
      · rename_i r hag hu hr
        injection h with h; subst h
        simp only [eqCells] at hb
        simp only [partA,hag]
        obtain ⟨d', rfl⟩ : ∃ d', d = d' + 1 := ⟨d - 1, by omega⟩
        cases hx : xs[f.offset]? with
        | none => rw [hx] at hb; simp [eqCell] at hb
        | some x => cases hy : ys[f.offset]? with
          | none => rw [hx, hy] at hb; cases x <;> simp [eqCell] at hb
          | some y =>
            rw [hx, hy] at hb
            cases x <;> cases y <;> simp only [eqCell] at hb <;> first | cases hb | skip
            simp only [eqA,hu]
            split at hb
            · rename_i hc
              simp only [Option.some.injEq] at hc
              simp only [hc]
              exact eqFA_cells fs (d' + 1) r xs ys hr (by omega) b hb
            · rename_i hc
              split
              · rename_i h1; exact absurd h1 hc
              · exact hb
      · rename_i k r hag hu hr
        injection h with h; subst h
        simp only [eqCells] at hb
        simp only [partA,hag]
        obtain ⟨d', rfl⟩ : ∃ d', d = d' + 1 := ⟨d - 1, by omega⟩
        cases hx : xs[f.offset]? with
        | none => rw [hx] at hb; simp [eqCell] at hb
        | some x => cases hy : ys[f.offset]? with
          | none => rw [hx, hy] at hb; cases x <;> simp [eqCell] at hb
          | some y =>
            rw [hx, hy] at hb
            cases x <;> cases y <;> simp only [eqCell] at hb <;> first | cases hb | skip
            simp only [eqA,hu]
            split at hb
            · rename_i hc
              simp only [hc]
              exact eqFA_cells fs (d' + 1) r xs ys hr (by omega) b hb
            · rename_i hc
              split
              · rename_i h1; exact absurd h1 hc
              · exact hb
      · rename_i r hag hu hr
        injection h with h; subst h
        simp only [eqCells] at hb
        simp only [partA,hag]
        obtain ⟨d', rfl⟩ : ∃ d', d = d' + 1 := ⟨d - 1, by omega⟩
        cases hx : xs[f.offset]? with
        | none => rw [hx] at hb; simp [eqCell] at hb
        | some x => cases hy : ys[f.offset]? with
          | none => rw [hx, hy] at hb; cases x <;> simp [eqCell] at hb
          | some y =>
            rw [hx, hy] at hb
            cases x <;> cases y <;> simp only [eqCell] at hb <;> first | cases hb | skip
            simp only [eqA,hu]
            split at hb
            · rename_i hc
              simp only [hc]
              exact eqFA_cells fs (d' + 1) r xs ys hr (by omega) b hb
            · rename_i hc
              split
              · rename_i h1; exact absurd h1 hc
              · exact hb
      · cases h
theorem eqSR_sound {neg : Bool} {op t x y b} (ho : o.op = .binOp op t x y b) (hop : op = if neg then .neq else .eql) (h : opI P ρ σ (eqSR P neg t x y o) H = some r) : exec1 P ρ o H = some r := by
  unfold eqSR at h
  split at h
  · rename_i fields hu
    split at h
    · rename_i pl hpl
      split at h
      · rename_i hc
        simp only [opI,hσ] at h
        split at h
        · rename_i xs ys e1 e2
          obtain ⟨c, hcc, rfl⟩ := Option.map_eq_some_iff.1 h
          have he : eqA P 60 t (.agg xs) (.agg ys) = some c := by
            simp only [eqA,hu,hc.2.1,Ze,if_false]
            exact eqFA_cells _ _ _ _ _ hpl (by simp; omega) _ hcc
          simp only [exec1,ho,e1,e2,guardA,if_true,binA]
          subst hop
          cases neg <;> simp [cmpA, eqlA, hu, hc.1, he, mkVal]
        · cases h
      · exact h
    · exact h
  · exact h
theorem eqPR_sound {neg : Bool} {op t x y b} (ho : o.op = .binOp op t x y b) (hop : op = if neg then .neq else .eql) (h : opI P ρ σ (eqPR P neg t x y o) H = some r) : exec1 P ρ o H = some r := by
  unfold eqPR at h
  split at h
  · rename_i e hu
    split at h
    · rename_i hs
      simp only [opI,hσ] at h
      split at h
      · rename_i i oo s j p q e1 e2
        split at h
        · rename_i cs st ty hb
          split at h
          · rename_i hc
            simp only [exec1,ho,e1,e2,ptrOpA,hu,hb]
            rw [if_pos ⟨hc.1, hc.2.1, hc.2.2.1, hc.2.2.2, hs⟩]
            subst hop
            cases neg <;> exact h
          · cases h
        · cases h
      · cases h
    · exact h
  · exact eqSR_sound hσ ho hop h
theorem binR_sound {op t x y b} (hy : ∀ v, ρ (.const v) = ofV v) (ho : o.op = .binOp op t x y b) (h : opI P ρ σ (binR P op t x y o) H = some r) : exec1 P ρ o H = some r := by
  unfold binR at h
  split at h
  · exact bin_sound hσ ho h
  · exact bin_sound hσ ho h
  · rename_i hu
    split at h
    · exact eqb_sound (neg := false) hσ ho hu rfl h
    · exact eqb_sound (neg := true) hσ ho hu rfl h
    · exact h
  · rename_i d _ _ _ hu
    split at h
    · rename_i w _ hw; exact nilT_sound (neg := false) hσ ho hu hw hy rfl h
    · rename_i w _ hw; exact nilT_sound (neg := true) hσ ho hu hw hy rfl h
    · exact eqPR_sound (neg := false) hσ ho rfl h
    · exact eqPR_sound (neg := true) hσ ho rfl h
    · exact h
  · exact h
theorem cpyR_sound {c d x} (ho : o.op = .call c) (hc : c.callee = .builtin .copy) (hx : c.args.toList = [d, x]) (h : opI P ρ σ (cpyR P c.argTypes d x o) H = some r) : exec1 P ρ o H = some r := by
  unfold cpyR at h
  split at h
  · rename_i t ht
    split at h
    · rename_i elem hu
      split at h
      · rename_i s hs
        simp only [opI,hσ] at h
        simp only [exec1,ho,hc,builtinA,hx,Zv,Zz,ht,Zo,copyA,hu,hs]
        exact h
      · exact h
    · exact h
  · exact h
theorem callR_sound {c} (ho : o.op = .call c) (h : opI P ρ σ (callR P c o) H = some r) (hf : ∀ k, ρ (.func k) = .fn (.func k) []) : exec1 P ρ o H = some r := by
  unfold callR at h
  split at h
  · rename_i k hc
    split at h
    · rename_i hk
      simp only [opI,List.map_map] at h
      simp only [exec1,ho,hc,hf,if_pos hk,Zs]
      rw [← h]
      congr 2
      exact List.map_congr_left fun x _ => by simp [hσ]
    · rename_i hk
      split at h
      · rename_i hne
        split at h
        · rename_i x hx
          simp only [opI,hσ] at h
          simp only [exec1,ho,hc,hf,if_neg hk,if_pos hne,hx,Zv,Zz]
          exact h
        · exact h
      · exact h
  · rename_i t hc
    simp only [opI,List.map_map] at h
    have ht : σ (.tmp t) = ρ (.tmp t) := hσ (.tmp t)
    rw [ht] at h
    have hm : c.args.toList.map (σ ∘ argI) = c.args.toList.map ρ := List.map_congr_left fun x _ => by simp [hσ]
    rw [hm] at h
    simp only [exec1,ho,hc]
    split at h
    · rename_i k cap e
      rw [e]
      simp only
      split at h
      · rename_i hk; rw [if_pos hk]; exact h
      · cases h
    · cases h
  · rename_i hc
    split at h
    · rename_i x hx
      unfold lenR at h
      split at h
      · rename_i t ht
        split at h
        · rename_i hu
          simp only [opI,hσ] at h
          simp only [exec1,ho,hc,builtinA,hx,Zv,Zz,ht,Zo,lenA,hu,mkVal]
          split at h
          · rename_i e; simp only [e,Zh]; exact h
          · cases h
        · rename_i hu
          simp only [opI,hσ] at h
          simp only [exec1,ho,hc,builtinA,hx,Zv,Zz,ht,Zo,lenA,hu,mkVal]
          split at h
          · rename_i e; simp only [e,Zh]; exact h
          · rename_i e; simp only [e,Zh]; exact h
          · rename_i e; simp only [e,Zh]; exact h
          · cases h
        · rename_i hu
          simp only [opI,hσ] at h
          simp only [exec1,ho,hc,builtinA,hx,Zv,Zz,ht,Zo]
          rw [← h]
          congr 1
          generalize ρ x = q
          unfold lenA lenMD
          rw [hu]
          cases q <;> rfl
        · exact h
      · exact h
    · exact h
  · rename_i hc
    split at h
    · rename_i s x hx
      unfold appR at h
      split at h
      · rename_i t ht
        split at h
        · rename_i elem hu
          split at h
          · rename_i i hi
            split at h
            · rename_i hcond
              simp only [opI,hσ] at h
              simp only [exec1,ho,hc,builtinA,hx,Zv,Zz,ht,Zo,appendA,hu,hi,hcond.1,if_true]
              obtain ⟨p, hp, h⟩ := Option.bind_eq_some_iff.1 h
              simp only [hp,Zo]
              split at h
              · rename_i hall
                rw [if_pos ⟨hall, hcond.2⟩]; exact h
              · cases h
            · exact h
          · exact h
        · exact h
      · exact h
    · exact h
  · rename_i hc
    split at h
    · rename_i d x hx
      exact cpyR_sound hσ ho hc hx h
    · exact h
  · rename_i hc
    have hm : c.args.toList.map (σ ∘ argI) = c.args.toList.map ρ := List.map_congr_left fun x _ => by simp [hσ]
    simp only [opI,List.map_map,Ze,if_false] at h
    rw [hm] at h
    simp only [exec1,ho,hc,builtinA]
    exact h
  · rename_i hc
    have hm : c.args.toList.map (σ ∘ argI) = c.args.toList.map ρ := List.map_congr_left fun x _ => by simp [hσ]
    simp only [opI,List.map_map,if_true] at h
    rw [hm] at h
    simp only [exec1,ho,hc,builtinA]
    exact h
  · exact h
theorem convR_sound {s d x} (ho : o.op = .convert s d x) (h : opI P ρ σ (convR P s d x o) H = some r) : exec1 P ρ o H = some r := by
  unfold convR at h
  split at h
  · rename_i ts k hs hd
    simp only [opI,hσ] at h
    split at h
    · rename_i n e
      simp only [exec1,ho,convA,hs,hd,e,mkVM,Zh]; exact h
    · cases h
  · rename_i hs hd
    simp only [opI,hσ] at h
    split at h
    · rename_i n e
      simp only [exec1,ho,convA,hs,hd,e,mkVM,Zh]; exact h
    · cases h
  · rename_i el hs hd
    split at h
    · rename_i he
      simp only [opI,hσ] at h
      split at h
      · rename_i l e
        split at h
        · rename_i hl
          simp only [exec1,ho,convA,hs,hd,e,he,if_pos hl,mkVM,Zh]; exact h
        · cases h
      · cases h
    · exact h
  · rename_i el hs hd
    split at h
    · rename_i he
      simp only [opI,hσ] at h
      obtain ⟨p, hp, h⟩ := Option.bind_eq_some_iff.1 h
      obtain ⟨l, hl, rfl⟩ := Option.map_eq_some_iff.1 h
      have key : convA P H s d (ρ x) = some (.str l, H) := by
        generalize ρ x = q at hp
        unfold convA
        rw [hs, hd]
        cases q <;> simp [held] at hp <;> simp [held, he, hp, hl] <;> first | rfl | skip
      simp only [exec1,ho,key,mkVM,Zh]
    · exact h
  · exact h
theorem lkpR_sound {t m k ok} (ho : o.op = .lookup t m k ok) (h : opI P ρ σ (lkpR P t m k ok o) H = some r) : exec1 P ρ o H = some r := by
  unfold lkpR at h
  split at h
  · rename_i key elem hu
    split at h
    · rename_i d z hd hz
      simp only [opI,hσ] at h
      simp only [exec1,ho]
      rw [← h]
      congr 1
      simp only [lookupA,hu,hd,Zo,lookupD,hz,Zh]
      rfl
    · exact h
  · exact h
theorem updR_sound {t m k v} (ho : o.op = .mapUpdate t m k v) (h : opI P ρ σ (updR P t m k v o) H = some r) : exec1 P ρ o H = some r := by
  unfold updR at h
  split at h
  · rename_i key elem hu
    split at h
    · rename_i d hd
      simp only [opI,hσ] at h
      simp only [exec1,ho]
      rw [← h]
      congr 1
      generalize ρ m = q
      unfold updateA updateD
      rw [hu]
      cases q with
      | map id =>
        simp only [hd,Zo]
        cases hb : H[id]? with
        | none => rfl
        | some x => cases x <;> rfl
      | _ => rfl
    · exact h
  · exact h
theorem updR_sound2 {t m k v} (ho : o.op = .insert t m k v) (h : opI P ρ σ (updR P t m k v o) H = some r) : exec1 P ρ o H = some r := by
  unfold updR at h
  split at h
  · rename_i key elem hu
    split at h
    · rename_i d hd
      simp only [opI,hσ] at h
      simp only [exec1,ho]
      rw [← h]
      congr 1
      generalize ρ m = q
      unfold updateA updateD
      rw [hu]
      cases q with
      | map id =>
        simp only [hd,Zo]
        cases hb : H[id]? with
        | none => rfl
        | some x => cases x <;> rfl
      | _ => rfl
    · exact h
  · exact h
theorem rngR_sound {t x} (ho : o.op = .range t x) (h : opI P ρ σ (rngR P t x o) H = some r) : exec1 P ρ o H = some r := by
  unfold rngR at h
  split at h
  · rename_i hu
    simp only [opI,hσ] at h
    split at h
    · rename_i s e
      simp only [exec1,ho,rangeA,hu,e,mkVM,Zh]; exact h
    · cases h
  · exact h
theorem mksR_sound {t l c} (ho : o.op = .makeSlice t l c) (h : opI P ρ σ (mksR P t l c o) H = some r) : exec1 P ρ o H = some r := by
  unfold mksR at h
  split at h
  · rename_i elem hu
    split at h
    · rename_i i z hi hz
      split at h
      · rename_i hc
        simp only [opI,hσ] at h
        obtain ⟨p, hp, rfl⟩ := Option.map_eq_some_iff.1 h
        unfold makeD at hp
        split at hp
        · rename_i l0 c0 e1 e2
          split at hp
          · rename_i hlc
            injection hp with hp; subst hp
            simp only [exec1,ho,makeSliceA,hu,e1,e2,hi,hz,Zo]
            rw [if_pos ⟨hlc.1, hlc.2.1, hlc.2.2, hc.1, hc.2.1, hc.2.2⟩]
            rfl
          · cases hp
        · cases hp
      · exact h
    · exact h
  · exact h
theorem asrtR_sound {x t a ok} (ho : o.op = .typeAssert x t a ok) (hl : ∀ v, σ (.lit v) = v) (h : opI P ρ σ (asrtR P x a ok o) H = some r) : exec1 P ρ o H = some r := by
  unfold asrtR at h
  split at h
  · exact h
  · rename_i d hni hu
    split at h
    · rename_i z hz
      simp only [opI,hσ,hl] at h
      obtain ⟨p, hp, rfl⟩ := Option.map_eq_some_iff.1 h
      have key : assertA P (ρ x) a ok = some p := by
        generalize ρ x = q at hp
        unfold assertA
        rw [hu]
        cases d <;> first | exact (hni _ rfl).elim | (cases q <;> simp [assertD, hz] at hp ⊢ <;> exact hp)
      simp only [exec1,ho,key,mkVal,Zh]
    · exact h
  · exact h
theorem mkifR_sound {t x} (ho : o.op = .makeInterface t x) (h : opI P ρ σ (mkifR P t x o) H = some r) : exec1 P ρ o H = some r := by
  unfold mkifR at h
  split at h
  · exact h
  · rename_i d hd hu
    simp only [opI,hσ] at h
    simp only [exec1,ho,hu]; exact h
  · exact h
omit hσ in
theorem newR_sound {elem} (ho : o.op = .alloc elem) (h : opI P ρ σ (newR P elem o) H = some r) : exec1 P ρ o H = some r := by
  unfold newR at h
  split at h
  · rename_i z hz
    split at h
    · rename_i hk
      simp only [opI] at h
      simp only [exec1,ho,hz,Zo,if_pos hk,newA]; exact h
    · exact h
  · exact h
theorem storeR_sound {t a x} (ho : o.op = .store t a x) (h : opI P ρ σ (storeR P t a x o) H = some r) : exec1 P ρ o H = some r := by
  unfold storeR at h
  split at h
  · rename_i n hn
    simp only [opI,hσ] at h
    split at h
    · rename_i id off st e
      split at h
      · rename_i cs st' ty hb
        split at h
        · rename_i hc
          simp only [exec1,ho,storeA,e,hb,hn]
          rw [if_pos ⟨hc.1, by rw [hc.2.1], hc.2.2.1, hc.2.2.2⟩]
          exact h
        · cases h
      · cases h
    · cases h
  · exact h
theorem cutR_sound {t x lo hi} (ho : o.op = .slice t x lo hi none) (h : opI P ρ σ (cutR P t x lo hi o) H = some r) : exec1 P ρ o H = some r := by
  have hm : ∀ y : Option Operand, (y.map argI).map σ = y.map ρ := fun y => by cases y <;> simp [hσ]
  unfold cutR at h
  split at h
  · rename_i hu
    simp only [opI,hσ,hm] at h
    obtain ⟨l, hl, h⟩ := Option.bind_eq_some_iff.1 h
    simp only [exec1,ho,sliceA,hl,Zo,hu,mkVal]
    split at h
    · rename_i s e
      obtain ⟨j, hj, h⟩ := Option.bind_eq_some_iff.1 h
      split at h
      · rename_i hc
        simp only [e,hj,Zo,if_pos hc,Zh]; exact h
      · cases h
    · cases h
  · rename_i el hu
    split at h
    · rename_i s hs
      simp only [opI,hσ,hm] at h
      obtain ⟨p, hp, rfl⟩ := Option.map_eq_some_iff.1 h
      unfold cutSD at hp
      obtain ⟨l, hl, hp⟩ := Option.bind_eq_some_iff.1 hp
      simp only [exec1,ho,sliceA,hl,Zo,hu,mkVal]
      split at hp
      · rename_i id off len sz st e
        obtain ⟨j, hj, hp⟩ := Option.bind_eq_some_iff.1 hp
        split at hp
        · rename_i hc
          simp only [e,hj,Zo]
          rw [if_pos ⟨hc.1, hc.2.1, by rw [hs, hc.2.2]⟩]
          simp only [Zh]
          injection hp with hp
          rw [hp]
        · cases hp
      · rename_i len cs e
        obtain ⟨j, hj, hp⟩ := Option.bind_eq_some_iff.1 hp
        split at hp
        · rename_i hc
          simp only [e,hs,hj,Zo,if_pos hc,Zh]
          injection hp with hp
          rw [hp]
        · cases hp
      · rename_i e
        obtain ⟨j, hj, hp⟩ := Option.bind_eq_some_iff.1 hp
        split at hp
        · rename_i hc
          simp only [e,hs,hj,Zo,if_pos hc,Zh]
          injection hp with hp
          rw [hp]
        · cases hp
      · cases hp
    · exact h
  · rename_i n el hu
    split at h
    · rename_i s hs
      simp only [opI,hσ,hm] at h
      obtain ⟨p, hp, rfl⟩ := Option.map_eq_some_iff.1 h
      unfold cutAD at hp
      obtain ⟨l, hl, hp⟩ := Option.bind_eq_some_iff.1 hp
      simp only [exec1,ho,sliceA,hl,Zo,hu,mkVal]
      split at hp
      · rename_i id off st e
        obtain ⟨j, hj, hp⟩ := Option.bind_eq_some_iff.1 hp
        simp only [e,hs,hj,Zo]
        cases hb : H[id]? with
        | none => rw [hb] at hp; cases hp
        | some x =>
          rw [hb] at hp
          cases x with
          | row cs st' ty =>
            simp only at hp ⊢
            rw [hp]; rfl
          | _ => cases hp
      · cases hp
    · exact h
  · exact h
theorem cut3R_sound {t x lo hi mx} (ho : o.op = .slice t x lo (some hi) (some mx)) (h : opI P ρ σ (cut3R P t x lo hi mx o) H = some r) : exec1 P ρ o H = some r := by
  have hm : ∀ y : Option Operand, (y.map argI).map σ = y.map ρ := fun y => by cases y <;> simp [hσ]
  unfold cut3R at h
  split at h
  · rename_i el hu
    split at h
    · rename_i s hs
      simp only [opI,hσ,hm] at h
      obtain ⟨p, hp, rfl⟩ := Option.map_eq_some_iff.1 h
      have key : slice3A P t (ρ x) (lo.map ρ) (ρ hi) (ρ mx) = some p := by
        unfold cut3D at hp
        unfold slice3A
        obtain ⟨m, hmm, hp⟩ := Option.bind_eq_some_iff.1 hp
        obtain ⟨e, hee, hp⟩ := Option.bind_eq_some_iff.1 hp
        obtain ⟨l, hll, hp⟩ := Option.bind_eq_some_iff.1 hp
        simp only [hmm,hee,hll,Zo,hu]
        split at hp
        · rename_i e1
          split at hp
          · rename_i hc
            simp only [e1]
            rw [if_pos ⟨hc.1, hc.2.1, hc.2.2.1, by rw [hs, hc.2.2.2]⟩]; exact hp
          · cases hp
        · rename_i e1
          split at hp
          · rename_i hc
            simp only [e1]
            rw [if_pos ⟨hc.1, hc.2.1, hc.2.2, by rw [hs]; rfl⟩]; exact hp
          · cases hp
        · cases hp
      simp only [exec1,ho,key,mkVal,Zh]
    · exact h
  · exact h
theorem resolveOp_sound (hlit : ∀ v, σ (.lit v) = v) (hy : ∀ v, ρ (.const v) = ofV v) (hf : ∀ k, ρ (.func k) = .fn (.func k) []) (h : opI P ρ σ (resolveOp P o) H = some r) : exec1 P ρ o H = some r := by
  unfold resolveOp at h
  split at h
  · rename_i ho; simp only [opI,hσ] at h; simp only [exec1,ho]; exact h
  · rename_i ho; simp only [opI,hσ] at h; simp only [exec1,ho]; exact h
  · rename_i c a b ho
    simp only [opI,hσ] at h
    simp only [exec1,ho]
    split at h
    · rename_i e; simp only [e,if_true]; exact h
    · rename_i e; simp only [e]; exact h
    · cases h
  · rename_i ho; exact newR_sound ho h
  · rename_i ho
    simp only [opI,hσ] at h
    simp only [exec1,ho,newA]; exact h
  · rename_i ho; exact bldR_sound hσ ho h
  · rename_i ho; exact bldSR_sound hσ ho h
  · rename_i ho; exact loadR_sound hσ ho h
  · rename_i ho; exact storeR_sound hσ ho h
  · rename_i ho; exact binR_sound hσ hy ho h
  · rename_i ho; simp only [opI,hσ] at h; simp only [exec1,ho]; exact h
  · rename_i ho; exact convR_sound hσ ho h
  · rename_i ho; exact mkifR_sound hσ ho h
  · rename_i ho; exact cutR_sound hσ ho h
  · rename_i ho; exact faddrR_sound hσ ho h
  · rename_i ho; exact fldR_sound hσ ho h
  · rename_i ho; exact iaddrR_sound hσ ho h
  · rename_i ho; exact ixR_sound hσ ho h
  · rename_i ho; exact callR_sound hσ ho h hf
  · rename_i ho
    simp only [opI,hσ] at h
    simp only [exec1,ho]; exact h
  · rename_i ho; simp only [opI,hσ] at h; simp only [exec1,ho]; exact h
  · rename_i f first cap ho
    split at h
    · rename_i hc
      simp only [opI,List.map_map] at h
      have hm : cap.toList.map (σ ∘ argI) = cap.toList.map ρ := List.map_congr_left fun x _ => by simp [hσ]
      rw [hm] at h
      simp only [exec1,ho,if_pos hc]; exact h
    · exact h
  · rename_i ho; exact cut3R_sound hσ ho h
  · rename_i ho; exact lkpR_sound hσ ho h
  · rename_i ho; exact updR_sound hσ ho h
  · rename_i ho; exact updR_sound2 hσ ho h
  · rename_i ho; simp only [opI] at h; simp only [exec1,ho]; exact h
  · rename_i ho; exact rngR_sound hσ ho h
  · rename_i ho; simp only [opI,hσ] at h; simp only [exec1,ho]; exact h
  · rename_i ho; simp only [opI,hσ] at h; simp only [exec1,ho]; exact h
  · rename_i ho; exact mksR_sound hσ ho h
  · rename_i ho; simp only [opI,hσ] at h; simp only [exec1,ho]; exact h
  · rename_i ho; exact asrtR_sound hσ ho hlit h
  · exact h
end
end Go.Proofs.YtlimneghgioeaaaGreatDoor.Ev
