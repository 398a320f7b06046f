/- A plain reckoner of Go code over values without addresses: a region whose order is drawn. -/
import Derived.Test.YtlimneghgioeaaaGreatDoorEvReg
namespace Go.Proofs.YtlimneghgioeaaaGreatDoor.Ev
variable {P : Program} {g : Cfg} {F : FSem} {η η' η'' : Nat → Option Nat} {H H' H'' : Mem} {w w' w'' : World}
theorem memS_none {ops : Array Oper} (hst : Stat ops) {M : Nat → Mem} {RO : Nat → Nat → Prop} (he : Eff ops M RO) {S : Nat → Bool} (hc : Closed ops S) (hs : ∀ k, S k = true → k < ops.size) {i : Nat} {o : Oper} (ho : ops[i]? = some o) (hi : S i = false) (hsame : eqM (M (i + 1)) (M i) = true) :
    ∀ k, memS M (fun j => S j || j == i) k = memS M S k
  | 0 => rfl
  | k + 1 => by
    have ih := memS_none hst he hc hs ho hi hsame k
    simp only [memS, ih]
    by_cases hk : k = i
    · subst hk; simp [hsame]
    · have : (k == i) = false := by simpa using hk
      simp [this]
theorem memS_more {ops : Array Oper} (hst : Stat ops) {M : Nat → Mem} {RO : Nat → Nat → Prop} (he : Eff ops M RO) (hRO : ∀ q k, RO q k → eqM (M (q + 1)) (M q) = true) {S : Nat → Bool} (hc : Closed ops S) (hs : ∀ k, S k = true → k < ops.size) {i : Nat} {o : Oper} (ho : ops[i]? = some o) (hi : S i = false) (hr : ∀ e ∈ o.after, Region.binds .any e = true → S e.on = true) (hl : silentA o = false) (hie : eqM (M (i + 1)) (M i) = false) :
    ∀ k, i < k → memS M (fun j => S j || j == i) k = M (i + 1)
  | 0, h => by omega
  | k + 1, h => by
    have hat := memS_at hst he hRO hc hs ho hi hr hl hie
    have hch : ¬ eqM (M (i + 1)) (M i) = true := by rw [hie]; simp
    · simp only [memS]
      by_cases hk : k = i
      · subst hk
        have : eqM (M (k + 1)) (M k) = false := by simpa using hch
        simp [this]
      · have ih := memS_more hst he hRO hc hs ho hi hr hl hie k (by omega)
        have hbe : (k == i) = false := by simpa using hk
        have h1 := hat (k + 1)
        have h2 := hat k
        rw [Nat.min_eq_right (by omega)] at h1 h2
        simp only [memS] at h1
        simp only [hbe, Bool.or_false]
        by_cases hc2 : (S k && !eqM (M (k + 1)) (M k)) = true
        · exfalso
          simp only [Bool.and_eq_true, Bool.not_eq_true'] at hc2
          have hkx := hs k hc2.1
          have hko : ops[k]? = some ops[k] := Array.getElem?_eq_getElem hkx
          rcases (he k _ hko).resolve_left (by rw [hc2.2]; simp) i o ho with h3 | h3 | h3 | h3 | h3
          · rw [hl] at h3; cases h3
          · exact hk h3.symm
          · have := ahead_in hc (k + 1) k i _ (by omega) hko (hc k _ hc2.1 hko) hs h3
            rw [hi] at this; cases this
          · obtain ⟨e, h4, h5, h6⟩ := ahead_spec ho h3
            have h7 := hst.edge i o ho e h4 h5
            rcases h6 with h6 | ⟨h6, h8⟩
            · omega
            · have : ∀ n j, j < n → j < ops.size → (ahead ops j).testBit k = true → k < j := by
                intro n
                induction n with
                | zero => intro j hj; omega
                | succ n ihn =>
                  intro j hj hjs hb
                  obtain ⟨e', h1', h2', h3'⟩ := ahead_spec (Array.getElem?_eq_getElem hjs) hb
                  have h4' := hst.edge j _ (Array.getElem?_eq_getElem hjs) e' h1' h2'
                  rcases h3' with rfl | ⟨h5', h6'⟩
                  · exact h4'
                  · have := ihn e'.on (by omega) (by omega) h6'; omega
              have := this (e.on + 1) e.on (by omega) (by have := (Array.getElem?_eq_some_iff.1 ho).1; omega) h8
              omega
          · rw [hRO _ _ h3] at hie; cases hie
        · rw [if_neg hc2]; exact ih
theorem Ext.thenW {η0 : Nat → Option Nat} {H0 : Mem} {w0 : World} (e : Ext η0 H0 w0 η H w) (f : ExtW η H w η' H' w') (hu : ∀ id, id < H0.length → η id = none → η' id = none) : Ext η0 H0 w0 η' H' w' :=
  ⟨e.toExtW.trans f, fun id h h1 => hu id h (e.unm id h h1)⟩
/-- One operation of a region. -/
theorem valA_step {η0 : Nat → Option Nat} {H0 : Mem} {w0 : World} (hF : FOk P g F) {ops : Array Oper} {i id : Nat} {o : Oper} {a : AAct} {act : Act} {v : AV} {H1 : Mem} (ho : ops[i]? = some o) (x : Ext η0 H0 w0 η H w) (r : Rel g η H w) (ha : ActR η H w a act) (hid : H0.length ≤ id)
    (hp : isAlloc o = true → η id = none) (h : valA P g F ops id o a H = some (v, H1)) {Q : Exit → Act → World → Prop} {K : Act → World → Prop}
    (hK : ∀ η1 act1 w1, Ext η0 H0 w0 η1 H1 w1 → Rel g η1 H1 w1 → ActR η1 H1 w1 (a.put o.dst v) act1 → (∀ j, j < H.length → (isAlloc o = true → j ≠ id) → η j = none → η1 j = none) → H.length ≤ H1.length → K act1 w1) : wpOp P ops Q i K act w := by
  unfold wpOp
  rw [ho]
  simp only
  unfold valA at h
  cases hw : wantedA ops a o with
  | none => simp [hw] at h
  | some b =>
    rw [wantedA_sound ha hw]
    cases b with
    | false =>
      simp only [hw] at h
      injection h with h; injection h with h1 h2
      subst h1 h2
      simp only [Bool.false_eq_true, if_false]
      exact hK η _ w x r (ha.put undefR _) (fun j _ _ h => h) (Nat.le_refl _)
    | true =>
      simp only [hw] at h
      simp only [if_true]
      refine .inl ?_
      unfold Oper.wp
      have general : (match exec1 P (a.eval g) o H with | some (.val v H') => some (v, H') | some (.call f args) => (match F f args H with | some (.ret v, H') => some (v, H') | _ => none) | _ => none) = some (v, H1) → o.upon P act K Q ((execOp act.eval o).run P w) := by
        intro h
        cases hx : exec1 P (a.eval g) o H with
        | none => simp [hx] at h
        | some res =>
          have hs := exec1_sound (P := P) r (fun x => ha.eval r x) hx
          cases res with
          | val v2 H2 =>
            simp only [hx] at h
            injection h with h; injection h with h1 h2
            subst h1 h2
            obtain ⟨η', w', u, h1, h2, h3, h4⟩ := hs
            rcases h1 with h1 | ⟨h1, rfl⟩
            · rw [h1]
              exact hK η' _ w' (x.trans h2) h3 ((ha.ext h2).put h4 _) (fun j hj _ h => h2.unm j hj h) h2.len
            · rw [h1]
              exact hK η' _ w' (x.trans h2) h3 ((ha.ext h2).put h4 _) (fun j hj _ h => h2.unm j hj h) h2.len
          | pan v2 => simp [hx] at h
          | dfr f args => simp [hx] at h
          | call f args =>
            simp only [hx] at h
            obtain ⟨us, h1, h2⟩ := hs
            rw [h1]
            cases hf : F f args H with
            | none => simp [hf] at h
            | some p =>
              obtain ⟨en, H2⟩ := p
              have hc := hF f args H en H2 hf η w us r h2
              refine Calls.mono hc fun e w' he => ?_
              obtain ⟨η', h3, h4, h5⟩ := he
              cases en with
              | ret v2 =>
                simp only [hf] at h
                injection h with h; injection h with h6 h7
                subst h6 h7
                cases e with
                | returned u => exact hK η' _ w' (x.trans h3) h4 ((ha.ext h3).put h5 _) (fun j hj _ h => h3.unm j hj h) h3.len
                | panicked ch => exact h5.elim
                | outgrown => exact h5.elim
              | pan v2 => simp [hf] at h
      cases hop : o.op with
      | alloc elem =>
        simp only [hop] at h
        obtain ⟨z, hz, h'⟩ := Option.bind_eq_some_iff.1 h
        have hal : isAlloc o = true := by simp [isAlloc, hop]
        have hη := hp hal
        cases hb : H[id]? with
        | none => simp [hb] at h'
        | some blk =>
          simp only [hb] at h'
          split at h'
          · rename_i hc
            injection h' with h'; injection h' with h1 h2
            subst h1 h2
            simp only [Bool.and_eq_true] at hc
            obtain ⟨hk, he⟩ := hc
            obtain rfl := eqB_eq he
            obtain ⟨zv, hzr, rfl⟩ := run_zero (w := w) hz
            have hid2 : id < H.length := (List.getElem?_eq_some_iff.1 hb).1
            have hrun : (execOp act.eval o).run P w = .ok (.value (.pointer (some ⟨w.heap.size, 0, none⟩))) (w.alloc (.cells zv.cells elem)) := by
              simp [execOp, hop, Instr.alloc, hzr, newVar, newRow]
            rw [hrun]
            have hzc : VRs η H w (ofV zv).cells zv.cells := (VR_ofV zv).cells hk
            have eW : ExtW η H w (upd η id w.heap.size) H (w.alloc (.cells zv.cells elem)) := by
              refine ⟨Nat.le_refl _, fun j y hy => ⟨y, hy, Nat.le_refl _, fun _ b hb' => ⟨?_, fun s hs => ?_⟩⟩, by simp, fun b hb' => ⟨heap_alloc_lt w _ b hb'.1, fun j hj => ?_⟩, rfl, rfl, rfl⟩
              · rw [upd_ne (fun e => by rw [e, hη] at hb'; cases hb')]; exact hb'
              · unfold World.shape? at *
                rw [heap_alloc_lt w _ b (r.dom j b hb').2]; exact hs
              · unfold upd at hj
                split at hj
                · injection hj with hj; exact absurd hb'.1 (by omega)
                · exact hb'.2 j hj
            have r1 : Rel g (upd η id w.heap.size) H (w.alloc (.cells zv.cells elem)) := by
              refine r.step eW (fun j b hj => ?_) (fun j k b h1 h2 => ?_) r.low fun j y b h1 h2 => ?_
              · unfold upd at hj
                split at hj
                · rename_i e; injection hj with hj; subst e; subst hj; simp [hid2]
                · have := r.dom j b hj; simp; omega
              · unfold upd at h1 h2
                split at h1 <;> split at h2
                · omega
                · injection h1 with h1; have := (r.dom k b h2).2; omega
                · injection h2 with h2; have := (r.dom j b h1).2; omega
                · exact r.inj j k b h1 h2
              · unfold upd at h2
                split at h2
                · rename_i e
                  subst e
                  injection h2 with h2
                  subst h2
                  rw [hb] at h1
                  injection h1 with h1
                  subst h1
                  exact .inr ⟨zv.cells, elem, (0, 0), heap_alloc_at w _, by rw [hzc.1]; exact Nat.le_refl _, fun j x u hx hu => (hzc.2 j x u hx hu).extW eW, fun j _ => by simp, fun T hT => Nat.succ.inj hT⟩
                · exact .inl ⟨h1, h2, heap_alloc_lt w _ b (r.dom j b h2).2⟩
            have haW : ActR (upd η id w.heap.size) H (w.alloc (.cells zv.cells elem)) a act := by
              refine ⟨ha.size, fun j => (ha.tmp j).extW eW, ?_⟩
              have : ∀ (ds : List (AV × List AV)) (es : List Deferred), DefsR η H w ds es → DefsR (upd η id w.heap.size) H (w.alloc (.cells zv.cells elem)) ds es := by
                intro ds
                induction ds with
                | nil => intro es h; cases es <;> first | trivial | exact h.elim
                | cons d ds ih =>
                  intro es h
                  cases es with
                  | nil => exact h.elim
                  | cons e es =>
                    obtain ⟨⟨k, caps, h1, h2, h3⟩, h4⟩ := h
                    exact ⟨⟨k, caps, h1, h2.extW eW, h3.1, fun j c u hc hu => (h3.2 j c u hc hu).extW eW⟩, ih es h4⟩
              exact this _ _ ha.def_
            refine hK _ _ _ (x.thenW eW fun j hj h => by rw [upd_ne (by omega)]; exact h) r1 (haW.put (.ptr id 0 0 _ hid2 (Nat.zero_le _) fun _ => ⟨_, upd_at, rfl⟩) _) (fun j _ hne h => by rw [upd_ne (hne hal)]; exact h) (Nat.le_refl _)
          · cases h'
      | _ => exact general (by simp only [hop] at h; exact h)
theorem zeroRows_spec : ∀ (l : List Oper) (rows : Mem), zeroRows P l = some rows → rows.length = cntA l l.length ∧ (∀ x ∈ rows, lowB 0 x = true) ∧ ∀ (i : Nat) o, l[i]? = some o → isAlloc o = true → cntA l i < rows.length
  | [], rows, h => by simp [zeroRows] at h; subst h; exact ⟨rfl, fun x hx => by simp at hx, fun i o h => by simp at h⟩
  | x :: l, rows, h => by
    have shift : ∀ k, cntA (x :: l) (k + 1) = (if isAlloc x then 1 else 0) + cntA l k := fun k => by
      unfold cntA
      rw [List.take_succ_cons, List.filter_cons]
      cases isAlloc x <;> simp; omega
    have h0 : cntA (x :: l) 0 = 0 := by simp [cntA]
    by_cases hx : isAlloc x = true
    · obtain ⟨elem, he⟩ : ∃ elem, x.op = .alloc elem := by
        unfold isAlloc at hx
        split at hx
        · exact ⟨_, by assumption⟩
        · cases hx
      simp only [zeroRows, he] at h
      obtain ⟨z, hz, h'⟩ := Option.bind_eq_some_iff.1 h
      split at h'
      · rename_i hk
        obtain ⟨rs, hr, rfl⟩ := Option.map_eq_some_iff.1 h'
        obtain ⟨h1, h2, h3⟩ := zeroRows_spec l rs hr
        refine ⟨by rw [List.length_cons, List.length_cons, shift, hx, h1]; simp; omega, fun y hy => ?_, fun i o ho ha => ?_⟩
        · rcases List.mem_cons.1 hy with rfl | hy
          · obtain ⟨zv, hzr, rfl⟩ := run_zero (P := P) (w := default) hz
            have hc := (VR_ofV (η := fun _ => none) (H := []) (w := default) zv).cells hk
            exact low_of_each hc.1 fun j c u h1 h2 => (hc.2 j c u h1 h2).low
          · exact h2 y hy
        · cases i with
          | zero => rw [h0]; simp
          | succ i => rw [shift, hx]; have := h3 i o (by simpa using ho) ha; simp; omega
      · cases h'
    · have hx' : isAlloc x = false := by simpa using hx
      have hr : zeroRows P l = some rows := by
        cases hop : x.op <;> simp [isAlloc, hop] at hx' <;> simpa only [zeroRows, hop] using h
      obtain ⟨h1, h2, h3⟩ := zeroRows_spec l rows hr
      refine ⟨by rw [List.length_cons, shift, hx', h1]; simp, h2, fun i o ho ha => ?_⟩
      cases i with
      | zero => simp at ho; subst ho; rw [hx'] at ha; cases ha
      | succ i => rw [shift, hx']; have := h3 i o (by simpa using ho) ha; simp; omega
theorem memS_all {M : Nat → Mem} {S : Nat → Bool} : ∀ k, (∀ j, j < k → S j = true) → memS M S k = M k
  | 0, _ => rfl
  | k + 1, h => by
    simp only [memS, h k (by omega), Bool.true_and]
    cases hc : eqM (M (k + 1)) (M k) with
    | true => simp [memS_all k fun j hj => h j (by omega), eqM_eq hc]
    | false => simp
theorem getD_setB (l : Array Bool) (i k : Nat) (hi : i < l.size) : (l.setIfInBounds i true).getD k false = (l.getD k false || k == i) := by
  by_cases h : i = k
  · subst h; simp [hi]
  · have : (k == i) = false := by simpa using fun e => h e.symm
    simp [this, Array.getElem?_setIfInBounds_ne h]
section
variable {ops : Array Oper} {a : AAct} {tr : List (AV × Mem)} {η0 : Nat → Option Nat} {H0 : Mem} {w0 : World} {rows : Mem}
theorem any_sound (hF : FOk P g F) (hst : Stat ops) {RO : Nat → Nat → Prop} (he : Eff ops (memAt tr (H0 ++ rows)) RO)
    (hRO : ∀ q k, RO q k → eqM (memAt tr (H0 ++ rows) (q + 1)) (memAt tr (H0 ++ rows) q) = true ∧ ∀ o, ops[q]? = some o → (valA P g F ops (H0.length + cntA ops.toList q) o (accS ops (vAt tr) a (fun j => decide (j < q)) ops.size) (memAt tr (H0 ++ rows) k) = some (vAt tr q, memAt tr (H0 ++ rows) k)) ∧ valA P g F ops (H0.length + cntA ops.toList q) o (accS ops (vAt tr) a (fun j => decide (j < q)) ops.size) (memAt tr (H0 ++ rows) (k + 1)) = some (vAt tr q, memAt tr (H0 ++ rows) (k + 1)))
    (hfact : ∀ (i : Nat) o, ops[i]? = some o → valA P g F ops (H0.length + cntA ops.toList i) o (accS ops (vAt tr) a (fun j => decide (j < i)) ops.size) (memAt tr (H0 ++ rows) i) = some (vAt tr i, memAt tr (H0 ++ rows) (i + 1)))
    (hrows : ∀ (i : Nat) o, ops[i]? = some o → isAlloc o = true → cntA ops.toList i < rows.length) :
    ∀ (fuel : Nat) (listed : Array Bool) (η : Nat → Option Nat) (w : World) (act : Act), listed.size = ops.size → Closed ops (fun k => listed.getD k false) → ((List.range ops.size).filter fun k => !listed.getD k false).length = fuel →
      Ext η0 H0 w0 η (memS (memAt tr (H0 ++ rows)) (fun k => listed.getD k false) ops.size) w → Rel g η (memS (memAt tr (H0 ++ rows)) (fun k => listed.getD k false) ops.size) w →
      ActR η (memS (memAt tr (H0 ++ rows)) (fun k => listed.getD k false) ops.size) w (accS ops (vAt tr) a (fun k => listed.getD k false) ops.size) act →
      (∀ (i : Nat) o, ops[i]? = some o → isAlloc o = true → listed.getD i false = false → η (H0.length + cntA ops.toList i) = none) → (H0 ++ rows).length ≤ (memS (memAt tr (H0 ++ rows)) (fun k => listed.getD k false) ops.size).length →
      wpAny P .any ops (Post g η0 H0 w0 .normal (accS ops (vAt tr) a (fun _ => true) ops.size) (memAt tr (H0 ++ rows) ops.size)) fuel listed act w := by
  have done : ∀ (listed : Array Bool), Region.ready .any ops listed = [] → listed.size = ops.size → ∀ k, k < ops.size → listed.getD k false = true := by
    intro listed hr hsz
    have : ∀ n k, k < n → k < ops.size → listed.getD k false = true := by
      intro n
      induction n with
      | zero => intro k hk; omega
      | succ n ih =>
        intro k hk hks
        cases hS : listed.getD k false with
        | true => rfl
        | false =>
          exfalso
          have : k ∈ Region.ready .any ops listed := mem_ready.2 ⟨by
              have hk2 : k < listed.size := by omega
              simp [hk2] at hS ⊢; exact hS, ops[k], Array.getElem?_eq_getElem hks, fun e h1 h2 => ih e.on (by have := hst.edge k _ (Array.getElem?_eq_getElem hks) e h1 h2; omega) (by have := hst.edge k _ (Array.getElem?_eq_getElem hks) e h1 h2; omega)⟩
          rw [hr] at this; cases this
    exact fun k hk => this (k + 1) k (by omega) hk
  have post : ∀ (listed : Array Bool) (η : Nat → Option Nat) (w : World) (act : Act), (∀ k, k < ops.size → listed.getD k false = true) → Ext η0 H0 w0 η (memS (memAt tr (H0 ++ rows)) (fun k => listed.getD k false) ops.size) w → Rel g η (memS (memAt tr (H0 ++ rows)) (fun k => listed.getD k false) ops.size) w →
      ActR η (memS (memAt tr (H0 ++ rows)) (fun k => listed.getD k false) ops.size) w (accS ops (vAt tr) a (fun k => listed.getD k false) ops.size) act → Post g η0 H0 w0 .normal (accS ops (vAt tr) a (fun _ => true) ops.size) (memAt tr (H0 ++ rows) ops.size) .normal act w := by
    intro listed η w act hall x r ha
    rw [memS_all ops.size hall] at x r ha
    rw [accS_congr (T := fun _ => true) ops.size hall] at ha
    exact ⟨η, x, r, ha, trivial⟩
  intro fuel
  induction fuel with
  | zero =>
    intro listed η w act hsz hc hcnt x r ha hp hlen
    have hall : ∀ k, k < ops.size → listed.getD k false = true := by
      intro k hk
      cases hS : listed.getD k false with
      | true => rfl
      | false =>
        have : k ∈ (List.range ops.size).filter fun k => !listed.getD k false := by
          rw [List.mem_filter]; exact ⟨List.mem_range.2 hk, by simp only [hS]; rfl⟩
        rw [List.eq_nil_of_length_eq_zero hcnt] at this; cases this
    refine ⟨?_, post listed η w act hall x r ha⟩
    cases hr : Region.ready .any ops listed with
    | nil => rfl
    | cons i l =>
      exfalso
      have hi : i ∈ Region.ready .any ops listed := by rw [hr]; simp
      obtain ⟨h1, o, h2, _⟩ := mem_ready.1 hi
      have hk : i < ops.size := (Array.getElem?_eq_some_iff.1 h2).1
      have h3 := hall i hk
      have hk2 : i < listed.size := by omega
      simp [hk2] at h1 h3
      rw [h1] at h3; cases h3
  | succ fuel ih =>
    intro listed η w act hsz hc hcnt x r ha hp hlen
    refine ⟨fun hr => post listed η w act (done listed hr hsz) x r ha, fun i hi => ?_⟩
    obtain ⟨h1, o, ho, hr⟩ := mem_ready.1 hi
    have hk : i < ops.size := (Array.getElem?_eq_some_iff.1 ho).1
    have hk2 : i < listed.size := by omega
    have hiF : listed.getD i false = false := by simp [hk2] at h1 ⊢; exact h1
    have hs : ∀ k, (fun k => listed.getD k false) k = true → k < ops.size := by
      intro k h
      rcases Nat.lt_or_ge k ops.size with h' | h'
      · exact h'
      · have : ¬ k < listed.size := by omega
        simp [this] at h
    have hS' : ∀ k, (listed.setIfInBounds i true).getD k false = (listed.getD k false || k == i) := fun k => getD_setB listed i k hk2
    have hfun : (fun k => (listed.setIfInBounds i true).getD k false) = fun k => listed.getD k false || k == i := funext hS'
    have hlook : ∀ t ∈ looksA ops o, look (accS ops (vAt tr) a (fun k => listed.getD k false) ops.size).t t = look (accS ops (vAt tr) a (fun j => decide (j < i)) ops.size).t t := fun t ht => accS_looks hst hc hs ho hiF hr ht ops.size
    have hval : valA P g F ops (H0.length + cntA ops.toList i) o (accS ops (vAt tr) a (fun k => listed.getD k false) ops.size) (memS (memAt tr (H0 ++ rows)) (fun k => listed.getD k false) ops.size) = some (vAt tr i, memS (memAt tr (H0 ++ rows)) (fun k => listed.getD k false || k == i) ops.size) := by
      rw [valA_congr hlook]
      have hf := hfact i o ho
      cases hsil : silentA o with
      | true =>
        obtain ⟨h2, h3⟩ := valA_silent hsil hf
        rw [h3, memS_none hst he hc hs ho hiF (by rw [h2]; exact eqM_refl _)]
      | false =>
        have hRO' : ∀ q k, RO q k → eqM (memAt tr (H0 ++ rows) (q + 1)) (memAt tr (H0 ++ rows) q) = true := fun q k h => (hRO q k h).1
        cases hie : eqM (memAt tr (H0 ++ rows) (i + 1)) (memAt tr (H0 ++ rows) i) with
        | false =>
          rw [memS_at hst he hRO' hc hs ho hiF hr hsil hie, Nat.min_eq_right (by omega), memS_more hst he hRO' hc hs ho hiF hr hsil hie ops.size hk]
          exact hf
        | true =>
          rw [memS_none hst he hc hs ho hiF hie]
          rcases memS_val hst he hRO' hc hs ho hiF hr hsil hie ops.size with h | ⟨j, _, _, h, h3⟩ | ⟨j, _, _, h, h3, _⟩
          · rw [h, Nat.min_eq_right (by omega)]
            rw [eqM_eq hie] at hf
            exact hf
          · rw [h]; exact ((hRO i j h3).2 o ho).2
          · rw [h]; exact ((hRO i j h3).2 o ho).1
    have hmid : ∀ j, cntA ops.toList j < rows.length → H0.length + cntA ops.toList j < (memS (memAt tr (H0 ++ rows)) (fun k => listed.getD k false) ops.size).length := by
      intro j hj
      rw [List.length_append] at hlen
      omega
    refine valA_step hF ho x r ha (Nat.le_add_right _ _) (fun hal => hp i o ho hal hiF) hval fun η1 act1 w1 x1 r1 ha1 hun hl1 => ?_
    have hcl' : Closed ops (fun k => (listed.setIfInBounds i true).getD k false) := by
      intro j y hj hy e h2 h3
      simp only [hS', Bool.or_eq_true, beq_iff_eq] at hj ⊢
      rcases hj with hj | rfl
      · exact .inl (hc j y hj hy e h2 h3)
      · rw [ho] at hy
        injection hy with hy
        subst hy
        exact .inl (hr e h2 h3)
    refine ih (listed.setIfInBounds i true) η1 w1 act1 (by simpa using hsz) hcl' ?_ (by rw [hfun]; exact x1) (by rw [hfun]; exact r1) ?_ ?_ (by rw [hfun]; omega)
    · have hrng : ∀ (l : List Nat), l.Nodup → i ∈ l → (l.filter fun k => !(listed.getD k false || k == i)).length + 1 = (l.filter fun k => !listed.getD k false).length := by
        intro l
        induction l with
        | nil => intro _ h; cases h
        | cons y l ihl =>
          intro hn hm
          rw [List.nodup_cons] at hn
          by_cases hy : y = i
          · subst hy
            have hsame : (l.filter fun k => !(listed.getD k false || k == y)) = l.filter fun k => !listed.getD k false := by
              apply List.filter_congr
              intro k hk
              have : (k == y) = false := by simp; exact fun e => hn.1 (e ▸ hk)
              simp [this]
            simp only [List.filter_cons, hiF, hsame]
            simp
          · have hm' : i ∈ l := by
              rcases List.mem_cons.1 hm with h | h
              · exact absurd h.symm hy
              · exact h
            have := ihl hn.2 hm'
            have hb : (y == i) = false := by simpa using hy
            simp only [List.filter_cons, hb, Bool.or_false]
            split
            · simp only [List.length_cons]; omega
            · exact this
      have := hrng (List.range ops.size) List.nodup_range (List.mem_range.2 hk)
      simp only [hS']
      omega
    · rw [hfun]
      have hn1 := accS_n ops (vAt tr) a (fun k => listed.getD k false || k == i) ops.size
      have hn2 := accS_n ops (vAt tr) a (fun k => listed.getD k false) ops.size
      have hn3 := put_n (accS ops (vAt tr) a (fun k => listed.getD k false) ops.size) o.dst (vAt tr i)
      refine ⟨by rw [hn1.1, ← hn2.1, ← hn3.1]; exact ha1.size, fun t => ?_, by rw [hn1.2, ← hn2.2, ← hn3.2]; exact ha1.def_⟩
      have h2 := ha1.tmp t
      rw [look_put, hn2.1] at h2
      rw [accS_more hst hc hs ho hiF t ops.size]
      by_cases hd : o.dst = some t
      · rw [if_pos ⟨hk, hd⟩]; rw [if_pos hd] at h2; exact h2
      · rw [if_neg (fun h => hd h.2)]; rw [if_neg hd] at h2; exact h2
    · intro j y hy hal hj
      simp only [hS', Bool.or_eq_false_iff] at hj
      have hji : j ≠ i := by simpa using hj.2
      refine hun _ (hmid j (hrows j y hy hal)) (fun hal2 e => ?_) (hp j y hy hal hj.1)
      have e2 : cntA ops.toList j = cntA ops.toList i := by omega
      rcases Nat.lt_or_ge j i with h2 | h2
      · have h3 := cntA_succ (l := ops.toList) (k := j) (o := y) (by simpa using hy)
        have h4 := cntA_mono (l := ops.toList) (show j + 1 ≤ i by omega)
        rw [hal] at h3; simp at h3; omega
      · have h3 := cntA_succ (l := ops.toList) (k := i) (o := o) (by simpa using ho)
        have h4 := cntA_mono (l := ops.toList) (show i + 1 ≤ j by omega)
        rw [hal2] at h3; simp at h3; omega
end
/-- A region of which the order is drawn. -/
theorem drawA_sound (hm : P.follows .mixedOrders = true) (hF : FOk P g F) (id : Nat) (ops : Array Oper) (a a1 : AAct) (H H1 : Mem) (out : Out) (η : Nat → Option Nat) (w : World) (act : Act) (r : Rel g η H w) (ha : ActR η H w a act) (h : drawA P g F ops a H = some (out, a1, H1)) :
    (Code.region id ops true).wp P (Post g η H w out a1 H1) act w := by
  unfold drawA at h
  split at h
  · rename_i hstat
    obtain ⟨rows, hrows, h'⟩ := Option.bind_eq_some_iff.1 h
    obtain ⟨tr, htr, h'⟩ := Option.bind_eq_some_iff.1 h'
    clear h
    split at h'
    · rename_i heff
      injection h' with h'; injection h' with h1 h'; injection h' with h2 h3
      subst h1 h2 h3
      have hst := statOk_spec hstat
      obtain ⟨htl, hf⟩ := lexA_facts ops.toList H.length a (H ++ rows) tr htr
      have htl' : tr.length = ops.size := by simpa using htl
      obtain ⟨hr1, hr2, hr3⟩ := zeroRows_spec ops.toList rows hrows
      have hfact : ∀ (i : Nat) o, ops[i]? = some o → valA P g F ops (H.length + cntA ops.toList i) o (accS ops (vAt tr) a (fun j => decide (j < i)) ops.size) (memAt tr (H ++ rows) i) = some (vAt tr i, memAt tr (H ++ rows) (i + 1)) := by
        intro i o ho
        have hi : i < ops.size := (Array.getElem?_eq_some_iff.1 ho).1
        have := hf i o (by simpa using ho)
        rw [putAll_acc htl' i (by omega), accS_congr (T := fun j => decide (j < i)) i (fun j hj => by simp [hj])] at this
        rw [accS_stop ops.size (by omega)]
        exact this
      let RO : Nat → Nat → Prop := fun q k => ∃ o, ops[q]? = some o ∧ (roA P g F ops H.length a (H ++ rows) tr q o (memAt tr (H ++ rows) k) && roA P g F ops H.length a (H ++ rows) tr q o (memAt tr (H ++ rows) (k + 1))) = true
      have heff' : Eff ops (memAt tr (H ++ rows)) RO := by
        intro k o ho
        have hk : k < ops.size := (Array.getElem?_eq_some_iff.1 ho).1
        rcases effOk_spec (ops := ops) (tabOf ops) tr (H ++ rows) heff (by simp [tabOf, befs_length, htl']) k _ (tab_get ho) with h1 | h1
        · exact .inl h1
        · refine .inr fun q x hq => ?_
          rcases h1 q x hq with h2 | h2 | h2 | h2 | h2
          · exact .inl h2
          · exact .inr (.inl h2)
          · exact .inr (.inr (.inl h2))
          · exact .inr (.inr (.inr (.inl h2)))
          · exact .inr (.inr (.inr (.inr ⟨x, hq, h2⟩)))
      have hacc : ∀ i, i < ops.size → putAll (ops.toList.take i) (tr.take i) a = accS ops (vAt tr) a (fun j => decide (j < i)) ops.size := by
        intro i hi
        rw [putAll_acc htl' i (by omega), accS_congr (T := fun j => decide (j < i)) i (fun j hj => by simp [hj]), accS_stop ops.size (by omega)]
      have hRO : ∀ q k, RO q k → eqM (memAt tr (H ++ rows) (q + 1)) (memAt tr (H ++ rows) q) = true ∧ ∀ o, ops[q]? = some o → (valA P g F ops (H.length + cntA ops.toList q) o (accS ops (vAt tr) a (fun j => decide (j < q)) ops.size) (memAt tr (H ++ rows) k) = some (vAt tr q, memAt tr (H ++ rows) k)) ∧ valA P g F ops (H.length + cntA ops.toList q) o (accS ops (vAt tr) a (fun j => decide (j < q)) ops.size) (memAt tr (H ++ rows) (k + 1)) = some (vAt tr q, memAt tr (H ++ rows) (k + 1)) := by
        rintro q k ⟨o', ho', h⟩
        have one : ∀ M, roA P g F ops H.length a (H ++ rows) tr q o' M = true → eqM (memAt tr (H ++ rows) (q + 1)) (memAt tr (H ++ rows) q) = true ∧ valA P g F ops (H.length + cntA ops.toList q) o' (accS ops (vAt tr) a (fun j => decide (j < q)) ops.size) M = some (vAt tr q, M) := by
          intro M hM
          unfold roA at hM
          simp only [Bool.and_eq_true] at hM
          refine ⟨hM.1, ?_⟩
          have h2 := hM.2
          split at h2
          · rename_i p r hp hv
            simp only [Bool.and_eq_true] at h2
            rw [hacc q (Array.getElem?_eq_some_iff.1 ho').1] at hv
            rw [hv]
            obtain ⟨r1, r2⟩ := r
            simp only at h2
            rw [eqv_eq h2.1, eqM_eq h2.2]
            simp [vAt, hp]
          · cases h2
        simp only [Bool.and_eq_true] at h
        have h1 := one _ h.1
        have h2 := one _ h.2
        refine ⟨h1.1, fun o ho => ?_⟩
        rw [ho'] at ho
        injection ho with ho
        subst ho
        exact ⟨h1.2, h2.2⟩
      have e0 : Ext η H w η H w.drew := Ext.quiet rfl rfl rfl rfl
      have r0 : Rel g η H w.drew := r.quiet rfl rfl rfl rfl
      have hrel : Ext η H w η (H ++ rows) w.drew ∧ Rel g η (H ++ rows) w.drew := by
        have eW : ExtW η H w.drew η (H ++ rows) w.drew := ⟨by simp, fun j y hy => ⟨y, by rw [List.getElem?_append_left (List.getElem?_eq_some_iff.1 hy).1]; exact hy, Nat.le_refl _, fun _ b hb => ⟨hb, fun s hs => hs⟩⟩, Nat.le_refl _, fun b hb => ⟨rfl, hb.2⟩, rfl, rfl, rfl⟩
        refine ⟨e0.thenW eW fun j _ h => h, r0.step eW (fun j b hj => ?_) r0.inj (fun y hy => ?_) fun j y b h1 h2 => ?_⟩
        · exact ⟨by rw [List.length_append]; have := (r0.dom j b hj).1; omega, (r0.dom j b hj).2⟩
        · rcases List.mem_append.1 hy with hy | hy
          · exact lowB_mono (by simp) (r0.low y hy)
          · exact lowB_mono (Nat.zero_le _) (hr2 y hy)
        · have := (r0.dom j b h2).1
          rw [List.getElem?_append_left this] at h1
          exact .inl ⟨h1, h2, rfl⟩
      have hS0 : (fun k => (Array.replicate ops.size false).getD k false) = fun _ => false := by
        funext k
        by_cases hk : k < ops.size <;> simp [hk]
      have hacc0 : ∀ k, accS ops (vAt tr) a (fun _ => false) k = a := by
        intro k
        induction k with
        | zero => rfl
        | succ k ih => simp only [accS, ih]; split <;> simp
      have hmem0 : ∀ k, memS (memAt tr (H ++ rows)) (fun _ => false) k = H ++ rows := by
        intro k
        induction k with
        | zero => rfl
        | succ k ih => simp only [memS, ih]; simp
      have hlast : lastM tr (H ++ rows) = memAt tr (H ++ rows) ops.size := by
        unfold lastM
        rcases Nat.eq_zero_or_pos ops.size with h0 | h0
        · have : tr = [] := List.eq_nil_of_length_eq_zero (by omega)
          subst this
          simp [h0, memAt]
        · obtain ⟨n, hn⟩ : ∃ n, ops.size = n + 1 := ⟨ops.size - 1, by omega⟩
          rw [hn, List.getLast?_eq_getElem?, htl', hn]
          have hlt : n < tr.length := by omega
          simp [memAt, hlt]
      have hput : putAll ops.toList tr a = accS ops (vAt tr) a (fun _ => true) ops.size := by
        have := putAll_acc (a := a) htl' ops.size (Nat.le_refl _)
        rw [List.take_of_length_le (by simp), List.take_of_length_le (by omega)] at this
        exact this
      rw [hlast, hput]
      refine wp_region_any hm ?_
      have hcnt0 : ((List.range ops.size).filter fun k => !(Array.replicate ops.size false).getD k false).length = ops.size := by
        have h1 : ∀ k ∈ List.range ops.size, (!(Array.replicate ops.size false).getD k false) = true := fun k _ => by
          have h2 : (Array.replicate ops.size false).getD k false = false := congrFun hS0 k
          rw [h2]; rfl
        rw [List.filter_eq_self.2 h1]
        exact List.length_range
      have hmain := any_sound (a := a) (η0 := η) (w0 := w) hF hst heff' hRO hfact (fun i o ho hal => hr3 i o (by simpa using ho) hal) ops.size (Array.replicate ops.size false) η w.drew act (by simp) (by rw [hS0]; intro i o h; cases h) hcnt0
      rw [hS0, hacc0, hmem0] at hmain
      exact hmain hrel.1 hrel.2 ((ha.ext e0).ext ⟨⟨by simp, fun j y hy => ⟨y, by rw [List.getElem?_append_left (List.getElem?_eq_some_iff.1 hy).1]; exact hy, Nat.le_refl _, fun _ b hb => ⟨hb, fun s hs => hs⟩⟩, Nat.le_refl _, fun b hb => ⟨rfl, hb.2⟩, rfl, rfl, rfl⟩, fun j _ h => h⟩) (fun i o ho hal _ => by
          cases hη : η (H.length + cntA ops.toList i) with
          | none => rfl
          | some b => have := (r.dom _ b hη).1; omega) (Nat.le_refl _)
    · cases h'
  · cases h
end Go.Proofs.YtlimneghgioeaaaGreatDoor.Ev
