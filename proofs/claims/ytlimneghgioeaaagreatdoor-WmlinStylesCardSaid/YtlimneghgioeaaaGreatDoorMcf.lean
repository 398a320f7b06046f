/- Parts of one proof. -/
import Derived.Test.YtlimneghgioeaaaGreatDoorMad
import Derived.Test.YtlimneghgioeaaaGreatDoorMcd
import Derived.Test.YtlimneghgioeaaaGreatDoorMce
set_option linter.all false
namespace Go.Proofs.YtlimneghgioeaaaGreatDoor.Ev
variable {P : Program} {g : Cfg} {F F' : FSem}
theorem stepR_guard {ops : Array Oper} {o : Oper} {s : IS} (h : stepR P ops o = some s) (a : AAct) : s.dst = o.dst ∧ s.op = resolveOp P o ∧ wantI s a = wantedA ops a o := by
  unfold stepR at h
  obtain ⟨gd, hg, rfl⟩ := Option.map_eq_some_iff.1 h
  refine ⟨rfl, rfl, ?_⟩
  unfold wantI
  unfold guardR at hg
  unfold wantedA
  split at hg
  · rename_i e; injection hg with hg; subst hg; rw [e]
  · rename_i j want e
    rw [e]
    split at hg
    · rename_i d hd
      injection hg with hg; subst hg
      simp only [hd]
      rfl
    · cases hg
theorem op_sound {o : Oper} {a : AAct} {H : Mem} {r : Res1} (h : opI P (a.eval g) (a.evI g) (resolveOp P o) H = some r) : exec1 P (a.eval g) o H = some r :=
  resolveOp_sound (fun x => evI_arg a x) (fun _ => rfl) (fun _ => rfl) (fun _ => rfl) h
def Says (F F' : FSem) : Prop := ∀ f args H r, F f args H = some r → F' f args H = some r
theorem stepI_sound (hF : Says F F') {ops : Array Oper} {o : Oper} {s : IS} (hs : stepR P ops o = some s) {a : AAct} {H : Mem} {r : Out × AAct × Mem} (h : stepI P g F s a H = some r) : stepA P g F' ops o a H = some r := by
  obtain ⟨h1, h2, h3⟩ := stepR_guard hs a
  unfold stepI at h
  rw [h3, h1, h2] at h
  unfold stepA
  split at h
  · cases h
  · rename_i e; rw [e]; exact h
  · rename_i e
    rw [e]
    simp only
    split at h
    · cases h
    · rename_i v H' e2; rw [op_sound e2]; exact h
    · rename_i v e2; rw [op_sound e2]; exact h
    · rename_i f args e2; rw [op_sound e2]; exact h
    · rename_i f args e2
      rw [op_sound e2]
      simp only
      split at h
      · rename_i v H' e3; rw [hF _ _ _ _ e3]; exact h
      · rename_i v H' e3; rw [hF _ _ _ _ e3]; exact h
      · cases h
theorem opsI_sound (hF : Says F F') {ops : Array Oper} : ∀ {l : List Oper} {q : List IS}, stepsR P ops l = some q → ∀ {a : AAct} {H : Mem} {r : Out × AAct × Mem}, opsI P g F q a H = some r → opsA P g F' ops l a H = some r
  | [], q, hq, a, H, r, h => by
    simp only [stepsR] at hq
    injection hq with hq; subst hq
    exact h
  | o :: l, q, hq, a, H, r, h => by
    simp only [stepsR] at hq
    split at hq
    · rename_i s rest hs hrest
      injection hq with hq; subst hq
      simp only [opsI] at h
      simp only [opsA]
      split at h
      · rename_i a' H' e
        rw [stepI_sound hF hs e]
        exact opsI_sound hF hrest h
      · rename_i hne
        have h' := stepI_sound hF hs h
        rw [h']
        match r, h with
        | (.normal, a', H'), h => exact absurd h (hne a' H')
        | (.exit _, _, _), _ => rfl
        | (.ret, _, _), _ => rfl
        | (.pan _, _, _), _ => rfl
    · cases hq
theorem valI_sound (hF : Says F F') {ops : Array Oper} {o : Oper} {s : IS} {id : Nat} (hna : isAlloc o = false) (hs : stepR P ops o = some s) {a : AAct} {H : Mem} {r : AV × Mem} (h : valI P g F s a H = some r) : valA P g F' ops id o a H = some r := by
  obtain ⟨h1, h2, h3⟩ := stepR_guard hs a
  unfold valI at h
  rw [h3, h2] at h
  unfold valA
  split at h
  · cases h
  · rename_i e; rw [e]; exact h
  · rename_i e
    rw [e]
    have key : (match exec1 P (a.eval g) o H with
        | some (.val v H') => some (v, H')
        | some (.call f args) => match F' f args H with
          | some (.ret v, H') => some (v, H')
          | _ => none
        | _ => none) = some r := by
      split at h
      · rename_i v H' e2; rw [op_sound e2]; exact h
      · rename_i f args e2
        rw [op_sound e2]
        simp only
        split at h
        · rename_i v H' e3; rw [hF _ _ _ _ e3]; exact h
        · cases h
      · cases h
    simp only [hna,Ze,if_false]
    exact key
theorem mkVal_q {r : Option AV} {H : Mem} {res : Res1} (h : mkVal r H = some res) : ∃ v, res = .val v H := by
  obtain ⟨v, _, h⟩ := Option.map_eq_some_iff.1 h
  exact ⟨v, h.symm⟩
theorem quiet_val {σ : IArg → AV} {ρ : Operand → AV} {o : IOp} {H : Mem} {res : Res1} (hq : quietI o = true) (h : opI P ρ σ o H = some res) : ∃ v, res = .val v H := by
  cases o <;> first | (simp only [quietI,Ze] at hq; done) | skip
  all_goals simp only [opI] at h
  all_goals repeat' first
    | exact ⟨_, (Option.some.inj h).symm⟩
    | exact mkVal_q h
    | (cases h; done)
    | (obtain ⟨_, _, h⟩ := Option.map_eq_some_iff.1 h; exact ⟨_, h.symm⟩)
    | (obtain ⟨_, _, h⟩ := Option.bind_eq_some_iff.1 h; revert h; clear h; intro h)
    | split at h
theorem quiet_mem {σ : IArg → AV} {ρ : Operand → AV} {o : IOp} {H H' : Mem} {v : AV} (hq : quietI o = true) (h : opI P ρ σ o H = some (.val v H')) : H' = H := by
  obtain ⟨v', e⟩ := quiet_val hq h
  injection e
theorem quiet_call {σ : IArg → AV} {ρ : Operand → AV} {o : IOp} {H : Mem} {f : FuncId} {l : List AV} (hq : quietI o = true) (h : opI P ρ σ o H = some (.call f l)) : False := by
  obtain ⟨v', e⟩ := quiet_val hq h
  cases e
theorem valI_quiet {s : IS} {a : AAct} {H : Mem} {r : AV × Mem} (hq : quietI s.op = true) (h : valI P g F s a H = some r) : r.2 = H := by
  unfold valI at h
  split at h
  · cases h
  · injection h with h; subst h; rfl
  · split at h
    · rename_i v H' e
      injection h with h; subst h
      exact quiet_mem hq e
    · rename_i f args e
      exact (quiet_call hq e).elim
    · cases h
def DOk (P : Program) (g : Cfg) (F F' : FSem) (ops : Array Oper) (n : Nat) (d : ID) (o : Oper) (k : Nat) : Prop :=
  d.s.dst = o.dst ∧ ∀ (a : AAct) (M : Mem) (r : AV × Mem), valD P g F n d a M = some r → valA P g F' ops (n + k) o a M = some r
theorem drawnR_spec (hF : Says F F') {ops : Array Oper} {tab : List (Nat × Oper × Nat)} {n : Nat} : ∀ {l : List (Nat × Oper × Nat)} {k : Nat} {q : List ID}, drawnR P ops tab k l = some q →
    q.length = l.length ∧ ∀ (i : Nat) e, l[i]? = some e → ∃ d, q[i]? = some d ∧ DOk P g F F' ops n d e.2.1 (k + cntA (l.map (·.2.1)) i) ∧ (∀ (a : AAct) (M : Mem) (r : AV × Mem), valD P g F n d a M = some r → (d.free || eqM r.2 M || d.conf.all fun _ => false) = true → eqM r.2 M = true ∨ confR tab e.1 e.2.2 = []) ∧ (d.free = false → d.conf = confR tab e.1 e.2.2)
  | [], k, q, hq => by
    simp only [drawnR] at hq
    injection hq with hq; subst hq
    exact ⟨rfl, fun i e h => by simp at h⟩
  | (j, x, b) :: l, k, q, hq => by
    simp only [drawnR] at hq
    cases hal : isAlloc x with
    | true =>
      simp only [hal,if_true] at hq
      split at hq
      · rename_i z rest hg hz hrest
        injection hq with hq; subst hq
        obtain ⟨h1, h2⟩ := drawnR_spec hF (n := n) hrest
        refine ⟨by simp [h1], fun i e he => ?_⟩
        cases i with
        | zero =>
          simp at he; subst he
          refine ⟨_, rfl, ⟨rfl, fun a M r h => ?_⟩, fun a M r h _ => ?_, fun h => by cases h⟩
          · simp only [valD] at h
            have hw : wantedA ops a x = some true := by simp [wantedA, hg]
            have hc0 : cntA (List.map (·.2.1) ((j, x, b) :: l)) 0 = 0 := by simp [cntA]
            rw [hc0, Nat.add_zero]
            split at h
            · rename_i blk hb
              split at h
              · rename_i heq
                injection h with h; subst h
                simp [valA, hw, hal, hz, hb, heq]
              · cases h
            · cases h
          · simp only [valD] at h
            split at h
            · split at h
              · injection h with h; subst h
                exact .inl (eqM_refl _)
              · cases h
            · cases h
        | succ i =>
          obtain ⟨d, h3, h4, h5⟩ := h2 i e (by simpa using he)
          refine ⟨d, by simpa using h3, ?_, h5⟩
          have : cntA (List.map (·.2.1) ((j, x, b) :: l)) (i + 1) = 1 + cntA (List.map (·.2.1) l) i := by
            simp [cntA, hal]; omega
          rw [this, ← Nat.add_assoc]
          exact h4
      · cases hq
    | false =>
      simp only [hal,Ze,if_false] at hq
      split at hq
      · rename_i s rest hs hrest
        injection hq with hq; subst hq
        have hna : isAlloc x = false := hal
        obtain ⟨h1, h2⟩ := drawnR_spec hF (n := n) hrest
        refine ⟨by simp [h1], fun i e he => ?_⟩
        cases i with
        | zero =>
          simp at he; subst he
          refine ⟨_, rfl, ⟨(stepR_guard hs ⟨0, [], []⟩).1, fun a M r h => valI_sound hF hna hs h⟩, fun a M r h hd => ?_, fun h => ?_⟩
          · cases hq : quietI s.op with
            | true => left; rw [valI_quiet hq h]; exact eqM_refl _
            | false =>
              simp only [hq,Bool.or_false,Ze,if_false,Bool.or_eq_true] at hd
              rcases hd with (hd | hd) | hd
              · exact .inr (List.isEmpty_iff.1 hd)
              · exact .inl hd
              · right
                cases hc : confR tab j b with
                | nil => rfl
                | cons y ys => rw [hc] at hd; simp at hd
          · simp only [Bool.or_eq_false_iff] at h
            simp [h.2]
        | succ i =>
          obtain ⟨d, h3, h4, h5⟩ := h2 i e (by simpa using he)
          refine ⟨d, by simpa using h3, ?_, h5⟩
          have : cntA (List.map (·.2.1) ((j, x, b) :: l)) (i + 1) = cntA (List.map (·.2.1) l) i := by
            simp [cntA, hna]
          rw [this]
          exact h4
      · cases hq
theorem befs_len : ∀ (l : List Oper) (acc : List Nat), (befs l acc).length = acc.length + l.length
  | [], acc => by simp [befs]
  | o :: l, acc => by simp [befs, befs_len l]; omega
theorem tabOf_map (ops : Array Oper) : (tabOf ops).map (·.2.1) = ops.toList := by
  have hl : (befs ops.toList []).length = ops.toList.length := by simp [befs_len]
  apply List.ext_getElem
  · simp [tabOf, hl]
  · intro i h1 h2
    simp [tabOf]
theorem putD_eq {l : List (Nat × Oper × Nat)} {q : List ID} (hl : q.length = l.length) (h : ∀ (i : Nat) e, l[i]? = some e → ∃ d, q[i]? = some d ∧ d.s.dst = e.2.1.dst) : ∀ (tr : List (AV × Mem)) (a : AAct), putD q tr a = putAll (l.map (·.2.1)) tr a := by
  induction l generalizing q with
  | nil =>
    obtain rfl : q = [] := List.eq_nil_of_length_eq_zero hl
    intro tr a; cases tr <;> rfl
  | cons e l ih =>
    cases q with
    | nil => simp at hl
    | cons d q =>
      intro tr a
      obtain ⟨d', h1, h2⟩ := h 0 e rfl
      simp at h1; subst h1
      cases tr with
      | nil => rfl
      | cons p tr =>
        obtain ⟨v, M⟩ := p
        simp only [putD,Zv,putAll,h2]
        exact ih (by simpa using hl) (fun i e' he => by have := h (i + 1) e' (by simpa using he); simpa using this) tr _
theorem lexD_sound {ops : Array Oper} {n : Nat} {F' : FSem} : ∀ {l : List (Nat × Oper × Nat)} {q : List ID} {k : Nat}, q.length = l.length → (∀ (i : Nat) e, l[i]? = some e → ∃ d, q[i]? = some d ∧ DOk P g F F' ops n d e.2.1 (k + cntA (l.map (·.2.1)) i)) →
    ∀ {a : AAct} {H : Mem} {tr : List (AV × Mem)}, lexD P g F n q a H = some tr → lexA P g F' ops (n + k) (l.map (·.2.1)) a H = some tr
  | [], q, k, hl, h, a, H, tr, ht => by
    obtain rfl : q = [] := List.eq_nil_of_length_eq_zero hl
    exact ht
  | e :: l, [], k, hl, _, _, _, _, _ => by simp at hl
  | e :: l, d :: q, k, hl, h, a, H, tr, ht => by
    obtain ⟨d', h1, h2, h3⟩ := h 0 e rfl
    simp at h1; subst h1
    simp only [lexD] at ht
    split at ht
    · rename_i v H' hv
      obtain ⟨tr', ht', rfl⟩ := Option.map_eq_some_iff.1 ht
      have hc0 : cntA (List.map (·.2.1) (e :: l)) 0 = 0 := by simp [cntA]
      rw [hc0, Nat.add_zero] at h3
      simp only [Zv,lexA,h3 _ _ _ hv]
      have ih := lexD_sound (ops := ops) (n := n) (F' := F') (l := l) (q := q) (k := if isAlloc e.2.1 then k + 1 else k) (by simpa using hl) (fun i e' he => by
        obtain ⟨d', h5, h6⟩ := h (i + 1) e' (by simpa using he)
        refine ⟨d', by simpa using h5, ?_⟩
        have hc : k + cntA (List.map (·.2.1) (e :: l)) (i + 1) = (if isAlloc e.2.1 then k + 1 else k) + cntA (List.map (·.2.1) l) i := by
          cases ha : isAlloc e.2.1 <;> simp [cntA, ha]; omega
        rw [← hc]; exact h6) ht'
      rw [← h2]
      have hk : (if isAlloc e.2.1 = true then n + k + 1 else n + k) = n + (if isAlloc e.2.1 then k + 1 else k) := by split <;> omega
      rw [hk, ih]
      rfl
    · cases ht
theorem cutT_get {tr : List (AV × Mem)} {M : Mem} {p : Nat} (hp : p ≤ tr.length) (k : Nat) : (cutT tr M p)[k]? = if k < p then tr[k]? else (tr[k]?).map fun z => (z.1, M) := by
  unfold cutT
  by_cases hk : k < p
  · rw [if_pos hk, List.getElem?_append_left (by simp; omega), List.getElem?_take, if_pos hk]
  · rw [if_neg hk, List.getElem?_append_right (by simp; omega), List.getElem?_map, List.getElem?_drop]
    congr 2
    simp; omega
theorem memAt_cut1 {tr : List (AV × Mem)} {H M : Mem} {p k : Nat} (hp : p ≤ tr.length) (hk : k ≤ p) : memAt (cutT tr M p) H k = memAt tr H k := by
  cases k with
  | zero => rfl
  | succ k => simp only [memAt,cutT_get hp,if_pos (show k < p by omega)]
theorem memAt_cut2 {tr : List (AV × Mem)} {H M : Mem} {p k : Nat} (hp : p ≤ tr.length) (hk : p < k) (hkl : k ≤ tr.length) : memAt (cutT tr M p) H k = M := by
  obtain ⟨k, rfl⟩ : ∃ k', k = k' + 1 := ⟨k - 1, by omega⟩
  have : k < tr.length := by omega
  simp only [memAt,cutT_get hp,if_neg (show ¬ k < p by omega),List.getElem?_eq_getElem this,Zh]
theorem okD_eff {ops : Array Oper} {rows : Mem} {q : List ID} {a : AAct} {H : Mem} {tr : List (AV × Mem)} (hl : q.length = (tabOf ops).length) (hsp : ∀ (i : Nat) e, (tabOf ops)[i]? = some e → ∃ d, q[i]? = some d ∧ DOk P g F F' ops H.length d e.2.1 (0 + cntA ((tabOf ops).map (·.2.1)) i))
    (htl : tr.length = q.length) (hfree : ∀ (i : Nat) e, (tabOf ops)[i]? = some e → ∃ d, q[i]? = some d ∧ (d.free = true → ∀ p, tr[i]? = some p → eqM p.2 (memAt tr (H ++ rows) i) = true ∨ confR (tabOf ops) e.1 e.2.2 = []) ∧ (d.free = false → d.conf = confR (tabOf ops) e.1 e.2.2))
    (hok : okD (roD P g F H.length q a (H ++ rows) tr) q tr (H ++ rows) = true) : effOk (roA P g F' ops H.length a (H ++ rows) tr) (tabOf ops) (tabOf ops) tr (H ++ rows) = true := by
  have hmap := tabOf_map ops
  have hro : ∀ (x : Nat) (e : Nat × Oper × Nat) (M : Mem), (tabOf ops)[x]? = some e → roD P g F H.length q a (H ++ rows) tr x M = true → roA P g F' ops H.length a (H ++ rows) tr x e.2.1 M = true := by
    intro x e M he hx
    obtain ⟨d, h1, h2⟩ := hsp x e he
    unfold roD at hx
    simp only [Bool.and_eq_true] at hx
    unfold roA
    simp only [Bool.and_eq_true]
    refine ⟨hx.1, ?_⟩
    have h3 := hx.2
    rw [h1] at h3
    split at h3
    · rename_i d' p hd' hp
      injection hd' with hd'; subst hd'
      split at h3
      · rename_i r hr
        have h4 := h2.2 _ _ _ hr
        have h5 : putD (q.take x) (tr.take x) a = putAll (ops.toList.take x) (tr.take x) a := by
          have hl2 : (q.take x).length = ((tabOf ops).take x).length := by simp [hl]
          rw [putD_eq hl2 (fun i e' he' => ?_), List.map_take, hmap]
          rw [List.getElem?_take] at he'
          split at he'
          · rename_i hi
            obtain ⟨d, h6, h7⟩ := hsp i e' he'
            exact ⟨d, by rw [List.getElem?_take, if_pos hi]; exact h6, h7.1⟩
          · cases he'
        rw [h5, Nat.zero_add, hmap] at h4
        rw [hp, h4]
        exact h3
      · cases h3
    · cases h3
  have go : ∀ (l : List (Nat × Oper × Nat)) (qs : List ID) (t : List (AV × Mem)) (M : Mem), qs.length = l.length → t.length = l.length →
      (∀ (i : Nat) e, l[i]? = some e → ∃ d, qs[i]? = some d ∧ (d.free = true → ∀ p, t[i]? = some p → eqM p.2 (memAt t M i) = true ∨ confR (tabOf ops) e.1 e.2.2 = []) ∧ (d.free = false → d.conf = confR (tabOf ops) e.1 e.2.2)) →
      okD (roD P g F H.length q a (H ++ rows) tr) qs t M = true → effOk (roA P g F' ops H.length a (H ++ rows) tr) (tabOf ops) l t M = true := by
    intro l
    induction l with
    | nil => intro qs t M _ _ _ _; cases t <;> rfl
    | cons e l ih =>
      intro qs t M h1 h2 h3 h4
      match qs, t, h1, h2 with
      | d :: qs, (v, M') :: t, h1, h2 =>
        simp only [okD,Bool.and_eq_true] at h4
        obtain ⟨i, x, b⟩ := e
        simp only [effOk,Bool.and_eq_true]
        refine ⟨?_, ih qs t M' (by simpa using h1) (by simpa using h2) (fun j e' he' => ?_) h4.2⟩
        · obtain ⟨d', h5, h6, h7⟩ := h3 0 _ rfl
          simp at h5; subst h5
          have htab : ∀ q ∈ tabOf ops, q.1 ∉ confR (tabOf ops) i b → (silentA q.2.1 || q.1 == i || b.testBit q.1 || q.2.2.testBit i) = true := by
            intro y hy hn
            cases hc : (silentA y.2.1 || y.1 == i || b.testBit y.1 || y.2.2.testBit i) with
            | true => rfl
            | false => exact absurd (List.mem_map.2 ⟨y, List.mem_filter.2 ⟨hy, by simp [hc]⟩, rfl⟩) hn
          have h8 := h4.1
          simp only [Bool.or_eq_true] at h8
          have conf_all : (∀ y ∈ confR (tabOf ops) i b, (roD P g F H.length q a (H ++ rows) tr y M && roD P g F H.length q a (H ++ rows) tr y M') = true) → (eqM M' M || (tabOf ops).all fun q => silentA q.2.1 || q.1 == i || b.testBit q.1 || q.2.2.testBit i || (roA P g F' ops H.length a (H ++ rows) tr q.1 q.2.1 M && roA P g F' ops H.length a (H ++ rows) tr q.1 q.2.1 M')) = true := by
            intro hall
            rw [Bool.or_eq_true]
            refine .inr (List.all_eq_true.2 fun y hy => ?_)
            rw [Bool.or_eq_true]
            by_cases hm : y.1 ∈ confR (tabOf ops) i b
            · right
              have h9 := hall _ hm
              simp only [Bool.and_eq_true] at h9 ⊢
              obtain ⟨m, hm1⟩ := List.getElem?_of_mem hy
              have hm2 : y.1 = m := by
                have hx := tab_mem hy
                have : m < ops.size := by
                  have := (List.getElem?_eq_some_iff.1 hm1).1
                  simpa [tabOf, befs_length] using this
                have h10 := tab_get (ops := ops) (i := m) (Array.getElem?_eq_getElem this)
                rw [hm1] at h10
                injection h10 with h10
                rw [h10]
              rw [hm2] at h9 ⊢
              exact ⟨hro m y M hm1 h9.1, hro m y M' hm1 h9.2⟩
            · left; exact htab y hy hm
          rcases h8 with (h8 | h8) | h8
          · rcases h6 h8 (v, M') rfl with h9 | h9
            · have : eqM M' M = true := h9
              rw [this]; rfl
            · exact conf_all (by rw [h9]; intro y hy; cases hy)
          · rw [h8]; rfl
          · cases hfr : d.free with
            | true =>
              rcases h6 hfr (v, M') rfl with h9 | h9
              · have : eqM M' M = true := h9
                rw [this]; rfl
              · exact conf_all (by rw [h9]; intro y hy; cases hy)
            | false =>
              rw [h7 hfr] at h8
              exact conf_all (List.all_eq_true.1 h8)
        · obtain ⟨d', h5, h6, h7⟩ := h3 (j + 1) e' (by simpa using he')
          refine ⟨d', by simpa using h5, fun hf p hp => ?_, h7⟩
          have := h6 hf p (by simpa using hp)
          have e3 : memAt ((v, M') :: t) M (j + 1) = memAt t M' j := by cases j <;> simp [memAt]
          rwa [e3] at this
  exact go (tabOf ops) q tr (H ++ rows) hl (by rw [htl, hl]) hfree hok
theorem drawI0_sound (hF : Says F F') {ops : Array Oper} (hst : statOk ops = true) {rows : Mem} (hrows : zeroRows P ops.toList = some rows) {q : List ID} (hq : drawnR P ops (tabOf ops) 0 (tabOf ops) = some q) {a : AAct} {H : Mem} {r : Out × AAct × Mem} (h : drawI0 P g F H.length q a (H ++ rows) = some r) :
    drawN P g F' ops a H = some r := by
  obtain ⟨hl, hsp⟩ := drawnR_spec (g := g) (n := H.length) hF hq
  unfold drawI0 at h
  obtain ⟨tr, htr, h⟩ := Option.bind_eq_some_iff.1 h
  have hmap := tabOf_map ops
  have hput : ∀ (tr : List (AV × Mem)) (a : AAct), putD q tr a = putAll ops.toList tr a := by
    intro tr a
    rw [putD_eq hl (fun i e he => let ⟨d, h1, h2, _⟩ := hsp i e he; ⟨d, h1, h2.1⟩), hmap]
  have hlex : lexA P g F' ops H.length ops.toList a (H ++ rows) = some tr := by
    have := lexD_sound (ops := ops) (n := H.length) (F' := F') (k := 0) hl (fun i e he => let ⟨d, h1, h2, _⟩ := hsp i e he; ⟨d, h1, h2⟩) htr
    rwa [hmap] at this
  split at h
  · rename_i hok
    injection h with h; subst h
    have htl : tr.length = q.length := by
      have : ∀ (l : List ID) (a : AAct) (M : Mem) (t : List (AV × Mem)), lexD P g F H.length l a M = some t → t.length = l.length := by
        intro l
        induction l with
        | nil => intro a M t h; simp only [lexD] at h; injection h with h; subst h; rfl
        | cons d l ih =>
          intro a M t h
          simp only [lexD] at h
          split at h
          · obtain ⟨t', h1, rfl⟩ := Option.map_eq_some_iff.1 h
            simp [ih _ _ _ h1]
          · cases h
      exact this _ _ _ _ htr
    have hfree : ∀ (i : Nat) e, (tabOf ops)[i]? = some e → ∃ d, q[i]? = some d ∧ (d.free = true → ∀ p, tr[i]? = some p → eqM p.2 (memAt tr (H ++ rows) i) = true ∨ confR (tabOf ops) e.1 e.2.2 = []) ∧ (d.free = false → d.conf = confR (tabOf ops) e.1 e.2.2) := by
      intro i e he
      obtain ⟨d, h1, h2, h3, h4⟩ := hsp i e he
      refine ⟨d, h1, fun hf p hp => ?_, h4⟩
      have hi : i < q.length := (List.getElem?_eq_some_iff.1 h1).1
      have hval : valD P g F H.length d (putD (q.take i) (tr.take i) a) (memAt tr (H ++ rows) i) = some p := by
        have : ∀ (l : List ID) (a : AAct) (M : Mem) (t : List (AV × Mem)), lexD P g F H.length l a M = some t → ∀ (i : Nat) d p, l[i]? = some d → t[i]? = some p → valD P g F H.length d (putD (l.take i) (t.take i) a) (memAt t M i) = some p := by
          intro l
          induction l with
          | nil => intro a M t h i d p h1; simp at h1
          | cons y l ih =>
            intro a M t h i d p h1 h2
            simp only [lexD] at h
            split at h
            · rename_i v H' hv
              obtain ⟨t', h3, rfl⟩ := Option.map_eq_some_iff.1 h
              cases i with
              | zero => simp at h1 h2; subst h1 h2; exact hv
              | succ i =>
                have := ih _ _ _ h3 i d p (by simpa using h1) (by simpa using h2)
                have e3 : memAt ((v, H') :: t') M (i + 1) = memAt t' H' i := by cases i <;> simp [memAt]
                rw [e3]
                exact this
            · cases h
        exact this q a (H ++ rows) tr htr i d p h1 hp
      rcases h3 _ _ _ hval (by rw [hf]; rfl) with h5 | h5
      · exact .inl h5
      · exact .inr h5
    have heff := okD_eff (ops := ops) (rows := rows) hl (fun i e he => let ⟨d, h1, h2, _⟩ := hsp i e he; ⟨d, h1, h2⟩) htl hfree hok
    simp only [drawN,if_pos hst,hrows,Zo,hlex,if_pos heff,hput]
  · cases h
theorem drawI20_sound (hF : Says F F') {ops : Array Oper} (hst : statOk ops = true) {rows : Mem} (hrows : zeroRows P ops.toList = some rows) {x y : Nat} (htw : twoW ops = some (x, y)) (htt : twoT ops x y = true) {q : List ID} (hq : drawnR P ops (tabOf ops) 0 (tabOf ops) = some q) {a : AAct} {H : Mem} {r : Out × AAct × Mem} (h : drawI20 P g F H.length x y q a (H ++ rows) = some r) :
    drawN P g F' ops a H = some r := by
  obtain ⟨hl, hsp⟩ := drawnR_spec (g := g) (n := H.length) hF hq
  unfold drawI20 at h
  obtain ⟨tr, htr, h⟩ := Option.bind_eq_some_iff.1 h
  have hmap := tabOf_map ops
  have hput : ∀ (tr : List (AV × Mem)) (a : AAct), putD q tr a = putAll ops.toList tr a := by
    intro tr a
    rw [putD_eq hl (fun i e he => let ⟨d, h1, h2, _⟩ := hsp i e he; ⟨d, h1, h2.1⟩), hmap]
  have hlex : lexA P g F' ops H.length ops.toList a (H ++ rows) = some tr := by
    have := lexD_sound (ops := ops) (n := H.length) (F' := F') (k := 0) hl (fun i e he => let ⟨d, h1, h2, _⟩ := hsp i e he; ⟨d, h1, h2⟩) htr
    rwa [hmap] at this
  have htl : tr.length = q.length := by
    have : ∀ (l : List ID) (a : AAct) (M : Mem) (t : List (AV × Mem)), lexD P g F H.length l a M = some t → t.length = l.length := by
      intro l
      induction l with
      | nil => intro a M t h; simp only [lexD] at h; injection h with h; subst h; rfl
      | cons d l ih =>
        intro a M t h
        simp only [lexD] at h
        split at h
        · obtain ⟨t', h1, rfl⟩ := Option.map_eq_some_iff.1 h
          simp [ih _ _ _ h1]
        · cases h
    exact this _ _ _ _ htr
  have hfree : ∀ (i : Nat) e, (tabOf ops)[i]? = some e → ∃ d, q[i]? = some d ∧ (d.free = true → ∀ p, tr[i]? = some p → eqM p.2 (memAt tr (H ++ rows) i) = true ∨ confR (tabOf ops) e.1 e.2.2 = []) ∧ (d.free = false → d.conf = confR (tabOf ops) e.1 e.2.2) := by
    intro i e he
    obtain ⟨d, h1, h2, h3, h4⟩ := hsp i e he
    refine ⟨d, h1, fun hf p hp => ?_, h4⟩
    have hi : i < q.length := (List.getElem?_eq_some_iff.1 h1).1
    have hval : valD P g F H.length d (putD (q.take i) (tr.take i) a) (memAt tr (H ++ rows) i) = some p := by
      have : ∀ (l : List ID) (a : AAct) (M : Mem) (t : List (AV × Mem)), lexD P g F H.length l a M = some t → ∀ (i : Nat) d p, l[i]? = some d → t[i]? = some p → valD P g F H.length d (putD (l.take i) (t.take i) a) (memAt t M i) = some p := by
        intro l
        induction l with
        | nil => intro a M t h i d p h1; simp at h1
        | cons y l ih =>
          intro a M t h i d p h1 h2
          simp only [lexD] at h
          split at h
          · rename_i v H' hv
            obtain ⟨t', h3, rfl⟩ := Option.map_eq_some_iff.1 h
            cases i with
            | zero => simp at h1 h2; subst h1 h2; exact hv
            | succ i =>
              have := ih _ _ _ h3 i d p (by simpa using h1) (by simpa using h2)
              have e3 : memAt ((v, H') :: t') M (i + 1) = memAt t' H' i := by cases i <;> simp [memAt]
              rw [e3]
              exact this
          · cases h
      exact this q a (H ++ rows) tr htr i d p h1 hp
    rcases h3 _ _ _ hval (by rw [hf]; rfl) with h5 | h5
    · exact .inl h5
    · exact .inr h5
  split at h
  · rename_i hok
    injection h with h; subst h
    have heff := okD_eff (ops := ops) (rows := rows) hl (fun i e he => let ⟨d, h1, h2, _⟩ := hsp i e he; ⟨d, h1, h2⟩) htl hfree hok
    simp only [drawN,if_pos hst,hrows,Zo,hlex,if_pos heff,hput]
  · split at h
    · rename_i hno hcond
      injection h with h; subst h
      simp only [Bool.and_eq_true] at hcond
      obtain ⟨hok, hsw⟩ := hcond
      have hno' : ¬ effOk (roA P g F' ops H.length a (H ++ rows) tr) (tabOf ops) (tabOf ops) tr (H ++ rows) = true ∨ effOk (roA P g F' ops H.length a (H ++ rows) tr) (tabOf ops) (tabOf ops) tr (H ++ rows) = true := by
        cases effOk (roA P g F' ops H.length a (H ++ rows) tr) (tabOf ops) (tabOf ops) tr (H ++ rows) <;> simp
      rcases hno' with hno' | hyes
      rotate_left
      · simp only [drawN,if_pos hst,hrows,Zo,hlex,if_pos hyes,hput]
      have htls : tr.length = ops.size := by rw [htl, hl]; simp [tabOf, befs_length]
      have hxs : x ≤ tr.length := by
        obtain ⟨hxy, ox, oy, hox, _⟩ := twoT_spec htt
        have hxn : x < ops.size := (Array.getElem?_eq_some_iff.1 hox).1
        omega
      have hget := fun k => cutT_get (tr := tr) (M := memAt tr (H ++ rows) x) (p := x) hxs k
      have htl2 : (cutT tr (memAt tr (H ++ rows) x) x).length = q.length := by rw [← htl]; unfold cutT; simp; omega
      have hmem1 : ∀ k, k ≤ x → memAt (cutT tr (memAt tr (H ++ rows) x) x) (H ++ rows) k = memAt tr (H ++ rows) k := fun k hk => memAt_cut1 hxs hk
      have hfree2 : ∀ (i : Nat) e, (tabOf ops)[i]? = some e → ∃ d, q[i]? = some d ∧ (d.free = true → ∀ p, (cutT tr (memAt tr (H ++ rows) x) x)[i]? = some p → eqM p.2 (memAt (cutT tr (memAt tr (H ++ rows) x) x) (H ++ rows) i) = true ∨ confR (tabOf ops) e.1 e.2.2 = []) ∧ (d.free = false → d.conf = confR (tabOf ops) e.1 e.2.2) := by
        intro i e he
        obtain ⟨d, h1, h2, h3⟩ := hfree i e he
        refine ⟨d, h1, fun hf p hp => ?_, h3⟩
        rw [hget] at hp
        by_cases hk : i < x
        · rw [if_pos hk] at hp
          rw [hmem1 i (by omega)]
          exact h2 hf p hp
        · rw [if_neg hk] at hp
          obtain ⟨z, hz, rfl⟩ := Option.map_eq_some_iff.1 hp
          left
          rcases Nat.lt_or_ge x i with h | h
          · rw [memAt_cut2 hxs h (by have := (List.getElem?_eq_some_iff.1 hz).1; omega)]
            exact eqM_refl _
          · obtain rfl : i = x := by omega
            rw [hmem1 i (Nat.le_refl _)]
            exact eqM_refl _
      have heff := okD_eff (ops := ops) (rows := rows) hl (fun i e he => let ⟨d, h1, h2, _⟩ := hsp i e he; ⟨d, h1, h2⟩) htl2 hfree2 hok
      have hswA : swapA P g F' ops H.length a (H ++ rows) tr x y = true := by
        obtain ⟨hxy, ox, oy, hox, hoy, _⟩ := twoT_spec htt
        have hxn : x < ops.size := (Array.getElem?_eq_some_iff.1 hox).1
        have hyn : y < ops.size := (Array.getElem?_eq_some_iff.1 hoy).1
        obtain ⟨d1, g1, g2, _⟩ := hsp x _ (tab_get hox)
        obtain ⟨d2, g3, g4, _⟩ := hsp y _ (tab_get hoy)
        have hpt : ∀ k, k ≤ ops.size → putD (q.take k) (tr.take k) a = putAll (ops.toList.take k) (tr.take k) a := by
          intro k hk
          have hl2 : (q.take k).length = ((tabOf ops).take k).length := by simp [hl]
          rw [putD_eq hl2 (fun i e' he' => ?_), List.map_take, hmap]
          rw [List.getElem?_take] at he'
          split at he'
          · rename_i hi
            obtain ⟨d, h6, h7, _⟩ := hsp i e' he'
            exact ⟨d, by rw [List.getElem?_take, if_pos hi]; exact h6, h7.1⟩
          · cases he'
        unfold swapD at hsw
        rw [g1, g3] at hsw
        simp only at hsw
        unfold swapA
        rw [hox, hoy]
        simp only
        split at hsw
        · rename_i v3 M h3
          have h5 := g4.2 _ _ _ h3
          rw [hpt y (by omega), Nat.zero_add, hmap] at h5
          rw [h5]
          simp only
          split at hsw
          · rename_i v4 M' h4
            have h6 := g2.2 _ _ _ h4
            rw [hpt x (by omega), Nat.zero_add, hmap] at h6
            rw [h6]
            exact hsw
          · cases hsw
        · cases hsw
      simp only [drawN,if_pos hst,hrows,Zo,hlex,if_neg hno',htw,htt,heff,hswA,ZJ,if_true,hput]
    · cases h
theorem pan_val {ops : Array Oper} {o : Oper} {a : AAct} {M : Mem} {r : AV × Mem} {id : Nat} (hna : isAlloc o = false) (h : panA P g F ops o a M = some r) : valA P g F ops id o a M = none := by
  unfold panA stepA at h
  unfold valA
  cases hw : wantedA ops a o with
  | none => rfl
  | some b =>
    rw [hw] at h
    cases b with
    | false => simp at h
    | true =>
      simp only [hna,Ze,if_false] at h ⊢
      cases hx : exec1 P (a.eval g) o M with
      | none => rfl
      | some e =>
        rw [hx] at h
        cases e with
        | val v H' => simp at h
        | pan v => rfl
        | dfr f l => rfl
        | call f l =>
          simp only at h ⊢
          cases hf : F f l M with
          | none => rfl
          | some q =>
            obtain ⟨en, H'⟩ := q
            rw [hf] at h
            cases en with
            | ret v => simp at h
            | pan v => rfl
theorem drawnR_pan (hF : Says F F') {ops : Array Oper} {tab : List (Nat × Oper × Nat)} : ∀ {l : List (Nat × Oper × Nat)} {k : Nat} {q : List ID}, drawnR P ops tab k l = some q →
    ∀ (i : Nat) e, l[i]? = some e → ∃ d, q[i]? = some d ∧ ∀ (a : AAct) (M : Mem) (r : AV × Mem), panD P g F d a M = some r → isAlloc e.2.1 = false ∧ panA P g F' ops e.2.1 a M = some r ∧ d.lat = latR tab e.1
  | [], k, q, hq => fun i e h => by simp at h
  | (j, x, b) :: l, k, q, hq => by
    simp only [drawnR] at hq
    cases hal : isAlloc x with
    | true =>
      simp only [hal,if_true] at hq
      split at hq
      · rename_i z rest hg hz hrest
        injection hq with hq; subst hq
        have h2 := drawnR_pan hF hrest
        intro i e he
        cases i with
        | zero => exact ⟨_, rfl, fun a M r h => by simp [panD] at h⟩
        | succ i =>
          obtain ⟨d, h3, h4⟩ := h2 i e (by simpa using he)
          exact ⟨d, by simpa using h3, h4⟩
      · cases hq
    | false =>
      simp only [hal,Ze,if_false] at hq
      split at hq
      · rename_i s rest hs hrest
        injection hq with hq; subst hq
        have h2 := drawnR_pan hF hrest
        intro i e he
        cases i with
        | zero =>
          simp at he; subst he
          refine ⟨_, rfl, fun a M r h => ⟨hal, ?_, ?_⟩⟩
          · unfold panD at h
            simp only at h
            split at h
            · split at h
              · rename_i v a' H' hst
                injection h with h; subst h
                have := stepI_sound hF hs hst
                unfold panA
                rw [this]
              · cases h
            · cases h
          · unfold panD at h
            simp only at h
            split at h
            · rename_i hm
              simp only [Option.isNone_none,ZH] at hm
              simp [hm]
            · cases h
        | succ i =>
          obtain ⟨d, h3, h4⟩ := h2 i e (by simpa using he)
          exact ⟨d, by simpa using h3, h4⟩
      · cases hq
theorem seqD_sound {ops : Array Oper} {n p : Nat} {M : Mem} {q : List ID} (hsp : ∀ (i : Nat) o, ops[i]? = some o → ∃ d, q[i]? = some d ∧ DOk P g F F' ops n d o (cntA ops.toList i)) : ∀ (m k : Nat), k + m = ops.size → ∀ (a : AAct), seqD P g F n q M ((((tabOf ops).drop k).filter fun z => decide (p < z.1) && !z.2.2.testBit p).map (·.1)) a = true → seqA P g F' ops n p M ((tabOf ops).drop k) a = true
  | 0, k, hk, a, h => by
    rw [List.drop_eq_nil_of_le (by rw [tab_len]; omega)]; rfl
  | m + 1, k, hk, a, h => by
    have hks : k < ops.size := by omega
    have ho : ops[k]? = some ops[k] := Array.getElem?_eq_getElem hks
    rw [tab_drop ho] at h ⊢
    simp only [seqA]
    rw [List.filter_cons] at h
    cases hc : (decide (p < k) && !(ahead ops k).testBit p) with
    | false =>
      simp only [hc,Ze,if_false] at h ⊢
      exact seqD_sound hsp m (k + 1) (by omega) a h
    | true =>
      simp only [hc,if_true,Zv,seqD] at h ⊢
      obtain ⟨d, hd, h1, h2⟩ := hsp k _ ho
      rw [hd] at h
      simp only at h
      cases hv : valD P g F n d a M with
      | none => simp [hv] at h
      | some r =>
        obtain ⟨v, M'⟩ := r
        simp only [hv,Bool.and_eq_true] at h
        rw [h2 _ _ _ hv]
        simp only [Bool.and_eq_true]
        rw [h1] at h
        exact ⟨h.1, seqD_sound hsp m (k + 1) (by omega) _ h.2⟩
theorem badD_eq {ops : Array Oper} {q : List ID} (hl : q.length = ops.size) (h : ∀ (i : Nat) o, ops[i]? = some o → ∃ d, q[i]? = some d ∧ d.s.dst = o.dst) (a : AAct) : badD q a = badA ops.toList a := by
  have e : q.map (·.s.dst) = ops.toList.map (·.dst) := by
    apply List.ext_getElem?
    intro i
    rw [List.getElem?_map, List.getElem?_map]
    by_cases hi : i < ops.size
    · obtain ⟨d, h1, h2⟩ := h i _ (Array.getElem?_eq_getElem hi)
      rw [h1, List.getElem?_eq_getElem (by simpa using hi)]
      simp [h2]
    · rw [List.getElem?_eq_none (by omega), List.getElem?_eq_none (by simp; omega)]; rfl
  have h1 : badD q a = (q.map (·.s.dst)).foldl (fun a d => a.put d .bad) a := by rw [List.foldl_map]; rfl
  have h2 : badA ops.toList a = (ops.toList.map (·.dst)).foldl (fun a d => a.put d .bad) a := by rw [List.foldl_map]; rfl
  rw [h1, h2, e]
theorem panI_sound {ops : Array Oper} {n : Nat} {M : Mem} {q : List ID} (hl : q.length = ops.size) (hsp : ∀ (i : Nat) o, ops[i]? = some o → ∃ d, q[i]? = some d ∧ DOk P g F F' ops n d o (cntA ops.toList i) ∧ ∀ (a : AAct) (M : Mem) (r : AV × Mem), panD P g F d a M = some r → isAlloc o = false ∧ panA P g F' ops o a M = some r ∧ d.lat = latR (tabOf ops) i) {a0 : AAct} {r : Out × AAct × Mem} : ∀ (m p : Nat), p + m = ops.size → ∀ (a : AAct), panI P g F n q a0 M (q.drop p) a = some r → panO P g F' ops n a0 M p (ops.toList.drop p) a = some r
  | 0, p, hp, a, h => by
    rw [List.drop_eq_nil_of_le (by omega)] at h
    simp [panI] at h
  | m + 1, p, hp, a, h => by
    have hps : p < ops.size := by omega
    have ho : ops[p]? = some ops[p] := Array.getElem?_eq_getElem hps
    have hd1 : ops.toList.drop p = ops[p] :: ops.toList.drop (p + 1) := by
      rw [List.drop_eq_getElem_cons (by simpa using hps)]; simp
    obtain ⟨d, hq, hD, hpan⟩ := hsp p _ ho
    have hd2 : q.drop p = d :: q.drop (p + 1) := by
      obtain ⟨hlt, e⟩ := List.getElem?_eq_some_iff.1 hq
      rw [List.drop_eq_getElem_cons hlt, e]
    rw [hd2] at h
    rw [hd1]
    simp only [panI] at h
    simp only [panO]
    cases hv : valD P g F n d a M with
    | some z =>
      obtain ⟨v, M'⟩ := z
      simp only [hv] at h
      rw [hD.2 _ _ _ hv]
      simp only
      split at h
      · rename_i he
        rw [if_pos he]
        rw [hD.1] at h
        exact panI_sound hl hsp m (p + 1) (by omega) _ h
      · cases h
    | none =>
      simp only [hv] at h
      cases hpd : panD P g F d a M with
      | none => simp [hpd] at h
      | some z =>
        obtain ⟨v, H'⟩ := z
        simp only [hpd] at h
        obtain ⟨h1, h2, h3⟩ := hpan _ _ _ hpd
        rw [pan_val h1 h2, h2]
        simp only
        split at h
        · rename_i hs
          rw [h3] at hs
          have := seqD_sound (F' := F') (fun i o ho => let ⟨d, h4, h5, _⟩ := hsp i o ho; ⟨d, h4, h5⟩) ops.size 0 (by omega) a (p := p) (by rw [List.drop_zero]; exact hs)
          rw [List.drop_zero] at this
          rw [if_pos this]
          rw [badD_eq hl fun i o ho => let ⟨d, h4, h5, _⟩ := hsp i o ho; ⟨d, h4, h5.1⟩] at h
          exact h
        · cases h
theorem pan_lex {ops : Array Oper} {n : Nat} {M : Mem} {a0 : AAct} {r : Out × AAct × Mem} : ∀ (m p : Nat), p + m = ops.size → ∀ (a : AAct), panO P g F ops n a0 M p (ops.toList.drop p) a = some r → lexA P g F ops (n + cntA ops.toList p) (ops.toList.drop p) a M = none
  | 0, p, hp, a, h => by
    rw [List.drop_eq_nil_of_le (by simp; omega)] at h
    simp [panO] at h
  | m + 1, p, hp, a, h => by
    have hps : p < ops.size := by omega
    have ho : ops.toList[p]? = some ops[p] := by simp [hps]
    have hd1 : ops.toList.drop p = ops[p] :: ops.toList.drop (p + 1) := by
      rw [List.drop_eq_getElem_cons (by simpa using hps)]; simp
    rw [hd1] at h ⊢
    simp only [panO] at h
    simp only [lexA]
    cases hv : valA P g F ops (n + cntA ops.toList p) ops[p] a M with
    | none => rfl
    | some z =>
      obtain ⟨v, M'⟩ := z
      simp only [hv] at h ⊢
      split at h
      · rename_i he
        have e := eqM_eq he
        subst e
        have ih := pan_lex m (p + 1) (by omega) _ h
        rw [cntA_succ ho] at ih
        have e2 : (if isAlloc ops[p] = true then n + cntA ops.toList p + 1 else n + cntA ops.toList p) = n + (cntA ops.toList p + if isAlloc ops[p] = true then 1 else 0) := by split <;> omega
        rw [e2, ih]; rfl
      · cases h
theorem drawP_sound (hF : Says F F') {ops : Array Oper} (hst : statOk ops = true) {rows : Mem} (hrows : zeroRows P ops.toList = some rows) {q : List ID} (hq : drawnR P ops (tabOf ops) 0 (tabOf ops) = some q) {a : AAct} {H : Mem} {r : Out × AAct × Mem} (h : panI P g F H.length q a (H ++ rows) q a = some r) :
    drawA P g F' ops a H = some r := by
  obtain ⟨hl, hsp⟩ := drawnR_spec (g := g) (n := H.length) hF hq
  have hpn := drawnR_pan (g := g) hF hq
  have hmap := tabOf_map ops
  have hp := panI_sound (F' := F') (n := H.length) (M := H ++ rows) (q := q) (by rw [hl, tab_len]) (fun i o ho => by
    obtain ⟨d, h1, h2, _⟩ := hsp i _ (tab_get ho)
    obtain ⟨d', h3, h4⟩ := hpn i _ (tab_get ho)
    rw [h1] at h3
    injection h3 with h3
    subst h3
    rw [hmap, Nat.zero_add] at h2
    exact ⟨d, h1, h2, h4⟩) ops.size 0 (by omega) a (by rw [List.drop_zero]; exact h)
  have hx := pan_lex ops.size 0 (by omega) a hp
  rw [List.drop_zero] at hp hx
  have hc0 : cntA ops.toList 0 = 0 := by simp [cntA]
  rw [hc0, Nat.add_zero] at hx
  have hN : drawN P g F' ops a H = none := by
    simp only [drawN,if_pos hst,hrows,Zo,hx,Zq]
  unfold drawA
  rw [hN]
  simp only [if_pos hst,hrows,Zo]
  exact hp
theorem drawI_sound (hF : Says F F') {ops : Array Oper} (hst : statOk ops = true) {rows : Mem} (hrows : zeroRows P ops.toList = some rows) {q : List ID} (hq : drawnR P ops (tabOf ops) 0 (tabOf ops) = some q) {a : AAct} {H : Mem} {r : Out × AAct × Mem} (h : drawI P g F H.length q a (H ++ rows) = some r) :
    drawA P g F' ops a H = some r := by
  unfold drawI at h
  split at h
  · rename_i r' h'
    injection h with h; subst h
    have := drawI0_sound hF hst hrows hq h'
    unfold drawA
    rw [this]
  · exact drawP_sound hF hst hrows hq h
theorem drawI2_sound (hF : Says F F') {ops : Array Oper} (hst : statOk ops = true) {rows : Mem} (hrows : zeroRows P ops.toList = some rows) {x y : Nat} (htw : twoW ops = some (x, y)) (htt : twoT ops x y = true) {q : List ID} (hq : drawnR P ops (tabOf ops) 0 (tabOf ops) = some q) {a : AAct} {H : Mem} {r : Out × AAct × Mem} (h : drawI2 P g F H.length x y q a (H ++ rows) = some r) :
    drawA P g F' ops a H = some r := by
  unfold drawI2 at h
  split at h
  · rename_i r' h'
    injection h with h; subst h
    have := drawI20_sound hF hst hrows htw htt hq h'
    unfold drawA
    rw [this]
  · exact drawP_sound hF hst hrows hq h
theorem loopA_says {b1 b2 : AAct → Mem → Option (Out × AAct × Mem)} {lv : Option (List Tmp)} (hb : ∀ a H r, b1 a H = some r → b2 a H = some r) : ∀ (n : Nat) (a : AAct) (H : Mem) (r : Out × AAct × Mem), loopA b1 lv n a H = some r → loopA b2 lv n a H = some r
  | 0, _, _, _, h => by cases h
  | n + 1, a, H, r, h => by
    simp only [loopA] at h ⊢
    split at h
    · rename_i a' H' e
      rw [hb _ _ _ e]
      exact loopA_says hb n _ _ _ h
    · rename_i hne
      rw [hb _ _ _ h]
      match r, h with
      | (.normal, a', H'), h => exact absurd h (hne a' H')
      | (.exit _, _, _), _ => rfl
      | (.ret, _, _), _ => rfl
      | (.pan _, _, _), _ => rfl
theorem evI_sound (hF : Says F F') {fid N : Nat} : ∀ {c : Code} {ic : IC}, resolveC P g fid c = some ic → ∀ {a : AAct} {H : Mem} {r : Out × AAct × Mem}, evI P g F N ic a H = some r → evCode P g F' fid N c a H = some r
  | .skip, ic, hc, a, H, r, h => by simp only [resolveC] at hc; injection hc with hc; subst hc; exact h
  | .label _, ic, hc, a, H, r, h => by simp only [resolveC] at hc; injection hc with hc; subst hc; exact h
  | .ret, ic, hc, a, H, r, h => by simp only [resolveC] at hc; injection hc with hc; subst hc; exact h
  | .exit _, ic, hc, a, H, r, h => by simp only [resolveC] at hc; injection hc with hc; subst hc; exact h
  | .region id ops draw, ic, hc, a, H, r, h => by
    simp only [resolveC] at hc
    simp only [evCode]
    split at hc
    · rename_i hd
      rw [if_pos hd]
      split at hc
      · rename_i hst
        obtain ⟨rows, hrows, hc⟩ := Option.bind_eq_some_iff.1 hc
        obtain ⟨l, hl, rfl⟩ := Option.map_eq_some_iff.1 hc
        split at h
        · rename_i x y htw
          split at h
          · rename_i htt
            simp only [evI] at h
            exact drawI2_sound hF hst hrows htw htt hl h
          · simp only [evI] at h
            exact drawI_sound hF hst hrows hl h
        · simp only [evI] at h
          exact drawI_sound hF hst hrows hl h
      · cases hc
    · rename_i hd
      rw [if_neg hd]
      obtain ⟨q, hq, rfl⟩ := Option.map_eq_some_iff.1 hc
      simp only [evI] at h
      exact opsI_sound hF hq h
  | .seq x y, ic, hc, a, H, r, h => by
    simp only [resolveC] at hc
    split at hc
    · rename_i cx cy hx hy
      injection hc with hc; subst hc
      simp only [evI] at h
      simp only [evCode]
      split at h
      · rename_i a' H' e
        rw [evI_sound hF hx e]
        exact evI_sound hF hy h
      · rename_i hne
        rw [evI_sound hF hx h]
        match r, h with
        | (.normal, a', H'), h => exact absurd h (hne a' H')
        | (.exit _, _, _), _ => rfl
        | (.ret, _, _), _ => rfl
        | (.pan _, _, _), _ => rfl
    · cases hc
  | .cond c x y, ic, hc, a, H, r, h => by
    simp only [resolveC] at hc
    split at hc
    · rename_i cx cy hx hy
      injection hc with hc; subst hc
      simp only [evI,evI_arg] at h
      simp only [evCode]
      split at h
      · rename_i e; rw [e]; exact evI_sound hF hx h
      · rename_i e; rw [e]; exact evI_sound hF hy h
      · cases h
    · cases hc
  | .block id c, ic, hc, a, H, r, h => by
    simp only [resolveC] at hc
    obtain ⟨cx, hx, rfl⟩ := Option.map_eq_some_iff.1 hc
    simp only [evI] at h
    simp only [evCode]
    split at h
    · rename_i id' a' H' e
      rw [evI_sound hF hx e]
      exact h
    · rename_i hne
      rw [evI_sound hF hx h]
      match r, h with
      | (.exit _, a', H'), h => exact absurd h (hne _ a' H')
      | (.normal, _, _), _ => rfl
      | (.ret, _, _), _ => rfl
      | (.pan _, _, _), _ => rfl
  | .loop c, ic, hc, a, H, r, h => by
    simp only [resolveC] at hc
    obtain ⟨cx, hx, rfl⟩ := Option.map_eq_some_iff.1 hc
    simp only [evI] at h
    simp only [evCode]
    exact loopA_says (fun a H r h => evI_sound hF hx h) N _ _ _ h
  | .goto _, ic, hc, _, _, _, h => by simp only [resolveC] at hc; injection hc with hc; subst hc; cases h
  | .scope .., ic, hc, _, _, _, h => by simp only [resolveC] at hc; injection hc with hc; subst hc; cases h
  | .rangeFunc .., ic, hc, _, _, _, h => by simp only [resolveC] at hc; injection hc with hc; subst hc; cases h
end Go.Proofs.YtlimneghgioeaaaGreatDoor.Ev
