/- Parts of one proof. -/
import Derived.Test.YtlimneghgioeaaaGreatDoorMcc
set_option linter.all false
namespace Go.Proofs.YtlimneghgioeaaaGreatDoor.Ev
variable {P : Program} {g : Cfg} {F : FSem} {η η' η'' : Nat → Option Nat} {H H' H'' : Mem} {w w' w'' : World}
def inL (ops : Array Oper) (p k : Nat) : Bool := decide (k < p) || (decide (p < k) && !(ahead ops k).testBit p)
def runL (P : Program) (g : Cfg) (F : FSem) (ops : Array Oper) (n : Nat) (M : Mem) (L : Nat → Bool) (a : AAct) : Nat → AAct
  | 0 => a
  | k + 1 => match ops[k]? with
    | some o => if L k then (runL P g F ops n M L a k).put o.dst (((valA P g F ops (n + cntA ops.toList k) o (runL P g F ops n M L a k) M).map (·.1)).getD .bad) else runL P g F ops n M L a k
    | none => runL P g F ops n M L a k
def valL (P : Program) (g : Cfg) (F : FSem) (ops : Array Oper) (n : Nat) (M : Mem) (L : Nat → Bool) (a : AAct) (k : Nat) : AV := match ops[k]? with
  | some o => ((valA P g F ops (n + cntA ops.toList k) o (runL P g F ops n M L a k) M).map (·.1)).getD .bad
  | none => .bad
theorem runL_acc {ops : Array Oper} {n : Nat} {M : Mem} {L : Nat → Bool} {a : AAct} : ∀ k, runL P g F ops n M L a k = accS ops (valL P g F ops n M L a) a L k
  | 0 => rfl
  | k + 1 => by
    have ih := runL_acc (ops := ops) (n := n) (M := M) (L := L) (a := a) k
    simp only [runL,accS]
    cases hk : ops[k]? with
    | none => exact ih
    | some o =>
      simp only
      split
      · rw [← ih]; congr 1; simp only [valL,hk]
      · exact ih
def Good (P : Program) (g : Cfg) (F : FSem) (ops : Array Oper) (n : Nat) (M : Mem) (L : Nat → Bool) (a : AAct) (k : Nat) : Prop := ∀ o, ops[k]? = some o → L k = true → valA P g F ops (n + cntA ops.toList k) o (runL P g F ops n M L a k) M = some (valL P g F ops n M L a k, M)
theorem good_of {ops : Array Oper} {n : Nat} {M : Mem} {L : Nat → Bool} {a : AAct} {k : Nat} {o : Oper} {v : AV} {M' : Mem} (ho : ops[k]? = some o) (h : valA P g F ops (n + cntA ops.toList k) o (runL P g F ops n M L a k) M = some (v, M')) (he : eqM M' M = true) (hL : L k = true) :
    Good P g F ops n M L a k ∧ runL P g F ops n M L a (k + 1) = (runL P g F ops n M L a k).put o.dst v := by
  have e := eqM_eq he
  subst e
  refine ⟨fun o' ho' _ => ?_, ?_⟩
  · rw [ho] at ho'
    injection ho' with ho'
    subst ho'
    rw [h]
    simp only [valL,ho,h,Zh,Option.getD_some]
  · simp only [runL,ho,hL,if_true,h,Zh,Option.getD_some]
theorem runL_skip {ops : Array Oper} {n : Nat} {M : Mem} {L : Nat → Bool} {a : AAct} {k : Nat} (hL : L k = false) : runL P g F ops n M L a (k + 1) = runL P g F ops n M L a k := by
  simp only [runL]
  split
  · rw [if_neg (by rw [hL]; simp)]
  · rfl
theorem tab_drop {ops : Array Oper} {k : Nat} {o : Oper} (ho : ops[k]? = some o) : (tabOf ops).drop k = (k, o, ahead ops k) :: (tabOf ops).drop (k + 1) := by
  have h := tab_get ho
  obtain ⟨hl, e⟩ := List.getElem?_eq_some_iff.1 h
  rw [List.drop_eq_getElem_cons hl, e]
theorem tab_len (ops : Array Oper) : (tabOf ops).length = ops.size := by simp [tabOf, befs_length]
theorem seqA_good {ops : Array Oper} {n p : Nat} {M : Mem} {a : AAct} : ∀ (m k : Nat), k + m = ops.size → p < k → seqA P g F ops n p M ((tabOf ops).drop k) (runL P g F ops n M (inL ops p) a k) = true → ∀ j, k ≤ j → Good P g F ops n M (inL ops p) a j
  | 0, k, hk, hp, h, j, hj => by
    intro o ho
    have := (Array.getElem?_eq_some_iff.1 ho).1
    omega
  | m + 1, k, hk, hp, h, j, hj => by
    have hks : k < ops.size := by omega
    have ho : ops[k]? = some ops[k] := Array.getElem?_eq_getElem hks
    rw [tab_drop ho] at h
    simp only [seqA] at h
    have hin : inL ops p k = (decide (p < k) && !(ahead ops k).testBit p) := by
      unfold inL
      have : decide (k < p) = false := decide_eq_false (by omega)
      rw [this, Bool.false_or]
    rw [← hin] at h
    cases hL : inL ops p k with
    | false =>
      rw [hL] at h
      simp only [Ze,if_false] at h
      rw [← runL_skip (P := P) (g := g) (F := F) (n := n) (M := M) (a := a) hL] at h
      rcases Nat.lt_or_ge k j with hkj | hkj
      · exact seqA_good m (k + 1) (by omega) (by omega) h j (by omega)
      · have : j = k := by omega
        subst this
        intro o _ hL2
        rw [hL] at hL2; cases hL2
    | true =>
      rw [hL] at h
      simp only [if_true] at h
      cases hv : valA P g F ops (n + cntA ops.toList k) ops[k] (runL P g F ops n M (inL ops p) a k) M with
      | none => simp [hv] at h
      | some q =>
        obtain ⟨v, M'⟩ := q
        simp only [hv,Bool.and_eq_true] at h
        obtain ⟨h1, h2⟩ := good_of ho hv h.1 hL
        rw [← h2] at h
        rcases Nat.lt_or_ge k j with hkj | hkj
        · exact seqA_good m (k + 1) (by omega) (by omega) h.2 j (by omega)
        · have : j = k := by omega
          subst this
          exact h1
theorem seqA_skip {ops : Array Oper} {n p : Nat} {M : Mem} {a : AAct} : ∀ (m k : Nat), k + m = p + 1 → p < ops.size → seqA P g F ops n p M ((tabOf ops).drop k) a = true → seqA P g F ops n p M ((tabOf ops).drop (p + 1)) a = true
  | 0, k, hk, _, h => by
    have : k = p + 1 := by omega
    rw [← this]; exact h
  | m + 1, k, hk, hp, h => by
    have hks : k < ops.size := by omega
    rw [tab_drop (Array.getElem?_eq_getElem hks)] at h
    simp only [seqA] at h
    have : decide (p < k) = false := decide_eq_false (by omega)
    rw [this] at h
    simp only [ZE,Ze,if_false] at h
    exact seqA_skip m (k + 1) (by omega) hp h
theorem panO_spec {ops : Array Oper} {n : Nat} {a : AAct} {M : Mem} {out : Out} {a1 : AAct} {H1 : Mem} : ∀ (m p : Nat), p + m = ops.size → ∀ (b : AAct), (∀ L : Nat → Bool, (∀ j, j < p → L j = true) → runL P g F ops n M L a p = b ∧ ∀ j, j < p → Good P g F ops n M L a j) → panO P g F ops n a M p (ops.toList.drop p) b = some (out, a1, H1) →
    ∃ p o v, ops[p]? = some o ∧ out = .pan v ∧ a1 = badA ops.toList a ∧ panA P g F ops o (runL P g F ops n M (inL ops p) a p) M = some (v, H1) ∧ ∀ k, Good P g F ops n M (inL ops p) a k
  | 0, p, hp, b, hb, h => by
    rw [List.drop_eq_nil_of_le (by simp; omega)] at h
    simp [panO] at h
  | m + 1, p, hp, b, hb, h => by
    have hps : p < ops.size := by omega
    have ho : ops[p]? = some ops[p] := Array.getElem?_eq_getElem hps
    have hd : ops.toList.drop p = ops[p] :: ops.toList.drop (p + 1) := by
      rw [List.drop_eq_getElem_cons (by simpa using hps)]; simp
    rw [hd] at h
    simp only [panO] at h
    cases hv : valA P g F ops (n + cntA ops.toList p) ops[p] b M with
    | some q =>
      obtain ⟨v, M'⟩ := q
      simp only [hv] at h
      split at h
      · rename_i he
        refine panO_spec m (p + 1) (by omega) _ (fun L hL => ?_) h
        obtain ⟨h1, h2⟩ := hb L fun j hj => hL j (by omega)
        rw [← h1] at hv
        obtain ⟨h3, h4⟩ := good_of ho hv he (hL p (by omega))
        rw [h1] at h4
        refine ⟨h4, fun j hj => ?_⟩
        rcases Nat.lt_or_ge j p with hjp | hjp
        · exact h2 j hjp
        · have : j = p := by omega
          subst this; exact h3
      · cases h
    | none =>
      simp only [hv] at h
      cases hpa : panA P g F ops ops[p] b M with
      | none => simp [hpa] at h
      | some q =>
        obtain ⟨v, H'⟩ := q
        simp only [hpa] at h
        split at h
        · rename_i hs
          injection h with h; injection h with h1 h; injection h with h2 h3
          subst h1 h2 h3
          obtain ⟨h4, h5⟩ := hb (inL ops p) fun j hj => by simp [inL, hj]
          refine ⟨p, ops[p], v, ho, rfl, rfl, by rw [h4]; exact hpa, fun k => ?_⟩
          rcases Nat.lt_trichotomy k p with hk | hk | hk
          · exact h5 k hk
          · subst hk
            intro o' _ hL
            simp [inL] at hL
          · have hpL : inL ops p p = false := by simp [inL]
            have h6 : seqA P g F ops n p M ((tabOf ops).drop (p + 1)) b = true := by
              have h7 : seqA P g F ops n p M ((tabOf ops).drop 0) b = true := by rw [List.drop_zero]; exact hs
              exact seqA_skip (p + 1) 0 (by omega) hps h7
            rw [← h4, ← runL_skip (P := P) (g := g) (F := F) (n := n) (M := M) (a := a) hpL] at h6
            exact seqA_good m (p + 1) (by omega) (by omega) h6 k (by omega)
        · cases h
theorem acc_looksL {ops : Array Oper} (hst : Stat ops) {v : Nat → AV} {a : AAct} {S L : Nat → Bool} (hc : Closed ops S) (hs : ∀ k, S k = true → k < ops.size) (hSL : ∀ k, S k = true → L k = true) {i : Nat} {o : Oper} (ho : ops[i]? = some o) (hi : S i = false) (hr : ∀ e ∈ o.after, Region.binds .any e = true → S e.on = true) {t : Nat} (ht : t ∈ looksA ops o) :
    ∀ k, look (accS ops v a S k).t t = look (accS ops v a (fun j => L j && decide (j < i)) k).t t
  | 0 => rfl
  | k + 1 => by
    have ih := acc_looksL hst (v := v) (a := a) hc hs hSL ho hi hr ht k
    have hin : ∀ j, (ahead ops i).testBit j = true → S j = true := fun j hj => ahead_in hc (i + 1) i j o (by omega) ho hr hs hj
    simp only [accS]
    cases hk : ops[k]? with
    | none => exact ih
    | some x =>
      simp only
      have hn1 := (accS_n ops v a S k).1
      have hn2 := (accS_n ops v a (fun j => L j && decide (j < i)) k).1
      have hput : ∀ (b b' : AAct), b.n = b'.n → look b.t t = look b'.t t → look (b.put x.dst (v k)).t t = look (b'.put x.dst (v k)).t t := fun b b' h1 h2 => by rw [look_put, look_put, h1, h2]
      have hno : x.dst ≠ some t → ∀ b : AAct, look (b.put x.dst (v k)).t t = look b.t t := fun h b => by rw [look_put, if_neg h]
      by_cases hd : x.dst = some t
      · rcases Nat.lt_trichotomy k i with h | h | h
        · have hb : (ahead ops i).testBit k = true := by
            rcases hst.pair k i x o h hk ho with h1 | h1
            · exact absurd ht ((apartA_spec h1).1 t hd).1
            · exact h1
          have hSk := hin k hb
          rw [if_pos hSk, if_pos (by simp [hSL k hSk, h])]
          exact hput _ _ (hn1.trans hn2.symm) ih
        · subst h
          rw [hi]
          simp only [Ze,if_false,Nat.lt_irrefl,ZO,ZD]
          exact ih
        · have : S k = false := by
            cases hS : S k with
            | false => rfl
            | true =>
              have hb : (ahead ops k).testBit i = true := by
                rcases hst.pair i k o x h ho hk with h1 | h1
                · exact absurd ht ((apartA_spec h1).2 t hd)
                · exact h1
              have := ahead_in hc (k + 1) k i x (by omega) hk (hc k x hS hk) hs hb
              rw [hi] at this; cases this
          rw [this]
          simp only [Ze,if_false]
          rw [if_neg (by simp; intro _; omega)]
          exact ih
      · split <;> split <;> simp only [hno hd,ih]
theorem acc_stopL {ops : Array Oper} {v : Nat → AV} {a : AAct} {L : Nat → Bool} {i : Nat} : ∀ k, i ≤ k → accS ops v a (fun j => L j && decide (j < i)) k = accS ops v a (fun j => L j && decide (j < i)) i
  | 0, h => by obtain rfl : i = 0 := by omega
               rfl
  | k + 1, h => by
    by_cases hk : i = k + 1
    · rw [hk]
    · have : accS ops v a (fun j => L j && decide (j < i)) (k + 1) = accS ops v a (fun j => L j && decide (j < i)) k := by
        simp only [accS]
        split
        · rw [if_neg (by simp; intro _; omega)]
        · rfl
      rw [this]
      exact acc_stopL k (by omega)
theorem stepA_congr {ops : Array Oper} {o : Oper} {a a' : AAct} (h : ∀ t ∈ looksA ops o, look a.t t = look a'.t t) (H : Mem) : panA P g F ops o a H = panA P g F ops o a' H := by
  unfold panA stepA
  rw [wantedA_congr h, exec1_congr (P := P) (eval_congr (g := g) h)]
  cases wantedA ops a' o with
  | none => rfl
  | some b =>
    cases b with
    | false => rfl
    | true =>
      simp only
      cases exec1 P (a'.eval g) o H with
      | none => rfl
      | some r =>
        cases r with
        | val v H' => rfl
        | pan v => rfl
        | dfr f l => rfl
        | call f l =>
          simp only
          cases F f l H with
          | none => rfl
          | some q =>
            obtain ⟨e, H'⟩ := q
            cases e <;> rfl
theorem badA_look : ∀ (l : List Oper) (a : AAct) (t : Nat), look (badA l a).t t = .bad ∨ (look (badA l a).t t = look a.t t ∧ ∀ o ∈ l, o.dst ≠ some t)
  | [], a, t => .inr ⟨rfl, fun o h => by cases h⟩
  | x :: l, a, t => by
    show look (badA l (a.put x.dst .bad)).t t = .bad ∨ _
    rcases badA_look l (a.put x.dst .bad) t with h | ⟨h, h2⟩
    · exact .inl h
    · rw [look_put] at h
      by_cases hd : x.dst = some t
      · rw [if_pos hd] at h
        left; show look (badA l (a.put x.dst .bad)).t t = .bad
        rw [h]; split <;> rfl
      · rw [if_neg hd] at h
        refine .inr ⟨h, fun o ho => ?_⟩
        rcases List.mem_cons.1 ho with rfl | ho
        · exact hd
        · exact h2 o ho
theorem badA_n : ∀ (l : List Oper) (a : AAct), (badA l a).n = a.n ∧ (badA l a).d = a.d
  | [], a => ⟨rfl, rfl⟩
  | x :: l, a => by
    have h := badA_n l (a.put x.dst .bad)
    exact ⟨h.1.trans (put_n _ _ _).1, h.2.trans (put_n _ _ _).2⟩
theorem acc_keeps {ops : Array Oper} {v : Nat → AV} {a : AAct} {S : Nat → Bool} {t : Nat} (h : ∀ o ∈ ops.toList, o.dst ≠ some t) : ∀ k, look (accS ops v a S k).t t = look a.t t
  | 0 => rfl
  | k + 1 => by
    have ih := acc_keeps (v := v) (a := a) (S := S) h k
    simp only [accS]
    cases hk : ops[k]? with
    | none => exact ih
    | some x =>
      simp only
      split
      · rw [look_put, if_neg (h x (by have := List.mem_of_getElem? (l := ops.toList) (i := k) (by simpa using hk); exact this))]; exact ih
      · exact ih
theorem ActR.toBad {ops : Array Oper} {v : Nat → AV} {a : AAct} {S : Nat → Bool} {act : Act} (h : ActR η H w (accS ops v a S ops.size) act) : ActR η H w (badA ops.toList a) act := by
  have h1 := accS_n ops v a S ops.size
  have h2 := badA_n ops.toList a
  refine ⟨by rw [h2.1, ← h1.1]; exact h.size, fun t => ?_, by rw [h2.2, ← h1.2]; exact h.def_⟩
  rcases badA_look ops.toList a t with hb | ⟨hb, hn⟩
  · rw [hb]; exact .bad _
  · rw [hb, ← acc_keeps (v := v) (a := a) (S := S) hn ops.size]; exact h.tmp t
theorem pan_any {η0 : Nat → Option Nat} {H0 : Mem} {w0 : World} (hF : FOk P g F) {ops : Array Oper} (hst : Stat ops) {a : AAct} {rows : Mem} {p : Nat} {o : Oper} {v : AV} {H1 : Mem} (ho : ops[p]? = some o)
    (hgood : ∀ k, Good P g F ops H0.length (H0 ++ rows) (inL ops p) a k) (hpan : panA P g F ops o (runL P g F ops H0.length (H0 ++ rows) (inL ops p) a p) (H0 ++ rows) = some (v, H1)) (hrows : ∀ (i : Nat) o, ops[i]? = some o → isAlloc o = true → cntA ops.toList i < rows.length) :
    ∀ (fuel : Nat) (listed : Array Bool) (η : Nat → Option Nat) (w : World) (act : Act), listed.size = ops.size → Closed ops (fun k => listed.getD k false) → (∀ k, listed.getD k false = true → inL ops p k = true) → ((List.range ops.size).filter fun k => !listed.getD k false).length = fuel →
      Ext η0 H0 w0 η (H0 ++ rows) w → Rel g η (H0 ++ rows) w → ActR η (H0 ++ rows) w (accS ops (valL P g F ops H0.length (H0 ++ rows) (inL ops p) a) a (fun k => listed.getD k false) ops.size) act →
      (∀ (i : Nat) o, ops[i]? = some o → isAlloc o = true → listed.getD i false = false → η (H0.length + cntA ops.toList i) = none) →
      wpAny P .any ops (Post g η0 H0 w0 (.pan v) (badA ops.toList a) H1) fuel listed act w := by
  have hpL : inL ops p p = false := by simp [inL]
  have hps : p < ops.size := (Array.getElem?_eq_some_iff.1 ho).1
  have notall : ∀ (listed : Array Bool), (∀ k, listed.getD k false = true → inL ops p k = true) → listed.getD p false = false := by
    intro listed hl
    cases h : listed.getD p false with
    | false => rfl
    | true => rw [hl p h] at hpL; cases hpL
  have done : ∀ (listed : Array Bool), Region.ready .any ops listed = [] → listed.size = ops.size → ∀ k, k < ops.size → listed.getD k false = true := by
    intro listed hr hsz
    have : ∀ n k, k < n → k < ops.size → listed.getD k false = true := by
      intro n
      induction n with
      | zero => intro k hk; omega
      | succ n ih =>
        intro k hk hks
        cases hS : listed.getD k false with
        | true => rfl
        | false =>
          exfalso
          have : k ∈ Region.ready .any ops listed := mem_ready.2 ⟨by
              have hk2 : k < listed.size := by omega
              simp [hk2] at hS ⊢; exact hS, ops[k], Array.getElem?_eq_getElem hks, fun e h1 h2 => ih e.on (by have := hst.edge k _ (Array.getElem?_eq_getElem hks) e h1 h2; omega) (by have := hst.edge k _ (Array.getElem?_eq_getElem hks) e h1 h2; omega)⟩
          rw [hr] at this; cases this
    exact fun k hk => this (k + 1) k (by omega) hk
  intro fuel
  induction fuel with
  | zero =>
    intro listed η w act hsz hc hl hcnt x r ha hp
    exfalso
    have h := notall listed hl
    have : p ∈ (List.range ops.size).filter fun k => !listed.getD k false := by
      rw [List.mem_filter]; exact ⟨List.mem_range.2 hps, by simp only [h]; rfl⟩
    rw [List.eq_nil_of_length_eq_zero hcnt] at this; cases this
  | succ fuel ih =>
    intro listed η w act hsz hc hl hcnt x r ha hp
    refine ⟨fun hr => ?_, fun i hi => ?_⟩
    · have h := notall listed hl
      rw [done listed hr hsz p hps] at h; cases h
    obtain ⟨h1, o', ho', hr⟩ := mem_ready.1 hi
    have hk : i < ops.size := (Array.getElem?_eq_some_iff.1 ho').1
    have hk2 : i < listed.size := by omega
    have hiF : listed.getD i false = false := by simp [hk2] at h1 ⊢; exact h1
    have hs : ∀ k, (fun k => listed.getD k false) k = true → k < ops.size := by
      intro k h
      rcases Nat.lt_or_ge k ops.size with h' | h'
      · exact h'
      · have : ¬ k < listed.size := by omega
        simp [this] at h
    have hlook : ∀ t ∈ looksA ops o', look (accS ops (valL P g F ops H0.length (H0 ++ rows) (inL ops p) a) a (fun k => listed.getD k false) ops.size).t t = look (runL P g F ops H0.length (H0 ++ rows) (inL ops p) a i).t t := fun t ht => by
      rw [acc_looksL hst (L := inL ops p) hc hs hl ho' hiF hr ht ops.size, acc_stopL ops.size (by omega), runL_acc]
      rw [accS_congr (T := inL ops p) i (fun j hj => by simp [hj])]
    by_cases hip : i = p
    · subst hip
      rw [ho] at ho'
      injection ho' with ho'
      subst ho'
      have hpan' := hpan
      rw [← stepA_congr hlook] at hpan'
      unfold panA at hpan'
      split at hpan'
      · rename_i v' a' H' hstep
        injection hpan' with hpan'; injection hpan' with e1 e2
        subst e1 e2
        obtain ⟨b, hb, hst'⟩ := stepA_sound hF r ha hstep
        unfold wpOp
        rw [ho]
        simp only
        cases b with
        | false =>
          simp only [Ze,if_false] at hst'
          cases hst'.1
        | true =>
          rw [hb]
          simp only [if_true] at hst' ⊢
          refine .inl (hst' _ _ (fun act1 w1 hn _ => by cases hn) fun e act1 w1 _ hpost => ?_)
          have ha' : a' = accS ops (valL P g F ops H0.length (H0 ++ rows) (inL ops i) a) a (fun k => listed.getD k false) ops.size := by
            unfold stepA at hstep
            split at hstep
            · cases hstep
            · injection hstep with hstep; injection hstep with e3 e4; cases e3
            · split at hstep
              · cases hstep
              · injection hstep with hstep; injection hstep with e3 e4; cases e3
              · injection hstep with hstep; injection hstep with e3 e4; injection e4 with e4 e5; exact e4.symm
              · injection hstep with hstep; injection hstep with e3 e4; cases e3
              · split at hstep
                · injection hstep with hstep; injection hstep with e3 e4; cases e3
                · injection hstep with hstep; injection hstep with e3 e4; injection e4 with e4 e5; exact e4.symm
                · cases hstep
          subst ha'
          obtain ⟨η1, x1, r1, ha1, he1⟩ := hpost
          exact ⟨η1, x.trans x1, r1, ha1.toBad, he1⟩
      · cases hpan'
    · have hiL : inL ops p i = true := by
        rcases Nat.lt_trichotomy i p with h | h | h
        · simp [inL, h]
        · exact absurd h hip
        · cases hb : (ahead ops i).testBit p with
          | false => simp [inL, h, hb]
          | true =>
            have := ahead_in hc (i + 1) i p o' (by omega) ho' hr hs hb
            have this' : listed.getD p false = true := this
            rw [notall listed hl] at this'; cases this'
      have hval := hgood i o' ho' hiL
      rw [← valA_congr hlook] at hval
      have hS' : ∀ k, (listed.setIfInBounds i true).getD k false = (listed.getD k false || k == i) := fun k => getD_setB listed i k hk2
      have hfun : (fun k => (listed.setIfInBounds i true).getD k false) = fun k => listed.getD k false || k == i := funext hS'
      refine valA_step hF ho' x r ha (Nat.le_add_right _ _) (fun hal => hp i o' ho' hal hiF) hval fun η1 act1 w1 x1 r1 ha1 hun hl1 => ?_
      have hcl' : Closed ops (fun k => (listed.setIfInBounds i true).getD k false) := by
        intro j y hj hy e h2 h3
        simp only [hS',Bool.or_eq_true,beq_iff_eq] at hj ⊢
        rcases hj with hj | rfl
        · exact .inl (hc j y hj hy e h2 h3)
        · rw [ho'] at hy
          injection hy with hy
          subst hy
          exact .inl (hr e h2 h3)
      refine ih (listed.setIfInBounds i true) η1 w1 act1 (by simpa using hsz) hcl' (fun k hk => ?_) ?_ x1 r1 ?_ ?_
      · rw [hS'] at hk
        simp only [Bool.or_eq_true,beq_iff_eq] at hk
        rcases hk with hk | rfl
        · exact hl k hk
        · exact hiL
      · have hrng : ∀ (l : List Nat), l.Nodup → i ∈ l → (l.filter fun k => !(listed.getD k false || k == i)).length + 1 = (l.filter fun k => !listed.getD k false).length := by
          intro l
          induction l with
          | nil => intro _ h; cases h
          | cons y l ihl =>
            intro hn hm
            rw [List.nodup_cons] at hn
            by_cases hy : y = i
            · subst hy
              have hsame : (l.filter fun k => !(listed.getD k false || k == y)) = l.filter fun k => !listed.getD k false := by
                apply List.filter_congr
                intro k hk
                have : (k == y) = false := by simp; exact fun e => hn.1 (e ▸ hk)
                simp [this]
              simp only [List.filter_cons,hiF,hsame]
              simp
            · have hm' : i ∈ l := by
                rcases List.mem_cons.1 hm with h | h
                · exact absurd h.symm hy
                · exact h
              have := ihl hn.2 hm'
              have hb : (y == i) = false := by simpa using hy
              simp only [List.filter_cons,hb,Bool.or_false]
              split
              · simp only [Zf]; omega
              · exact this
        have := hrng (List.range ops.size) List.nodup_range (List.mem_range.2 hk)
        simp only [hS']
        omega
      · rw [hfun]
        have hn1 := accS_n ops (valL P g F ops H0.length (H0 ++ rows) (inL ops p) a) a (fun k => listed.getD k false || k == i) ops.size
        have hn2 := accS_n ops (valL P g F ops H0.length (H0 ++ rows) (inL ops p) a) a (fun k => listed.getD k false) ops.size
        have hn3 := put_n (accS ops (valL P g F ops H0.length (H0 ++ rows) (inL ops p) a) a (fun k => listed.getD k false) ops.size) o'.dst (valL P g F ops H0.length (H0 ++ rows) (inL ops p) a i)
        refine ⟨by rw [hn1.1, ← hn2.1, ← hn3.1]; exact ha1.size, fun t => ?_, by rw [hn1.2, ← hn2.2, ← hn3.2]; exact ha1.def_⟩
        have h2 := ha1.tmp t
        rw [look_put, hn2.1] at h2
        rw [accS_more hst hc hs ho' hiF t ops.size]
        by_cases hd : o'.dst = some t
        · rw [if_pos ⟨hk, hd⟩]; rw [if_pos hd] at h2; exact h2
        · rw [if_neg (fun h => hd h.2)]; rw [if_neg hd] at h2; exact h2
      · intro j y hy hal hj
        simp only [hS',Bool.or_eq_false_iff] at hj
        have hji : j ≠ i := by simpa using hj.2
        have hjr := hrows j y hy hal
        refine hun _ (by rw [List.length_append]; omega) (fun hal2 e => ?_) (hp j y hy hal hj.1)
        have e2 : cntA ops.toList j = cntA ops.toList i := by omega
        rcases Nat.lt_or_ge j i with h2 | h2
        · have h3 := cntA_succ (l := ops.toList) (k := j) (o := y) (by simpa using hy)
          have h4 := cntA_mono (l := ops.toList) (show j + 1 ≤ i by omega)
          rw [hal] at h3; simp at h3; omega
        · have h3 := cntA_succ (l := ops.toList) (k := i) (o := o') (by simpa using ho')
          have h4 := cntA_mono (l := ops.toList) (show i + 1 ≤ j by omega)
          rw [hal2] at h3; simp at h3; omega
theorem drawA_sound (hm : P.follows .mixedOrders = true) (hF : FOk P g F) (id : Nat) (ops : Array Oper) (a a1 : AAct) (H H1 : Mem) (out : Out) (η : Nat → Option Nat) (w : World) (act : Act) (r : Rel g η H w) (ha : ActR η H w a act) (h : drawA P g F ops a H = some (out, a1, H1)) :
    (Code.region id ops true).wp P (Post g η H w out a1 H1) act w := by
  unfold drawA at h
  split at h
  · rename_i q hq
    injection h with h; subst h
    exact drawN_sound hm hF id ops a a1 H H1 out η w act r ha hq
  · split at h
    · rename_i hstat
      obtain ⟨rows, hrows, h⟩ := Option.bind_eq_some_iff.1 h
      have hst := statOk_spec hstat
      obtain ⟨p, o, v, ho, rfl, rfl, hpan, hgood⟩ := panO_spec (ops := ops) (a := a) ops.size 0 (by omega) a (fun L _ => ⟨rfl, fun j hj => by omega⟩) (by rw [List.drop_zero]; exact h)
      obtain ⟨hr1, hr2, hr3⟩ := zeroRows_spec ops.toList rows hrows
      have e0 : Ext η H w η H w.drew := Ext.quiet rfl rfl rfl rfl
      have r0 : Rel g η H w.drew := r.quiet rfl rfl rfl rfl
      have hrel : Ext η H w η (H ++ rows) w.drew ∧ Rel g η (H ++ rows) w.drew := by
        have eW : ExtW η H w.drew η (H ++ rows) w.drew := ⟨by simp, fun j y hy => ⟨y, by rw [List.getElem?_append_left (List.getElem?_eq_some_iff.1 hy).1]; exact hy, Nat.le_refl _, fun _ b hb => ⟨hb, fun s hs => hs⟩⟩, Nat.le_refl _, fun b hb => ⟨rfl, hb.2⟩, rfl, rfl, rfl⟩
        refine ⟨e0.thenW eW fun j _ h => h, r0.step eW (fun j b hj => ?_) r0.inj (fun y hy => ?_) fun j y b h1 h2 => ?_⟩
        · exact ⟨by rw [List.length_append]; have := (r0.dom j b hj).1; omega, (r0.dom j b hj).2⟩
        · rcases List.mem_append.1 hy with hy | hy
          · exact lowB_mono (by simp) (r0.low y hy)
          · exact lowB_mono (Nat.zero_le _) (hr2 y hy)
        · have := (r0.dom j b h2).1
          rw [List.getElem?_append_left this] at h1
          exact .inl ⟨h1, h2, rfl⟩
      have hS0 : (fun k => (Array.replicate ops.size false).getD k false) = fun _ => false := by
        funext k
        by_cases hk : k < ops.size <;> simp [hk]
      have hacc0 : ∀ vv k, accS ops vv a (fun _ => false) k = a := by
        intro vv k
        induction k with
        | zero => rfl
        | succ k ih => simp only [accS,ih]; split <;> simp
      refine wp_region_any hm ?_
      have hcnt0 : ((List.range ops.size).filter fun k => !(Array.replicate ops.size false).getD k false).length = ops.size := by
        have h1 : ∀ k ∈ List.range ops.size, (!(Array.replicate ops.size false).getD k false) = true := fun k _ => by
          have h2 : (Array.replicate ops.size false).getD k false = false := congrFun hS0 k
          rw [h2]; rfl
        rw [List.filter_eq_self.2 h1]
        exact List.length_range
      refine pan_any hF hst ho hgood hpan (fun i o ho hal => hr3 i o (by simpa using ho) hal) ops.size (Array.replicate ops.size false) η w.drew act (by simp) (by rw [hS0]; intro i o h; cases h) (fun k hk => by rw [congrFun hS0 k] at hk; cases hk) hcnt0 hrel.1 hrel.2 ?_ (fun i o ho hal _ => by
          cases hη : η (H.length + cntA ops.toList i) with
          | none => rfl
          | some b => have := (r.dom _ b hη).1; omega)
      rw [hS0, hacc0]
      exact (ha.ext e0).ext ⟨⟨by simp, fun j y hy => ⟨y, by rw [List.getElem?_append_left (List.getElem?_eq_some_iff.1 hy).1]; exact hy, Nat.le_refl _, fun _ b hb => ⟨hb, fun s hs => hs⟩⟩, Nat.le_refl _, fun b hb => ⟨rfl, hb.2⟩, rfl, rfl, rfl⟩, fun j _ h => h⟩
    · cases h
end Go.Proofs.YtlimneghgioeaaaGreatDoor.Ev
