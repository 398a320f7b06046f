/- Parts of one proof. -/
import Derived.Test.YtlimneghgioeaaaGreatDoorMca
set_option linter.all false
namespace Go.Proofs.YtlimneghgioeaaaGreatDoor.Ev
variable {P : Program} {g : Cfg} {F : FSem} {η η' η'' : Nat → Option Nat} {H H' H'' : Mem} {w w' w'' : World}
def vAt (tr : List (AV × Mem)) (k : Nat) : AV := match tr[k]? with
  | some p => p.1
  | none => .bad
theorem cntA_succ {l : List Oper} {k : Nat} {o : Oper} (h : l[k]? = some o) : cntA l (k + 1) = cntA l k + if isAlloc o then 1 else 0 := by
  unfold cntA
  obtain ⟨hl, e⟩ := List.getElem?_eq_some_iff.1 h
  rw [List.take_succ_eq_append_getElem hl, e, List.filter_append, List.length_append]
  cases ha : isAlloc o <;> simp [ha]
theorem cntA_mono {l : List Oper} {i j : Nat} (h : i ≤ j) : cntA l i ≤ cntA l j := by
  unfold cntA
  have : l.take i = (l.take j).take i := by rw [List.take_take, Nat.min_eq_left h]
  rw [this]
  exact ((List.take_sublist i (l.take j)).filter isAlloc).length_le
theorem lexA_facts {ops : Array Oper} : ∀ (l : List Oper) (id : Nat) (a : AAct) (H : Mem) (tr : List (AV × Mem)), lexA P g F ops id l a H = some tr → tr.length = l.length ∧
    ∀ (k : Nat) o, l[k]? = some o → valA P g F ops (id + cntA l k) o (putAll (l.take k) (tr.take k) a) (memAt tr H k) = some (vAt tr k, memAt tr H (k + 1))
  | [], id, a, H, tr, h => by simp [lexA] at h; subst h; exact ⟨rfl, fun k o h => by simp at h⟩
  | x :: l, id, a, H, tr, h => by
    simp only [lexA] at h
    cases hv : valA P g F ops id x a H with
    | none => simp [hv] at h
    | some p =>
      obtain ⟨v, H'⟩ := p
      simp only [hv] at h
      obtain ⟨tr', htr, rfl⟩ := Option.map_eq_some_iff.1 h
      obtain ⟨h1, h2⟩ := lexA_facts l _ _ _ tr' htr
      refine ⟨by simp [h1], fun k o ho => ?_⟩
      cases k with
      | zero =>
        simp at ho; subst ho
        simpa [cntA, putAll, memAt, vAt] using hv
      | succ k =>
        have := h2 k o (by simpa using ho)
        have e1 : id + cntA (x :: l) (k + 1) = (if isAlloc x then id + 1 else id) + cntA l k := by
          unfold cntA
          rw [List.take_succ_cons, List.filter_cons]
          cases isAlloc x <;> simp; omega
        rw [e1]
        have e2 : putAll ((x :: l).take (k + 1)) (((v, H') :: tr').take (k + 1)) a = putAll (l.take k) (tr'.take k) (a.put x.dst v) := rfl
        rw [e2]
        have e3 : memAt ((v, H') :: tr') H (k + 1) = memAt tr' H' k := by cases k <;> simp [memAt]
        have e4 : memAt ((v, H') :: tr') H (k + 1 + 1) = memAt tr' H' (k + 1) := by
          have hk : k < tr'.length := by rw [h1]; have := (List.getElem?_eq_some_iff.1 ho).1; simpa using this
          simp [memAt, hk]
        rw [e3, e4]
        simpa [vAt] using this
theorem putAll_snoc : ∀ (l : List Oper) (tr : List (AV × Mem)) (a : AAct) (o : Oper) (p : AV × Mem), tr.length = l.length → putAll (l ++ [o]) (tr ++ [p]) a = (putAll l tr a).put o.dst p.1
  | [], tr, a, o, p, h => by
    obtain rfl : tr = [] := List.eq_nil_of_length_eq_zero h
    rfl
  | x :: l, [], a, o, p, h => by simp at h
  | x :: l, q :: tr, a, o, p, h => putAll_snoc l tr (a.put x.dst q.1) o p (by simpa using h)
theorem putAll_acc {ops : Array Oper} {tr : List (AV × Mem)} {a : AAct} (hl : tr.length = ops.size) : ∀ k, k ≤ ops.size → putAll (ops.toList.take k) (tr.take k) a = accS ops (vAt tr) a (fun _ => true) k
  | 0, _ => rfl
  | k + 1, hk => by
    have h1 : k < ops.toList.length := by simp; omega
    have h2 : k < tr.length := by omega
    rw [List.take_succ_eq_append_getElem h1, List.take_succ_eq_append_getElem h2, putAll_snoc _ _ _ _ _ (by simp; omega), putAll_acc hl k (by omega)]
    have h3 : ops[k]? = some ops.toList[k] := by simp
    simp only [accS,h3,if_true]
    congr 1
    simp [vAt, h2]
theorem accS_congr {ops : Array Oper} {v : Nat → AV} {a : AAct} {S T : Nat → Bool} : ∀ k, (∀ j, j < k → S j = T j) → accS ops v a S k = accS ops v a T k
  | 0, _ => rfl
  | k + 1, h => by
    have ih := accS_congr (ops := ops) (v := v) (a := a) k fun j hj => h j (by omega)
    simp only [accS,ih,h k (by omega)]
theorem accS_stop {ops : Array Oper} {v : Nat → AV} {a : AAct} {i : Nat} : ∀ k, i ≤ k → accS ops v a (fun j => decide (j < i)) k = accS ops v a (fun j => decide (j < i)) i
  | 0, h => by obtain rfl : i = 0 := by omega
               rfl
  | k + 1, h => by
    by_cases hk : i = k + 1
    · rw [hk]
    · have : accS ops v a (fun j => decide (j < i)) (k + 1) = accS ops v a (fun j => decide (j < i)) k := by
        simp only [accS]
        split
        · rw [if_neg (by simp; omega)]
        · rfl
      rw [this]
      exact accS_stop k (by omega)
def Eff (ops : Array Oper) (M : Nat → Mem) (RO : Nat → Nat → Prop) : Prop := ∀ (k : Nat) o, ops[k]? = some o → eqM (M (k + 1)) (M k) = true ∨ ∀ (q : Nat) x, ops[q]? = some x → silentA x = true ∨ q = k ∨ (ahead ops k).testBit q = true ∨ (ahead ops q).testBit k = true ∨ RO q k
theorem effOk_spec {ops : Array Oper} {ro : Nat → Oper → Mem → Bool} : ∀ (l : List (Nat × Oper × Nat)) (tr : List (AV × Mem)) (H : Mem), effOk ro (tabOf ops) l tr H = true → tr.length = l.length → ∀ (k : Nat) p, l[k]? = some p → eqM (memAt tr H (k + 1)) (memAt tr H k) = true ∨ ∀ (q : Nat) x, ops[q]? = some x → silentA x = true ∨ q = p.1 ∨ p.2.2.testBit q = true ∨ (ahead ops q).testBit p.1 = true ∨ (ro q x (memAt tr H k) && ro q x (memAt tr H (k + 1))) = true
  | [], tr, H, _, _, k, p, h => by simp at h
  | x :: l, [], H, _, hl, _, _, _ => by simp at hl
  | (i, y, b) :: l, (v, H') :: tr, H, h, hl, k, p, hp => by
    simp only [effOk,Bool.and_eq_true] at h
    cases k with
    | zero =>
      simp at hp; subst hp
      simp only [Bool.or_eq_true] at h
      rcases h.1 with h1 | h1
      · exact .inl (by simpa [memAt] using h1)
      · right
        intro q x hq
        have := (List.all_eq_true.1 h1) _ (List.mem_of_getElem? (tab_get hq))
        simp only [Bool.or_eq_true,beq_iff_eq] at this
        rcases this with (((h2 | h2) | h2) | h2) | h2
        · exact .inl h2
        · exact .inr (.inl h2)
        · exact .inr (.inr (.inl h2))
        · exact .inr (.inr (.inr (.inl h2)))
        · refine .inr (.inr (.inr (.inr ?_)))
          simpa [memAt] using h2
    | succ k =>
      have := effOk_spec l tr H' h.2 (by simpa using hl) k p (by simpa using hp)
      have e3 : memAt ((v, H') :: tr) H (k + 1) = memAt tr H' k := by cases k <;> simp [memAt]
      have hk : k < tr.length := by
        have h1 := (List.getElem?_eq_some_iff.1 hp).1
        simp at h1 hl; omega
      have e4 : memAt ((v, H') :: tr) H (k + 1 + 1) = memAt tr H' (k + 1) := by simp [memAt, hk]
      rw [e3, e4]
      exact this
theorem ahead_lt {ops : Array Oper} (hst : Stat ops) (j m : Nat) (x : Oper) (hx : ops[j]? = some x) (hb : (ahead ops j).testBit m = true) : m < j := by
  have : ∀ n j, j < n → ∀ x, ops[j]? = some x → (ahead ops j).testBit m = true → m < j := by
    intro n
    induction n with
    | zero => intro j hj; omega
    | succ n ihn =>
      intro j hj x hx hb
      obtain ⟨e, h1, h2, h3⟩ := ahead_spec hx hb
      have h4 := hst.edge j x hx e h1 h2
      rcases h3 with rfl | ⟨h5, h6⟩
      · exact h4
      · have h7 : e.on < ops.size := by have := (Array.getElem?_eq_some_iff.1 hx).1; omega
        have := ihn e.on (by omega) ops[e.on] (Array.getElem?_eq_getElem h7) h6
        omega
  exact this (j + 1) j (by omega) x hx hb
theorem memS_at {ops : Array Oper} (hst : Stat ops) {M : Nat → Mem} {RO : Nat → Nat → Prop} (he : Eff ops M RO) (hRO : ∀ q k, RO q k → eqM (M (q + 1)) (M q) = true) {S : Nat → Bool} (hc : Closed ops S) (hs : ∀ k, S k = true → k < ops.size) {i : Nat} {o : Oper} (ho : ops[i]? = some o) (hi : S i = false) (hr : ∀ e ∈ o.after, Region.binds .any e = true → S e.on = true) (hl : silentA o = false) (hie : eqM (M (i + 1)) (M i) = false) :
    ∀ k, memS M S k = M (min k i)
  | 0 => by simp [memS]
  | k + 1 => by
    have ih := memS_at hst he hRO hc hs ho hi hr hl hie k
    have hin : ∀ j, (ahead ops i).testBit j = true → S j = true := fun j hj => ahead_in hc (i + 1) i j o (by omega) ho hr hs hj
    have hback := ahead_lt hst
    simp only [memS]
    cases hch : eqM (M (k + 1)) (M k) with
    | true =>
      have e := eqM_eq hch
      simp only [ZG,ZD,Ze,if_false]
      rw [ih]
      by_cases h : k + 1 ≤ i
      · rw [Nat.min_eq_left h, Nat.min_eq_left (by omega), e]
      · rw [Nat.min_eq_right (by omega), Nat.min_eq_right (by omega)]
    | false =>
      simp only [ZF,ZI]
      cases hk : ops[k]? with
      | none =>
        have hS : S k = false := by
          cases h : S k with
          | false => rfl
          | true => have := hs k h; rw [Array.getElem?_eq_getElem this] at hk; cases hk
        rw [hS]
        have h1 : ops.size ≤ k := by
          rcases Nat.lt_or_ge k ops.size with h | h
          · rw [Array.getElem?_eq_getElem h] at hk; cases hk
          · exact h
        have h2 := (Array.getElem?_eq_some_iff.1 ho).1
        simp only [Ze,if_false]
        rw [ih, Nat.min_eq_right (by omega), Nat.min_eq_right (by omega)]
      | some x =>
        have heff := (he k x hk).resolve_left (by rw [hch]; simp) i o ho
        rcases heff with h1 | h1 | h1 | h1 | h1
        · rw [hl] at h1; cases h1
        · subst h1
          rw [hi]
          simp only [Ze,if_false]
          rw [ih]; simp
        · have h2 := hback k i x hk h1
          have hS : S k = false := by
            cases h : S k with
            | false => rfl
            | true =>
              have := ahead_in hc (k + 1) k i x (by omega) hk (hc k x h hk) hs h1
              rw [hi] at this; cases this
          rw [hS]
          simp only [Ze,if_false]
          rw [ih, Nat.min_eq_right (by omega), Nat.min_eq_right (by omega)]
        · have h2 := hback i k o ho h1
          rw [hin k h1, if_pos rfl, Nat.min_eq_left (by omega)]
        · rw [hRO _ _ h1] at hie; cases hie
theorem memS_val {ops : Array Oper} (hst : Stat ops) {M : Nat → Mem} {RO : Nat → Nat → Prop} (he : Eff ops M RO) (hRO : ∀ q k, RO q k → eqM (M (q + 1)) (M q) = true) {S : Nat → Bool} (hc : Closed ops S) (hs : ∀ k, S k = true → k < ops.size) {i : Nat} {o : Oper} (ho : ops[i]? = some o) (hi : S i = false) (hr : ∀ e ∈ o.after, Region.binds .any e = true → S e.on = true) (hl : silentA o = false) (hie : eqM (M (i + 1)) (M i) = true) :
    ∀ k, memS M S k = M (min k i) ∨ (∃ j, i < j ∧ j < k ∧ memS M S k = M (j + 1) ∧ RO i j) ∨ (∃ j, j < i ∧ j < k ∧ memS M S k = M j ∧ RO i j ∧ S j = false ∧ eqM (M (j + 1)) (M j) = false)
  | 0 => .inl (by simp [memS])
  | k + 1 => by
    have ih := memS_val hst he hRO hc hs ho hi hr hl hie k
    have hin : ∀ j, (ahead ops i).testBit j = true → S j = true := fun j hj => ahead_in hc (i + 1) i j o (by omega) ho hr hs hj
    have hback := ahead_lt hst
    have keep : memS M S (k + 1) = memS M S k → (memS M S k = M (min k i) → memS M S k = M (min (k + 1) i)) → (memS M S (k + 1) = M (min (k + 1) i) ∨ (∃ j, i < j ∧ j < k + 1 ∧ memS M S (k + 1) = M (j + 1) ∧ RO i j) ∨ (∃ j, j < i ∧ j < k + 1 ∧ memS M S (k + 1) = M j ∧ RO i j ∧ S j = false ∧ eqM (M (j + 1)) (M j) = false)) := by
      intro h1 h2
      rw [h1]
      rcases ih with h | ⟨j, h3, h4, h5, h6⟩ | ⟨j, h3, h4, h5, h6, h7, h8⟩
      · exact .inl (h2 h)
      · exact .inr (.inl ⟨j, h3, by omega, h5, h6⟩)
      · exact .inr (.inr ⟨j, h3, by omega, h5, h6, h7, h8⟩)
    cases hch : eqM (M (k + 1)) (M k) with
    | true =>
      refine keep (by simp [memS, hch]) fun h => ?_
      rw [h]
      by_cases h : k + 1 ≤ i
      · rw [Nat.min_eq_left h, Nat.min_eq_left (by omega), eqM_eq hch]
      · rw [Nat.min_eq_right (by omega), Nat.min_eq_right (by omega)]
    | false =>
      cases hk : ops[k]? with
      | none =>
        have hS : S k = false := by
          cases h : S k with
          | false => rfl
          | true => have := hs k h; rw [Array.getElem?_eq_getElem this] at hk; cases hk
        have h1 : ops.size ≤ k := by
          rcases Nat.lt_or_ge k ops.size with h | h
          · rw [Array.getElem?_eq_getElem h] at hk; cases hk
          · exact h
        have h2 := (Array.getElem?_eq_some_iff.1 ho).1
        refine keep (by simp [memS, hS]) fun h => ?_
        rw [h, Nat.min_eq_right (by omega), Nat.min_eq_right (by omega)]
      | some x =>
        have hki : k ≠ i := by rintro rfl; rw [hie] at hch; cases hch
        have hord : (ahead ops k).testBit i = true ∨ (ahead ops i).testBit k = true ∨ RO i k := by
          rcases (he k x hk).resolve_left (by rw [hch]; simp) i o ho with h1 | h1 | h1 | h1 | h1
          · rw [hl] at h1; cases h1
          · exact absurd h1.symm hki
          · exact .inl h1
          · exact .inr (.inl h1)
          · exact .inr (.inr h1)
        cases hS : S k with
        | true =>
          have e1 : memS M S (k + 1) = M (k + 1) := by simp [memS, hS, hch]
          rcases hord with h1 | h1 | h1
          · have := ahead_in hc (k + 1) k i x (by omega) hk (hc k x hS hk) hs h1
            rw [hi] at this; cases this
          · have h2 := hback i k o ho h1
            exact .inl (by rw [e1, Nat.min_eq_left (by omega)])
          · rcases Nat.lt_or_ge k i with h2 | h2
            · exact .inl (by rw [e1, Nat.min_eq_left (by omega)])
            · exact .inr (.inl ⟨k, by omega, by omega, e1, h1⟩)
        | false =>
          have e1 : memS M S (k + 1) = memS M S k := by simp [memS, hS]
          rcases Nat.lt_or_ge k i with h2 | h2
          · have h3 : RO i k := by
              rcases hord with h1 | h1 | h1
              · have := hback k i x hk h1; omega
              · rw [hin k h1] at hS; cases hS
              · exact h1
            rcases ih with h | ⟨j, h4, h5, _⟩ | ⟨j, h4, h5, h6⟩
            · refine .inr (.inr ⟨k, h2, by omega, ?_, h3, hS, hch⟩)
              rw [e1, h, Nat.min_eq_left (by omega)]
            · omega
            · exact .inr (.inr ⟨j, h4, by omega, by rw [e1]; exact h6.1, h6.2⟩)
          · refine keep e1 fun h => ?_
            rw [h, Nat.min_eq_right (by omega), Nat.min_eq_right (by omega)]
end Go.Proofs.YtlimneghgioeaaaGreatDoor.Ev
