/- Parts of one proof. -/
import Derived.Test.YtlimneghgioeaaaGreatDoorMcj
set_option linter.all false
namespace Go.Proofs.YtlimneghgioeaaaGreatDoor.Ev
inductive El where
  | mk (sp nm tx : List UInt8) (ats : List (List UInt8 × List UInt8 × List UInt8)) (kids : List El)
def atC (a : List UInt8 × List UInt8 × List UInt8) : List AV := [.str a.1, .str a.2.1, .str a.2.2]
mutual
def eC : El → List AV
  | .mk sp nm tx ats kids => [.str sp, .str nm, .str tx, .lst ats.length (ats.flatMap atC), .lst kids.length (kC kids)]
def kC : List El → List AV
  | [] => []
  | k :: ks => eC k ++ kC ks
end
def El.sp : El → List UInt8 | .mk sp _ _ _ _ => sp
def El.nm : El → List UInt8 | .mk _ nm _ _ _ => nm
def El.tx : El → List UInt8 | .mk _ _ tx _ _ => tx
def El.ats : El → List (List UInt8 × List UInt8 × List UInt8) | .mk _ _ _ a _ => a
def El.kids : El → List El | .mk _ _ _ _ ks => ks
theorem eC_eq (x : El) : eC x = [.str x.sp, .str x.nm, .str x.tx, .lst x.ats.length (x.ats.flatMap atC), .lst x.kids.length (kC x.kids)] := by cases x; rfl
theorem eC_len (e : El) : (eC e).length = 5 := by rw [eC_eq]; rfl
theorem kC_len : ∀ l : List El, (kC l).length = l.length * 5
  | [] => rfl
  | k :: ks => by simp [kC, eC_len, kC_len ks]; omega
theorem kC_drop : ∀ (l : List El) (k : Nat), (kC l).drop (k * 5) = kC (l.drop k)
  | l, 0 => by simp
  | [], k + 1 => by simp [kC]
  | x :: l, k + 1 => by
    rw [kC, show (k + 1) * 5 = 5 + k * 5 by omega, ← List.drop_drop, List.drop_left' (eC_len x), kC_drop l k]; rfl
theorem atC_low (a : List UInt8 × List UInt8 × List UInt8) (n : Nat) : lowL n (atC a) = true := rfl
theorem atsC_low (n : Nat) : ∀ l : List (List UInt8 × List UInt8 × List UInt8), lowL n (l.flatMap atC) = true
  | [] => rfl
  | a :: l => by simp [List.flatMap_cons, lowL_app, atC_low, atsC_low n l]
theorem atsC_len : ∀ l : List (List UInt8 × List UInt8 × List UInt8), (l.flatMap atC).length = l.length * 3
  | [] => rfl
  | a :: l => by rw [List.flatMap_cons, List.length_append, atsC_len l]; simp [atC]; omega
theorem atsC_drop : ∀ (l : List (List UInt8 × List UInt8 × List UInt8)) (k : Nat), (l.flatMap atC).drop (k * 3) = (l.drop k).flatMap atC
  | l, 0 => by simp
  | [], k + 1 => by simp
  | x :: l, k + 1 => by
    rw [List.flatMap_cons, show (k + 1) * 3 = 3 + k * 3 by omega, ← List.drop_drop, List.drop_left' (show (atC x).length = 3 from rfl), atsC_drop l k]; rfl
mutual
theorem eC_low (n : Nat) : ∀ e : El, lowL n (eC e) = true
  | .mk sp nm tx ats kids => by simp [eC, lowL, low, atsC_low, kC_low n kids]
theorem kC_low (n : Nat) : ∀ l : List El, lowL n (kC l) = true
  | [] => rfl
  | k :: ks => by simp [kC, lowL_app, eC_low n k, kC_low n ks]
end
def zEl : El := .mk [] [] [] [] []
theorem eC_take (e : El) : (eC e).take 5 = eC e := by rw [eC_eq]; rfl
theorem eC_one (e : El) : (eC e).all AV.one = true := by rw [eC_eq]; rfl
theorem eC_0 (e : El) : (eC e).take 1 = [.str e.sp] := by rw [eC_eq]; rfl
theorem eC_1 (e : El) : ((eC e).drop 1).take 1 = [.str e.nm] := by rw [eC_eq]; rfl
theorem eC_2 (e : El) : ((eC e).drop 2).take 1 = [.str e.tx] := by rw [eC_eq]; rfl
theorem eC_3 (e : El) : ((eC e).drop 3).take 1 = [.lst e.ats.length (e.ats.flatMap atC)] := by rw [eC_eq]; rfl
theorem eC_4 (e : El) : ((eC e).drop 4).take 1 = [.lst e.kids.length (kC e.kids)] := by rw [eC_eq]; rfl
theorem eCr (e : El) (r : List AV) : (eC e ++ r).take 5 = eC e := by rw [eC_eq]; rfl
theorem eCr_0 (e : El) (r : List AV) : (eC e ++ r).take 1 = [.str e.sp] := by rw [eC_eq]; rfl
theorem eCr_1 (e : El) (r : List AV) : ((eC e ++ r).drop 1).take 1 = [.str e.nm] := by rw [eC_eq]; rfl
theorem eCr_2 (e : El) (r : List AV) : ((eC e ++ r).drop 2).take 1 = [.str e.tx] := by rw [eC_eq]; rfl
theorem eCr_3 (e : El) (r : List AV) : ((eC e ++ r).drop 3).take 1 = [.lst e.ats.length (e.ats.flatMap atC)] := by rw [eC_eq]; rfl
theorem eCr_4 (e : El) (r : List AV) : ((eC e ++ r).drop 4).take 1 = [.lst e.kids.length (kC e.kids)] := by rw [eC_eq]; rfl
theorem atr (a : List UInt8 × List UInt8 × List UInt8) : atC a = [.str a.1, .str a.2.1, .str a.2.2] := rfl
theorem all_drop {α : Type} {all : List α} {k : Nat} (h : k < all.length) : ∃ x, all.drop k = x :: all.drop (k + 1) := ⟨all[k], by simp⟩
theorem natOf_nat (k : Nat) (t : IntKind) : natOf (.int t (k : Int)) = some k := by simp [natOf]
theorem wrap_next {k n : Nat} (h : k < n) (hn : n ≤ 9223372036854775807) : IntKind.wrap .i64 ((k : Int) + 1) = ((k + 1 : Nat) : Int) := by rw [wrap64] <;> omega
def findIn (s n : List UInt8) : List El → Option El
  | [] => none
  | k :: ks => if k.sp == s && k.nm == n then some k else findIn s n ks
theorem pig : ∀ (L T : Nat) (o : Nat → Nat), (∀ a b, a < b → b < T → o a ≠ o b) → (∀ a, a < T → o a < L) → T ≤ L
  | 0, T, o, _, h => by
    cases T with
    | zero => exact Nat.le_refl _
    | succ T => exact absurd (h 0 (by omega)) (by omega)
  | L + 1, T, o, hi, h => by
    by_cases hx : ∃ a, a < T ∧ o a = L
    · obtain ⟨a, ha, e⟩ := hx
      have := pig L (T - 1) (fun b => if b < a then o b else o (b + 1)) (fun b c hbc hc => by
        show (if b < a then o b else o (b + 1)) ≠ (if c < a then o c else o (c + 1))
        split <;> split
        · exact hi b c hbc (by omega)
        · exact hi b (c + 1) (by omega) (by omega)
        · omega
        · exact hi (b + 1) (c + 1) (by omega) (by omega)) (fun b hb => by
        show (if b < a then o b else o (b + 1)) < L
        split
        · rename_i hlt
          have h1 := h b (by omega)
          have h2 := hi b a hlt ha
          omega
        · have h1 := h (b + 1) (by omega)
          have h2 := hi a (b + 1) (by omega) (by omega)
          omega)
      omega
    · have := pig L T o hi fun a ha => by
        have h1 := h a ha
        have h2 : o a ≠ L := fun e => hx ⟨a, ha, e⟩
        omega
      omega
def wlk (f : Nat → Option Nat) (bad : Nat → Bool) (i : Nat) : Nat → Nat → Bool
  | 0, _ => true
  | n + 1, k => match f k with
    | none => true
    | some m => if (k == i && bad m || m == i) = true then false else wlk f bad i n m
def orb (f : Nat → Option Nat) (i : Nat) : Nat → Option Nat
  | 0 => some i
  | t + 1 => (orb f i t).bind f
theorem orb_none {f : Nat → Option Nat} {i t : Nat} (h : orb f i t = none) : ∀ s, orb f i (t + s) = none
  | 0 => h
  | s + 1 => by
    show (orb f i (t + s)).bind f = none
    rw [orb_none h s]; rfl
theorem orb_per {f : Nat → Option Nat} {i a b : Nat} (h : orb f i a = orb f i b) : ∀ s, orb f i (a + s) = orb f i (b + s)
  | 0 => h
  | s + 1 => by
    show (orb f i (a + s)).bind f = (orb f i (b + s)).bind f
    rw [orb_per h s]
theorem wlk_back (f : Nat → Option Nat) (bad : Nat → Bool) (i : Nat) : ∀ (n t k : Nat), orb f i t = some k → k ≠ i → (wlk f bad i n k = false ↔ ∃ s, t < s ∧ s ≤ t + n ∧ orb f i s = some i)
  | 0, t, k, _, _ => by
    constructor
    · intro h; cases h
    · rintro ⟨s, h1, h2, _⟩; omega
  | n + 1, t, k, ho, hk => by
    have hki : (k == i) = false := beq_false_of_ne hk
    unfold wlk
    rw [hki]
    cases hf : f k with
    | none =>
      have hn : orb f i (t + 1) = none := by show (orb f i t).bind f = none; rw [ho]; exact hf
      constructor
      · intro h; cases h
      · rintro ⟨s, h1, h2, h3⟩
        have := orb_none hn (s - (t + 1))
        rw [show t + 1 + (s - (t + 1)) = s by omega, h3] at this
        cases this
    | some m =>
      have hn : orb f i (t + 1) = some m := by show (orb f i t).bind f = _; rw [ho]; exact hf
      simp only [ZE,Bool.false_or]
      by_cases hm : m = i
      · subst hm
        rw [beq_self_eq_true, if_pos rfl]
        exact ⟨fun _ => ⟨t + 1, by omega, by omega, hn⟩, fun _ => rfl⟩
      · rw [beq_false_of_ne hm, if_neg (by simp), wlk_back f bad i n (t + 1) m hn hm]
        constructor
        · rintro ⟨s, h1, h2, h3⟩; exact ⟨s, by omega, by omega, h3⟩
        · rintro ⟨s, h1, h2, h3⟩
          refine ⟨s, ?_, by omega, h3⟩
          rcases Nat.lt_or_ge (t + 1) s with h | h
          · exact h
          · have : s = t + 1 := by omega
            rw [this, hn] at h3
            injection h3 with h3
            exact absurd h3 hm
theorem orb_soon (f : Nat → Option Nat) (i L : Nat) (hi : i < L) (hf : ∀ k m, f k = some m → m < L) (s : Nat) (h0 : 0 < s) (hs : orb f i s = some i) : ∃ u, 0 < u ∧ u ≤ L ∧ orb f i u = some i := by
  induction s using Nat.strongRecOn with
  | _ s ih =>
    by_cases hx : ∃ u, 0 < u ∧ u < s ∧ orb f i u = some i
    · obtain ⟨u, h1, h2, h3⟩ := hx
      exact ih u h2 h1 h3
    refine ⟨s, h0, ?_, hs⟩
    have hsome : ∀ t, t < s → ∃ k, orb f i t = some k := fun t ht => by
      cases h : orb f i t with
      | some k => exact ⟨k, rfl⟩
      | none =>
        have := orb_none h (s - t)
        rw [show t + (s - t) = s by omega, hs] at this
        cases this
    refine pig L s (fun t => (orb f i t).getD 0) (fun a b hab hb e => ?_) fun a ha => ?_
    · obtain ⟨x, hxa⟩ := hsome a (by omega)
      obtain ⟨y, hyb⟩ := hsome b hb
      simp only [hxa,hyb,Option.getD_some] at e
      subst e
      have h := orb_per (hxa.trans hyb.symm) (s - b)
      rw [show b + (s - b) = s by omega, hs] at h
      exact hx ⟨a + (s - b), by omega, by omega, h⟩
    · obtain ⟨x, hxa⟩ := hsome a ha
      simp only [hxa,Option.getD_some]
      cases a with
      | zero =>
        have : orb f i 0 = some i := rfl
        rw [this] at hxa
        injection hxa with e
        omega
      | succ a =>
        have : (orb f i a).bind f = some x := hxa
        cases h : orb f i a with
        | none => rw [h] at this; cases this
        | some k => rw [h] at this; exact hf k x this
theorem wlk_more (f : Nat → Option Nat) (bad : Nat → Bool) (i L d : Nat) (hi : i < L) (hf : ∀ k m, f k = some m → m < L) : wlk f bad i (L + d) i = wlk f bad i L i := by
  obtain ⟨L', rfl⟩ : ∃ k, L = k + 1 := ⟨L - 1, by omega⟩
  rw [show L' + 1 + d = (L' + d) + 1 by omega]
  unfold wlk
  cases h : f i with
  | none => rfl
  | some m =>
    simp only [ZA,ZH]
    cases hb : (bad m || m == i)
    · simp only [Ze,if_false]
      have hm : m ≠ i := by
        intro e; subst e; simp at hb
      have ho : orb f i 1 = some m := h
      have a1 := wlk_back f bad i (L' + d) 1 m ho hm
      have a2 := wlk_back f bad i L' 1 m ho hm
      cases e1 : wlk f bad i L' m
      · obtain ⟨s, h1, h2, h3⟩ := a2.1 e1
        exact a1.2 ⟨s, h1, by omega, h3⟩
      · cases e2 : wlk f bad i (L' + d) m
        · obtain ⟨s, h1, h2, h3⟩ := a1.1 e2
          obtain ⟨u, h4, h5, h6⟩ := orb_soon f i (L' + 1) hi hf s (by omega) h3
          have hu : 1 < u := by
            rcases Nat.lt_or_ge 1 u with h | h
            · exact h
            · have : u = 1 := by omega
              rw [this, ho] at h6
              injection h6 with h6
              exact absurd h6 hm
          rw [a2.2 ⟨u, hu, by omega, h6⟩] at e1
          cases e1
        · rfl
    · simp only [if_true]
structure St where
  id : List UInt8
  based : List UInt8
  run : Bool
  emph : Int
  bold : Int
  head : Int
deriving Inhabited
def stC (s : St) : List AV := [.str s.id, .str s.based, .bool s.run, .int .i64 s.emph, .int .i64 s.bold, .int .i64 s.head]
def stsC (l : List St) : List AV := l.flatMap stC
def Rng (s : St) : Prop := 0 ≤ s.emph ∧ s.emph ≤ 2 ∧ 0 ≤ s.bold ∧ s.bold ≤ 2 ∧ 0 ≤ s.head ∧ s.head ≤ 6
def aloneB (s : St) : Bool := s.id == [] || (s.run && decide (s.head > 0))
def ixF (id : List UInt8) : List St → Nat → Option Nat
  | [], _ => none
  | s :: l, i => if (s.id == id) = true then some i else ixF id l (i + 1)
def chkA : List St → List St → Bool
  | _, [] => true
  | pre, s :: r => !aloneB s && !pre.any (fun y => y.id == s.id) && chkA (pre ++ [s]) r
def chkB (l : List St) : Bool := l.all fun s => s.based == [] || (ixF s.based l 0).isSome
def wkP (l : List St) (s : St) : Nat → St → Bool
  | 0, _ => true
  | n + 1, x => if (x.based == []) = true then true else match ixF x.based l 0 with
    | none => true
    | some j => if (x.id == s.id && (l.getD j default).run != s.run || (l.getD j default).id == s.id) = true then false else wkP l s n (l.getD j default)
def chkP (l : List St) : Bool := l.all fun s => wkP l s l.length s
def wkR (l : List St) (i : Nat) : Nat → Nat → Bool
  | 0, _ => true
  | n + 1, k => if ((l.getD k default).based == []) = true then true else match ixF (l.getD k default).based l 0 with
    | none => true
    | some m => if (k == i && (l.getD m default).run != (l.getD k default).run || m == i) = true then false else wkR l i n m
def chkR (l : List St) : Bool := (List.range l.length).all fun i => wkR l i (l.length + 2) i
def okP (l : List St) : Bool := chkA [] l && (chkB l && chkP l)
def okR (l : List St) : Bool := chkA [] l && (chkB l && chkR l)
theorem ixF_lt (id : List UInt8) : ∀ (l : List St) (i j : Nat), ixF id l i = some j → i ≤ j ∧ j < i + l.length
  | [], i, j, h => by cases h
  | s :: l, i, j, h => by
    unfold ixF at h
    split at h
    · injection h with h; subst h
      simp
    · have := ixF_lt id l (i + 1) j h
      simp; omega
theorem chkA_ids (l : List St) : ∀ (r pre : List St), chkA pre r = true → l = pre ++ r → (∀ j k, j < k → k < pre.length → (l.getD j default).id ≠ (l.getD k default).id) → ∀ j k, j < k → k < l.length → (l.getD j default).id ≠ (l.getD k default).id
  | [], pre, _, hl, hp => by
    rw [List.append_nil] at hl
    subst hl
    exact hp
  | s :: r, pre, h, hl, hp => by
    unfold chkA at h
    simp only [Bool.and_eq_true,Bool.not_eq_true'] at h
    refine chkA_ids l r (pre ++ [s]) h.2 (by rw [hl]; simp) fun j k hjk hk => ?_
    rw [List.length_append] at hk
    simp only [Zf,Zk] at hk
    rcases Nat.lt_or_ge k pre.length with h1 | h1
    · exact hp j k hjk h1
    · have hk2 : k = pre.length := by omega
      subst hk2
      have e2 : l.getD pre.length default = s := by rw [hl]; simp
      have e1 : l.getD j default = pre[j] := by rw [hl]; simp [List.getD_eq_getElem?_getD, List.getElem?_append_left hjk, List.getElem?_eq_getElem hjk]
      rw [e1, e2]
      intro e
      have h3 := h.1.2
      rw [List.any_eq_false] at h3
      exact h3 pre[j] (List.getElem_mem hjk) (by rw [e]; exact beq_self_eq_true _)
def stepF (l : List St) (k : Nat) : Option Nat := if ((l.getD k default).based == []) = true then none else ixF (l.getD k default).based l 0
theorem wkR_wlk (l : List St) (i : Nat) : ∀ n k, wkR l i n k = wlk (stepF l) (fun m => (l.getD m default).run != (l.getD i default).run) i n k
  | 0, _ => rfl
  | n + 1, k => by
    unfold wkR wlk stepF
    cases h : ((l.getD k default).based == [])
    · simp only [Ze,if_false]
      cases h2 : ixF (l.getD k default).based l 0 with
      | none => rfl
      | some m =>
        show (if _ then _ else _) = (if _ then _ else _)
        rw [wkR_wlk l i n m]
        cases h3 : (k == i)
        · rfl
        · rw [eq_of_beq h3]; rfl
    · simp only [if_true]
theorem wkP_wlk (l : List St) (hids : ∀ j k, j < k → k < l.length → (l.getD j default).id ≠ (l.getD k default).id) (i : Nat) (hi : i < l.length) : ∀ n k, k < l.length → wkP l (l.getD i default) n (l.getD k default) = wlk (stepF l) (fun m => (l.getD m default).run != (l.getD i default).run) i n k
  | 0, _, _ => rfl
  | n + 1, k, hk => by
    have same : ∀ j, j < l.length → ((l.getD j default).id == (l.getD i default).id) = (j == i) := fun j hj => by
      by_cases h : j = i
      · rw [h, beq_self_eq_true, beq_self_eq_true]
      · rw [beq_false_of_ne h]
        refine beq_false_of_ne ?_
        rcases Nat.lt_or_ge j i with h1 | h1
        · exact hids j i h1 hi
        · exact fun e => hids i j (by omega) hj e.symm
    unfold wkP wlk stepF
    cases h : ((l.getD k default).based == [])
    · simp only [Ze,if_false]
      cases h2 : ixF (l.getD k default).based l 0 with
      | none => rfl
      | some m =>
        have hm := (ixF_lt _ l 0 m h2).2
        show (if _ then _ else _) = (if _ then _ else _)
        rw [wkP_wlk l hids i hi n m (by omega), same k hk, same m (by omega)]
        rfl
    · simp only [if_true]
theorem ok_same (l : List St) : okP l = okR l := by
  unfold okP okR
  cases h : chkA [] l
  · rfl
  · have hids := chkA_ids l l [] h rfl fun j k _ hk => by simp at hk
    have e : chkP l = chkR l := by
      unfold chkP chkR
      have h1 : ∀ i, i < l.length → wkP l (l.getD i default) l.length (l.getD i default) = wkR l i (l.length + 2) i := fun i hi => by
        rw [wkP_wlk l hids i hi l.length i hi, wkR_wlk, wlk_more _ _ i l.length 2 hi fun k m hkm => by
          unfold stepF at hkm
          split at hkm
          · cases hkm
          · have := (ixF_lt _ l 0 m hkm).2
            omega]
      rw [Bool.eq_iff_iff, List.all_eq_true, List.all_eq_true]
      constructor
      · intro h i hi
        rw [List.mem_range] at hi
        rw [← h1 i hi]
        refine h _ ?_
        rw [List.getD_eq_getElem?_getD, List.getElem?_eq_getElem hi]
        exact List.getElem_mem hi
      · intro h s hs
        obtain ⟨i, hi, rfl⟩ := List.getElem_of_mem hs
        have := h i (List.mem_range.2 hi)
        rw [← h1 i hi] at this
        rw [List.getD_eq_getElem?_getD, List.getElem?_eq_getElem hi] at this
        exact this
    rw [e]
open Go.Proofs.YtlimneghgioeaaaGreatDoor.Ic
set_option maxRecDepth 100000
set_option maxHeartbeats 2000000
theorem loopA_more {body : AAct → Mem → Option (Out × AAct × Mem)} {lv : List Tmp} {n : Nat} {a a' : AAct} {H H' : Mem} {Q : Out × AAct × Mem → Prop} (h : body a H = some (.normal, a', H'))
    (h2 : ∀ M', (M' = H' ∨ M' = H'.take H.length) → ∃ r, loopA body (some lv) n (a'.keepT lv) M' = some r ∧ Q r) : ∃ r, loopA body (some lv) (n + 1) a H = some r ∧ Q r := by
  rw [loopA_succ, h]
  simp only [roundEnd]
  split
  · exact h2 _ (.inr rfl)
  · exact h2 _ (.inl rfl)
theorem re_same {l : List Tmp} {a : AAct} {H : Mem} : roundEnd (some l) H a H = (a.keepT l, H) := by
  simp only [roundEnd,List.take_length,ite_self]
theorem fin_app {H L : Mem} {v : AV} (hf : frz H.length (H ++ L) 12 v = some v) (hl : low H.length v = true) : finish false H v (H ++ L) = (v, H) := by
  simp only [finish,Ze,if_false,hf,hl,mayCut,List.take_left,eqM_refl,Bool.true_or,ZJ,if_true]
theorem stsC_len (l : List St) : (stsC l).length = l.length * 6 := by
  induction l with
  | nil => rfl
  | cons s l ih =>
    have e : stsC (s :: l) = stC s ++ stsC l := rfl
    rw [e, List.length_append, ih]; simp [stC]; omega
theorem stsC_drop (l : List St) (j : Nat) : (stsC l).drop (j * 6) = stsC (l.drop j) := by
  induction j generalizing l with
  | zero => simp
  | succ j ih =>
    cases l with
    | nil => simp [stsC]
    | cons s l =>
      have e : stsC (s :: l) = stC s ++ stsC l := rfl
      rw [e, show (j + 1) * 6 = 6 + j * 6 by omega, ← List.drop_drop, List.drop_left' (show (stC s).length = 6 from rfl), ih, List.drop_succ_cons]
theorem st_cells {l : List St} {j : Nat} (h : j < l.length) : ∃ r, (stsC l).drop (j * 6) = stC (l.getD j default) ++ r := by
  rw [stsC_drop, List.drop_eq_getElem_cons h]
  exact ⟨stsC (l.drop (j + 1)), by rw [List.getD_eq_getElem?_getD, List.getElem?_eq_getElem h]; rfl⟩
theorem st_cell1 {cs : List AV} {o : Nat} {s : St} {r : List AV} (h : cs.drop o = stC s ++ r) : o + 6 ≤ cs.length ∧ (cs.drop o).take 6 = stC s ∧ (cs.drop o).take 1 = [.str s.id] ∧ (cs.drop (o + 1)).take 1 = [.str s.based] ∧ (cs.drop (o + 2)).take 1 = [.bool s.run] := by
  have hl : cs.length - o = 6 + r.length := by rw [← List.length_drop, h]; simp [stC]; omega
  refine ⟨by omega, by rw [h]; rfl, by rw [h]; rfl, ?_, ?_⟩
  · rw [← List.drop_drop, h]; rfl
  · rw [← List.drop_drop, h]; rfl
def SlC (H : Mem) (v : AV) (l : List St) : Prop := (l = [] ∧ v = .nilS) ∨ ∃ q st ty, v = .slc q 0 l.length 6 st ∧ H[q]? = some (.row (stsC l) st ty)
theorem SlC.app {H : Mem} {v : AV} {l : List St} (h : SlC H v l) (L : Mem) : SlC (H ++ L) v l := by
  rcases h with h | ⟨q, st, ty, h1, h2⟩
  · exact .inl h
  · exact .inr ⟨q, st, ty, h1, by rw [List.getElem?_append_left (List.getElem?_eq_some_iff.1 h2).1]; exact h2⟩
theorem alone_eq (P : Program) (N d : Nat) (hd : 1 ≤ d) (s : St) (hr : Rng s) (H : Mem) : evFI P cfg T N d 34 [.agg (stC s)] H = some (.ret (.bool (aloneB s)), H) := by
  obtain ⟨n, rfl⟩ : ∃ k, d = k + 1 := ⟨d - 1, by omega⟩
  obtain ⟨r1, r2, r3, r4, r5, r6⟩ := hr
  have c1 : decide (s.emph < 0) = false := decide_eq_false (by omega)
  have c2 : decide (s.emph > 2) = false := decide_eq_false (by omega)
  have c3 : decide (s.bold < 0) = false := decide_eq_false (by omega)
  have c4 : decide (s.bold > 2) = false := decide_eq_false (by omega)
  have c5 : decide (s.head < 0) = false := decide_eq_false (by omega)
  have c6 : decide (s.head > 6) = false := decide_eq_false (by omega)
  unfold aloneB
  cases h1 : (s.id == [])
  · cases h2 : s.run
    · refine evF_ret (m := 45) (v := .bool false) (a := ?aa) (H1 := ?Ha) rfl t34 rfl ?hb ?hd ?hr ?hz
      case hb => simp only [Zf,Zk,idx,I34,stC,h1,h2,c1,c2,c3,c4,c5,c6,Zs,Zr,Zp,Za,Zb,evI,opsI,stepI,wantI,opI,AAct.evI,look,AAct.put,mkVal,mkVM,intOpA,intA,shiftA,unA,ZP,ZO,Zh,Zt,reduceIte,Nat.reduceEqDiff,Nat.reduceLT,Zo,Zq,true_and,and_true,and_self,ZB,cellsAt,Zg,ZC,Zf,Zk,ZL,ZM,Nat.reduceAdd,Nat.reduceMul,ZN,AV.cells,AV.one,known,Zn,getE_0,getE_k,setE_0,setE_k,Zc,Zd,Zl,Zm,Zi,Zw,Zu,Zj,Z1,Zx,Zy,ZJ,ZI,ZH,ZD,ZE,splice,fillI,Nat.reduceLeDiff,strA,ZK,ZA,Ze,bq_ft,bq_tf,ZG,ZF,ZQ,Zv,Zz,isNilA,nilPtr,nilSl,nilIf,nilFn,nilMap,nilCheckA,if_true,if_false,lt_lit,le_lit,lt_lit2,le_lit2,le_sub1,le_sub2]; rfl
      case hd => rfl
      case hr => rfl
      case hz => exact fin_app rfl rfl
    · simp only [Bool.false_or,ZH]
      generalize c7 : decide (s.head > 0) = q
      refine evF_ret (m := 45) (v := .bool q) (a := ?ab) (H1 := ?Hb) rfl t34 rfl ?hb ?hd ?hr ?hz
      case hb => simp only [Zf,Zk,idx,I34,stC,h1,h2,c1,c2,c3,c4,c5,c6,c7,Zs,Zr,Zp,Za,Zb,evI,opsI,stepI,wantI,opI,AAct.evI,look,AAct.put,mkVal,mkVM,intOpA,intA,shiftA,unA,ZP,ZO,Zh,Zt,reduceIte,Nat.reduceEqDiff,Nat.reduceLT,Zo,Zq,true_and,and_true,and_self,ZB,cellsAt,Zg,ZC,Zf,Zk,ZL,ZM,Nat.reduceAdd,Nat.reduceMul,ZN,AV.cells,AV.one,known,Zn,getE_0,getE_k,setE_0,setE_k,Zc,Zd,Zl,Zm,Zi,Zw,Zu,Zj,Z1,Zx,Zy,ZJ,ZI,ZH,ZD,ZE,splice,fillI,Nat.reduceLeDiff,strA,ZK,ZA,Ze,bq_ft,bq_tf,ZG,ZF,ZQ,Zv,Zz,isNilA,nilPtr,nilSl,nilIf,nilFn,nilMap,nilCheckA,if_true,if_false,lt_lit,le_lit,lt_lit2,le_lit2,le_sub1,le_sub2]; rfl
      case hd => rfl
      case hr => rfl
      case hz => exact fin_app rfl rfl
  · refine evF_ret (m := 45) (v := .bool true) (a := ?ac) (H1 := ?Hc) rfl t34 rfl ?hb ?hd ?hr ?hz
    case hb => simp only [Zf,Zk,idx,I34,stC,h1,Zs,Zr,Zp,Za,Zb,evI,opsI,stepI,wantI,opI,AAct.evI,look,AAct.put,mkVal,mkVM,intOpA,intA,shiftA,unA,ZP,ZO,Zh,Zt,reduceIte,Nat.reduceEqDiff,Nat.reduceLT,Zo,Zq,true_and,and_true,and_self,ZB,cellsAt,Zg,ZC,Zf,Zk,ZL,ZM,Nat.reduceAdd,Nat.reduceMul,ZN,AV.cells,AV.one,known,Zn,getE_0,getE_k,setE_0,setE_k,Zc,Zd,Zl,Zm,Zi,Zw,Zu,Zj,Z1,Zx,Zy,ZJ,ZI,ZH,ZD,ZE,splice,fillI,Nat.reduceLeDiff,strA,ZK,ZA,Ze,bq_ft,bq_tf,ZG,ZF,ZQ,Zv,Zz,isNilA,nilPtr,nilSl,nilIf,nilFn,nilMap,nilCheckA,if_true,if_false,lt_lit,le_lit,lt_lit2,le_lit2,le_sub1,le_sub2]; rfl
    case hd => rfl
    case hr => rfl
    case hz => exact fin_app rfl rfl
theorem cloS_eq (P : Program) (N d : Nat) (hd : 1 ≤ d) (s : St) (id : List UInt8) (H : Mem) (p ty : Nat) (hp : H[p]? = some (.row [.str id] 0 ty)) : evFI P cfg T N d 65 [.agg (stC s), .ptr p 0 0] H = some (.ret (.bool (s.id == id)), H) := by
  obtain ⟨n, rfl⟩ : ∃ k, d = k + 1 := ⟨d - 1, by omega⟩
  have hlt : p < H.length := (List.getElem?_eq_some_iff.1 hp).1
  have hp2 : ∀ L : Mem, (H ++ L)[p]? = some (.row [.str id] 0 ty) := fun L => by rw [List.getElem?_append_left hlt]; exact hp
  refine evF_ret (m := 8) (v := .bool (s.id == id)) (a := ?aa) (H1 := ?Ha) rfl t65 rfl ?hb ?hd ?hr ?hz
  case hb => simp only [Zf,Zk,idx,I65,stC,hp2,Zs,Zr,Zp,Za,Zb,evI,opsI,stepI,wantI,opI,AAct.evI,look,AAct.put,mkVal,mkVM,intOpA,intA,shiftA,unA,ZP,ZO,Zh,Zt,reduceIte,Nat.reduceEqDiff,Nat.reduceLT,Zo,Zq,true_and,and_true,and_self,ZB,cellsAt,Zg,ZC,Zf,Zk,ZL,ZM,Nat.reduceAdd,Nat.reduceMul,ZN,AV.cells,AV.one,known,Zn,getE_0,getE_k,setE_0,setE_k,Zc,Zd,Zl,Zm,Zi,Zw,Zu,Zj,Z1,Zx,Zy,ZJ,ZI,ZH,ZD,ZE,splice,fillI,Nat.reduceLeDiff,strA,ZK,ZA,Ze,bq_ft,bq_tf,ZG,ZF,ZQ,Zv,Zz,isNilA,nilPtr,nilSl,nilIf,nilFn,nilMap,nilCheckA,if_true,if_false,lt_lit,le_lit,lt_lit2,le_lit2,le_sub1,le_sub2]; rfl
  case hd => rfl
  case hr => rfl
  case hz => exact fin_app rfl rfl
noncomputable def loopIS : IC := (I64.c.loops).getD 0 .bad
theorem idxS_loop (P : Program) (hcl : callable P 65 = true) (N n : Nat) (id : List UInt8) (H : Mem) (p ty q st ty2 : Nat) (l : List St) (hl : l.length ≤ 4611686018427387904) (hp : H[p]? = some (.row [.str id] 0 ty)) (hq : H[q]? = some (.row (stsC l) st ty2)) : ∀ (fuel k : Nat), k ≤ l.length → l.length - k < fuel →
    ∃ t, loopA (fun a H => evI P cfg (evFI P cfg T N (n + 1)) N loopIS a H) (some [0, 1, 7, 8]) fuel ⟨19, [(0, .slc q 0 l.length 6 st), (1, .fn (.func 65) [.ptr p 0 0]), (7, .int .i64 l.length), (8, .int .i64 k)], []⟩ H =
      (match ixF id (l.drop k) k with
      | some j => some (.ret, ⟨19, (4, .int .i64 j) :: t, []⟩, H)
      | none => some (.exit 0, ⟨19, t, []⟩, H))
  | 0, k, _, h => by omega
  | fuel + 1, k, hk, hf => by
    rcases Nat.lt_or_ge k l.length with hlt | hge
    · obtain ⟨x, hx⟩ := all_drop hlt
      obtain ⟨r, hr⟩ := st_cells hlt
      have hxe : l.getD k default = x := by
        have h0 : (l.drop k)[0]? = some x := by rw [hx]; rfl
        rw [List.getD_eq_getElem?_getD]
        simpa using congrArg (Option.getD · default) h0
      rw [hxe] at hr
      obtain ⟨g1, g2, g3, g4, g5⟩ := st_cell1 hr
      have hi : (k : Int) < (l.length : Int) := by omega
      have hw := wrap_next hlt (by omega)
      have hn := natOf_nat k .i64
      have hc := cloS_eq P N (n + 1) (by omega) x id H p ty hp
      simp only [stC] at hc g2
      obtain ⟨t, ht⟩ := idxS_loop P hcl N n id H p ty q st ty2 l hl hp hq fuel (k + 1) (by omega) (by omega)
      have hpl : p < H.length := (List.getElem?_eq_some_iff.1 hp).1
      have hql : q < H.length := (List.getElem?_eq_some_iff.1 hq).1
      have k6 : k * 6 + 1 * 6 ≤ (stsC l).length := by omega
      rw [hx]
      have e : ixF id (x :: l.drop (k + 1)) k = if (x.id == id) = true then some k else ixF id (l.drop (k + 1)) (k + 1) := rfl
      rw [e]
      cases h1 : (x.id == id)
      · rw [h1] at hc
        refine ⟨t, ?_⟩
        simp only [Ze,if_false]
        refine loopA_go (H' := H) (by simp only [loopIS,I64,IC.loops,hi,hlt,hn,hw,hq,g1,g2,hcl,hc,Zs,Zr,Zp,Za,Zb,evI,opsI,stepI,wantI,opI,AAct.evI,look,AAct.put,mkVal,mkVM,intOpA,intA,shiftA,unA,ZP,ZO,Zh,Zt,reduceIte,Nat.reduceEqDiff,Nat.reduceLT,Zo,Zq,true_and,and_true,and_self,ZB,cellsAt,Zg,ZC,Zf,Zk,ZL,ZM,Nat.reduceAdd,Nat.reduceMul,ZN,AV.cells,AV.one,known,Zn,getE_0,getE_k,setE_0,setE_k,Zc,Zd,Zl,Zm,Zi,Zw,Zu,Zj,Z1,Zx,Zy,ZJ,ZI,ZH,ZD,ZE,splice,fillI,Nat.reduceLeDiff,strA,ZK,ZA,Ze,bq_ft,bq_tf,ZG,ZF,ZQ,Zv,Zz,isNilA,nilPtr,nilSl,nilIf,nilFn,nilMap,nilCheckA,if_true,if_false,lt_lit,le_lit,lt_lit2,le_lit2,le_sub1,le_sub2]; rfl) ?_
        rw [re_same]
        exact ht
      · rw [h1] at hc
        simp only [if_true]
        exact ⟨_, loopA_ret (by simp only [loopIS,I64,IC.loops,hi,hlt,hn,hw,hq,g1,g2,hcl,hc,Zs,Zr,Zp,Za,Zb,evI,opsI,stepI,wantI,opI,AAct.evI,look,AAct.put,mkVal,mkVM,intOpA,intA,shiftA,unA,ZP,ZO,Zh,Zt,reduceIte,Nat.reduceEqDiff,Nat.reduceLT,Zo,Zq,true_and,and_true,and_self,ZB,cellsAt,Zg,ZC,Zf,Zk,ZL,ZM,Nat.reduceAdd,Nat.reduceMul,ZN,AV.cells,AV.one,known,Zn,getE_0,getE_k,setE_0,setE_k,Zc,Zd,Zl,Zm,Zi,Zw,Zu,Zj,Z1,Zx,Zy,ZJ,ZI,ZH,ZD,ZE,splice,fillI,Nat.reduceLeDiff,strA,ZK,ZA,Ze,bq_ft,bq_tf,ZG,ZF,ZQ,Zv,Zz,isNilA,nilPtr,nilSl,nilIf,nilFn,nilMap,nilCheckA,if_true,if_false,lt_lit,le_lit,lt_lit2,le_lit2,le_sub1,le_sub2]; rfl)⟩
    · have hk' : k = l.length := by omega
      subst hk'
      simp only [List.drop_length,ixF]
      exact ⟨_, loopA_exit (by simp only [loopIS,I64,IC.loops,Int.lt_irrefl,Zs,Zr,Zp,Za,Zb,evI,opsI,stepI,wantI,opI,AAct.evI,look,AAct.put,mkVal,mkVM,intOpA,intA,shiftA,unA,ZP,ZO,Zh,Zt,reduceIte,Nat.reduceEqDiff,Nat.reduceLT,Zo,Zq,true_and,and_true,and_self,ZB,cellsAt,Zg,ZC,Zf,Zk,ZL,ZM,Nat.reduceAdd,Nat.reduceMul,ZN,AV.cells,AV.one,known,Zn,getE_0,getE_k,setE_0,setE_k,Zc,Zd,Zl,Zm,Zi,Zw,Zu,Zj,Z1,Zx,Zy,ZJ,ZI,ZH,ZD,ZE,splice,fillI,Nat.reduceLeDiff,strA,ZK,ZA,Ze,bq_ft,bq_tf,ZG,ZF,ZQ,Zv,Zz,isNilA,nilPtr,nilSl,nilIf,nilFn,nilMap,nilCheckA,if_true,if_false,lt_lit,le_lit,lt_lit2,le_lit2,le_sub1,le_sub2]; rfl)⟩
def ixZ (o : Option Nat) : Int := match o with
  | some j => j
  | none => -1
theorem idxS_eq (P : Program) (hcl : callable P 65 = true) (N d : Nat) (hd : 2 ≤ d) (id : List UInt8) (H : Mem) (p ty : Nat) (v : AV) (l : List St) (hN : l.length < N) (hl : l.length ≤ 4611686018427387904) (hp : H[p]? = some (.row [.str id] 0 ty)) (hv : SlC H v l) :
    evFI P cfg T N d 64 [v, .fn (.func 65) [.ptr p 0 0]] H = some (.ret (.int .i64 (ixZ (ixF id l 0))), H) := by
  obtain ⟨n, rfl⟩ : ∃ k, d = k + 2 := ⟨d - 2, by omega⟩
  rcases hv with ⟨rfl, rfl⟩ | ⟨q, st, ty2, rfl, hq⟩
  · obtain ⟨M, rfl⟩ : ∃ M, N = M + 1 := ⟨N - 1, by omega⟩
    refine evF_ret (m := 19) (v := .int .i64 (-1)) (a := ?aa) (H1 := H) rfl t64 rfl ?hb ?hd ?hr ?hz
    case hb =>
      apply evI_seq
      · simp only [Zf,Zk,idx,I64,Zs,Zr,Zp,Za,Zb,evI,opsI,stepI,wantI,opI,AAct.evI,look,AAct.put,mkVal,mkVM,intOpA,intA,shiftA,unA,ZP,ZO,Zh,Zt,reduceIte,Nat.reduceEqDiff,Nat.reduceLT,Zo,Zq,true_and,and_true,and_self,ZB,cellsAt,Zg,ZC,Zf,Zk,ZL,ZM,Nat.reduceAdd,Nat.reduceMul,ZN,AV.cells,AV.one,known,Zn,getE_0,getE_k,setE_0,setE_k,Zc,Zd,Zl,Zm,Zi,Zw,Zu,Zj,Z1,Zx,Zy,ZJ,ZI,ZH,ZD,ZE,splice,fillI,Nat.reduceLeDiff,strA,ZK,ZA,Ze,bq_ft,bq_tf,ZG,ZF,ZQ,Zv,Zz,isNilA,nilPtr,nilSl,nilIf,nilFn,nilMap,nilCheckA,if_true,if_false,lt_lit,le_lit,lt_lit2,le_lit2,le_sub1,le_sub2]; rfl
      apply evI_seq
      · apply evI_seq
        · simp only [Zs,Zr,Zp,Za,Zb,evI,opsI,stepI,wantI,opI,AAct.evI,look,AAct.put,mkVal,mkVM,intOpA,intA,shiftA,unA,ZP,ZO,Zh,Zt,reduceIte,Nat.reduceEqDiff,Nat.reduceLT,Zo,Zq,true_and,and_true,and_self,ZB,cellsAt,Zg,ZC,Zf,Zk,ZL,ZM,Nat.reduceAdd,Nat.reduceMul,ZN,AV.cells,AV.one,known,Zn,getE_0,getE_k,setE_0,setE_k,Zc,Zd,Zl,Zm,Zi,Zw,Zu,Zj,Z1,Zx,Zy,ZJ,ZI,ZH,ZD,ZE,splice,fillI,Nat.reduceLeDiff,strA,ZK,ZA,Ze,bq_ft,bq_tf,ZG,ZF,ZQ,Zv,Zz,isNilA,nilPtr,nilSl,nilIf,nilFn,nilMap,nilCheckA,if_true,if_false,lt_lit,le_lit,lt_lit2,le_lit2,le_sub1,le_sub2]; rfl
        apply evI_block_exit
        apply evI_loop
        exact loopA_exit (by simp only [AAct.keepT,Int.lt_irrefl,Zs,Zr,Zp,Za,Zb,evI,opsI,stepI,wantI,opI,AAct.evI,look,AAct.put,mkVal,mkVM,intOpA,intA,shiftA,unA,ZP,ZO,Zh,Zt,reduceIte,Nat.reduceEqDiff,Nat.reduceLT,Zo,Zq,true_and,and_true,and_self,ZB,cellsAt,Zg,ZC,Zf,Zk,ZL,ZM,Nat.reduceAdd,Nat.reduceMul,ZN,AV.cells,AV.one,known,Zn,getE_0,getE_k,setE_0,setE_k,Zc,Zd,Zl,Zm,Zi,Zw,Zu,Zj,Z1,Zx,Zy,ZJ,ZI,ZH,ZD,ZE,splice,fillI,Nat.reduceLeDiff,strA,ZK,ZA,Ze,bq_ft,bq_tf,ZG,ZF,ZQ,Zv,Zz,isNilA,nilPtr,nilSl,nilIf,nilFn,nilMap,nilCheckA,if_true,if_false,lt_lit,le_lit,lt_lit2,le_lit2,le_sub1,le_sub2]; rfl)
      simp only [Zs,Zr,Zp,Za,Zb,evI,opsI,stepI,wantI,opI,AAct.evI,look,AAct.put,mkVal,mkVM,intOpA,intA,shiftA,unA,ZP,ZO,Zh,Zt,reduceIte,Nat.reduceEqDiff,Nat.reduceLT,Zo,Zq,true_and,and_true,and_self,ZB,cellsAt,Zg,ZC,Zf,Zk,ZL,ZM,Nat.reduceAdd,Nat.reduceMul,ZN,AV.cells,AV.one,known,Zn,getE_0,getE_k,setE_0,setE_k,Zc,Zd,Zl,Zm,Zi,Zw,Zu,Zj,Z1,Zx,Zy,ZJ,ZI,ZH,ZD,ZE,splice,fillI,Nat.reduceLeDiff,strA,ZK,ZA,Ze,bq_ft,bq_tf,ZG,ZF,ZQ,Zv,Zz,isNilA,nilPtr,nilSl,nilIf,nilFn,nilMap,nilCheckA,if_true,if_false,lt_lit,le_lit,lt_lit2,le_lit2,le_sub1,le_sub2]; rfl
    case hd => rfl
    case hr => rfl
    case hz => exact fin_len rfl rfl
  · obtain ⟨t, ht⟩ := idxS_loop P hcl N n id H p ty q st ty2 l hl hp hq N 0 (Nat.zero_le _) (by omega)
    rw [List.drop_zero] at ht
    cases hx : ixF id l 0 with
    | some j =>
      rw [hx] at ht
      refine evF_ret (m := 19) (v := .int .i64 (j : Nat)) (a := ?ab) (H1 := H) rfl t64 rfl ?hb ?hd ?hr ?hz
      case hb =>
        apply evI_seq
        · simp only [Zf,Zk,idx,I64,Zs,Zr,Zp,Za,Zb,evI,opsI,stepI,wantI,opI,AAct.evI,look,AAct.put,mkVal,mkVM,intOpA,intA,shiftA,unA,ZP,ZO,Zh,Zt,reduceIte,Nat.reduceEqDiff,Nat.reduceLT,Zo,Zq,true_and,and_true,and_self,ZB,cellsAt,Zg,ZC,Zf,Zk,ZL,ZM,Nat.reduceAdd,Nat.reduceMul,ZN,AV.cells,AV.one,known,Zn,getE_0,getE_k,setE_0,setE_k,Zc,Zd,Zl,Zm,Zi,Zw,Zu,Zj,Z1,Zx,Zy,ZJ,ZI,ZH,ZD,ZE,splice,fillI,Nat.reduceLeDiff,strA,ZK,ZA,Ze,bq_ft,bq_tf,ZG,ZF,ZQ,Zv,Zz,isNilA,nilPtr,nilSl,nilIf,nilFn,nilMap,nilCheckA,if_true,if_false,lt_lit,le_lit,lt_lit2,le_lit2,le_sub1,le_sub2]; rfl
        apply evI_seq_ret
        apply evI_seq
        · simp only [Zs,Zr,Zp,Za,Zb,evI,opsI,stepI,wantI,opI,AAct.evI,look,AAct.put,mkVal,mkVM,intOpA,intA,shiftA,unA,ZP,ZO,Zh,Zt,reduceIte,Nat.reduceEqDiff,Nat.reduceLT,Zo,Zq,true_and,and_true,and_self,ZB,cellsAt,Zg,ZC,Zf,Zk,ZL,ZM,Nat.reduceAdd,Nat.reduceMul,ZN,AV.cells,AV.one,known,Zn,getE_0,getE_k,setE_0,setE_k,Zc,Zd,Zl,Zm,Zi,Zw,Zu,Zj,Z1,Zx,Zy,ZJ,ZI,ZH,ZD,ZE,splice,fillI,Nat.reduceLeDiff,strA,ZK,ZA,Ze,bq_ft,bq_tf,ZG,ZF,ZQ,Zv,Zz,isNilA,nilPtr,nilSl,nilIf,nilFn,nilMap,nilCheckA,if_true,if_false,lt_lit,le_lit,lt_lit2,le_lit2,le_sub1,le_sub2]; rfl
        apply evI_block_ret
        apply evI_loop
        exact ht
      case hd => rfl
      case hr => rfl
      case hz => exact fin_len rfl rfl
    | none =>
      rw [hx] at ht
      refine evF_ret (m := 19) (v := .int .i64 (-1)) (a := ?ac) (H1 := H) rfl t64 rfl ?hb ?hd ?hr ?hz
      case hb =>
        apply evI_seq
        · simp only [Zf,Zk,idx,I64,Zs,Zr,Zp,Za,Zb,evI,opsI,stepI,wantI,opI,AAct.evI,look,AAct.put,mkVal,mkVM,intOpA,intA,shiftA,unA,ZP,ZO,Zh,Zt,reduceIte,Nat.reduceEqDiff,Nat.reduceLT,Zo,Zq,true_and,and_true,and_self,ZB,cellsAt,Zg,ZC,Zf,Zk,ZL,ZM,Nat.reduceAdd,Nat.reduceMul,ZN,AV.cells,AV.one,known,Zn,getE_0,getE_k,setE_0,setE_k,Zc,Zd,Zl,Zm,Zi,Zw,Zu,Zj,Z1,Zx,Zy,ZJ,ZI,ZH,ZD,ZE,splice,fillI,Nat.reduceLeDiff,strA,ZK,ZA,Ze,bq_ft,bq_tf,ZG,ZF,ZQ,Zv,Zz,isNilA,nilPtr,nilSl,nilIf,nilFn,nilMap,nilCheckA,if_true,if_false,lt_lit,le_lit,lt_lit2,le_lit2,le_sub1,le_sub2]; rfl
        apply evI_seq
        · apply evI_seq
          · simp only [Zs,Zr,Zp,Za,Zb,evI,opsI,stepI,wantI,opI,AAct.evI,look,AAct.put,mkVal,mkVM,intOpA,intA,shiftA,unA,ZP,ZO,Zh,Zt,reduceIte,Nat.reduceEqDiff,Nat.reduceLT,Zo,Zq,true_and,and_true,and_self,ZB,cellsAt,Zg,ZC,Zf,Zk,ZL,ZM,Nat.reduceAdd,Nat.reduceMul,ZN,AV.cells,AV.one,known,Zn,getE_0,getE_k,setE_0,setE_k,Zc,Zd,Zl,Zm,Zi,Zw,Zu,Zj,Z1,Zx,Zy,ZJ,ZI,ZH,ZD,ZE,splice,fillI,Nat.reduceLeDiff,strA,ZK,ZA,Ze,bq_ft,bq_tf,ZG,ZF,ZQ,Zv,Zz,isNilA,nilPtr,nilSl,nilIf,nilFn,nilMap,nilCheckA,if_true,if_false,lt_lit,le_lit,lt_lit2,le_lit2,le_sub1,le_sub2]; rfl
          apply evI_block_exit
          apply evI_loop
          exact ht
        simp only [Zs,Zr,Zp,Za,Zb,evI,opsI,stepI,wantI,opI,AAct.evI,look,AAct.put,mkVal,mkVM,intOpA,intA,shiftA,unA,ZP,ZO,Zh,Zt,reduceIte,Nat.reduceEqDiff,Nat.reduceLT,Zo,Zq,true_and,and_true,and_self,ZB,cellsAt,Zg,ZC,Zf,Zk,ZL,ZM,Nat.reduceAdd,Nat.reduceMul,ZN,AV.cells,AV.one,known,Zn,getE_0,getE_k,setE_0,setE_k,Zc,Zd,Zl,Zm,Zi,Zw,Zu,Zj,Z1,Zx,Zy,ZJ,ZI,ZH,ZD,ZE,splice,fillI,Nat.reduceLeDiff,strA,ZK,ZA,Ze,bq_ft,bq_tf,ZG,ZF,ZQ,Zv,Zz,isNilA,nilPtr,nilSl,nilIf,nilFn,nilMap,nilCheckA,if_true,if_false,lt_lit,le_lit,lt_lit2,le_lit2,le_sub1,le_sub2]; rfl
      case hd => rfl
      case hr => rfl
      case hz => exact fin_len rfl rfl
def PtS (v : AV) (o : Option Nat) (p : AV) : Prop := match o with
  | none => p = .nilP
  | some j => ∃ q n st, v = .slc q 0 n 6 st ∧ p = .ptr q (j * 6) st
theorem findS_eq (P : Program) (hcl : callable P 65 = true) (N d : Nat) (hd : 3 ≤ d) (id : List UInt8) (H : Mem) (v : AV) (l : List St) (hN : l.length < N) (hl : l.length ≤ 4611686018427387904) (hv : SlC H v l) :
    ∃ p, PtS v (ixF id l 0) p ∧ evFI P cfg T N d 52 [v, .str id] H = some (.ret p, H) := by
  obtain ⟨n, rfl⟩ : ∃ k, d = k + 3 := ⟨d - 3, by omega⟩
  have q1 := idxS_eq P hcl N (n + 2) (by omega) id (H ++ [.row [.str id] 0 (9 + 1)]) H.length (9 + 1) v l hN hl (getE_0 _ _) (hv.app _)
  cases hx : ixF id l 0 with
  | none =>
    rw [hx] at q1
    have c1 : decide ((-1 : Int) < 0) = true := rfl
    refine ⟨.nilP, rfl, ?_⟩
    simp only [ixZ] at q1
    refine evF_ret (m := 14) (v := .nilP) (a := ?aa) (H1 := ?Ha) rfl t52 rfl ?hb ?hd ?hr ?hz
    case hb => simp only [Zf,Zk,idx,I52,q1,c1,Zs,Zr,Zp,Za,Zb,evI,opsI,stepI,wantI,opI,AAct.evI,look,AAct.put,mkVal,mkVM,intOpA,intA,shiftA,unA,ZP,ZO,Zh,Zt,reduceIte,Nat.reduceEqDiff,Nat.reduceLT,Zo,Zq,true_and,and_true,and_self,ZB,cellsAt,Zg,ZC,Zf,Zk,ZL,ZM,Nat.reduceAdd,Nat.reduceMul,ZN,AV.cells,AV.one,known,Zn,getE_0,getE_k,setE_0,setE_k,Zc,Zd,Zl,Zm,Zi,Zw,Zu,Zj,Z1,Zx,Zy,ZJ,ZI,ZH,ZD,ZE,splice,fillI,Nat.reduceLeDiff,strA,ZK,ZA,Ze,bq_ft,bq_tf,ZG,ZF,ZQ,Zv,Zz,isNilA,nilPtr,nilSl,nilIf,nilFn,nilMap,nilCheckA,if_true,if_false,lt_lit,le_lit,lt_lit2,le_lit2,le_sub1,le_sub2]; rfl
    case hd => rfl
    case hr => rfl
    case hz => exact fin_app rfl rfl
  | some j =>
    rw [hx] at q1
    obtain ⟨_, hj⟩ := ixF_lt id l 0 j hx
    rcases hv with ⟨rfl, rfl⟩ | ⟨q, st, ty2, rfl, hq⟩
    · simp [ixF] at hx
    have c1 : decide ((j : Int) < 0) = false := decide_eq_false (by omega)
    have hn := natOf_nat j .i64
    have hql : q < H.length := (List.getElem?_eq_some_iff.1 hq).1
    have hq2 : ∀ L : Mem, (H ++ L)[q]? = some (.row (stsC l) st ty2) := fun L => by rw [List.getElem?_append_left hql]; exact hq
    have hll := stsC_len l
    have k6 : j < l.length := by omega
    have k7 : j * 6 + 6 ≤ l.length * 6 := by omega
    have k8 : j * 6 ≤ l.length * 6 := by omega
    refine ⟨.ptr q (j * 6) st, ⟨q, _, st, rfl, rfl⟩, ?_⟩
    simp only [ixZ] at q1
    refine evF_ret (m := 14) (v := .ptr q (j * 6) st) (a := ?ab) (H1 := ?Hb) rfl t52 rfl ?hb ?hd ?hr ?hz
    case hb => simp only [Zf,Zk,idx,I52,q1,c1,hn,hq2,hll,k6,k7,k8,Zs,Zr,Zp,Za,Zb,evI,opsI,stepI,wantI,opI,AAct.evI,look,AAct.put,mkVal,mkVM,intOpA,intA,shiftA,unA,ZP,ZO,Zh,Zt,reduceIte,Nat.reduceEqDiff,Nat.reduceLT,Zo,Zq,true_and,and_true,and_self,ZB,cellsAt,Zg,ZC,Zf,Zk,ZL,ZM,Nat.reduceAdd,Nat.reduceMul,ZN,AV.cells,AV.one,known,Zn,getE_0,getE_k,setE_0,setE_k,Zc,Zd,Zl,Zm,Zi,Zw,Zu,Zj,Z1,Zx,Zy,ZJ,ZI,ZH,ZD,ZE,splice,fillI,Nat.reduceLeDiff,strA,ZK,ZA,Ze,bq_ft,bq_tf,ZG,ZF,ZQ,Zv,Zz,isNilA,nilPtr,nilSl,nilIf,nilFn,nilMap,nilCheckA,if_true,if_false,lt_lit,le_lit,lt_lit2,le_lit2,le_sub1,le_sub2]; rfl
    case hd => rfl
    case hr => rfl
    case hz => exact fin_app (by simp only [frz,low,decide_eq_true hql,if_true]) (by simp only [low,decide_eq_true hql])
set_option maxHeartbeats 4000000
structure PtX (M : Mem) (p : AV) (x : St) (a o sa ty : Nat) (cs r : List AV) : Prop where
  p : p = .ptr a o sa
  row : M[a]? = some (.row cs sa ty)
  cell : cs.drop o = stC x ++ r
noncomputable def loopBd : IC := (I35.c.loops).getD 0 .bad
theorem based_loop (P : Program) (hcl : callable P 65 = true) (N n : Nat) (l : List St) (hN : l.length < N) (hl : l.length ≤ 4611686018427387904) (v : AV) (s : St) (H : Mem) (hv : SlC H v l) : ∀ (fuel k : Nat) (x : St) (p : AV) (a o sa ty : Nat) (cs r : List AV), k ≤ l.length → l.length - k < fuel → PtX (H ++ [.row (stC s) 0 (48 + 1)]) p x a o sa ty cs r →
    ∃ ou t, loopA (fun a H => evI P cfg (evFI P cfg T N (n + 3)) N loopBd a H) (some [0, 3, 5, 8, 9]) fuel ⟨53, [(0, v), (3, .ptr H.length 0 0), (5, p), (8, .int .i64 l.length), (9, .int .i64 k)], []⟩ (H ++ [.row (stC s) 0 (48 + 1)]) = some (ou, ⟨53, t, []⟩, H ++ [.row (stC s) 0 (48 + 1)]) ∧
      (if wkP l s (l.length - k) x = true then (ou = .ret ∧ look t 4 = .int .i64 0) ∨ ou = .exit 0 else ou = .ret ∧ look t 4 = .int .i64 16)
  | 0, k, _, _, _, _, _, _, _, _, _, h, _ => by omega
  | fuel + 1, k, x, p, a, o, sa, ty, cs, r, hk, hf, hx => by
    rcases Nat.lt_or_ge k l.length with hlt | hge
    · obtain ⟨rfl, hrow, hcell⟩ := hx
      obtain ⟨g1, g2, g3, g4, g5⟩ := st_cell1 hcell
      have e1 : o + 1 ≤ cs.length := by omega
      have e2 : o + 2 ≤ cs.length := by omega
      have e3 : o + 3 ≤ cs.length := by omega
      have hi : (k : Int) < (l.length : Int) := by omega
      have hw := wrap_next hlt (by omega)
      have z0 : ∀ k : Nat, k + 0 = k := Nat.add_zero
      have hs : ∀ L, (H ++ .row (stC s) 0 (48 + 1) :: L)[H.length]? = some (.row (stC s) 0 (48 + 1)) := fun L => getE_0 _ _
      have hw1 : wkP l s (l.length - k) x = if (x.based == []) = true then true else match ixF x.based l 0 with
          | none => true
          | some j => if (x.id == s.id && (l.getD j default).run != s.run || (l.getD j default).id == s.id) = true then false else wkP l s (l.length - (k + 1)) (l.getD j default) := by
        obtain ⟨m, hm⟩ : ∃ m, l.length - k = m + 1 := ⟨l.length - k - 1, by omega⟩
        rw [hm, show l.length - (k + 1) = m by omega]; rfl
      obtain ⟨p2, hp2, q1⟩ := findS_eq P hcl N (n + 3) (by omega) x.based (H ++ [.row (stC s) 0 (48 + 1)]) v l hN hl (hv.app _)
      rw [hw1]
      cases b1 : (x.based == [])
      · simp only [Ze,if_false]
        cases hj : ixF x.based l 0 with
        | none =>
          rw [hj] at hp2
          have hp2 : p2 = .nilP := hp2
          subst hp2
          dsimp only
          refine ⟨_, _, loopA_ret (by simp only [loopBd,I35,IC.loops,Za,hi,hw,hrow,g3,g4,e1,e2,q1,b1,Zs,Zr,Zp,Za,Zb,evI,opsI,stepI,wantI,opI,AAct.evI,look,AAct.put,mkVal,mkVM,intOpA,intA,shiftA,unA,ZP,ZO,Zh,Zt,reduceIte,Nat.reduceEqDiff,Nat.reduceLT,Zo,Zq,true_and,and_true,and_self,ZB,cellsAt,Zg,ZC,Zf,Zk,ZL,ZM,Nat.reduceAdd,Nat.reduceMul,ZN,AV.cells,AV.one,known,Zn,getE_0,getE_k,setE_0,setE_k,Zc,Zd,Zl,Zm,Zi,Zw,Zu,Zj,Z1,Zx,Zy,ZJ,ZI,ZH,ZD,ZE,splice,fillI,Nat.reduceLeDiff,strA,ZK,ZA,Ze,bq_ft,bq_tf,ZG,ZF,ZQ,Zv,Zz,isNilA,nilPtr,nilSl,nilIf,nilFn,nilMap,nilCheckA,if_true,if_false,lt_lit,le_lit,lt_lit2,le_lit2,le_sub1,le_sub2]; rfl), ?_⟩
          rw [if_pos rfl]
          exact .inl ⟨rfl, rfl⟩
        | some j =>
          rw [hj] at hp2
          obtain ⟨_, hjl⟩ := ixF_lt _ l 0 j hj
          rcases hv with ⟨rfl, rfl⟩ | ⟨q, st, ty2, rfl, hq⟩
          · simp [ixF] at hj
          obtain ⟨q', n', st', h1, h2⟩ := hp2
          injection h1 with h1 _ _ _ h5
          subst h1 h5 h2
          have hql : q < H.length := (List.getElem?_eq_some_iff.1 hq).1
          have hq2 : ∀ L : Mem, (H ++ L)[q]? = some (.row (stsC l) st ty2) := fun L => by rw [List.getElem?_append_left hql]; exact hq
          obtain ⟨r2, hr2⟩ := st_cells (l := l) (j := j) (by omega)
          obtain ⟨k1, k2, k3, k4, k5⟩ := st_cell1 hr2
          have f1 : j * 6 + 1 ≤ (stsC l).length := by omega
          have f2 : j * 6 + 2 ≤ (stsC l).length := by omega
          have f3 : j * 6 + 3 ≤ (stsC l).length := by omega
          have ih := based_loop P hcl N n l hN hl (.slc q 0 l.length 6 st) s H (.inr ⟨q, st, ty2, rfl, hq⟩) fuel (k + 1) (l.getD j default) (.ptr q (j * 6) st) q (j * 6) st ty2 (stsC l) r2 (by omega) (by omega) ⟨rfl, hq2 _, hr2⟩
          dsimp only
          obtain ⟨y, hy⟩ : ∃ y, y = l.getD j default := ⟨_, rfl⟩
          simp only [← hy] at ih k2 k3 k4 k5 ⊢
          simp only [stC] at hrow hs q1 ih ⊢
          simp only [bne]
          cases b2 : (x.id == s.id)
          · simp only [ZE,Bool.false_or]
            cases b4 : (y.id == s.id)
            · simp only [Ze,if_false]
              obtain ⟨ou, t, ht, hQ⟩ := ih
              refine ⟨ou, t, ?_, hQ⟩
              refine loopA_go (by simp only [loopBd,I35,IC.loops,Za,hi,hw,hrow,hs,hq2,g3,g4,g5,e1,e2,e3,k3,k4,k5,f1,f2,f3,q1,b1,b2,b4,Zs,Zr,Zp,Za,Zb,evI,opsI,stepI,wantI,opI,AAct.evI,look,AAct.put,mkVal,mkVM,intOpA,intA,shiftA,unA,ZP,ZO,Zh,Zt,reduceIte,Nat.reduceEqDiff,Nat.reduceLT,Zo,Zq,true_and,and_true,and_self,ZB,cellsAt,Zg,ZC,Zf,Zk,ZL,ZM,Nat.reduceAdd,Nat.reduceMul,ZN,AV.cells,AV.one,known,Zn,getE_0,getE_k,setE_0,setE_k,Zc,Zd,Zl,Zm,Zi,Zw,Zu,Zj,Z1,Zx,Zy,ZJ,ZI,ZH,ZD,ZE,splice,fillI,Nat.reduceLeDiff,strA,ZK,ZA,Ze,bq_ft,bq_tf,ZG,ZF,ZQ,Zv,Zz,isNilA,nilPtr,nilSl,nilIf,nilFn,nilMap,nilCheckA,if_true,if_false,lt_lit,le_lit,lt_lit2,le_lit2,le_sub1,le_sub2,drawI,drawI2,drawI0,drawI20,lexD,valD,valI,putD,okD,roD,memAt,lastM,wantI,eqv_refl,eqM_refl,eqM_app,eqB,eqvL,eqv,List.getLast?_cons_cons,List.getLast?_singleton,Option.getD_some,Bool.or_true,Bool.true_or,ZA,resvV]; rfl) ?_
              rw [re_same]
              exact ht
            · refine ⟨_, _, loopA_ret (by simp only [loopBd,I35,IC.loops,Za,hi,hw,hrow,hs,hq2,g3,g4,g5,e1,e2,e3,k3,k4,k5,f1,f2,f3,q1,b1,b2,b4,Zs,Zr,Zp,Za,Zb,evI,opsI,stepI,wantI,opI,AAct.evI,look,AAct.put,mkVal,mkVM,intOpA,intA,shiftA,unA,ZP,ZO,Zh,Zt,reduceIte,Nat.reduceEqDiff,Nat.reduceLT,Zo,Zq,true_and,and_true,and_self,ZB,cellsAt,Zg,ZC,Zf,Zk,ZL,ZM,Nat.reduceAdd,Nat.reduceMul,ZN,AV.cells,AV.one,known,Zn,getE_0,getE_k,setE_0,setE_k,Zc,Zd,Zl,Zm,Zi,Zw,Zu,Zj,Z1,Zx,Zy,ZJ,ZI,ZH,ZD,ZE,splice,fillI,Nat.reduceLeDiff,strA,ZK,ZA,Ze,bq_ft,bq_tf,ZG,ZF,ZQ,Zv,Zz,isNilA,nilPtr,nilSl,nilIf,nilFn,nilMap,nilCheckA,if_true,if_false,lt_lit,le_lit,lt_lit2,le_lit2,le_sub1,le_sub2,drawI,drawI2,drawI0,drawI20,lexD,valD,valI,putD,okD,roD,memAt,lastM,wantI,eqv_refl,eqM_refl,eqM_app,eqB,eqvL,eqv,List.getLast?_cons_cons,List.getLast?_singleton,Option.getD_some,Bool.or_true,Bool.true_or,ZA,resvV]; rfl), ?_⟩
              show _ = Out.ret ∧ look _ 4 = .int .i64 16
              exact ⟨rfl, rfl⟩
          · simp only [ZH]
            cases b3 : (y.run == s.run)
            · refine ⟨_, _, loopA_ret (by simp only [loopBd,I35,IC.loops,Za,hi,hw,hrow,hs,hq2,g3,g4,g5,e1,e2,e3,k3,k4,k5,f1,f2,f3,q1,b1,b2,b3,Zs,Zr,Zp,Za,Zb,evI,opsI,stepI,wantI,opI,AAct.evI,look,AAct.put,mkVal,mkVM,intOpA,intA,shiftA,unA,ZP,ZO,Zh,Zt,reduceIte,Nat.reduceEqDiff,Nat.reduceLT,Zo,Zq,true_and,and_true,and_self,ZB,cellsAt,Zg,ZC,Zf,Zk,ZL,ZM,Nat.reduceAdd,Nat.reduceMul,ZN,AV.cells,AV.one,known,Zn,getE_0,getE_k,setE_0,setE_k,Zc,Zd,Zl,Zm,Zi,Zw,Zu,Zj,Z1,Zx,Zy,ZJ,ZI,ZH,ZD,ZE,splice,fillI,Nat.reduceLeDiff,strA,ZK,ZA,Ze,bq_ft,bq_tf,ZG,ZF,ZQ,Zv,Zz,isNilA,nilPtr,nilSl,nilIf,nilFn,nilMap,nilCheckA,if_true,if_false,lt_lit,le_lit,lt_lit2,le_lit2,le_sub1,le_sub2,drawI,drawI2,drawI0,drawI20,lexD,valD,valI,putD,okD,roD,memAt,lastM,wantI,eqv_refl,eqM_refl,eqM_app,eqB,eqvL,eqv,List.getLast?_cons_cons,List.getLast?_singleton,Option.getD_some,Bool.or_true,Bool.true_or,ZA,resvV]; rfl), ?_⟩
              show _ = Out.ret ∧ look _ 4 = .int .i64 16
              exact ⟨rfl, rfl⟩
            · simp only [ZG,Bool.false_or]
              cases b4 : (y.id == s.id)
              · simp only [Ze,if_false]
                obtain ⟨ou, t, ht, hQ⟩ := ih
                refine ⟨ou, t, ?_, hQ⟩
                refine loopA_go (by simp only [loopBd,I35,IC.loops,Za,hi,hw,hrow,hs,hq2,g3,g4,g5,e1,e2,e3,k3,k4,k5,f1,f2,f3,q1,b1,b2,b3,b4,Zs,Zr,Zp,Za,Zb,evI,opsI,stepI,wantI,opI,AAct.evI,look,AAct.put,mkVal,mkVM,intOpA,intA,shiftA,unA,ZP,ZO,Zh,Zt,reduceIte,Nat.reduceEqDiff,Nat.reduceLT,Zo,Zq,true_and,and_true,and_self,ZB,cellsAt,Zg,ZC,Zf,Zk,ZL,ZM,Nat.reduceAdd,Nat.reduceMul,ZN,AV.cells,AV.one,known,Zn,getE_0,getE_k,setE_0,setE_k,Zc,Zd,Zl,Zm,Zi,Zw,Zu,Zj,Z1,Zx,Zy,ZJ,ZI,ZH,ZD,ZE,splice,fillI,Nat.reduceLeDiff,strA,ZK,ZA,Ze,bq_ft,bq_tf,ZG,ZF,ZQ,Zv,Zz,isNilA,nilPtr,nilSl,nilIf,nilFn,nilMap,nilCheckA,if_true,if_false,lt_lit,le_lit,lt_lit2,le_lit2,le_sub1,le_sub2,drawI,drawI2,drawI0,drawI20,lexD,valD,valI,putD,okD,roD,memAt,lastM,wantI,eqv_refl,eqM_refl,eqM_app,eqB,eqvL,eqv,List.getLast?_cons_cons,List.getLast?_singleton,Option.getD_some,Bool.or_true,Bool.true_or,ZA,resvV]; rfl) ?_
                rw [re_same]
                exact ht
              · refine ⟨_, _, loopA_ret (by simp only [loopBd,I35,IC.loops,Za,hi,hw,hrow,hs,hq2,g3,g4,g5,e1,e2,e3,k3,k4,k5,f1,f2,f3,q1,b1,b2,b3,b4,Zs,Zr,Zp,Za,Zb,evI,opsI,stepI,wantI,opI,AAct.evI,look,AAct.put,mkVal,mkVM,intOpA,intA,shiftA,unA,ZP,ZO,Zh,Zt,reduceIte,Nat.reduceEqDiff,Nat.reduceLT,Zo,Zq,true_and,and_true,and_self,ZB,cellsAt,Zg,ZC,Zf,Zk,ZL,ZM,Nat.reduceAdd,Nat.reduceMul,ZN,AV.cells,AV.one,known,Zn,getE_0,getE_k,setE_0,setE_k,Zc,Zd,Zl,Zm,Zi,Zw,Zu,Zj,Z1,Zx,Zy,ZJ,ZI,ZH,ZD,ZE,splice,fillI,Nat.reduceLeDiff,strA,ZK,ZA,Ze,bq_ft,bq_tf,ZG,ZF,ZQ,Zv,Zz,isNilA,nilPtr,nilSl,nilIf,nilFn,nilMap,nilCheckA,if_true,if_false,lt_lit,le_lit,lt_lit2,le_lit2,le_sub1,le_sub2,drawI,drawI2,drawI0,drawI20,lexD,valD,valI,putD,okD,roD,memAt,lastM,wantI,eqv_refl,eqM_refl,eqM_app,eqB,eqvL,eqv,List.getLast?_cons_cons,List.getLast?_singleton,Option.getD_some,Bool.or_true,Bool.true_or,ZA,resvV]; rfl), ?_⟩
                show _ = Out.ret ∧ look _ 4 = .int .i64 16
                exact ⟨rfl, rfl⟩
      · refine ⟨_, _, loopA_ret (by simp only [loopBd,I35,IC.loops,Za,hi,hw,hrow,g3,g4,e1,e2,q1,b1,Zs,Zr,Zp,Za,Zb,evI,opsI,stepI,wantI,opI,AAct.evI,look,AAct.put,mkVal,mkVM,intOpA,intA,shiftA,unA,ZP,ZO,Zh,Zt,reduceIte,Nat.reduceEqDiff,Nat.reduceLT,Zo,Zq,true_and,and_true,and_self,ZB,cellsAt,Zg,ZC,Zf,Zk,ZL,ZM,Nat.reduceAdd,Nat.reduceMul,ZN,AV.cells,AV.one,known,Zn,getE_0,getE_k,setE_0,setE_k,Zc,Zd,Zl,Zm,Zi,Zw,Zu,Zj,Z1,Zx,Zy,ZJ,ZI,ZH,ZD,ZE,splice,fillI,Nat.reduceLeDiff,strA,ZK,ZA,Ze,bq_ft,bq_tf,ZG,ZF,ZQ,Zv,Zz,isNilA,nilPtr,nilSl,nilIf,nilFn,nilMap,nilCheckA,if_true,if_false,lt_lit,le_lit,lt_lit2,le_lit2,le_sub1,le_sub2]; rfl), ?_⟩
        rw [if_pos rfl, if_pos rfl]
        exact .inl ⟨rfl, rfl⟩
    · have hk' : k = l.length := by omega
      subst hk'
      rw [Nat.sub_self]
      refine ⟨_, _, loopA_exit (by simp only [loopBd,I35,IC.loops,Za,Int.lt_irrefl,Zs,Zr,Zp,Za,Zb,evI,opsI,stepI,wantI,opI,AAct.evI,look,AAct.put,mkVal,mkVM,intOpA,intA,shiftA,unA,ZP,ZO,Zh,Zt,reduceIte,Nat.reduceEqDiff,Nat.reduceLT,Zo,Zq,true_and,and_true,and_self,ZB,cellsAt,Zg,ZC,Zf,Zk,ZL,ZM,Nat.reduceAdd,Nat.reduceMul,ZN,AV.cells,AV.one,known,Zn,getE_0,getE_k,setE_0,setE_k,Zc,Zd,Zl,Zm,Zi,Zw,Zu,Zj,Z1,Zx,Zy,ZJ,ZI,ZH,ZD,ZE,splice,fillI,Nat.reduceLeDiff,strA,ZK,ZA,Ze,bq_ft,bq_tf,ZG,ZF,ZQ,Zv,Zz,isNilA,nilPtr,nilSl,nilIf,nilFn,nilMap,nilCheckA,if_true,if_false,lt_lit,le_lit,lt_lit2,le_lit2,le_sub1,le_sub2]; rfl), ?_⟩
      rw [show wkP l s 0 x = true from rfl, if_pos rfl]
      exact .inr rfl
theorem based_eq (P : Program) (hcl : callable P 65 = true) (N d : Nat) (hd : 4 ≤ d) (l : List St) (hN : l.length < N) (hl : l.length ≤ 4611686018427387904) (v : AV) (s : St) (H : Mem) (hv : SlC H v l) :
    evFI P cfg T N d 35 [v, .agg (stC s)] H = some (.ret (.int .i64 (if wkP l s l.length s = true then 0 else 16)), H) := by
  obtain ⟨n, rfl⟩ : ∃ k, d = k + 4 := ⟨d - 4, by omega⟩
  rcases hv with ⟨rfl, rfl⟩ | ⟨q, st, ty, rfl, hq⟩
  · obtain ⟨M, rfl⟩ : ∃ M, N = M + 1 := ⟨N - 1, by omega⟩
    rw [show wkP [] s ([] : List St).length s = true from rfl, if_pos rfl]
    refine evF_ret (m := 53) (v := .int .i64 0) (a := ?an) (H1 := ?Hn) rfl t35 rfl ?hb ?hd ?hr ?hz
    case hb =>
      apply evI_seq
      · simp only [Zf,Zk,idx,I35,stC,Zs,Zr,Zp,Za,Zb,evI,opsI,stepI,wantI,opI,AAct.evI,look,AAct.put,mkVal,mkVM,intOpA,intA,shiftA,unA,ZP,ZO,Zh,Zt,reduceIte,Nat.reduceEqDiff,Nat.reduceLT,Zo,Zq,true_and,and_true,and_self,ZB,cellsAt,Zg,ZC,Zf,Zk,ZL,ZM,Nat.reduceAdd,Nat.reduceMul,ZN,AV.cells,AV.one,known,Zn,getE_0,getE_k,setE_0,setE_k,Zc,Zd,Zl,Zm,Zi,Zw,Zu,Zj,Z1,Zx,Zy,ZJ,ZI,ZH,ZD,ZE,splice,fillI,Nat.reduceLeDiff,strA,ZK,ZA,Ze,bq_ft,bq_tf,ZG,ZF,ZQ,Zv,Zz,isNilA,nilPtr,nilSl,nilIf,nilFn,nilMap,nilCheckA,if_true,if_false,lt_lit,le_lit,lt_lit2,le_lit2,le_sub1,le_sub2]; rfl
      apply evI_seq
      · simp only [Zs,Zr,Zp,Za,Zb,evI,opsI,stepI,wantI,opI,AAct.evI,look,AAct.put,mkVal,mkVM,intOpA,intA,shiftA,unA,ZP,ZO,Zh,Zt,reduceIte,Nat.reduceEqDiff,Nat.reduceLT,Zo,Zq,true_and,and_true,and_self,ZB,cellsAt,Zg,ZC,Zf,Zk,ZL,ZM,Nat.reduceAdd,Nat.reduceMul,ZN,AV.cells,AV.one,known,Zn,getE_0,getE_k,setE_0,setE_k,Zc,Zd,Zl,Zm,Zi,Zw,Zu,Zj,Z1,Zx,Zy,ZJ,ZI,ZH,ZD,ZE,splice,fillI,Nat.reduceLeDiff,strA,ZK,ZA,Ze,bq_ft,bq_tf,ZG,ZF,ZQ,Zv,Zz,isNilA,nilPtr,nilSl,nilIf,nilFn,nilMap,nilCheckA,if_true,if_false,lt_lit,le_lit,lt_lit2,le_lit2,le_sub1,le_sub2]; rfl
      apply evI_seq
      · apply evI_seq
        · simp only [Zs,Zr,Zp,Za,Zb,evI,opsI,stepI,wantI,opI,AAct.evI,look,AAct.put,mkVal,mkVM,intOpA,intA,shiftA,unA,ZP,ZO,Zh,Zt,reduceIte,Nat.reduceEqDiff,Nat.reduceLT,Zo,Zq,true_and,and_true,and_self,ZB,cellsAt,Zg,ZC,Zf,Zk,ZL,ZM,Nat.reduceAdd,Nat.reduceMul,ZN,AV.cells,AV.one,known,Zn,getE_0,getE_k,setE_0,setE_k,Zc,Zd,Zl,Zm,Zi,Zw,Zu,Zj,Z1,Zx,Zy,ZJ,ZI,ZH,ZD,ZE,splice,fillI,Nat.reduceLeDiff,strA,ZK,ZA,Ze,bq_ft,bq_tf,ZG,ZF,ZQ,Zv,Zz,isNilA,nilPtr,nilSl,nilIf,nilFn,nilMap,nilCheckA,if_true,if_false,lt_lit,le_lit,lt_lit2,le_lit2,le_sub1,le_sub2]; rfl
        apply evI_block_exit
        apply evI_loop
        exact loopA_exit (by simp only [AAct.keepT,Int.lt_irrefl,Zs,Zr,Zp,Za,Zb,evI,opsI,stepI,wantI,opI,AAct.evI,look,AAct.put,mkVal,mkVM,intOpA,intA,shiftA,unA,ZP,ZO,Zh,Zt,reduceIte,Nat.reduceEqDiff,Nat.reduceLT,Zo,Zq,true_and,and_true,and_self,ZB,cellsAt,Zg,ZC,Zf,Zk,ZL,ZM,Nat.reduceAdd,Nat.reduceMul,ZN,AV.cells,AV.one,known,Zn,getE_0,getE_k,setE_0,setE_k,Zc,Zd,Zl,Zm,Zi,Zw,Zu,Zj,Z1,Zx,Zy,ZJ,ZI,ZH,ZD,ZE,splice,fillI,Nat.reduceLeDiff,strA,ZK,ZA,Ze,bq_ft,bq_tf,ZG,ZF,ZQ,Zv,Zz,isNilA,nilPtr,nilSl,nilIf,nilFn,nilMap,nilCheckA,if_true,if_false,lt_lit,le_lit,lt_lit2,le_lit2,le_sub1,le_sub2]; rfl)
      simp only [Zs,Zr,Zp,Za,Zb,evI,opsI,stepI,wantI,opI,AAct.evI,look,AAct.put,mkVal,mkVM,intOpA,intA,shiftA,unA,ZP,ZO,Zh,Zt,reduceIte,Nat.reduceEqDiff,Nat.reduceLT,Zo,Zq,true_and,and_true,and_self,ZB,cellsAt,Zg,ZC,Zf,Zk,ZL,ZM,Nat.reduceAdd,Nat.reduceMul,ZN,AV.cells,AV.one,known,Zn,getE_0,getE_k,setE_0,setE_k,Zc,Zd,Zl,Zm,Zi,Zw,Zu,Zj,Z1,Zx,Zy,ZJ,ZI,ZH,ZD,ZE,splice,fillI,Nat.reduceLeDiff,strA,ZK,ZA,Ze,bq_ft,bq_tf,ZG,ZF,ZQ,Zv,Zz,isNilA,nilPtr,nilSl,nilIf,nilFn,nilMap,nilCheckA,if_true,if_false,lt_lit,le_lit,lt_lit2,le_lit2,le_sub1,le_sub2]; rfl
    case hd => rfl
    case hr => rfl
    case hz => exact fin_app rfl rfl
  have hv : SlC H (.slc q 0 l.length 6 st) l := .inr ⟨q, st, ty, rfl, hq⟩
  obtain ⟨ou, t, ht, hQ⟩ := based_loop P hcl N n l hN hl _ s H hv N 0 s (.ptr H.length 0 0) H.length 0 0 (48 + 1) (stC s) [] (Nat.zero_le _) (by omega) ⟨rfl, getE_0 _ _, by simp⟩
  rw [Nat.sub_zero] at hQ
  simp only [stC] at ht
  cases hw : wkP l s l.length s
  · rw [hw] at hQ
    simp only [Ze,if_false] at hQ ⊢
    obtain ⟨rfl, h4⟩ := hQ
    refine evF_ret (m := 53) (v := .int .i64 16) (a := ?aa) (H1 := ?Ha) rfl t35 rfl ?hb ?hd ?hr ?hz
    case hb =>
      apply evI_seq
      · simp only [Zf,Zk,idx,I35,stC,Zs,Zr,Zp,Za,Zb,evI,opsI,stepI,wantI,opI,AAct.evI,look,AAct.put,mkVal,mkVM,intOpA,intA,shiftA,unA,ZP,ZO,Zh,Zt,reduceIte,Nat.reduceEqDiff,Nat.reduceLT,Zo,Zq,true_and,and_true,and_self,ZB,cellsAt,Zg,ZC,Zf,Zk,ZL,ZM,Nat.reduceAdd,Nat.reduceMul,ZN,AV.cells,AV.one,known,Zn,getE_0,getE_k,setE_0,setE_k,Zc,Zd,Zl,Zm,Zi,Zw,Zu,Zj,Z1,Zx,Zy,ZJ,ZI,ZH,ZD,ZE,splice,fillI,Nat.reduceLeDiff,strA,ZK,ZA,Ze,bq_ft,bq_tf,ZG,ZF,ZQ,Zv,Zz,isNilA,nilPtr,nilSl,nilIf,nilFn,nilMap,nilCheckA,if_true,if_false,lt_lit,le_lit,lt_lit2,le_lit2,le_sub1,le_sub2]; rfl
      apply evI_seq
      · simp only [Zs,Zr,Zp,Za,Zb,evI,opsI,stepI,wantI,opI,AAct.evI,look,AAct.put,mkVal,mkVM,intOpA,intA,shiftA,unA,ZP,ZO,Zh,Zt,reduceIte,Nat.reduceEqDiff,Nat.reduceLT,Zo,Zq,true_and,and_true,and_self,ZB,cellsAt,Zg,ZC,Zf,Zk,ZL,ZM,Nat.reduceAdd,Nat.reduceMul,ZN,AV.cells,AV.one,known,Zn,getE_0,getE_k,setE_0,setE_k,Zc,Zd,Zl,Zm,Zi,Zw,Zu,Zj,Z1,Zx,Zy,ZJ,ZI,ZH,ZD,ZE,splice,fillI,Nat.reduceLeDiff,strA,ZK,ZA,Ze,bq_ft,bq_tf,ZG,ZF,ZQ,Zv,Zz,isNilA,nilPtr,nilSl,nilIf,nilFn,nilMap,nilCheckA,if_true,if_false,lt_lit,le_lit,lt_lit2,le_lit2,le_sub1,le_sub2]; rfl
      apply evI_seq_ret
      apply evI_seq
      · simp only [Zs,Zr,Zp,Za,Zb,evI,opsI,stepI,wantI,opI,AAct.evI,look,AAct.put,mkVal,mkVM,intOpA,intA,shiftA,unA,ZP,ZO,Zh,Zt,reduceIte,Nat.reduceEqDiff,Nat.reduceLT,Zo,Zq,true_and,and_true,and_self,ZB,cellsAt,Zg,ZC,Zf,Zk,ZL,ZM,Nat.reduceAdd,Nat.reduceMul,ZN,AV.cells,AV.one,known,Zn,getE_0,getE_k,setE_0,setE_k,Zc,Zd,Zl,Zm,Zi,Zw,Zu,Zj,Z1,Zx,Zy,ZJ,ZI,ZH,ZD,ZE,splice,fillI,Nat.reduceLeDiff,strA,ZK,ZA,Ze,bq_ft,bq_tf,ZG,ZF,ZQ,Zv,Zz,isNilA,nilPtr,nilSl,nilIf,nilFn,nilMap,nilCheckA,if_true,if_false,lt_lit,le_lit,lt_lit2,le_lit2,le_sub1,le_sub2]; rfl
      apply evI_block_ret
      apply evI_loop
      exact ht
    case hd => rfl
    case hr => simp only [I35,resI,resLI,h4,Zh]
    case hz => exact fin_app rfl rfl
  · rw [hw] at hQ
    simp only [if_true] at hQ ⊢
    rcases hQ with ⟨rfl, h4⟩ | rfl
    · refine evF_ret (m := 53) (v := .int .i64 0) (a := ?ab) (H1 := ?Hb) rfl t35 rfl ?hb ?hd ?hr ?hz
      case hb =>
        apply evI_seq
        · simp only [Zf,Zk,idx,I35,stC,Zs,Zr,Zp,Za,Zb,evI,opsI,stepI,wantI,opI,AAct.evI,look,AAct.put,mkVal,mkVM,intOpA,intA,shiftA,unA,ZP,ZO,Zh,Zt,reduceIte,Nat.reduceEqDiff,Nat.reduceLT,Zo,Zq,true_and,and_true,and_self,ZB,cellsAt,Zg,ZC,Zf,Zk,ZL,ZM,Nat.reduceAdd,Nat.reduceMul,ZN,AV.cells,AV.one,known,Zn,getE_0,getE_k,setE_0,setE_k,Zc,Zd,Zl,Zm,Zi,Zw,Zu,Zj,Z1,Zx,Zy,ZJ,ZI,ZH,ZD,ZE,splice,fillI,Nat.reduceLeDiff,strA,ZK,ZA,Ze,bq_ft,bq_tf,ZG,ZF,ZQ,Zv,Zz,isNilA,nilPtr,nilSl,nilIf,nilFn,nilMap,nilCheckA,if_true,if_false,lt_lit,le_lit,lt_lit2,le_lit2,le_sub1,le_sub2]; rfl
        apply evI_seq
        · simp only [Zs,Zr,Zp,Za,Zb,evI,opsI,stepI,wantI,opI,AAct.evI,look,AAct.put,mkVal,mkVM,intOpA,intA,shiftA,unA,ZP,ZO,Zh,Zt,reduceIte,Nat.reduceEqDiff,Nat.reduceLT,Zo,Zq,true_and,and_true,and_self,ZB,cellsAt,Zg,ZC,Zf,Zk,ZL,ZM,Nat.reduceAdd,Nat.reduceMul,ZN,AV.cells,AV.one,known,Zn,getE_0,getE_k,setE_0,setE_k,Zc,Zd,Zl,Zm,Zi,Zw,Zu,Zj,Z1,Zx,Zy,ZJ,ZI,ZH,ZD,ZE,splice,fillI,Nat.reduceLeDiff,strA,ZK,ZA,Ze,bq_ft,bq_tf,ZG,ZF,ZQ,Zv,Zz,isNilA,nilPtr,nilSl,nilIf,nilFn,nilMap,nilCheckA,if_true,if_false,lt_lit,le_lit,lt_lit2,le_lit2,le_sub1,le_sub2]; rfl
        apply evI_seq_ret
        apply evI_seq
        · simp only [Zs,Zr,Zp,Za,Zb,evI,opsI,stepI,wantI,opI,AAct.evI,look,AAct.put,mkVal,mkVM,intOpA,intA,shiftA,unA,ZP,ZO,Zh,Zt,reduceIte,Nat.reduceEqDiff,Nat.reduceLT,Zo,Zq,true_and,and_true,and_self,ZB,cellsAt,Zg,ZC,Zf,Zk,ZL,ZM,Nat.reduceAdd,Nat.reduceMul,ZN,AV.cells,AV.one,known,Zn,getE_0,getE_k,setE_0,setE_k,Zc,Zd,Zl,Zm,Zi,Zw,Zu,Zj,Z1,Zx,Zy,ZJ,ZI,ZH,ZD,ZE,splice,fillI,Nat.reduceLeDiff,strA,ZK,ZA,Ze,bq_ft,bq_tf,ZG,ZF,ZQ,Zv,Zz,isNilA,nilPtr,nilSl,nilIf,nilFn,nilMap,nilCheckA,if_true,if_false,lt_lit,le_lit,lt_lit2,le_lit2,le_sub1,le_sub2]; rfl
        apply evI_block_ret
        apply evI_loop
        exact ht
      case hd => rfl
      case hr => simp only [I35,resI,resLI,h4,Zh]
      case hz => exact fin_app rfl rfl
    · refine evF_ret (m := 53) (v := .int .i64 0) (a := ?ac) (H1 := ?Hc) rfl t35 rfl ?hb ?hd ?hr ?hz
      case hb =>
        apply evI_seq
        · simp only [Zf,Zk,idx,I35,stC,Zs,Zr,Zp,Za,Zb,evI,opsI,stepI,wantI,opI,AAct.evI,look,AAct.put,mkVal,mkVM,intOpA,intA,shiftA,unA,ZP,ZO,Zh,Zt,reduceIte,Nat.reduceEqDiff,Nat.reduceLT,Zo,Zq,true_and,and_true,and_self,ZB,cellsAt,Zg,ZC,Zf,Zk,ZL,ZM,Nat.reduceAdd,Nat.reduceMul,ZN,AV.cells,AV.one,known,Zn,getE_0,getE_k,setE_0,setE_k,Zc,Zd,Zl,Zm,Zi,Zw,Zu,Zj,Z1,Zx,Zy,ZJ,ZI,ZH,ZD,ZE,splice,fillI,Nat.reduceLeDiff,strA,ZK,ZA,Ze,bq_ft,bq_tf,ZG,ZF,ZQ,Zv,Zz,isNilA,nilPtr,nilSl,nilIf,nilFn,nilMap,nilCheckA,if_true,if_false,lt_lit,le_lit,lt_lit2,le_lit2,le_sub1,le_sub2]; rfl
        apply evI_seq
        · simp only [Zs,Zr,Zp,Za,Zb,evI,opsI,stepI,wantI,opI,AAct.evI,look,AAct.put,mkVal,mkVM,intOpA,intA,shiftA,unA,ZP,ZO,Zh,Zt,reduceIte,Nat.reduceEqDiff,Nat.reduceLT,Zo,Zq,true_and,and_true,and_self,ZB,cellsAt,Zg,ZC,Zf,Zk,ZL,ZM,Nat.reduceAdd,Nat.reduceMul,ZN,AV.cells,AV.one,known,Zn,getE_0,getE_k,setE_0,setE_k,Zc,Zd,Zl,Zm,Zi,Zw,Zu,Zj,Z1,Zx,Zy,ZJ,ZI,ZH,ZD,ZE,splice,fillI,Nat.reduceLeDiff,strA,ZK,ZA,Ze,bq_ft,bq_tf,ZG,ZF,ZQ,Zv,Zz,isNilA,nilPtr,nilSl,nilIf,nilFn,nilMap,nilCheckA,if_true,if_false,lt_lit,le_lit,lt_lit2,le_lit2,le_sub1,le_sub2]; rfl
        apply evI_seq
        · apply evI_seq
          · simp only [Zs,Zr,Zp,Za,Zb,evI,opsI,stepI,wantI,opI,AAct.evI,look,AAct.put,mkVal,mkVM,intOpA,intA,shiftA,unA,ZP,ZO,Zh,Zt,reduceIte,Nat.reduceEqDiff,Nat.reduceLT,Zo,Zq,true_and,and_true,and_self,ZB,cellsAt,Zg,ZC,Zf,Zk,ZL,ZM,Nat.reduceAdd,Nat.reduceMul,ZN,AV.cells,AV.one,known,Zn,getE_0,getE_k,setE_0,setE_k,Zc,Zd,Zl,Zm,Zi,Zw,Zu,Zj,Z1,Zx,Zy,ZJ,ZI,ZH,ZD,ZE,splice,fillI,Nat.reduceLeDiff,strA,ZK,ZA,Ze,bq_ft,bq_tf,ZG,ZF,ZQ,Zv,Zz,isNilA,nilPtr,nilSl,nilIf,nilFn,nilMap,nilCheckA,if_true,if_false,lt_lit,le_lit,lt_lit2,le_lit2,le_sub1,le_sub2]; rfl
          apply evI_block_exit
          apply evI_loop
          exact ht
        simp only [Zs,Zr,Zp,Za,Zb,evI,opsI,stepI,wantI,opI,AAct.evI,look,AAct.put,mkVal,mkVM,intOpA,intA,shiftA,unA,ZP,ZO,Zh,Zt,reduceIte,Nat.reduceEqDiff,Nat.reduceLT,Zo,Zq,true_and,and_true,and_self,ZB,cellsAt,Zg,ZC,Zf,Zk,ZL,ZM,Nat.reduceAdd,Nat.reduceMul,ZN,AV.cells,AV.one,known,Zn,getE_0,getE_k,setE_0,setE_k,Zc,Zd,Zl,Zm,Zi,Zw,Zu,Zj,Z1,Zx,Zy,ZJ,ZI,ZH,ZD,ZE,splice,fillI,Nat.reduceLeDiff,strA,ZK,ZA,Ze,bq_ft,bq_tf,ZG,ZF,ZQ,Zv,Zz,isNilA,nilPtr,nilSl,nilIf,nilFn,nilMap,nilCheckA,if_true,if_false,lt_lit,le_lit,lt_lit2,le_lit2,le_sub1,le_sub2]; rfl
      case hd => rfl
      case hr => simp only [I35,resI,resLI,look,reduceIte,Nat.reduceEqDiff,Zh]
      case hz => exact fin_app rfl rfl
noncomputable def loopFind : IC := (I33.c.loops).getD 0 .bad
theorem find_loop (P : Program) (F : FSem) (N : Nat) (s n : List UInt8) (all : List El) (hall : all.length ≤ 9223372036854775807) (H : Mem) (R0 : Blk) : ∀ (fuel k : Nat), k ≤ all.length → all.length - k < fuel →
    ∃ t, loopA (fun a H => evI P cfg F N loopFind a H) (some [1, 2, 6, 11, 12, 13]) fuel ⟨30, [(1, .str s), (2, .str n), (6, .ptr (H.length + 1) 0 0), (11, .lst all.length (kC all)), (12, .int .i64 all.length), (13, .int .i64 k)], []⟩ (H ++ [R0, .row [.str [], .str [], .str [], .nilS, .nilS] 0 (25 + 1)]) =
      (match findIn s n (all.drop k) with
      | some x => some (.ret, ⟨30, (7, .bool true) :: t, []⟩, H ++ [R0, .row (eC x) 0 (25 + 1), .row (eC x) 0 (25 + 1)])
      | none => some (.exit 0, ⟨30, t, []⟩, H ++ [R0, .row [.str [], .str [], .str [], .nilS, .nilS] 0 (25 + 1)])) ∧ look t 6 = .ptr (H.length + 1) 0 0
  | 0, k, _, h => by omega
  | fuel + 1, k, hk, hf => by
    rcases Nat.lt_or_ge k all.length with hlt | hge
    · obtain ⟨x, hx⟩ := all_drop hlt
      have hget : (kC all).drop (k * 5) = eC x ++ kC (all.drop (k + 1)) := by rw [kC_drop, hx]; rfl
      have hlen : k * 5 + 5 ≤ (kC all).length := by rw [kC_len]; omega
      have hi : (k : Int) < (all.length : Int) := by omega
      have hw := wrap_next hlt hall
      have hn := natOf_nat k .i64
      obtain ⟨t, ht, hl⟩ := find_loop P F N s n all hall H R0 fuel (k + 1) (by omega) (by omega)
      rw [hx]
      cases h1 : (x.sp == s) <;> cases h2 : (x.nm == n)
      · refine ⟨t, ?_, hl⟩
        simp only [findIn,h1,h2,ZJ,Ze,if_false]
        refine loopA_go (by simp only [loopFind,I33,IC.loops,hi,hlt,hlen,hget,hn,hw,h1,h2,eC_eq,Zs,Zr,Zp,Za,Zb,evI,opsI,stepI,wantI,opI,AAct.evI,look,AAct.put,mkVal,mkVM,intOpA,intA,shiftA,unA,ZP,ZO,Zh,Zt,reduceIte,Nat.reduceEqDiff,Nat.reduceLT,Zo,Zq,true_and,and_true,and_self,ZB,cellsAt,Zg,ZC,Zf,Zk,ZL,ZM,Nat.reduceAdd,Nat.reduceMul,ZN,AV.cells,AV.one,known,Zn,getE_0,getE_k,setE_0,setE_k,Zc,Zd,Zl,Zm,Zi,Zw,Zu,Zj,Z1,Zx,Zy,ZJ,ZI,ZH,ZD,ZE,splice,fillI,Nat.reduceLeDiff,strA,ZK,ZA,Ze,bq_ft,bq_tf,ZG,ZF,ZQ,Zv,Zz,isNilA,nilPtr,nilSl,nilIf,nilFn,nilMap,nilCheckA,if_true,if_false,lt_lit,le_lit,lt_lit2,le_lit2,le_sub1,le_sub2]; rfl) ?_
        simp only [kC_low,roundEnd,AAct.keepT,Zv,Zz,look,reduceIte,Nat.reduceEqDiff,lowT,Zx,Zy,low,lowL,lowD,mayCut,Zg,Zf,Zk,ZL,Nat.reduceAdd,takeS,takeE_0,takeE_k,Zi,Zw,eqM_app,eqM_refl,Bool.true_or,ZJ,ZI,ZH,ZP,Nat.lt_succ_self,Nat.lt_add_right_iff_pos,Nat.add_lt_add_iff_left,Nat.reduceLT,if_true,lt_k,Zn,Zp,Zr]
        exact ht
      · refine ⟨t, ?_, hl⟩
        simp only [findIn,h1,h2,ZI,Ze,if_false]
        refine loopA_go (by simp only [loopFind,I33,IC.loops,hi,hlt,hlen,hget,hn,hw,h1,h2,eC_eq,Zs,Zr,Zp,Za,Zb,evI,opsI,stepI,wantI,opI,AAct.evI,look,AAct.put,mkVal,mkVM,intOpA,intA,shiftA,unA,ZP,ZO,Zh,Zt,reduceIte,Nat.reduceEqDiff,Nat.reduceLT,Zo,Zq,true_and,and_true,and_self,ZB,cellsAt,Zg,ZC,Zf,Zk,ZL,ZM,Nat.reduceAdd,Nat.reduceMul,ZN,AV.cells,AV.one,known,Zn,getE_0,getE_k,setE_0,setE_k,Zc,Zd,Zl,Zm,Zi,Zw,Zu,Zj,Z1,Zx,Zy,ZJ,ZI,ZH,ZD,ZE,splice,fillI,Nat.reduceLeDiff,strA,ZK,ZA,Ze,bq_ft,bq_tf,ZG,ZF,ZQ,Zv,Zz,isNilA,nilPtr,nilSl,nilIf,nilFn,nilMap,nilCheckA,if_true,if_false,lt_lit,le_lit,lt_lit2,le_lit2,le_sub1,le_sub2]; rfl) ?_
        simp only [kC_low,roundEnd,AAct.keepT,Zv,Zz,look,reduceIte,Nat.reduceEqDiff,lowT,Zx,Zy,low,lowL,lowD,mayCut,Zg,Zf,Zk,ZL,Nat.reduceAdd,takeS,takeE_0,takeE_k,Zi,Zw,eqM_app,eqM_refl,Bool.true_or,ZJ,ZI,ZH,ZP,Nat.lt_succ_self,Nat.lt_add_right_iff_pos,Nat.add_lt_add_iff_left,Nat.reduceLT,if_true,lt_k,Zn,Zp,Zr]
        exact ht
      · refine ⟨t, ?_, hl⟩
        simp only [findIn,h1,h2,ZD,Ze,if_false]
        refine loopA_go (by simp only [loopFind,I33,IC.loops,hi,hlt,hlen,hget,hn,hw,h1,h2,eC_eq,Zs,Zr,Zp,Za,Zb,evI,opsI,stepI,wantI,opI,AAct.evI,look,AAct.put,mkVal,mkVM,intOpA,intA,shiftA,unA,ZP,ZO,Zh,Zt,reduceIte,Nat.reduceEqDiff,Nat.reduceLT,Zo,Zq,true_and,and_true,and_self,ZB,cellsAt,Zg,ZC,Zf,Zk,ZL,ZM,Nat.reduceAdd,Nat.reduceMul,ZN,AV.cells,AV.one,known,Zn,getE_0,getE_k,setE_0,setE_k,Zc,Zd,Zl,Zm,Zi,Zw,Zu,Zj,Z1,Zx,Zy,ZJ,ZI,ZH,ZD,ZE,splice,fillI,Nat.reduceLeDiff,strA,ZK,ZA,Ze,bq_ft,bq_tf,ZG,ZF,ZQ,Zv,Zz,isNilA,nilPtr,nilSl,nilIf,nilFn,nilMap,nilCheckA,if_true,if_false,lt_lit,le_lit,lt_lit2,le_lit2,le_sub1,le_sub2]; rfl) ?_
        simp only [kC_low,roundEnd,AAct.keepT,Zv,Zz,look,reduceIte,Nat.reduceEqDiff,lowT,Zx,Zy,low,lowL,lowD,mayCut,Zg,Zf,Zk,ZL,Nat.reduceAdd,takeS,takeE_0,takeE_k,Zi,Zw,eqM_app,eqM_refl,Bool.true_or,ZJ,ZI,ZH,ZP,Nat.lt_succ_self,Nat.lt_add_right_iff_pos,Nat.add_lt_add_iff_left,Nat.reduceLT,if_true,lt_k,Zn,Zp,Zr]
        exact ht
      · simp only [findIn,h1,h2,ZJ,if_true]
        refine ⟨_, loopA_ret (by simp only [loopFind,I33,IC.loops,hi,hlt,hlen,hget,hn,hw,h1,h2,eC_eq,Zs,Zr,Zp,Za,Zb,evI,opsI,stepI,wantI,opI,AAct.evI,look,AAct.put,mkVal,mkVM,intOpA,intA,shiftA,unA,ZP,ZO,Zh,Zt,reduceIte,Nat.reduceEqDiff,Nat.reduceLT,Zo,Zq,true_and,and_true,and_self,ZB,cellsAt,Zg,ZC,Zf,Zk,ZL,ZM,Nat.reduceAdd,Nat.reduceMul,ZN,AV.cells,AV.one,known,Zn,getE_0,getE_k,setE_0,setE_k,Zc,Zd,Zl,Zm,Zi,Zw,Zu,Zj,Z1,Zx,Zy,ZJ,ZI,ZH,ZD,ZE,splice,fillI,Nat.reduceLeDiff,strA,ZK,ZA,Ze,bq_ft,bq_tf,ZG,ZF,ZQ,Zv,Zz,isNilA,nilPtr,nilSl,nilIf,nilFn,nilMap,nilCheckA,if_true,if_false,lt_lit,le_lit,lt_lit2,le_lit2,le_sub1,le_sub2]; rfl), ?_⟩
        rfl
    · have hk' : k = all.length := by omega
      subst hk'
      simp only [List.drop_length,findIn]
      exact ⟨_, loopA_exit (by simp only [loopFind,I33,IC.loops,Int.lt_irrefl,Zs,Zr,Zp,Za,Zb,evI,opsI,stepI,wantI,opI,AAct.evI,look,AAct.put,mkVal,mkVM,intOpA,intA,shiftA,unA,ZP,ZO,Zh,Zt,reduceIte,Nat.reduceEqDiff,Nat.reduceLT,Zo,Zq,true_and,and_true,and_self,ZB,cellsAt,Zg,ZC,Zf,Zk,ZL,ZM,Nat.reduceAdd,Nat.reduceMul,ZN,AV.cells,AV.one,known,Zn,getE_0,getE_k,setE_0,setE_k,Zc,Zd,Zl,Zm,Zi,Zw,Zu,Zj,Z1,Zx,Zy,ZJ,ZI,ZH,ZD,ZE,splice,fillI,Nat.reduceLeDiff,strA,ZK,ZA,Ze,bq_ft,bq_tf,ZG,ZF,ZQ,Zv,Zz,isNilA,nilPtr,nilSl,nilIf,nilFn,nilMap,nilCheckA,if_true,if_false,lt_lit,le_lit,lt_lit2,le_lit2,le_sub1,le_sub2]; rfl), rfl⟩
theorem find_eq (P : Program) (N n : Nat) (hN : 9223372036854775808 ≤ N) (s nm : List UInt8) (e : El) (he : e.kids.length ≤ 9223372036854775807) (H : Mem) :
    evFI P cfg T N (n + 1) 33 [.agg (eC e), .str s, .str nm] H = some (.ret (.tup [.agg (eC ((findIn s nm e.kids).getD zEl)), .bool (findIn s nm e.kids).isSome]), H) := by
  obtain ⟨t, ht, h6⟩ := find_loop P (evFI P cfg T N n) N s nm e.kids he H (.row (eC e) 0 (25 + 1)) N 0 (Nat.zero_le _) (by omega)
  rw [List.drop_zero] at ht
  cases hf : findIn s nm e.kids with
  | some x =>
    rw [hf, eC_eq e] at ht
    simp only [Option.getD_some,Option.isSome_some]
    refine evF_ret (m := 30) (v := .tup [.agg (eC x), .bool true]) (a := ?a) (H1 := ?H1) rfl t33 rfl ?hb ?hd ?hr ?hz
    case hb =>
      apply evI_seq
      · simp only [Zf,Zk,idx,eC_eq,I33,Zs,Zr,Zp,Za,Zb,evI,opsI,stepI,wantI,opI,AAct.evI,look,AAct.put,mkVal,mkVM,intOpA,intA,shiftA,unA,ZP,ZO,Zh,Zt,reduceIte,Nat.reduceEqDiff,Nat.reduceLT,Zo,Zq,true_and,and_true,and_self,ZB,cellsAt,Zg,ZC,Zf,Zk,ZL,ZM,Nat.reduceAdd,Nat.reduceMul,ZN,AV.cells,AV.one,known,Zn,getE_0,getE_k,setE_0,setE_k,Zc,Zd,Zl,Zm,Zi,Zw,Zu,Zj,Z1,Zx,Zy,ZJ,ZI,ZH,ZD,ZE,splice,fillI,Nat.reduceLeDiff,strA,ZK,ZA,Ze,bq_ft,bq_tf,ZG,ZF,ZQ,Zv,Zz,isNilA,nilPtr,nilSl,nilIf,nilFn,nilMap,nilCheckA,if_true,if_false,lt_lit,le_lit,lt_lit2,le_lit2,le_sub1,le_sub2]; rfl
      apply evI_seq_ret
      apply evI_seq
      · simp only [Zs,Zr,Zp,Za,Zb,evI,opsI,stepI,wantI,opI,AAct.evI,look,AAct.put,mkVal,mkVM,intOpA,intA,shiftA,unA,ZP,ZO,Zh,Zt,reduceIte,Nat.reduceEqDiff,Nat.reduceLT,Zo,Zq,true_and,and_true,and_self,ZB,cellsAt,Zg,ZC,Zf,Zk,ZL,ZM,Nat.reduceAdd,Nat.reduceMul,ZN,AV.cells,AV.one,known,Zn,getE_0,getE_k,setE_0,setE_k,Zc,Zd,Zl,Zm,Zi,Zw,Zu,Zj,Z1,Zx,Zy,ZJ,ZI,ZH,ZD,ZE,splice,fillI,Nat.reduceLeDiff,strA,ZK,ZA,Ze,bq_ft,bq_tf,ZG,ZF,ZQ,Zv,Zz,isNilA,nilPtr,nilSl,nilIf,nilFn,nilMap,nilCheckA,if_true,if_false,lt_lit,le_lit,lt_lit2,le_lit2,le_sub1,le_sub2]; rfl
      apply evI_block_ret
      apply evI_loop
      exact ht
    case hd => rfl
    case hr => simp only [I33,resI,resLI,h6,eC_eq,Zs,Zr,Zp,Za,Zb,evI,opsI,stepI,wantI,opI,AAct.evI,look,AAct.put,mkVal,mkVM,intOpA,intA,shiftA,unA,ZP,ZO,Zh,Zt,reduceIte,Nat.reduceEqDiff,Nat.reduceLT,Zo,Zq,true_and,and_true,and_self,ZB,cellsAt,Zg,ZC,Zf,Zk,ZL,ZM,Nat.reduceAdd,Nat.reduceMul,ZN,AV.cells,AV.one,known,Zn,getE_0,getE_k,setE_0,setE_k,Zc,Zd,Zl,Zm,Zi,Zw,Zu,Zj,Z1,Zx,Zy,ZJ,ZI,ZH,ZD,ZE,splice,fillI,Nat.reduceLeDiff,strA,ZK,ZA,Ze,bq_ft,bq_tf,ZG,ZF,ZQ,Zv,Zz,isNilA,nilPtr,nilSl,nilIf,nilFn,nilMap,nilCheckA,if_true,if_false,lt_lit,le_lit,lt_lit2,le_lit2,le_sub1,le_sub2]
    case hz => simp only [finish,eC_eq,finish,cfg,keep,Ze,if_false,frz,frzL,eC_low,kC_low,atsC_low,low,lowL,ZP,Zh,roundEnd,AAct.keepT,Zv,Zz,look,reduceIte,Nat.reduceEqDiff,lowT,Zx,Zy,low,lowL,lowD,mayCut,Zg,Zf,Zk,ZL,Nat.reduceAdd,takeS,takeE_0,takeE_k,Zi,Zw,eqM_app,eqM_refl,Bool.true_or,ZJ,ZI,ZH,ZP,Nat.lt_succ_self,Nat.lt_add_right_iff_pos,Nat.add_lt_add_iff_left,Nat.reduceLT,if_true,lt_k,Zn,Zp,Zr]
  | none =>
    rw [hf, eC_eq e] at ht
    simp only [Option.getD_none,Option.isSome_none]
    refine evF_ret (m := 30) (v := .tup [.agg [.str [], .str [], .str [], .nilS, .nilS], .bool false]) (a := ?a2) (H1 := ?H2) rfl t33 rfl ?hb ?hd ?hr ?hz
    case hb =>
      apply evI_seq
      · simp only [Zf,Zk,idx,eC_eq,I33,Zs,Zr,Zp,Za,Zb,evI,opsI,stepI,wantI,opI,AAct.evI,look,AAct.put,mkVal,mkVM,intOpA,intA,shiftA,unA,ZP,ZO,Zh,Zt,reduceIte,Nat.reduceEqDiff,Nat.reduceLT,Zo,Zq,true_and,and_true,and_self,ZB,cellsAt,Zg,ZC,Zf,Zk,ZL,ZM,Nat.reduceAdd,Nat.reduceMul,ZN,AV.cells,AV.one,known,Zn,getE_0,getE_k,setE_0,setE_k,Zc,Zd,Zl,Zm,Zi,Zw,Zu,Zj,Z1,Zx,Zy,ZJ,ZI,ZH,ZD,ZE,splice,fillI,Nat.reduceLeDiff,strA,ZK,ZA,Ze,bq_ft,bq_tf,ZG,ZF,ZQ,Zv,Zz,isNilA,nilPtr,nilSl,nilIf,nilFn,nilMap,nilCheckA,if_true,if_false,lt_lit,le_lit,lt_lit2,le_lit2,le_sub1,le_sub2]; rfl
      apply evI_seq
      · apply evI_seq
        · simp only [Zs,Zr,Zp,Za,Zb,evI,opsI,stepI,wantI,opI,AAct.evI,look,AAct.put,mkVal,mkVM,intOpA,intA,shiftA,unA,ZP,ZO,Zh,Zt,reduceIte,Nat.reduceEqDiff,Nat.reduceLT,Zo,Zq,true_and,and_true,and_self,ZB,cellsAt,Zg,ZC,Zf,Zk,ZL,ZM,Nat.reduceAdd,Nat.reduceMul,ZN,AV.cells,AV.one,known,Zn,getE_0,getE_k,setE_0,setE_k,Zc,Zd,Zl,Zm,Zi,Zw,Zu,Zj,Z1,Zx,Zy,ZJ,ZI,ZH,ZD,ZE,splice,fillI,Nat.reduceLeDiff,strA,ZK,ZA,Ze,bq_ft,bq_tf,ZG,ZF,ZQ,Zv,Zz,isNilA,nilPtr,nilSl,nilIf,nilFn,nilMap,nilCheckA,if_true,if_false,lt_lit,le_lit,lt_lit2,le_lit2,le_sub1,le_sub2]; rfl
        apply evI_block_exit
        apply evI_loop
        exact ht
      apply evI_seq
      · simp only [h6,Zs,Zr,Zp,Za,Zb,evI,opsI,stepI,wantI,opI,AAct.evI,look,AAct.put,mkVal,mkVM,intOpA,intA,shiftA,unA,ZP,ZO,Zh,Zt,reduceIte,Nat.reduceEqDiff,Nat.reduceLT,Zo,Zq,true_and,and_true,and_self,ZB,cellsAt,Zg,ZC,Zf,Zk,ZL,ZM,Nat.reduceAdd,Nat.reduceMul,ZN,AV.cells,AV.one,known,Zn,getE_0,getE_k,setE_0,setE_k,Zc,Zd,Zl,Zm,Zi,Zw,Zu,Zj,Z1,Zx,Zy,ZJ,ZI,ZH,ZD,ZE,splice,fillI,Nat.reduceLeDiff,strA,ZK,ZA,Ze,bq_ft,bq_tf,ZG,ZF,ZQ,Zv,Zz,isNilA,nilPtr,nilSl,nilIf,nilFn,nilMap,nilCheckA,if_true,if_false,lt_lit,le_lit,lt_lit2,le_lit2,le_sub1,le_sub2]; rfl
      rfl
    case hd => rfl
    case hr => simp only [I33,resI,resLI,h6,Zs,Zr,Zp,Za,Zb,evI,opsI,stepI,wantI,opI,AAct.evI,look,AAct.put,mkVal,mkVM,intOpA,intA,shiftA,unA,ZP,ZO,Zh,Zt,reduceIte,Nat.reduceEqDiff,Nat.reduceLT,Zo,Zq,true_and,and_true,and_self,ZB,cellsAt,Zg,ZC,Zf,Zk,ZL,ZM,Nat.reduceAdd,Nat.reduceMul,ZN,AV.cells,AV.one,known,Zn,getE_0,getE_k,setE_0,setE_k,Zc,Zd,Zl,Zm,Zi,Zw,Zu,Zj,Z1,Zx,Zy,ZJ,ZI,ZH,ZD,ZE,splice,fillI,Nat.reduceLeDiff,strA,ZK,ZA,Ze,bq_ft,bq_tf,ZG,ZF,ZQ,Zv,Zz,isNilA,nilPtr,nilSl,nilIf,nilFn,nilMap,nilCheckA,if_true,if_false,lt_lit,le_lit,lt_lit2,le_lit2,le_sub1,le_sub2]
    case hz =>
      simp only [finish,finish,cfg,keep,Ze,if_false,frz,frzL,eC_low,kC_low,atsC_low,low,lowL,ZP,Zh,roundEnd,AAct.keepT,Zv,Zz,look,reduceIte,Nat.reduceEqDiff,lowT,Zx,Zy,low,lowL,lowD,mayCut,Zg,Zf,Zk,ZL,Nat.reduceAdd,takeS,takeE_0,takeE_k,Zi,Zw,eqM_app,eqM_refl,Bool.true_or,ZJ,ZI,ZH,ZP,Nat.lt_succ_self,Nat.lt_add_right_iff_pos,Nat.add_lt_add_iff_left,Nat.reduceLT,if_true,lt_k,Zn,Zp,Zr]
      rfl
noncomputable def loopGet : IC := (I30.c.loops).getD 0 .bad
def getIn (s n : List UInt8) : List (List UInt8 × List UInt8 × List UInt8) → Option (List UInt8)
  | [] => none
  | k :: ks => if k.1 == s && k.2.1 == n then some k.2.2 else getIn s n ks
theorem get_loop (P : Program) (F : FSem) (N : Nat) (s n : List UInt8) (all : List (List UInt8 × List UInt8 × List UInt8)) (hall : all.length ≤ 9223372036854775807) (H : Mem) (R0 : Blk) : ∀ (fuel k : Nat), k ≤ all.length → all.length - k < fuel →
    ∃ t M, loopA (fun a H => evI P cfg F N loopGet a H) (some [1, 2, 11, 12, 13]) fuel ⟨30, [(1, .str s), (2, .str n), (11, .lst all.length (all.flatMap atC)), (12, .int .i64 all.length), (13, .int .i64 k)], []⟩ (H ++ [R0]) =
      (match getIn s n (all.drop k) with
      | some x => some (.ret, ⟨30, (7, .bool true) :: (6, .str x) :: t, []⟩, H ++ R0 :: M)
      | none => some (.exit 0, ⟨30, t, []⟩, H ++ R0 :: M))
  | 0, k, _, h => by omega
  | fuel + 1, k, hk, hf => by
    rcases Nat.lt_or_ge k all.length with hlt | hge
    · obtain ⟨x, hx⟩ := all_drop hlt
      have hget : (all.flatMap atC).drop (k * 3) = atC x ++ (all.drop (k + 1)).flatMap atC := by rw [atsC_drop, hx]; rfl
      have hlen : k * 3 + 3 ≤ (all.flatMap atC).length := by rw [atsC_len]; omega
      have hi : (k : Int) < (all.length : Int) := by omega
      have hw := wrap_next hlt hall
      have hn := natOf_nat k .i64
      obtain ⟨t, M, ht⟩ := get_loop P F N s n all hall H R0 fuel (k + 1) (by omega) (by omega)
      rw [hx]
      cases h1 : (x.1 == s) <;> cases h2 : (x.2.1 == n)
      · refine ⟨t, M, ?_⟩
        simp only [getIn,h1,h2,ZJ,Ze,if_false]
        refine loopA_go (by simp only [loopGet,I30,IC.loops,hi,hlt,hlen,hget,hn,hw,h1,h2,eC_len,eC_take,eC_one,eC_0,eC_1,eC_2,eC_3,eC_4,eCr,eCr_0,eCr_1,eCr_2,eCr_3,eCr_4,List.length_drop,Nat.reduceSub,ZR,atr,Zs,Zr,Zp,Za,Zb,evI,opsI,stepI,wantI,opI,AAct.evI,look,AAct.put,mkVal,mkVM,intOpA,intA,shiftA,unA,ZP,ZO,Zh,Zt,reduceIte,Nat.reduceEqDiff,Nat.reduceLT,Zo,Zq,true_and,and_true,and_self,ZB,cellsAt,Zg,ZC,Zf,Zk,ZL,ZM,Nat.reduceAdd,Nat.reduceMul,ZN,AV.cells,AV.one,known,Zn,getE_0,getE_k,setE_0,setE_k,Zc,Zd,Zl,Zm,Zi,Zw,Zu,Zj,Z1,Zx,Zy,ZJ,ZI,ZH,ZD,ZE,splice,fillI,Nat.reduceLeDiff,strA,ZK,ZA,Ze,bq_ft,bq_tf,ZG,ZF,ZQ,Zv,Zz,isNilA,nilPtr,nilSl,nilIf,nilFn,nilMap,nilCheckA,if_true,if_false,lt_lit,le_lit,lt_lit2,le_lit2,le_sub1,le_sub2]; rfl) ?_
        simp only [atsC_low,roundEnd,AAct.keepT,Zv,Zz,look,reduceIte,Nat.reduceEqDiff,lowT,Zx,Zy,low,lowL,lowD,mayCut,Zg,Zf,Zk,ZL,Nat.reduceAdd,takeS,takeE_0,takeE_k,Zi,Zw,eqM_app,eqM_refl,Bool.true_or,ZJ,ZI,ZH,ZP,Nat.lt_succ_self,Nat.lt_add_right_iff_pos,Nat.add_lt_add_iff_left,Nat.reduceLT,if_true,lt_k,Zn,Zp,Zr]
        exact ht
      · refine ⟨t, M, ?_⟩
        simp only [getIn,h1,h2,ZI,Ze,if_false]
        refine loopA_go (by simp only [loopGet,I30,IC.loops,hi,hlt,hlen,hget,hn,hw,h1,h2,eC_len,eC_take,eC_one,eC_0,eC_1,eC_2,eC_3,eC_4,eCr,eCr_0,eCr_1,eCr_2,eCr_3,eCr_4,List.length_drop,Nat.reduceSub,ZR,atr,Zs,Zr,Zp,Za,Zb,evI,opsI,stepI,wantI,opI,AAct.evI,look,AAct.put,mkVal,mkVM,intOpA,intA,shiftA,unA,ZP,ZO,Zh,Zt,reduceIte,Nat.reduceEqDiff,Nat.reduceLT,Zo,Zq,true_and,and_true,and_self,ZB,cellsAt,Zg,ZC,Zf,Zk,ZL,ZM,Nat.reduceAdd,Nat.reduceMul,ZN,AV.cells,AV.one,known,Zn,getE_0,getE_k,setE_0,setE_k,Zc,Zd,Zl,Zm,Zi,Zw,Zu,Zj,Z1,Zx,Zy,ZJ,ZI,ZH,ZD,ZE,splice,fillI,Nat.reduceLeDiff,strA,ZK,ZA,Ze,bq_ft,bq_tf,ZG,ZF,ZQ,Zv,Zz,isNilA,nilPtr,nilSl,nilIf,nilFn,nilMap,nilCheckA,if_true,if_false,lt_lit,le_lit,lt_lit2,le_lit2,le_sub1,le_sub2]; rfl) ?_
        simp only [atsC_low,roundEnd,AAct.keepT,Zv,Zz,look,reduceIte,Nat.reduceEqDiff,lowT,Zx,Zy,low,lowL,lowD,mayCut,Zg,Zf,Zk,ZL,Nat.reduceAdd,takeS,takeE_0,takeE_k,Zi,Zw,eqM_app,eqM_refl,Bool.true_or,ZJ,ZI,ZH,ZP,Nat.lt_succ_self,Nat.lt_add_right_iff_pos,Nat.add_lt_add_iff_left,Nat.reduceLT,if_true,lt_k,Zn,Zp,Zr]
        exact ht
      · refine ⟨t, M, ?_⟩
        simp only [getIn,h1,h2,ZD,Ze,if_false]
        refine loopA_go (by simp only [loopGet,I30,IC.loops,hi,hlt,hlen,hget,hn,hw,h1,h2,eC_len,eC_take,eC_one,eC_0,eC_1,eC_2,eC_3,eC_4,eCr,eCr_0,eCr_1,eCr_2,eCr_3,eCr_4,List.length_drop,Nat.reduceSub,ZR,atr,Zs,Zr,Zp,Za,Zb,evI,opsI,stepI,wantI,opI,AAct.evI,look,AAct.put,mkVal,mkVM,intOpA,intA,shiftA,unA,ZP,ZO,Zh,Zt,reduceIte,Nat.reduceEqDiff,Nat.reduceLT,Zo,Zq,true_and,and_true,and_self,ZB,cellsAt,Zg,ZC,Zf,Zk,ZL,ZM,Nat.reduceAdd,Nat.reduceMul,ZN,AV.cells,AV.one,known,Zn,getE_0,getE_k,setE_0,setE_k,Zc,Zd,Zl,Zm,Zi,Zw,Zu,Zj,Z1,Zx,Zy,ZJ,ZI,ZH,ZD,ZE,splice,fillI,Nat.reduceLeDiff,strA,ZK,ZA,Ze,bq_ft,bq_tf,ZG,ZF,ZQ,Zv,Zz,isNilA,nilPtr,nilSl,nilIf,nilFn,nilMap,nilCheckA,if_true,if_false,lt_lit,le_lit,lt_lit2,le_lit2,le_sub1,le_sub2]; rfl) ?_
        simp only [atsC_low,roundEnd,AAct.keepT,Zv,Zz,look,reduceIte,Nat.reduceEqDiff,lowT,Zx,Zy,low,lowL,lowD,mayCut,Zg,Zf,Zk,ZL,Nat.reduceAdd,takeS,takeE_0,takeE_k,Zi,Zw,eqM_app,eqM_refl,Bool.true_or,ZJ,ZI,ZH,ZP,Nat.lt_succ_self,Nat.lt_add_right_iff_pos,Nat.add_lt_add_iff_left,Nat.reduceLT,if_true,lt_k,Zn,Zp,Zr]
        exact ht
      · simp only [getIn,h1,h2,ZJ,if_true]
        refine ⟨_, _, loopA_ret (by simp only [loopGet,I30,IC.loops,hi,hlt,hlen,hget,hn,hw,h1,h2,eC_len,eC_take,eC_one,eC_0,eC_1,eC_2,eC_3,eC_4,eCr,eCr_0,eCr_1,eCr_2,eCr_3,eCr_4,List.length_drop,Nat.reduceSub,ZR,atr,Zs,Zr,Zp,Za,Zb,evI,opsI,stepI,wantI,opI,AAct.evI,look,AAct.put,mkVal,mkVM,intOpA,intA,shiftA,unA,ZP,ZO,Zh,Zt,reduceIte,Nat.reduceEqDiff,Nat.reduceLT,Zo,Zq,true_and,and_true,and_self,ZB,cellsAt,Zg,ZC,Zf,Zk,ZL,ZM,Nat.reduceAdd,Nat.reduceMul,ZN,AV.cells,AV.one,known,Zn,getE_0,getE_k,setE_0,setE_k,Zc,Zd,Zl,Zm,Zi,Zw,Zu,Zj,Z1,Zx,Zy,ZJ,ZI,ZH,ZD,ZE,splice,fillI,Nat.reduceLeDiff,strA,ZK,ZA,Ze,bq_ft,bq_tf,ZG,ZF,ZQ,Zv,Zz,isNilA,nilPtr,nilSl,nilIf,nilFn,nilMap,nilCheckA,if_true,if_false,lt_lit,le_lit,lt_lit2,le_lit2,le_sub1,le_sub2]; rfl)⟩
    · have hk' : k = all.length := by omega
      subst hk'
      simp only [List.drop_length,getIn]
      exact ⟨_, _, loopA_exit (by simp only [loopGet,I30,IC.loops,Int.lt_irrefl,Zs,Zr,Zp,Za,Zb,evI,opsI,stepI,wantI,opI,AAct.evI,look,AAct.put,mkVal,mkVM,intOpA,intA,shiftA,unA,ZP,ZO,Zh,Zt,reduceIte,Nat.reduceEqDiff,Nat.reduceLT,Zo,Zq,true_and,and_true,and_self,ZB,cellsAt,Zg,ZC,Zf,Zk,ZL,ZM,Nat.reduceAdd,Nat.reduceMul,ZN,AV.cells,AV.one,known,Zn,getE_0,getE_k,setE_0,setE_k,Zc,Zd,Zl,Zm,Zi,Zw,Zu,Zj,Z1,Zx,Zy,ZJ,ZI,ZH,ZD,ZE,splice,fillI,Nat.reduceLeDiff,strA,ZK,ZA,Ze,bq_ft,bq_tf,ZG,ZF,ZQ,Zv,Zz,isNilA,nilPtr,nilSl,nilIf,nilFn,nilMap,nilCheckA,if_true,if_false,lt_lit,le_lit,lt_lit2,le_lit2,le_sub1,le_sub2]; rfl)⟩
theorem get_eq (P : Program) (N n : Nat) (hN : 9223372036854775808 ≤ N) (s nm : List UInt8) (e : El) (he : e.ats.length ≤ 9223372036854775807) (H : Mem) :
    evFI P cfg T N (n + 1) 30 [.agg (eC e), .str s, .str nm] H = some (.ret (.tup [.str ((getIn s nm e.ats).getD []), .bool (getIn s nm e.ats).isSome]), H) := by
  obtain ⟨t, M, ht⟩ := get_loop P (evFI P cfg T N n) N s nm e.ats he H (.row (eC e) 0 (25 + 1)) N 0 (Nat.zero_le _) (by omega)
  rw [List.drop_zero] at ht
  cases hf : getIn s nm e.ats with
  | some x =>
    rw [hf] at ht
    simp only [Option.getD_some,Option.isSome_some]
    refine evF_ret (m := 30) (v := .tup [.str x, .bool true]) (a := ?a) (H1 := ?H1) rfl t30 rfl ?hb ?hd ?hr ?hz
    case hb =>
      apply evI_seq
      · simp only [Zf,Zk,idx,I30,eC_len,eC_take,eC_one,eC_0,eC_1,eC_2,eC_3,eC_4,eCr,eCr_0,eCr_1,eCr_2,eCr_3,eCr_4,List.length_drop,Nat.reduceSub,ZR,atr,Zs,Zr,Zp,Za,Zb,evI,opsI,stepI,wantI,opI,AAct.evI,look,AAct.put,mkVal,mkVM,intOpA,intA,shiftA,unA,ZP,ZO,Zh,Zt,reduceIte,Nat.reduceEqDiff,Nat.reduceLT,Zo,Zq,true_and,and_true,and_self,ZB,cellsAt,Zg,ZC,Zf,Zk,ZL,ZM,Nat.reduceAdd,Nat.reduceMul,ZN,AV.cells,AV.one,known,Zn,getE_0,getE_k,setE_0,setE_k,Zc,Zd,Zl,Zm,Zi,Zw,Zu,Zj,Z1,Zx,Zy,ZJ,ZI,ZH,ZD,ZE,splice,fillI,Nat.reduceLeDiff,strA,ZK,ZA,Ze,bq_ft,bq_tf,ZG,ZF,ZQ,Zv,Zz,isNilA,nilPtr,nilSl,nilIf,nilFn,nilMap,nilCheckA,if_true,if_false,lt_lit,le_lit,lt_lit2,le_lit2,le_sub1,le_sub2]; rfl
      apply evI_seq_ret
      apply evI_seq
      · simp only [eC_len,eC_take,eC_one,eC_0,eC_1,eC_2,eC_3,eC_4,eCr,eCr_0,eCr_1,eCr_2,eCr_3,eCr_4,List.length_drop,Nat.reduceSub,ZR,atr,Zs,Zr,Zp,Za,Zb,evI,opsI,stepI,wantI,opI,AAct.evI,look,AAct.put,mkVal,mkVM,intOpA,intA,shiftA,unA,ZP,ZO,Zh,Zt,reduceIte,Nat.reduceEqDiff,Nat.reduceLT,Zo,Zq,true_and,and_true,and_self,ZB,cellsAt,Zg,ZC,Zf,Zk,ZL,ZM,Nat.reduceAdd,Nat.reduceMul,ZN,AV.cells,AV.one,known,Zn,getE_0,getE_k,setE_0,setE_k,Zc,Zd,Zl,Zm,Zi,Zw,Zu,Zj,Z1,Zx,Zy,ZJ,ZI,ZH,ZD,ZE,splice,fillI,Nat.reduceLeDiff,strA,ZK,ZA,Ze,bq_ft,bq_tf,ZG,ZF,ZQ,Zv,Zz,isNilA,nilPtr,nilSl,nilIf,nilFn,nilMap,nilCheckA,if_true,if_false,lt_lit,le_lit,lt_lit2,le_lit2,le_sub1,le_sub2]; rfl
      apply evI_block_ret
      apply evI_loop
      exact ht
    case hd => rfl
    case hr => simp only [I30,resI,resLI,Zs,Zr,Zp,Za,Zb,evI,opsI,stepI,wantI,opI,AAct.evI,look,AAct.put,mkVal,mkVM,intOpA,intA,shiftA,unA,ZP,ZO,Zh,Zt,reduceIte,Nat.reduceEqDiff,Nat.reduceLT,Zo,Zq,true_and,and_true,and_self,ZB,cellsAt,Zg,ZC,Zf,Zk,ZL,ZM,Nat.reduceAdd,Nat.reduceMul,ZN,AV.cells,AV.one,known,Zn,getE_0,getE_k,setE_0,setE_k,Zc,Zd,Zl,Zm,Zi,Zw,Zu,Zj,Z1,Zx,Zy,ZJ,ZI,ZH,ZD,ZE,splice,fillI,Nat.reduceLeDiff,strA,ZK,ZA,Ze,bq_ft,bq_tf,ZG,ZF,ZQ,Zv,Zz,isNilA,nilPtr,nilSl,nilIf,nilFn,nilMap,nilCheckA,if_true,if_false,lt_lit,le_lit,lt_lit2,le_lit2,le_sub1,le_sub2]
    case hz => simp only [finish,finish,cfg,keep,Ze,if_false,frz,frzL,eC_low,kC_low,atsC_low,low,lowL,ZP,Zh,roundEnd,AAct.keepT,Zv,Zz,look,reduceIte,Nat.reduceEqDiff,lowT,Zx,Zy,low,lowL,lowD,mayCut,Zg,Zf,Zk,ZL,Nat.reduceAdd,takeS,takeE_0,takeE_k,Zi,Zw,eqM_app,eqM_refl,Bool.true_or,ZJ,ZI,ZH,ZP,Nat.lt_succ_self,Nat.lt_add_right_iff_pos,Nat.add_lt_add_iff_left,Nat.reduceLT,if_true,lt_k,Zn,Zp,Zr]
  | none =>
    rw [hf] at ht
    simp only [Option.getD_none,Option.isSome_none]
    refine evF_ret (m := 30) (v := .tup [.str [], .bool false]) (a := ?a2) (H1 := ?H2) rfl t30 rfl ?hb ?hd ?hr ?hz
    case hb =>
      apply evI_seq
      · simp only [Zf,Zk,idx,I30,eC_len,eC_take,eC_one,eC_0,eC_1,eC_2,eC_3,eC_4,eCr,eCr_0,eCr_1,eCr_2,eCr_3,eCr_4,List.length_drop,Nat.reduceSub,ZR,atr,Zs,Zr,Zp,Za,Zb,evI,opsI,stepI,wantI,opI,AAct.evI,look,AAct.put,mkVal,mkVM,intOpA,intA,shiftA,unA,ZP,ZO,Zh,Zt,reduceIte,Nat.reduceEqDiff,Nat.reduceLT,Zo,Zq,true_and,and_true,and_self,ZB,cellsAt,Zg,ZC,Zf,Zk,ZL,ZM,Nat.reduceAdd,Nat.reduceMul,ZN,AV.cells,AV.one,known,Zn,getE_0,getE_k,setE_0,setE_k,Zc,Zd,Zl,Zm,Zi,Zw,Zu,Zj,Z1,Zx,Zy,ZJ,ZI,ZH,ZD,ZE,splice,fillI,Nat.reduceLeDiff,strA,ZK,ZA,Ze,bq_ft,bq_tf,ZG,ZF,ZQ,Zv,Zz,isNilA,nilPtr,nilSl,nilIf,nilFn,nilMap,nilCheckA,if_true,if_false,lt_lit,le_lit,lt_lit2,le_lit2,le_sub1,le_sub2]; rfl
      apply evI_seq
      · apply evI_seq
        · simp only [eC_len,eC_take,eC_one,eC_0,eC_1,eC_2,eC_3,eC_4,eCr,eCr_0,eCr_1,eCr_2,eCr_3,eCr_4,List.length_drop,Nat.reduceSub,ZR,atr,Zs,Zr,Zp,Za,Zb,evI,opsI,stepI,wantI,opI,AAct.evI,look,AAct.put,mkVal,mkVM,intOpA,intA,shiftA,unA,ZP,ZO,Zh,Zt,reduceIte,Nat.reduceEqDiff,Nat.reduceLT,Zo,Zq,true_and,and_true,and_self,ZB,cellsAt,Zg,ZC,Zf,Zk,ZL,ZM,Nat.reduceAdd,Nat.reduceMul,ZN,AV.cells,AV.one,known,Zn,getE_0,getE_k,setE_0,setE_k,Zc,Zd,Zl,Zm,Zi,Zw,Zu,Zj,Z1,Zx,Zy,ZJ,ZI,ZH,ZD,ZE,splice,fillI,Nat.reduceLeDiff,strA,ZK,ZA,Ze,bq_ft,bq_tf,ZG,ZF,ZQ,Zv,Zz,isNilA,nilPtr,nilSl,nilIf,nilFn,nilMap,nilCheckA,if_true,if_false,lt_lit,le_lit,lt_lit2,le_lit2,le_sub1,le_sub2]; rfl
        apply evI_block_exit
        apply evI_loop
        exact ht
      apply evI_seq
      · simp only [Zs,Zr,Zp,Za,Zb,evI,opsI,stepI,wantI,opI,AAct.evI,look,AAct.put,mkVal,mkVM,intOpA,intA,shiftA,unA,ZP,ZO,Zh,Zt,reduceIte,Nat.reduceEqDiff,Nat.reduceLT,Zo,Zq,true_and,and_true,and_self,ZB,cellsAt,Zg,ZC,Zf,Zk,ZL,ZM,Nat.reduceAdd,Nat.reduceMul,ZN,AV.cells,AV.one,known,Zn,getE_0,getE_k,setE_0,setE_k,Zc,Zd,Zl,Zm,Zi,Zw,Zu,Zj,Z1,Zx,Zy,ZJ,ZI,ZH,ZD,ZE,splice,fillI,Nat.reduceLeDiff,strA,ZK,ZA,Ze,bq_ft,bq_tf,ZG,ZF,ZQ,Zv,Zz,isNilA,nilPtr,nilSl,nilIf,nilFn,nilMap,nilCheckA,if_true,if_false,lt_lit,le_lit,lt_lit2,le_lit2,le_sub1,le_sub2]; rfl
      rfl
    case hd => rfl
    case hr => simp only [I30,resI,resLI,Zs,Zr,Zp,Za,Zb,evI,opsI,stepI,wantI,opI,AAct.evI,look,AAct.put,mkVal,mkVM,intOpA,intA,shiftA,unA,ZP,ZO,Zh,Zt,reduceIte,Nat.reduceEqDiff,Nat.reduceLT,Zo,Zq,true_and,and_true,and_self,ZB,cellsAt,Zg,ZC,Zf,Zk,ZL,ZM,Nat.reduceAdd,Nat.reduceMul,ZN,AV.cells,AV.one,known,Zn,getE_0,getE_k,setE_0,setE_k,Zc,Zd,Zl,Zm,Zi,Zw,Zu,Zj,Z1,Zx,Zy,ZJ,ZI,ZH,ZD,ZE,splice,fillI,Nat.reduceLeDiff,strA,ZK,ZA,Ze,bq_ft,bq_tf,ZG,ZF,ZQ,Zv,Zz,isNilA,nilPtr,nilSl,nilIf,nilFn,nilMap,nilCheckA,if_true,if_false,lt_lit,le_lit,lt_lit2,le_lit2,le_sub1,le_sub2]
    case hz => simp only [finish,finish,cfg,keep,Ze,if_false,frz,frzL,eC_low,kC_low,atsC_low,low,lowL,ZP,Zh,roundEnd,AAct.keepT,Zv,Zz,look,reduceIte,Nat.reduceEqDiff,lowT,Zx,Zy,low,lowL,lowD,mayCut,Zg,Zf,Zk,ZL,Nat.reduceAdd,takeS,takeE_0,takeE_k,Zi,Zw,eqM_app,eqM_refl,Bool.true_or,ZJ,ZI,ZH,ZP,Nat.lt_succ_self,Nat.lt_add_right_iff_pos,Nat.add_lt_add_iff_left,Nat.reduceLT,if_true,lt_k,Zn,Zp,Zr]
end Go.Proofs.YtlimneghgioeaaaGreatDoor.Ev
