/- Parts of one proof. -/
import Derived.Test.YtlimneghgioeaaaGreatDoorMbj
set_option linter.all false
namespace Go.Proofs.YtlimneghgioeaaaGreatDoor.Ev
variable {P : Program} {g : Cfg} {F : FSem}
theorem befs_length : ∀ (l : List Oper) (acc : List Nat), (befs l acc).length = acc.length + l.length
  | [], acc => by simp [befs]
  | o :: l, acc => by rw [befs, befs_length l]; simp; omega
theorem befs_take : ∀ (l : List Oper) (acc : List Nat), (befs l acc).take acc.length = acc
  | [], acc => by simp [befs]
  | o :: l, acc => by
    rw [befs]
    have := congrArg (List.take acc.length) (befs_take l (acc ++ [bitsOf acc o]))
    rw [List.take_take] at this
    simpa using this
theorem befs_get : ∀ (l : List Oper) (acc : List Nat) (j : Nat) (o : Oper), l[j]? = some o → (befs l acc)[acc.length + j]? = some (bitsOf ((befs l acc).take (acc.length + j)) o)
  | [], acc, j, o, h => by simp at h
  | x :: l, acc, j, o, h => by
    rw [befs]
    cases j with
    | zero =>
      simp at h
      subst h
      have h1 := befs_take l (acc ++ [bitsOf acc x])
      have h2 : (befs l (acc ++ [bitsOf acc x])).take acc.length = acc := by
        have := congrArg (List.take acc.length) h1
        rw [List.take_take] at this
        simpa using this
      rw [Nat.add_zero, h2]
      have h3 := congrArg (fun q => q[acc.length]?) h1
      simp only [List.getElem?_take] at h3
      rw [if_pos (by simp)] at h3
      rw [h3]
      simp
    | succ j =>
      have := befs_get l (acc ++ [bitsOf acc x]) j o (by simpa using h)
      have e : (acc ++ [bitsOf acc x]).length + j = acc.length + (j + 1) := by simp; omega
      rw [e] at this
      exact this
theorem bitsOf_spec {acc : List Nat} {o : Oper} {j : Nat} (h : (bitsOf acc o).testBit j = true) : ∃ e ∈ o.after, Region.binds .any e = true ∧ (e.on = j ∨ (acc.getD e.on 0).testBit j = true) := by
  unfold bitsOf at h
  have : ∀ (l : List Edge), (l.foldr (fun e s => if Region.binds .any e then (s ||| 2 ^ e.on) ||| acc.getD e.on 0 else s) 0).testBit j = true → ∃ e ∈ l, Region.binds .any e = true ∧ (e.on = j ∨ (acc.getD e.on 0).testBit j = true) := by
    intro l
    induction l with
    | nil => intro h; simp at h
    | cons e l ih =>
      intro h
      simp only [List.foldr_cons] at h
      split at h
      · rename_i hb
        rw [Nat.testBit_or, Nat.testBit_or, Nat.testBit_two_pow] at h
        simp only [Bool.or_eq_true,decide_eq_true_eq] at h
        rcases h with (h | h) | h
        · obtain ⟨e', h1, h2⟩ := ih h
          exact ⟨e', by simp [h1], h2⟩
        · exact ⟨e, by simp, hb, .inl h⟩
        · exact ⟨e, by simp, hb, .inr h⟩
      · obtain ⟨e', h1, h2⟩ := ih h
        exact ⟨e', by simp [h1], h2⟩
  obtain ⟨e, h1, h2⟩ := this _ h
  exact ⟨e, by simpa using h1, h2⟩
def ahead (ops : Array Oper) (i : Nat) : Nat := (befs ops.toList []).getD i 0
theorem tab_get {ops : Array Oper} {i : Nat} {o : Oper} (h : ops[i]? = some o) : (tabOf ops)[i]? = some (i, o, ahead ops i) := by
  have hi : i < ops.size := (Array.getElem?_eq_some_iff.1 h).1
  have hb : i < (befs ops.toList []).length := by rw [befs_length]; simpa using hi
  unfold tabOf ahead
  rw [List.getElem?_zip_eq_some]
  refine ⟨by simp [hi], ?_⟩
  rw [List.getElem?_zip_eq_some]
  refine ⟨by simpa using h, ?_⟩
  rw [List.getD_eq_getElem?_getD, List.getElem?_eq_getElem hb]
  rfl
theorem tab_mem {ops : Array Oper} {q : Nat × Oper × Nat} (h : q ∈ tabOf ops) : ops[q.1]? = some q.2.1 ∧ q.2.2 = ahead ops q.1 := by
  obtain ⟨i, hi, e⟩ := List.getElem_of_mem h
  have h1 : (tabOf ops)[i]? = some q := by rw [← e]; exact List.getElem?_eq_getElem hi
  unfold tabOf at h1
  rw [List.getElem?_zip_eq_some] at h1
  obtain ⟨h2, h3⟩ := h1
  rw [List.getElem?_zip_eq_some] at h3
  obtain ⟨h4, h5⟩ := h3
  have hi2 : i = q.1 := by
    obtain ⟨hl, e2⟩ := List.getElem?_eq_some_iff.1 h2
    simpa using e2
  subst hi2
  refine ⟨by simpa using h4, ?_⟩
  unfold ahead
  rw [List.getD_eq_getElem?_getD, h5]
  rfl
theorem ahead_spec {ops : Array Oper} {i j : Nat} {o : Oper} (h : ops[i]? = some o) (hj : (ahead ops i).testBit j = true) : ∃ e ∈ o.after, Region.binds .any e = true ∧ (e.on = j ∨ (e.on < i ∧ (ahead ops e.on).testBit j = true)) := by
  have hb := befs_get ops.toList [] i o (by simpa using h)
  simp only [Zk,ZL] at hb
  have : ahead ops i = bitsOf ((befs ops.toList []).take i) o := by
    unfold ahead
    rw [List.getD_eq_getElem?_getD, hb]; rfl
  rw [this] at hj
  obtain ⟨e, h1, h2, h3⟩ := bitsOf_spec hj
  refine ⟨e, h1, h2, ?_⟩
  rcases h3 with h3 | h3
  · exact .inl h3
  · right
    rw [List.getD_eq_getElem?_getD, List.getElem?_take] at h3
    split at h3
    · rename_i hlt
      exact ⟨hlt, by unfold ahead; rw [List.getD_eq_getElem?_getD]; exact h3⟩
    · simp at h3
theorem edgesOk_spec : ∀ (l : List Oper) (k : Nat), edgesOk k l = true → ∀ (j : Nat) o, l[j]? = some o → ∀ e ∈ o.after, Region.binds .any e = true → e.on < k + j
  | [], _, _, j, o, h => by simp at h
  | x :: l, k, h, j, o, ho => by
    simp only [edgesOk,Bool.and_eq_true] at h
    cases j with
    | zero =>
      simp at ho; subst ho
      intro e he hb
      have := Array.all_eq_true'.1 h.1 e he
      simp [hb] at this
      omega
    | succ j =>
      intro e he hb
      have := edgesOk_spec l (k + 1) h.2 j o (by simpa using ho) e he hb
      omega
theorem pairsOk_spec {ops : Array Oper} : ∀ (l : List (Nat × Oper × Nat)), pairsOk ops l = true → ∀ (j i : Nat) p q, j < i → l[j]? = some p → l[i]? = some q → apartA ops p.2.1 q.2.1 = true ∨ q.2.2.testBit p.1 = true
  | [], _, j, i, p, q, _, h, _ => by simp at h
  | (k, x, b) :: l, h, j, i, p, q, hji, hp, hq => by
    simp only [pairsOk,Bool.and_eq_true,List.all_eq_true] at h
    obtain ⟨i, rfl⟩ : ∃ m, i = m + 1 := ⟨i - 1, by omega⟩
    cases j with
    | zero =>
      simp at hp; subst hp
      have := h.1 q (List.mem_of_getElem? (by simpa using hq))
      simpa using this
    | succ j => exact pairsOk_spec l h.2 j i p q (by omega) (by simpa using hp) (by simpa using hq)
theorem apartA_spec {ops : Array Oper} {x y : Oper} (h : apartA ops x y = true) : (∀ d, x.dst = some d → d ∉ looksA ops y ∧ y.dst ≠ some d) ∧ ∀ d, y.dst = some d → d ∉ looksA ops x := by
  refine ⟨fun d hd => ?_, fun d hd => ?_⟩ <;> simp [apartA, hd] at h
  · exact h.1
  · exact h.2
structure Stat (ops : Array Oper) : Prop where
  edge : ∀ (i : Nat) o, ops[i]? = some o → ∀ e ∈ o.after, Region.binds .any e = true → e.on < i
  pair : ∀ (j i : Nat) x y, j < i → ops[j]? = some x → ops[i]? = some y → apartA ops x y = true ∨ (ahead ops i).testBit j = true
theorem statOk_spec {ops : Array Oper} (h : statOk ops = true) : Stat ops := by
  simp only [statOk,Bool.and_eq_true] at h
  refine ⟨fun i o ho e he hb => ?_, fun j i x y hji hx hy => ?_⟩
  · have := edgesOk_spec ops.toList 0 h.1 i o (by simpa using ho) e he hb
    omega
  · have := pairsOk_spec (tabOf ops) h.2 j i _ _ hji (tab_get hx) (tab_get hy)
    simpa using this
def Closed (ops : Array Oper) (S : Nat → Bool) : Prop := ∀ (i : Nat) o, S i = true → ops[i]? = some o → ∀ e ∈ o.after, Region.binds .any e = true → S e.on = true
theorem ahead_in {ops : Array Oper} {S : Nat → Bool} (hc : Closed ops S) : ∀ (n i j : Nat) (o : Oper), i < n → ops[i]? = some o → (∀ e ∈ o.after, Region.binds .any e = true → S e.on = true) → (∀ k, S k = true → k < ops.size) → (ahead ops i).testBit j = true → S j = true
  | 0, i, j, o, hn, _, _, _, _ => by omega
  | n + 1, i, j, o, hn, ho, hr, hs, hj => by
    obtain ⟨e, h1, h2, h3⟩ := ahead_spec ho hj
    have h4 := hr e h1 h2
    rcases h3 with rfl | ⟨h5, h6⟩
    · exact h4
    · have h7 := hs _ h4
      exact ahead_in hc n e.on j ops[e.on] (by omega) (Array.getElem?_eq_getElem h7) (fun e' he' hb' => hc _ _ h4 (Array.getElem?_eq_getElem h7) e' he' hb') hs h6
def accS (ops : Array Oper) (v : Nat → AV) (a : AAct) (S : Nat → Bool) : Nat → AAct
  | 0 => a
  | k + 1 => match ops[k]? with
    | some o => if S k then (accS ops v a S k).put o.dst (v k) else accS ops v a S k
    | none => accS ops v a S k
def memS (M : Nat → Mem) (S : Nat → Bool) : Nat → Mem
  | 0 => M 0
  | k + 1 => if S k && !eqM (M (k + 1)) (M k) then M (k + 1) else memS M S k
theorem look_put (a : AAct) (dst : Option Tmp) (x : AV) (t : Nat) : look (a.put dst x).t t = if dst = some t then (if t < a.n then x else .bad) else look a.t t := by
  cases dst with
  | none => simp [AAct.put]
  | some d =>
    simp only [AAct.put,look]
    by_cases h : t = d
    · subst h; simp
    · have h' : d ≠ t := fun e => h e.symm
      simp [h, h']
theorem put_n (a : AAct) (dst : Option Tmp) (x : AV) : (a.put dst x).n = a.n ∧ (a.put dst x).d = a.d := by cases dst <;> exact ⟨rfl, rfl⟩
theorem accS_n (ops : Array Oper) (v : Nat → AV) (a : AAct) (S : Nat → Bool) : ∀ k, (accS ops v a S k).n = a.n ∧ (accS ops v a S k).d = a.d
  | 0 => ⟨rfl, rfl⟩
  | k + 1 => by
    have ih := accS_n ops v a S k
    simp only [accS]
    split
    · split
      · exact ⟨(put_n _ _ _).1.trans ih.1, (put_n _ _ _).2.trans ih.2⟩
      · exact ih
    · exact ih
theorem accS_looks {ops : Array Oper} (hst : Stat ops) {v : Nat → AV} {a : AAct} {S : Nat → Bool} (hc : Closed ops S) (hs : ∀ k, S k = true → k < ops.size) {i : Nat} {o : Oper} (ho : ops[i]? = some o) (hi : S i = false) (hr : ∀ e ∈ o.after, Region.binds .any e = true → S e.on = true) {t : Nat} (ht : t ∈ looksA ops o) :
    ∀ k, look (accS ops v a S k).t t = look (accS ops v a (fun j => decide (j < i)) k).t t
  | 0 => rfl
  | k + 1 => by
    have ih := accS_looks hst (v := v) (a := a) hc hs ho hi hr ht k
    have hin : ∀ j, (ahead ops i).testBit j = true → S j = true := fun j hj => ahead_in hc (i + 1) i j o (by omega) ho hr hs hj
    simp only [accS]
    cases hk : ops[k]? with
    | none => exact ih
    | some x =>
      simp only
      have hn1 := (accS_n ops v a S k).1
      have hn2 := (accS_n ops v a (fun j => decide (j < i)) k).1
      have hput : ∀ (b b' : AAct), b.n = b'.n → look b.t t = look b'.t t → look (b.put x.dst (v k)).t t = look (b'.put x.dst (v k)).t t := fun b b' h1 h2 => by rw [look_put, look_put, h1, h2]
      have hno : x.dst ≠ some t → ∀ b : AAct, look (b.put x.dst (v k)).t t = look b.t t := fun h b => by rw [look_put, if_neg h]
      by_cases hd : x.dst = some t
      · rcases Nat.lt_trichotomy k i with h | h | h
        · have hb : (ahead ops i).testBit k = true := by
            rcases hst.pair k i x o h hk ho with h1 | h1
            · exact absurd ht ((apartA_spec h1).1 t hd).1
            · exact h1
          rw [if_pos (hin k hb), if_pos (by simpa using h)]
          exact hput _ _ (hn1.trans hn2.symm) ih
        · subst h
          rw [hi]
          simp only [Ze,if_false,Nat.lt_irrefl,ZO]
          exact ih
        · have : S k = false := by
            cases hS : S k with
            | false => rfl
            | true =>
              have hb : (ahead ops k).testBit i = true := by
                rcases hst.pair i k o x h ho hk with h1 | h1
                · exact absurd ht ((apartA_spec h1).2 t hd)
                · exact h1
              have := ahead_in hc (k + 1) k i x (by omega) hk (hc k x hS hk) hs hb
              rw [hi] at this; cases this
          rw [this]
          simp only [Ze,if_false]
          rw [if_neg (by simp; omega)]
          exact ih
      · split <;> split <;> simp only [hno hd,ih]
theorem accS_more {ops : Array Oper} (hst : Stat ops) {v : Nat → AV} {a : AAct} {S : Nat → Bool} (hc : Closed ops S) (hs : ∀ k, S k = true → k < ops.size) {i : Nat} {o : Oper} (ho : ops[i]? = some o) (hi : S i = false) (t : Nat) :
    ∀ k, look (accS ops v a (fun j => S j || j == i) k).t t = if i < k ∧ o.dst = some t then (if t < a.n then v i else .bad) else look (accS ops v a S k).t t
  | 0 => by simp [accS]
  | k + 1 => by
    have ih := accS_more hst (v := v) (a := a) hc hs ho hi t k
    simp only [accS]
    cases hk : ops[k]? with
    | none =>
      simp only
      have : i ≠ k := fun e => by rw [e, hk] at ho; cases ho
      rw [ih]
      by_cases h1 : i < k
      · simp [h1, show i < k + 1 by omega]
      · rw [if_neg (by omega), if_neg (by omega)]
    | some x =>
      simp only
      by_cases hik : k = i
      · subst hik
        rw [ho] at hk
        injection hk with hk
        subst hk
        simp only [hi,ZA,Bool.or_true,if_true,Ze,if_false]
        rw [look_put, (accS_n ops v a _ k).1, ih]
        simp
      · have hbe : (k == i) = false := by simpa using hik
        simp only [hbe,Bool.or_false]
        cases hS : S k with
        | false =>
          simp only [Ze,if_false]
          rw [ih]
          by_cases h1 : i < k
          · simp [h1, show i < k + 1 by omega]
          · rw [if_neg (by omega), if_neg (by omega)]
        | true =>
          simp only [if_true]
          rw [look_put, look_put, (accS_n ops v a _ k).1, (accS_n ops v a S k).1, ih]
          by_cases hd : x.dst = some t
          · rw [if_pos hd, if_pos hd]
            by_cases h1 : i < k + 1 ∧ o.dst = some t
            · exfalso
              have h2 : i < k := by omega
              have hb : (ahead ops k).testBit i = true := by
                rcases hst.pair i k o x h2 ho hk with h3 | h3
                · exact absurd hd ((apartA_spec h3).1 t h1.2).2
                · exact h3
              have := ahead_in hc (k + 1) k i x (by omega) hk (hc k x hS hk) hs hb
              rw [hi] at this; cases this
            · rw [if_neg h1]
          · rw [if_neg hd, if_neg hd]
            by_cases h1 : i < k
            · simp [h1, show i < k + 1 by omega]
            · rw [if_neg (by omega), if_neg (by omega)]
end Go.Proofs.YtlimneghgioeaaaGreatDoor.Ev
