/- Parts of one proof, one behind the other: Rules by which code that is worked out is reckoned with letters. -/
import Derived.Test.YtmnajffpmbidiaaGreatDoorMch
import Derived.Test.YtmnajffpmbidiaaGreatDoorEvIF
/- YtmnajffpmbidiaaGreatDoorIc -/
namespace Go.Proofs.YtmnajffpmbidiaaGreatDoor.Ic
set_option linter.all false
open Go Go.Proofs Go.Proofs.YtmnajffpmbidiaaGreatDoor.Ev
set_option maxRecDepth 100000
noncomputable def T (f : FuncId) : Option IF := (bif Nat.blt f 25 then (bif Nat.blt f 15 then (bif Nat.blt f 11 then (bif Nat.beq f 2 then some I2 else none)
  else (bif Nat.beq f 11 then some I11 else none))
  else (bif Nat.blt f 23 then (bif Nat.beq f 15 then some I15 else none)
  else (bif Nat.blt f 24 then (bif Nat.beq f 23 then some I23 else none)
  else (bif Nat.beq f 24 then some I24 else none))))
  else (bif Nat.blt f 28 then (bif Nat.blt f 26 then (bif Nat.beq f 25 then some I25 else none)
  else (bif Nat.blt f 27 then (bif Nat.beq f 26 then some I26 else none)
  else (bif Nat.beq f 27 then some I27 else none)))
  else (bif Nat.blt f 51 then (bif Nat.beq f 28 then some I28 else none)
  else (bif Nat.blt f 52 then (bif Nat.beq f 51 then some I51 else none)
  else (bif Nat.beq f 52 then some I52 else none)))))
theorem bif_some {b : Bool} {x y : Option IF} {i : IF} {Q : Prop} (h : (bif b then x else y) = some i) (hx : x = some i → Q) (hy : y = some i → Q) : Q := by
  cases b <;> simp at h <;> first | exact hy h | exact hx h
theorem leaf {m : Int} {f k : Nat} {j i : IF} (h : (bif Nat.beq f k then some j else none) = some i) (hk : resolveF Tryz.prog (cfg m) k = some j) : resolveF Tryz.prog (cfg m) f = some i := by
  cases hb : Nat.beq f k with
  | false => simp [hb] at h
  | true => have := Nat.eq_of_beq_eq_true hb; subst this; simp [hb] at h; rw [hk, h]
theorem T_ok {m : Int} : TOk Tryz.prog (cfg m) T := fun f i h => ((fun h => bif_some h (fun h => bif_some h (fun h => bif_some h (fun h => leaf h r2)
  (fun h => leaf h r11))
  (fun h => bif_some h (fun h => leaf h r15)
  (fun h => bif_some h (fun h => leaf h r23)
  (fun h => leaf h r24))))
  (fun h => bif_some h (fun h => bif_some h (fun h => leaf h r25)
  (fun h => bif_some h (fun h => leaf h r26)
  (fun h => leaf h r27)))
  (fun h => bif_some h (fun h => leaf h r28)
  (fun h => bif_some h (fun h => leaf h r51)
  (fun h => leaf h r52))))) : T f = some i → resolveF Tryz.prog (cfg m) f = some i) h
theorem t2 : T 2 = some I2 := by kernel_rfl
theorem t11 : T 11 = some I11 := by kernel_rfl
theorem t15 : T 15 = some I15 := by kernel_rfl
theorem t23 : T 23 = some I23 := by kernel_rfl
theorem t24 : T 24 = some I24 := by kernel_rfl
theorem t25 : T 25 = some I25 := by kernel_rfl
theorem t26 : T 26 = some I26 := by kernel_rfl
theorem t27 : T 27 = some I27 := by kernel_rfl
theorem t28 : T 28 = some I28 := by kernel_rfl
theorem t51 : T 51 = some I51 := by kernel_rfl
theorem t52 : T 52 = some I52 := by kernel_rfl
end Go.Proofs.YtmnajffpmbidiaaGreatDoor.Ic
/- Rules by which code that is worked out is reckoned with letters. -/
namespace Go.Proofs.YtmnajffpmbidiaaGreatDoor.Ev
set_option linter.all false
variable {P : Program} {g : Cfg} {F : FSem}
theorem getE_0 (H : Mem) (L : List Blk) : (H ++ L)[H.length]? = L[0]? := by rw [List.getElem?_append_right (Nat.le_refl _), Nat.sub_self]
theorem getE_k (H : Mem) (L : List Blk) (k : Nat) : (H ++ L)[H.length + k]? = L[k]? := by rw [List.getElem?_append_right (Nat.le_add_right _ _), Nat.add_sub_cancel_left]
theorem setE_0 (H : Mem) (L : List Blk) (b : Blk) : (H ++ L).set H.length b = H ++ L.set 0 b := by rw [List.set_append_right _ _ (Nat.le_refl _), Nat.sub_self]
theorem setE_k (H : Mem) (L : List Blk) (k : Nat) (b : Blk) : (H ++ L).set (H.length + k) b = H ++ L.set k b := by rw [List.set_append_right _ _ (Nat.le_add_right _ _), Nat.add_sub_cancel_left]
theorem takeE_0 (H : Mem) (L : List Blk) : (H ++ L).take H.length = H := by simp
theorem takeE_k (H : Mem) (L : List Blk) (k : Nat) : (H ++ L).take (H.length + k) = H ++ L.take k := by
  rw [List.take_append, List.take_of_length_le (Nat.le_add_right _ _), Nat.add_sub_cancel_left]
theorem eqM_app (H : Mem) (L : List Blk) : eqM (H ++ L) (H ++ L) = true := eqM_refl _
theorem loopA_succ (body : AAct → Mem → Option (Out × AAct × Mem)) (lv : Option (List Tmp)) (n : Nat) (a : AAct) (H : Mem) : loopA body lv (n + 1) a H = match body a H with
    | some (.normal, a', H') => loopA body lv n (roundEnd lv H a' H').1 (roundEnd lv H a' H').2
    | r => r := rfl
theorem bq_ft : (false == true) = false := rfl
theorem bq_tf : (true == false) = false := rfl
theorem lt_lit {k m : Nat} (n : Nat) (h : k < m) : (k < n + m) = True := by simp; omega
theorem le_lit {k m : Nat} (n : Nat) (h : k ≤ m) : (k ≤ n + m) = True := by simp; omega
theorem lt_lit2 {k m : Nat} (n : Nat) (h : k < m) : (k < m + n) = True := by simp; omega
theorem le_lit2 {k m : Nat} (n : Nat) (h : k ≤ m) : (k ≤ m + n) = True := by simp; omega
theorem le_sub1 {k m j : Nat} (n : Nat) (h : k + j ≤ m) : (k ≤ m + n - j) = True := by simp; omega
theorem le_sub2 {k m j : Nat} (n : Nat) (h : k + j ≤ m) : (k ≤ n + m - j) = True := by simp; omega
theorem takeS (H : Mem) : List.take (List.length H) H = H := List.take_length
theorem le_k (k n : Nat) : k ≤ n + k := Nat.le_add_left _ _
theorem lt_k (n k : Nat) : n < n + (k + 1) := by omega
theorem loopA_go {body : AAct → Mem → Option (Out × AAct × Mem)} {lv : Option (List Tmp)} {n : Nat} {a a' : AAct} {H H' : Mem} {r : Option (Out × AAct × Mem)} (h : body a H = some (.normal, a', H'))
    (h2 : loopA body lv n (roundEnd lv H a' H').1 (roundEnd lv H a' H').2 = r) : loopA body lv (n + 1) a H = r := by
  rw [loopA_succ, h]; exact h2
theorem loopA_exit {body : AAct → Mem → Option (Out × AAct × Mem)} {lv : Option (List Tmp)} {n i : Nat} {a a' : AAct} {H H' : Mem} (h : body a H = some (.exit i, a', H')) : loopA body lv (n + 1) a H = some (.exit i, a', H') := by
  rw [loopA_succ, h]
theorem loopA_ret {body : AAct → Mem → Option (Out × AAct × Mem)} {lv : Option (List Tmp)} {n : Nat} {a a' : AAct} {H H' : Mem} (h : body a H = some (.ret, a', H')) : loopA body lv (n + 1) a H = some (.ret, a', H') := by
  rw [loopA_succ, h]
/-- The loops of code, from outside in, in order. -/
def IC.loops : IC → List IC
  | .seq x y => x.loops ++ y.loops
  | .cond _ x y => x.loops ++ y.loops
  | .block _ c => c.loops
  | .loop _ c => c :: c.loops
  | _ => []
theorem wrap64 {n : Int} (h0 : -9223372036854775808 ≤ n) (h1 : n ≤ 9223372036854775807) : IntKind.wrap .i64 n = n := by
  simp [IntKind.wrap, IntKind.bits, IntKind.signed]; omega
section
variable {N : Nat} {x y c : IC} {a a' a2 : AAct} {H H' H2 : Mem} {r : Option (Out × AAct × Mem)} {id : Nat}
theorem evI_seq (h : evI P g F N x a H = some (.normal, a', H')) (h2 : evI P g F N y a' H' = r) : evI P g F N (.seq x y) a H = r := by
  simp only [evI, h]; exact h2
theorem evI_seq_ret (h : evI P g F N x a H = some (.ret, a', H')) : evI P g F N (.seq x y) a H = some (.ret, a', H') := by simp only [evI, h]
theorem evI_seq_exit (h : evI P g F N x a H = some (.exit id, a', H')) : evI P g F N (.seq x y) a H = some (.exit id, a', H') := by simp only [evI, h]
theorem evI_block_exit (h : evI P g F N c a H = some (.exit id, a', H')) : evI P g F N (.block id c) a H = some (.normal, a', H') := by simp only [evI, h, if_true]
theorem evI_block_ret (h : evI P g F N c a H = some (.ret, a', H')) : evI P g F N (.block id c) a H = some (.ret, a', H') := by simp only [evI, h]
theorem evI_block (h : evI P g F N c a H = some (.normal, a', H')) : evI P g F N (.block id c) a H = some (.normal, a', H') := by simp only [evI, h]
theorem evI_loop {lv : List Tmp} (h : loopA (fun a H => evI P g F N c a H) (some lv) N (a.keepT lv) H = r) : evI P g F N (.loop (some lv) c) a H = r := h
theorem evI_true {v : IArg} (hv : a.evI g v = .bool true) (h : evI P g F N x a H = r) : evI P g F N (.cond v x y) a H = r := by simp only [evI, hv]; exact h
theorem evI_false {v : IArg} (hv : a.evI g v = .bool false) (h : evI P g F N y a H = r) : evI P g F N (.cond v x y) a H = r := by simp only [evI, hv]; exact h
end
section
variable {T : FuncId → Option IF} {N n f m : Nat} {i : IF} {args : List AV} {H H1 H2 : Mem} {a : AAct} {v v' : AV}
theorem evF_ret (hl : g.lib f = none) (hT : T f = some i) (hm : max args.length i.n = m) (hb : evI P g (evFI P g T N n) N i.c ⟨m, idx 0 args, []⟩ H = some (.ret, a, H1)) (hd : a.d = []) (hr : resI i.res a H1 = some v) (hz : finish (g.keep f) H v H1 = (v', H2)) :
    evFI P g T N (n + 1) f args H = some (.ret v', H2) := by
  simp only [evFI, hl, hT, hm, hb, hd, List.isEmpty_nil, if_true, hr, Option.map_some, hz]
theorem evF_nrm (hl : g.lib f = none) (hT : T f = some i) (hm : max args.length i.n = m) (hb : evI P g (evFI P g T N n) N i.c ⟨m, idx 0 args, []⟩ H = some (.normal, a, H1)) (hd : a.d = []) (hr : resI i.res a H1 = some v) (hz : finish (g.keep f) H v H1 = (v', H2)) :
    evFI P g T N (n + 1) f args H = some (.ret v', H2) := by
  simp only [evFI, hl, hT, hm, hb, hd, List.isEmpty_nil, if_true, hr, Option.map_some, hz]
end
/-- A value that names no block. -/
def pure (x : AV) : Bool := low 0 x
theorem pure_low {x : AV} (h : low 0 x = true) (n : Nat) : low n x = true := low_mono (Nat.zero_le n) h
theorem pureL_low {x : List AV} (h : lowL 0 x = true) (n : Nat) : lowL n x = true := lowL_mono (Nat.zero_le n) h
theorem lowL_app (n : Nat) : ∀ (a b : List AV), lowL n (a ++ b) = (lowL n a && lowL n b)
  | [], b => by simp [lowL]
  | x :: a, b => by simp [lowL, lowL_app n a b, Bool.and_assoc]
end Go.Proofs.YtmnajffpmbidiaaGreatDoor.Ev
