/- Parts of one proof. -/
import Derived.Test.YtlimneghgioeaaaGreatDoorMci
import Derived.Test.YtlimneghgioeaaaGreatDoorMcg
set_option linter.all false
namespace Go.Proofs.YtlimneghgioeaaaGreatDoor.Ic
open Go Go.Proofs Go.Proofs.YtlimneghgioeaaaGreatDoor.Ev
set_option maxRecDepth 100000
noncomputable def T (f : FuncId) : Option IF := (bif Nat.blt f 22 then (bif Nat.blt f 12 then (bif Nat.blt f 7 then (bif Nat.blt f 5 then (bif Nat.blt f 3 then (bif Nat.beq f 2 then some I2 else none)
  else (bif Nat.beq f 3 then some I3 else none))
  else (bif Nat.blt f 6 then (bif Nat.beq f 5 then some I5 else none)
  else (bif Nat.beq f 6 then some I6 else none)))
  else (bif Nat.blt f 10 then (bif Nat.blt f 8 then (bif Nat.beq f 7 then some I7 else none)
  else (bif Nat.beq f 8 then some I8 else none))
  else (bif Nat.blt f 11 then (bif Nat.beq f 10 then some I10 else none)
  else (bif Nat.beq f 11 then some I11 else none))))
  else (bif Nat.blt f 17 then (bif Nat.blt f 15 then (bif Nat.blt f 13 then (bif Nat.beq f 12 then some I12 else none)
  else (bif Nat.beq f 13 then some I13 else none))
  else (bif Nat.blt f 16 then (bif Nat.beq f 15 then some I15 else none)
  else (bif Nat.beq f 16 then some I16 else none)))
  else (bif Nat.blt f 19 then (bif Nat.blt f 18 then (bif Nat.beq f 17 then some I17 else none)
  else (bif Nat.beq f 18 then some I18 else none))
  else (bif Nat.blt f 20 then (bif Nat.beq f 19 then some I19 else none)
  else (bif Nat.blt f 21 then (bif Nat.beq f 20 then some I20 else none)
  else (bif Nat.beq f 21 then some I21 else none))))))
  else (bif Nat.blt f 33 then (bif Nat.blt f 27 then (bif Nat.blt f 24 then (bif Nat.blt f 23 then (bif Nat.beq f 22 then some I22 else none)
  else (bif Nat.beq f 23 then some I23 else none))
  else (bif Nat.blt f 26 then (bif Nat.beq f 24 then some I24 else none)
  else (bif Nat.beq f 26 then some I26 else none)))
  else (bif Nat.blt f 29 then (bif Nat.blt f 28 then (bif Nat.beq f 27 then some I27 else none)
  else (bif Nat.beq f 28 then some I28 else none))
  else (bif Nat.blt f 30 then (bif Nat.beq f 29 then some I29 else none)
  else (bif Nat.beq f 30 then some I30 else none))))
  else (bif Nat.blt f 37 then (bif Nat.blt f 35 then (bif Nat.blt f 34 then (bif Nat.beq f 33 then some I33 else none)
  else (bif Nat.beq f 34 then some I34 else none))
  else (bif Nat.blt f 36 then (bif Nat.beq f 35 then some I35 else none)
  else (bif Nat.beq f 36 then some I36 else none)))
  else (bif Nat.blt f 52 then (bif Nat.blt f 42 then (bif Nat.beq f 37 then some I37 else none)
  else (bif Nat.beq f 42 then some I42 else none))
  else (bif Nat.blt f 64 then (bif Nat.beq f 52 then some I52 else none)
  else (bif Nat.blt f 65 then (bif Nat.beq f 64 then some I64 else none)
  else (bif Nat.beq f 65 then some I65 else none)))))))
theorem bif_some {b : Bool} {x y : Option IF} {i : IF} {Q : Prop} (h : (bif b then x else y) = some i) (hx : x = some i → Q) (hy : y = some i → Q) : Q := by
  cases b <;> simp at h <;> first | exact hy h | exact hx h
theorem leaf {f k : Nat} {j i : IF} (h : (bif Nat.beq f k then some j else none) = some i) (hk : resolveF Tryz.prog cfg k = some j) : resolveF Tryz.prog cfg f = some i := by
  cases hb : Nat.beq f k with
  | false => simp [hb] at h
  | true => have := Nat.eq_of_beq_eq_true hb; subst this; simp [hb] at h; rw [hk, h]
theorem T_ok : TOk Tryz.prog cfg T := fun f i h => ((fun h => bif_some h (fun h => bif_some h (fun h => bif_some h (fun h => bif_some h (fun h => bif_some h (fun h => leaf h r2)
  (fun h => leaf h r3))
  (fun h => bif_some h (fun h => leaf h r5)
  (fun h => leaf h r6)))
  (fun h => bif_some h (fun h => bif_some h (fun h => leaf h r7)
  (fun h => leaf h r8))
  (fun h => bif_some h (fun h => leaf h r10)
  (fun h => leaf h r11))))
  (fun h => bif_some h (fun h => bif_some h (fun h => bif_some h (fun h => leaf h r12)
  (fun h => leaf h r13))
  (fun h => bif_some h (fun h => leaf h r15)
  (fun h => leaf h r16)))
  (fun h => bif_some h (fun h => bif_some h (fun h => leaf h r17)
  (fun h => leaf h r18))
  (fun h => bif_some h (fun h => leaf h r19)
  (fun h => bif_some h (fun h => leaf h r20)
  (fun h => leaf h r21))))))
  (fun h => bif_some h (fun h => bif_some h (fun h => bif_some h (fun h => bif_some h (fun h => leaf h r22)
  (fun h => leaf h r23))
  (fun h => bif_some h (fun h => leaf h r24)
  (fun h => leaf h r26)))
  (fun h => bif_some h (fun h => bif_some h (fun h => leaf h r27)
  (fun h => leaf h r28))
  (fun h => bif_some h (fun h => leaf h r29)
  (fun h => leaf h r30))))
  (fun h => bif_some h (fun h => bif_some h (fun h => bif_some h (fun h => leaf h r33)
  (fun h => leaf h r34))
  (fun h => bif_some h (fun h => leaf h r35)
  (fun h => leaf h r36)))
  (fun h => bif_some h (fun h => bif_some h (fun h => leaf h r37)
  (fun h => leaf h r42))
  (fun h => bif_some h (fun h => leaf h r52)
  (fun h => bif_some h (fun h => leaf h r64)
  (fun h => leaf h r65))))))) : T f = some i → resolveF Tryz.prog cfg f = some i) h
theorem t2 : T 2 = some I2 := by kernel_rfl
theorem t3 : T 3 = some I3 := by kernel_rfl
theorem t5 : T 5 = some I5 := by kernel_rfl
theorem t6 : T 6 = some I6 := by kernel_rfl
theorem t7 : T 7 = some I7 := by kernel_rfl
theorem t8 : T 8 = some I8 := by kernel_rfl
theorem t12 : T 12 = some I12 := by kernel_rfl
theorem t13 : T 13 = some I13 := by kernel_rfl
theorem t15 : T 15 = some I15 := by kernel_rfl
theorem t16 : T 16 = some I16 := by kernel_rfl
theorem t17 : T 17 = some I17 := by kernel_rfl
theorem t18 : T 18 = some I18 := by kernel_rfl
theorem t19 : T 19 = some I19 := by kernel_rfl
theorem t20 : T 20 = some I20 := by kernel_rfl
theorem t21 : T 21 = some I21 := by kernel_rfl
theorem t22 : T 22 = some I22 := by kernel_rfl
theorem t23 : T 23 = some I23 := by kernel_rfl
theorem t24 : T 24 = some I24 := by kernel_rfl
theorem t30 : T 30 = some I30 := by kernel_rfl
theorem t33 : T 33 = some I33 := by kernel_rfl
theorem t34 : T 34 = some I34 := by kernel_rfl
theorem t35 : T 35 = some I35 := by kernel_rfl
theorem t36 : T 36 = some I36 := by kernel_rfl
theorem t37 : T 37 = some I37 := by kernel_rfl
theorem t52 : T 52 = some I52 := by kernel_rfl
theorem t64 : T 64 = some I64 := by kernel_rfl
theorem t65 : T 65 = some I65 := by kernel_rfl
end Go.Proofs.YtlimneghgioeaaaGreatDoor.Ic
namespace Go.Proofs.YtlimneghgioeaaaGreatDoor.Ev
variable {P : Program} {g : Cfg} {F : FSem}
theorem getE_0 (H : Mem) (L : List Blk) : (H ++ L)[H.length]? = L[0]? := by rw [List.getElem?_append_right (Nat.le_refl _), Nat.sub_self]
theorem getE_k (H : Mem) (L : List Blk) (k : Nat) : (H ++ L)[H.length + k]? = L[k]? := by rw [List.getElem?_append_right (Nat.le_add_right _ _), Nat.add_sub_cancel_left]
theorem setE_0 (H : Mem) (L : List Blk) (b : Blk) : (H ++ L).set H.length b = H ++ L.set 0 b := by rw [List.set_append_right _ _ (Nat.le_refl _), Nat.sub_self]
theorem setE_k (H : Mem) (L : List Blk) (k : Nat) (b : Blk) : (H ++ L).set (H.length + k) b = H ++ L.set k b := by rw [List.set_append_right _ _ (Nat.le_add_right _ _), Nat.add_sub_cancel_left]
theorem takeE_0 (H : Mem) (L : List Blk) : (H ++ L).take H.length = H := by simp
theorem takeE_k (H : Mem) (L : List Blk) (k : Nat) : (H ++ L).take (H.length + k) = H ++ L.take k := by
  rw [List.take_append, List.take_of_length_le (Nat.le_add_right _ _), Nat.add_sub_cancel_left]
theorem eqM_app (H : Mem) (L : List Blk) : eqM (H ++ L) (H ++ L) = true := eqM_refl _
theorem loopA_succ (body : AAct → Mem → Option (Out × AAct × Mem)) (lv : Option (List Tmp)) (n : Nat) (a : AAct) (H : Mem) : loopA body lv (n + 1) a H = match body a H with
    | some (.normal, a', H') => loopA body lv n (roundEnd lv H a' H').1 (roundEnd lv H a' H').2
    | r => r := rfl
theorem bq_ft : (false == true) = false := rfl
theorem bq_tf : (true == false) = false := rfl
theorem lt_lit {k m : Nat} (n : Nat) (h : k < m) : (k < n + m) = True := by simp; omega
theorem le_lit {k m : Nat} (n : Nat) (h : k ≤ m) : (k ≤ n + m) = True := by simp; omega
theorem lt_lit2 {k m : Nat} (n : Nat) (h : k < m) : (k < m + n) = True := by simp; omega
theorem le_lit2 {k m : Nat} (n : Nat) (h : k ≤ m) : (k ≤ m + n) = True := by simp; omega
theorem le_sub1 {k m j : Nat} (n : Nat) (h : k + j ≤ m) : (k ≤ m + n - j) = True := by simp; omega
theorem le_sub2 {k m j : Nat} (n : Nat) (h : k + j ≤ m) : (k ≤ n + m - j) = True := by simp; omega
theorem takeS (H : Mem) : List.take (List.length H) H = H := List.take_length
theorem lt_k (n k : Nat) : n < n + (k + 1) := by omega
theorem loopA_go {body : AAct → Mem → Option (Out × AAct × Mem)} {lv : Option (List Tmp)} {n : Nat} {a a' : AAct} {H H' : Mem} {r : Option (Out × AAct × Mem)} (h : body a H = some (.normal, a', H'))
    (h2 : loopA body lv n (roundEnd lv H a' H').1 (roundEnd lv H a' H').2 = r) : loopA body lv (n + 1) a H = r := by
  rw [loopA_succ, h]; exact h2
theorem loopA_exit {body : AAct → Mem → Option (Out × AAct × Mem)} {lv : Option (List Tmp)} {n i : Nat} {a a' : AAct} {H H' : Mem} (h : body a H = some (.exit i, a', H')) : loopA body lv (n + 1) a H = some (.exit i, a', H') := by
  rw [loopA_succ, h]
theorem loopA_ret {body : AAct → Mem → Option (Out × AAct × Mem)} {lv : Option (List Tmp)} {n : Nat} {a a' : AAct} {H H' : Mem} (h : body a H = some (.ret, a', H')) : loopA body lv (n + 1) a H = some (.ret, a', H') := by
  rw [loopA_succ, h]
def IC.loops : IC → List IC
  | .seq x y => x.loops ++ y.loops
  | .cond _ x y => x.loops ++ y.loops
  | .block _ c => c.loops
  | .loop _ c => c :: c.loops
  | _ => []
theorem wrap64 {n : Int} (h0 : -9223372036854775808 ≤ n) (h1 : n ≤ 9223372036854775807) : IntKind.wrap .i64 n = n := by
  simp [IntKind.wrap, IntKind.bits, IntKind.signed]; omega
section
variable {N : Nat} {x y c : IC} {a a' a2 : AAct} {H H' H2 : Mem} {r : Option (Out × AAct × Mem)} {id : Nat}
theorem evI_seq (h : evI P g F N x a H = some (.normal, a', H')) (h2 : evI P g F N y a' H' = r) : evI P g F N (.seq x y) a H = r := by
  simp only [evI,h]; exact h2
theorem evI_seq_ret (h : evI P g F N x a H = some (.ret, a', H')) : evI P g F N (.seq x y) a H = some (.ret, a', H') := by simp only [evI,h]
theorem evI_block_exit (h : evI P g F N c a H = some (.exit id, a', H')) : evI P g F N (.block id c) a H = some (.normal, a', H') := by simp only [evI,h,if_true]
theorem evI_block_ret (h : evI P g F N c a H = some (.ret, a', H')) : evI P g F N (.block id c) a H = some (.ret, a', H') := by simp only [evI,h]
theorem evI_block (h : evI P g F N c a H = some (.normal, a', H')) : evI P g F N (.block id c) a H = some (.normal, a', H') := by simp only [evI,h]
theorem evI_loop {lv : List Tmp} (h : loopA (fun a H => evI P g F N c a H) (some lv) N (a.keepT lv) H = r) : evI P g F N (.loop (some lv) c) a H = r := h
end
section
variable {T : FuncId → Option IF} {N n f m : Nat} {i : IF} {args : List AV} {H H1 H2 : Mem} {a : AAct} {v v' : AV}
theorem evF_ret (hl : g.lib f = none) (hT : T f = some i) (hm : max args.length i.n = m) (hb : evI P g (evFI P g T N n) N i.c ⟨m, idx 0 args, []⟩ H = some (.ret, a, H1)) (hd : a.d = []) (hr : resI i.res a H1 = some v) (hz : finish (g.keep f) H v H1 = (v', H2)) :
    evFI P g T N (n + 1) f args H = some (.ret v', H2) := by
  simp only [evFI,hl,hT,hm,hb,hd,List.isEmpty_nil,if_true,hr,Zh,hz]
end
theorem fin_len {keep : Bool} {v : AV} {H0 H1 : Mem} (hf : (if keep then some v else frz H0.length H1 12 v) = some v) (hlen : H1.length = H0.length) : finish keep H0 v H1 = (v, H1) := by
  unfold finish
  rw [hf]
  simp only []
  split
  · rw [List.take_of_length_le (by omega)]
  · rfl
def pure (x : AV) : Bool := low 0 x
theorem lowL_app (n : Nat) : ∀ (a b : List AV), lowL n (a ++ b) = (lowL n a && lowL n b)
  | [], b => by simp [lowL]
  | x :: a, b => by simp [lowL, lowL_app n a b, Bool.and_assoc]
end Go.Proofs.YtlimneghgioeaaaGreatDoor.Ev
