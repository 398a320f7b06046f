/- Parts of one proof. -/
import Derived.Test.YtmnajffpmbidiaaGreatDoorMci
import Derived.Test.YtmnajffpmbidiaaGreatDoorMcj
import Derived.Test.YtmnajffpmbidiaaGreatDoorMcg
set_option linter.all false
namespace Go.Proofs.YtmnajffpmbidiaaGreatDoor.Ic
open Go Go.Proofs Go.Proofs.YtmnajffpmbidiaaGreatDoor.Ev
set_option maxRecDepth 100000
noncomputable def T (f : FuncId) : Option IF := (bif Nat.blt f 62 then (bif Nat.blt f 33 then (bif Nat.blt f 9 then (bif Nat.blt f 5 then (bif Nat.blt f 3 then (bif Nat.beq f 2 then some I2 else none)
  else (bif Nat.blt f 4 then (bif Nat.beq f 3 then some I3 else none)
  else (bif Nat.beq f 4 then some I4 else none)))
  else (bif Nat.blt f 7 then (bif Nat.blt f 6 then (bif Nat.beq f 5 then some I5 else none)
  else (bif Nat.beq f 6 then some I6 else none))
  else (bif Nat.blt f 8 then (bif Nat.beq f 7 then some I7 else none)
  else (bif Nat.beq f 8 then some I8 else none))))
  else (bif Nat.blt f 21 then (bif Nat.blt f 19 then (bif Nat.blt f 13 then (bif Nat.beq f 9 then some I9 else none)
  else (bif Nat.beq f 13 then some I13 else none))
  else (bif Nat.blt f 20 then (bif Nat.beq f 19 then some I19 else none)
  else (bif Nat.beq f 20 then some I20 else none)))
  else (bif Nat.blt f 30 then (bif Nat.blt f 29 then (bif Nat.beq f 21 then some I21 else none)
  else (bif Nat.beq f 29 then some I29 else none))
  else (bif Nat.blt f 31 then (bif Nat.beq f 30 then some I30 else none)
  else (bif Nat.beq f 31 then some I31 else none)))))
  else (bif Nat.blt f 49 then (bif Nat.blt f 38 then (bif Nat.blt f 35 then (bif Nat.blt f 34 then (bif Nat.beq f 33 then some I33 else none)
  else (bif Nat.beq f 34 then some I34 else none))
  else (bif Nat.blt f 37 then (bif Nat.beq f 35 then some I35 else none)
  else (bif Nat.beq f 37 then some I37 else none)))
  else (bif Nat.blt f 47 then (bif Nat.blt f 46 then (bif Nat.beq f 38 then some I38 else none)
  else (bif Nat.beq f 46 then some I46 else none))
  else (bif Nat.blt f 48 then (bif Nat.beq f 47 then some I47 else none)
  else (bif Nat.beq f 48 then some I48 else none))))
  else (bif Nat.blt f 56 then (bif Nat.blt f 53 then (bif Nat.blt f 51 then (bif Nat.beq f 49 then some I49 else none)
  else (bif Nat.beq f 51 then some I51 else none))
  else (bif Nat.blt f 55 then (bif Nat.beq f 53 then some I53 else none)
  else (bif Nat.beq f 55 then some I55 else none)))
  else (bif Nat.blt f 59 then (bif Nat.blt f 57 then (bif Nat.beq f 56 then some I56 else none)
  else (bif Nat.beq f 57 then some I57 else none))
  else (bif Nat.blt f 60 then (bif Nat.beq f 59 then some I59 else none)
  else (bif Nat.beq f 60 then some I60 else none))))))
  else (bif Nat.blt f 93 then (bif Nat.blt f 75 then (bif Nat.blt f 66 then (bif Nat.blt f 64 then (bif Nat.beq f 62 then some I62 else none)
  else (bif Nat.blt f 65 then (bif Nat.beq f 64 then some I64 else none)
  else (bif Nat.beq f 65 then some I65 else none)))
  else (bif Nat.blt f 70 then (bif Nat.blt f 67 then (bif Nat.beq f 66 then some I66 else none)
  else (bif Nat.beq f 67 then some I67 else none))
  else (bif Nat.blt f 72 then (bif Nat.beq f 70 then some I70 else none)
  else (bif Nat.beq f 72 then some I72 else none))))
  else (bif Nat.blt f 89 then (bif Nat.blt f 79 then (bif Nat.blt f 76 then (bif Nat.beq f 75 then some I75 else none)
  else (bif Nat.beq f 76 then some I76 else none))
  else (bif Nat.blt f 85 then (bif Nat.beq f 79 then some I79 else none)
  else (bif Nat.beq f 85 then some I85 else none)))
  else (bif Nat.blt f 91 then (bif Nat.blt f 90 then (bif Nat.beq f 89 then some I89 else none)
  else (bif Nat.beq f 90 then some I90 else none))
  else (bif Nat.blt f 92 then (bif Nat.beq f 91 then some I91 else none)
  else (bif Nat.beq f 92 then some I92 else none)))))
  else (bif Nat.blt f 138 then (bif Nat.blt f 105 then (bif Nat.blt f 95 then (bif Nat.blt f 94 then (bif Nat.beq f 93 then some I93 else none)
  else (bif Nat.beq f 94 then some I94 else none))
  else (bif Nat.blt f 102 then (bif Nat.beq f 95 then some I95 else none)
  else (bif Nat.beq f 102 then some I102 else none)))
  else (bif Nat.blt f 115 then (bif Nat.blt f 114 then (bif Nat.beq f 105 then some I105 else none)
  else (bif Nat.beq f 114 then some I114 else none))
  else (bif Nat.blt f 127 then (bif Nat.beq f 115 then some I115 else none)
  else (bif Nat.beq f 127 then some I127 else none))))
  else (bif Nat.blt f 157 then (bif Nat.blt f 146 then (bif Nat.blt f 139 then (bif Nat.beq f 138 then some I138 else none)
  else (bif Nat.beq f 139 then some I139 else none))
  else (bif Nat.blt f 156 then (bif Nat.beq f 146 then some I146 else none)
  else (bif Nat.beq f 156 then some I156 else none)))
  else (bif Nat.blt f 160 then (bif Nat.blt f 159 then (bif Nat.beq f 157 then some I157 else none)
  else (bif Nat.beq f 159 then some I159 else none))
  else (bif Nat.blt f 162 then (bif Nat.beq f 160 then some I160 else none)
  else (bif Nat.beq f 162 then some I162 else none)))))))
theorem bif_some {b : Bool} {x y : Option IF} {i : IF} {Q : Prop} (h : (bif b then x else y) = some i) (hx : x = some i → Q) (hy : y = some i → Q) : Q := by
  cases b <;> simp at h <;> first | exact hy h | exact hx h
theorem leaf {m : Int} {f k : Nat} {j i : IF} (h : (bif Nat.beq f k then some j else none) = some i) (hk : resolveF Tryz.prog (cfg m) k = some j) : resolveF Tryz.prog (cfg m) f = some i := by
  cases hb : Nat.beq f k with
  | false => simp [hb] at h
  | true => have := Nat.eq_of_beq_eq_true hb; subst this; simp [hb] at h; rw [hk, h]
theorem T_ok {m : Int} : TOk Tryz.prog (cfg m) T := fun f i h => ((fun h => bif_some h (fun h => bif_some h (fun h => bif_some h (fun h => bif_some h (fun h => bif_some h (fun h => leaf h r2)
  (fun h => bif_some h (fun h => leaf h r3)
  (fun h => leaf h r4)))
  (fun h => bif_some h (fun h => bif_some h (fun h => leaf h r5)
  (fun h => leaf h r6))
  (fun h => bif_some h (fun h => leaf h r7)
  (fun h => leaf h r8))))
  (fun h => bif_some h (fun h => bif_some h (fun h => bif_some h (fun h => leaf h r9)
  (fun h => leaf h r13))
  (fun h => bif_some h (fun h => leaf h r19)
  (fun h => leaf h r20)))
  (fun h => bif_some h (fun h => bif_some h (fun h => leaf h r21)
  (fun h => leaf h r29))
  (fun h => bif_some h (fun h => leaf h r30)
  (fun h => leaf h r31)))))
  (fun h => bif_some h (fun h => bif_some h (fun h => bif_some h (fun h => bif_some h (fun h => leaf h r33)
  (fun h => leaf h r34))
  (fun h => bif_some h (fun h => leaf h r35)
  (fun h => leaf h r37)))
  (fun h => bif_some h (fun h => bif_some h (fun h => leaf h r38)
  (fun h => leaf h r46))
  (fun h => bif_some h (fun h => leaf h r47)
  (fun h => leaf h r48))))
  (fun h => bif_some h (fun h => bif_some h (fun h => bif_some h (fun h => leaf h r49)
  (fun h => leaf h r51))
  (fun h => bif_some h (fun h => leaf h r53)
  (fun h => leaf h r55)))
  (fun h => bif_some h (fun h => bif_some h (fun h => leaf h r56)
  (fun h => leaf h r57))
  (fun h => bif_some h (fun h => leaf h r59)
  (fun h => leaf h r60))))))
  (fun h => bif_some h (fun h => bif_some h (fun h => bif_some h (fun h => bif_some h (fun h => leaf h r62)
  (fun h => bif_some h (fun h => leaf h r64)
  (fun h => leaf h r65)))
  (fun h => bif_some h (fun h => bif_some h (fun h => leaf h r66)
  (fun h => leaf h r67))
  (fun h => bif_some h (fun h => leaf h r70)
  (fun h => leaf h r72))))
  (fun h => bif_some h (fun h => bif_some h (fun h => bif_some h (fun h => leaf h r75)
  (fun h => leaf h r76))
  (fun h => bif_some h (fun h => leaf h r79)
  (fun h => leaf h r85)))
  (fun h => bif_some h (fun h => bif_some h (fun h => leaf h r89)
  (fun h => leaf h r90))
  (fun h => bif_some h (fun h => leaf h r91)
  (fun h => leaf h r92)))))
  (fun h => bif_some h (fun h => bif_some h (fun h => bif_some h (fun h => bif_some h (fun h => leaf h r93)
  (fun h => leaf h r94))
  (fun h => bif_some h (fun h => leaf h r95)
  (fun h => leaf h r102)))
  (fun h => bif_some h (fun h => bif_some h (fun h => leaf h r105)
  (fun h => leaf h r114))
  (fun h => bif_some h (fun h => leaf h r115)
  (fun h => leaf h r127))))
  (fun h => bif_some h (fun h => bif_some h (fun h => bif_some h (fun h => leaf h r138)
  (fun h => leaf h r139))
  (fun h => bif_some h (fun h => leaf h r146)
  (fun h => leaf h r156)))
  (fun h => bif_some h (fun h => bif_some h (fun h => leaf h r157)
  (fun h => leaf h r159))
  (fun h => bif_some h (fun h => leaf h r160)
  (fun h => leaf h r162))))))) : T f = some i → resolveF Tryz.prog (cfg m) f = some i) h
theorem t2 : T 2 = some I2 := by kernel_rfl
theorem t3 : T 3 = some I3 := by kernel_rfl
theorem t4 : T 4 = some I4 := by kernel_rfl
theorem t5 : T 5 = some I5 := by kernel_rfl
theorem t6 : T 6 = some I6 := by kernel_rfl
theorem t7 : T 7 = some I7 := by kernel_rfl
theorem t8 : T 8 = some I8 := by kernel_rfl
theorem t9 : T 9 = some I9 := by kernel_rfl
theorem t13 : T 13 = some I13 := by kernel_rfl
theorem t19 : T 19 = some I19 := by kernel_rfl
theorem t20 : T 20 = some I20 := by kernel_rfl
theorem t21 : T 21 = some I21 := by kernel_rfl
theorem t29 : T 29 = some I29 := by kernel_rfl
theorem t30 : T 30 = some I30 := by kernel_rfl
theorem t31 : T 31 = some I31 := by kernel_rfl
theorem t33 : T 33 = some I33 := by kernel_rfl
theorem t34 : T 34 = some I34 := by kernel_rfl
theorem t35 : T 35 = some I35 := by kernel_rfl
theorem t37 : T 37 = some I37 := by kernel_rfl
theorem t38 : T 38 = some I38 := by kernel_rfl
theorem t46 : T 46 = some I46 := by kernel_rfl
theorem t47 : T 47 = some I47 := by kernel_rfl
theorem t48 : T 48 = some I48 := by kernel_rfl
theorem t49 : T 49 = some I49 := by kernel_rfl
theorem t51 : T 51 = some I51 := by kernel_rfl
theorem t53 : T 53 = some I53 := by kernel_rfl
theorem t55 : T 55 = some I55 := by kernel_rfl
theorem t56 : T 56 = some I56 := by kernel_rfl
theorem t57 : T 57 = some I57 := by kernel_rfl
theorem t59 : T 59 = some I59 := by kernel_rfl
theorem t60 : T 60 = some I60 := by kernel_rfl
theorem t62 : T 62 = some I62 := by kernel_rfl
theorem t64 : T 64 = some I64 := by kernel_rfl
theorem t65 : T 65 = some I65 := by kernel_rfl
theorem t66 : T 66 = some I66 := by kernel_rfl
theorem t70 : T 70 = some I70 := by kernel_rfl
theorem t72 : T 72 = some I72 := by kernel_rfl
theorem t75 : T 75 = some I75 := by kernel_rfl
theorem t76 : T 76 = some I76 := by kernel_rfl
theorem t79 : T 79 = some I79 := by kernel_rfl
theorem t85 : T 85 = some I85 := by kernel_rfl
theorem t89 : T 89 = some I89 := by kernel_rfl
theorem t90 : T 90 = some I90 := by kernel_rfl
theorem t91 : T 91 = some I91 := by kernel_rfl
theorem t92 : T 92 = some I92 := by kernel_rfl
theorem t93 : T 93 = some I93 := by kernel_rfl
theorem t102 : T 102 = some I102 := by kernel_rfl
theorem t105 : T 105 = some I105 := by kernel_rfl
theorem t114 : T 114 = some I114 := by kernel_rfl
theorem t115 : T 115 = some I115 := by kernel_rfl
theorem t127 : T 127 = some I127 := by kernel_rfl
theorem t138 : T 138 = some I138 := by kernel_rfl
theorem t139 : T 139 = some I139 := by kernel_rfl
theorem t146 : T 146 = some I146 := by kernel_rfl
theorem t156 : T 156 = some I156 := by kernel_rfl
theorem t157 : T 157 = some I157 := by kernel_rfl
theorem t159 : T 159 = some I159 := by kernel_rfl
theorem t160 : T 160 = some I160 := by kernel_rfl
theorem t162 : T 162 = some I162 := by kernel_rfl
end Go.Proofs.YtmnajffpmbidiaaGreatDoor.Ic
namespace Go.Proofs.YtmnajffpmbidiaaGreatDoor.Ev
variable {P : Program} {g : Cfg} {F : FSem}
theorem getE_0 (H : Mem) (L : List Blk) : (H ++ L)[H.length]? = L[0]? := by rw [List.getElem?_append_right (Nat.le_refl _), Nat.sub_self]
theorem getE_k (H : Mem) (L : List Blk) (k : Nat) : (H ++ L)[H.length + k]? = L[k]? := by rw [List.getElem?_append_right (Nat.le_add_right _ _), Nat.add_sub_cancel_left]
theorem setE_0 (H : Mem) (L : List Blk) (b : Blk) : (H ++ L).set H.length b = H ++ L.set 0 b := by rw [List.set_append_right _ _ (Nat.le_refl _), Nat.sub_self]
theorem setE_k (H : Mem) (L : List Blk) (k : Nat) (b : Blk) : (H ++ L).set (H.length + k) b = H ++ L.set k b := by rw [List.set_append_right _ _ (Nat.le_add_right _ _), Nat.add_sub_cancel_left]
theorem takeE_0 (H : Mem) (L : List Blk) : (H ++ L).take H.length = H := by simp
theorem takeE_k (H : Mem) (L : List Blk) (k : Nat) : (H ++ L).take (H.length + k) = H ++ L.take k := by
  rw [List.take_append, List.take_of_length_le (Nat.le_add_right _ _), Nat.add_sub_cancel_left]
theorem eqM_app (H : Mem) (L : List Blk) : eqM (H ++ L) (H ++ L) = true := eqM_refl _
theorem loopA_succ (body : AAct → Mem → Option (Out × AAct × Mem)) (lv : Option (List Tmp)) (n : Nat) (a : AAct) (H : Mem) : loopA body lv (n + 1) a H = match body a H with
    | some (.normal, a', H') => loopA body lv n (roundEnd lv H a' H').1 (roundEnd lv H a' H').2
    | r => r := rfl
theorem bq_ft : (false == true) = false := rfl
theorem bq_tf : (true == false) = false := rfl
theorem lt_lit {k m : Nat} (n : Nat) (h : k < m) : (k < n + m) = True := by simp; omega
theorem le_lit {k m : Nat} (n : Nat) (h : k ≤ m) : (k ≤ n + m) = True := by simp; omega
theorem lt_lit2 {k m : Nat} (n : Nat) (h : k < m) : (k < m + n) = True := by simp; omega
theorem le_lit2 {k m : Nat} (n : Nat) (h : k ≤ m) : (k ≤ m + n) = True := by simp; omega
theorem le_sub1 {k m j : Nat} (n : Nat) (h : k + j ≤ m) : (k ≤ m + n - j) = True := by simp; omega
theorem le_sub2 {k m j : Nat} (n : Nat) (h : k + j ≤ m) : (k ≤ n + m - j) = True := by simp; omega
theorem takeS (H : Mem) : List.take (List.length H) H = H := List.take_length
theorem lt_k (n k : Nat) : n < n + (k + 1) := by omega
theorem loopA_go {body : AAct → Mem → Option (Out × AAct × Mem)} {lv : Option (List Tmp)} {n : Nat} {a a' : AAct} {H H' : Mem} {r : Option (Out × AAct × Mem)} (h : body a H = some (.normal, a', H'))
    (h2 : loopA body lv n (roundEnd lv H a' H').1 (roundEnd lv H a' H').2 = r) : loopA body lv (n + 1) a H = r := by
  rw [loopA_succ, h]; exact h2
theorem loopA_exit {body : AAct → Mem → Option (Out × AAct × Mem)} {lv : Option (List Tmp)} {n i : Nat} {a a' : AAct} {H H' : Mem} (h : body a H = some (.exit i, a', H')) : loopA body lv (n + 1) a H = some (.exit i, a', H') := by
  rw [loopA_succ, h]
theorem loopA_ret {body : AAct → Mem → Option (Out × AAct × Mem)} {lv : Option (List Tmp)} {n : Nat} {a a' : AAct} {H H' : Mem} (h : body a H = some (.ret, a', H')) : loopA body lv (n + 1) a H = some (.ret, a', H') := by
  rw [loopA_succ, h]
def IC.loops : IC → List IC
  | .seq x y => x.loops ++ y.loops
  | .cond _ x y => x.loops ++ y.loops
  | .block _ c => c.loops
  | .loop _ c => c :: c.loops
  | _ => []
theorem wrap64 {n : Int} (h0 : -9223372036854775808 ≤ n) (h1 : n ≤ 9223372036854775807) : IntKind.wrap .i64 n = n := by
  simp [IntKind.wrap, IntKind.bits, IntKind.signed]; omega
section
variable {N : Nat} {x y c : IC} {a a' a2 : AAct} {H H' H2 : Mem} {r : Option (Out × AAct × Mem)} {id : Nat}
theorem evI_seq (h : evI P g F N x a H = some (.normal, a', H')) (h2 : evI P g F N y a' H' = r) : evI P g F N (.seq x y) a H = r := by
  simp only [evI,h]; exact h2
theorem evI_seq_ret (h : evI P g F N x a H = some (.ret, a', H')) : evI P g F N (.seq x y) a H = some (.ret, a', H') := by simp only [evI,h]
theorem evI_seq_exit (h : evI P g F N x a H = some (.exit id, a', H')) : evI P g F N (.seq x y) a H = some (.exit id, a', H') := by simp only [evI,h]
theorem evI_block_exit (h : evI P g F N c a H = some (.exit id, a', H')) : evI P g F N (.block id c) a H = some (.normal, a', H') := by simp only [evI,h,if_true]
theorem evI_block_ret (h : evI P g F N c a H = some (.ret, a', H')) : evI P g F N (.block id c) a H = some (.ret, a', H') := by simp only [evI,h]
theorem evI_block (h : evI P g F N c a H = some (.normal, a', H')) : evI P g F N (.block id c) a H = some (.normal, a', H') := by simp only [evI,h]
theorem evI_loop {lv : List Tmp} (h : loopA (fun a H => evI P g F N c a H) (some lv) N (a.keepT lv) H = r) : evI P g F N (.loop (some lv) c) a H = r := h
theorem evI_true {v : IArg} (hv : a.evI g v = .bool true) (h : evI P g F N x a H = r) : evI P g F N (.cond v x y) a H = r := by simp only [evI,hv]; exact h
theorem evI_false {v : IArg} (hv : a.evI g v = .bool false) (h : evI P g F N y a H = r) : evI P g F N (.cond v x y) a H = r := by simp only [evI,hv]; exact h
end
section
variable {T : FuncId → Option IF} {N n f m : Nat} {i : IF} {args : List AV} {H H1 H2 : Mem} {a : AAct} {v v' : AV}
theorem evF_ret (hl : g.lib f = none) (hT : T f = some i) (hm : max args.length i.n = m) (hb : evI P g (evFI P g T N n) N i.c ⟨m, idx 0 args, []⟩ H = some (.ret, a, H1)) (hd : a.d = []) (hr : resI i.res a H1 = some v) (hz : finish (g.keep f) H v H1 = (v', H2)) :
    evFI P g T N (n + 1) f args H = some (.ret v', H2) := by
  simp only [evFI,hl,hT,hm,hb,hd,List.isEmpty_nil,if_true,hr,Zh,hz]
theorem evF_nrm (hl : g.lib f = none) (hT : T f = some i) (hm : max args.length i.n = m) (hb : evI P g (evFI P g T N n) N i.c ⟨m, idx 0 args, []⟩ H = some (.normal, a, H1)) (hd : a.d = []) (hr : resI i.res a H1 = some v) (hz : finish (g.keep f) H v H1 = (v', H2)) :
    evFI P g T N (n + 1) f args H = some (.ret v', H2) := by
  simp only [evFI,hl,hT,hm,hb,hd,List.isEmpty_nil,if_true,hr,Zh,hz]
end
theorem fin_len {keep : Bool} {v : AV} {H0 H1 : Mem} (hf : (if keep then some v else frz H0.length H1 12 v) = some v) (hlen : H1.length = H0.length) : finish keep H0 v H1 = (v, H1) := by
  unfold finish
  rw [hf]
  simp only []
  split
  · rw [List.take_of_length_le (by omega)]
  · rfl
def pure (x : AV) : Bool := low 0 x
theorem pureL_low {x : List AV} (h : lowL 0 x = true) (n : Nat) : lowL n x = true := lowL_mono (Nat.zero_le n) h
theorem lowL_app (n : Nat) : ∀ (a b : List AV), lowL n (a ++ b) = (lowL n a && lowL n b)
  | [], b => by simp [lowL]
  | x :: a, b => by simp [lowL, lowL_app n a b, Bool.and_assoc]
end Go.Proofs.YtmnajffpmbidiaaGreatDoor.Ev
