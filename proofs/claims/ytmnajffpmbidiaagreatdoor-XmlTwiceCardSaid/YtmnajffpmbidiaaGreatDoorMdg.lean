/- Parts of one proof. -/
import Derived.Test.YtmnajffpmbidiaaGreatDoorMdf
set_option linter.all false
namespace Go.Proofs.YtmnajffpmbidiaaGreatDoor.Ev
variable {ml : Int}
open Go.Proofs.YtmnajffpmbidiaaGreatDoor.Ic
set_option maxRecDepth 100000
set_option maxHeartbeats 2000000
abbrev rowW (a b c : List UInt8) : Blk := .row [.str a, .str b, .str c] 0 (87 + 1)
abbrev rowU (c : UInt8) : Blk := .row [.int .u8 c.toNat] 0 (5 + 1)
section
variable {N : Nat}
variable (s : List UInt8) (hs : s.length < 4294967281) (hN : s.length < N)
include hs hN
theorem attr_eq (many : Nat) (A B : Mem) (hlo : LoM A B) (p p1 : Nat) (pre nm : List UInt8) (v : UInt8) (r : List UInt8) (hd1 : s.drop p1 = 61 :: 39 :: v :: 39 :: r) (v1 : v ≠ 39) (v2 : v ≠ 60) (v3 : v ≠ 38) (v4 : v ≠ 9) (v5 : v ≠ 10) (d : Nat) (hd : 7 ≤ d)
    (hQ : ∀ dd B', dd + 1 = d → evFI Tryz.prog (cfg ml) T N dd 64 [.ptr A.length 0 0] (A ++ rdr s p many :: B') = some (.ret (.tup [.str pre, .str nm]), A ++ rdr s p1 many :: B')) :
    evFI Tryz.prog (cfg ml) T N d 65 [.ptr A.length 0 0] (A ++ rdr s p many :: B) = some (.ret (.agg [.str pre, .str nm, .str [v]]), A ++ rdr s (p1 + 4) many :: B) := by
  obtain ⟨n, rfl⟩ : ∃ n, d = n + 7 := ⟨d - 7, by omega⟩
  obtain ⟨N, rfl⟩ : ∃ m, N = m + 2 := ⟨N - 2, by
    have := (List.getElem?_eq_some_iff.1 (get_at hd1)).1
    have h2 := (List.getElem?_eq_some_iff.1 (get_at (drop_one hd1))).1
    omega⟩
  have d2 := drop_one hd1
  have d3 := drop_one d2
  have d4 := drop_one d3
  have hlt : p1 + 1 + 1 + 1 < s.length := (List.getElem?_eq_some_iff.1 (get_at d4)).1
  let x0 : Blk := rowW pre nm []
  let x1 : Blk := rowW pre nm [v]
  let z : Blk := rowW [] [] []
  let b1 : Blk := .row [.ptr (A.length + (B.length + 3)) 0 0, .slc (A.length + (B.length + 5)) 0 1 1 0] 0 (104 + 1)
  have q2 := hQ (n + 6) (B ++ [z, z]) rfl
  have q3 := blank_eq (P := Tryz.prog) (N := N + 2) (ml := ml) s many A (B ++ [z, x0]) hs hN p1 (by omega) (n + 6) (by omega)
  rw [show blN (s.drop p1) = 0 by rw [hd1]; rfl] at q3
  have q4 := wants_t (P := Tryz.prog) (N := N + 2) (ml := ml) s p1 many A (B ++ [z, x0]) hs (by omega) (n + 6) (by omega) [61] (by rw [hd1]; simp [hasP])
  have q5 := blank_eq (P := Tryz.prog) (N := N + 2) (ml := ml) s many A (B ++ [z, x0]) hs hN (p1 + 1) (by omega) (n + 6) (by omega)
  rw [show blN (s.drop (p1 + 1)) = 0 by rw [d2]; rfl] at q5
  have q6 : evFI Tryz.prog (cfg ml) T (N + 2) (n + 6) 35 [.ptr A.length 0 0, .int .i64 0] (A ++ rdr s (p1 + 1) many :: (B ++ [z, x0])) = some (.ret (.int .u8 39), A ++ rdr s (p1 + 1) many :: (B ++ [z, x0])) := byteAt_in (P := Tryz.prog) (N := N + 2) (ml := ml) s (p1 + 1) many A (B ++ [z, x0]) (by omega) (n + 6) (by omega) 0 39 (get_at d2) hs
  have q7 := fun e H => must_t (P := Tryz.prog) (N := N + 2) (ml := ml) (n + 6) (by omega) e H
  have q8 : evFI Tryz.prog (cfg ml) T (N + 2) (n + 6) 35 [.ptr A.length 0 0, .int .i64 0] (A ++ rdr s (p1 + 1 + 1) many :: (B ++ [z, x0, rowB])) = some (.ret (.int .u8 v.toNat), A ++ rdr s (p1 + 1 + 1) many :: (B ++ [z, x0, rowB])) := byteAt_in (P := Tryz.prog) (N := N + 2) (ml := ml) s (p1 + 1 + 1) many A (B ++ [z, x0, rowB]) (by omega) (n + 6) (by omega) 0 v (get_at d3) hs
  have q9 := byte_new (N := N + 2) (ml := ml) (n + 6) (by omega) (A ++ rdr s (p1 + 1 + 1) many :: (B ++ [z, x0, rowB])) (A.length + (B.length + 3)) (by rw [getE_k, List.getElem?_cons_succ, getE_k]; rfl) v
  have q10 : evFI Tryz.prog (cfg ml) T (N + 2) (n + 6) 35 [.ptr A.length 0 0, .int .i64 0] (A ++ rdr s (p1 + 1 + 1 + 1) many :: (B ++ [z, x0, b1, rowU v, rowU v])) = some (.ret (.int .u8 39), A ++ rdr s (p1 + 1 + 1 + 1) many :: (B ++ [z, x0, b1, rowU v, rowU v])) := byteAt_in (P := Tryz.prog) (N := N + 2) (ml := ml) s (p1 + 1 + 1 + 1) many A (B ++ [z, x0, b1, rowU v, rowU v]) (by omega) (n + 6) (by omega) 0 39 (get_at d4) hs
  have q11 := str_one (N := N + 2) (ml := ml) (n + 6) (by omega) (A ++ rdr s (p1 + 1 + 1 + 1 + 1) many :: (B ++ [z, x0, b1, rowU v, rowU v])) (A.length + (B.length + 3)) (A.length + (B.length + 5)) 0 (.ptr (A.length + (B.length + 3)) 0 0) (by rw [getE_k, List.getElem?_cons_succ, getE_k]; rfl) v (by rw [getE_k, List.getElem?_cons_succ, getE_k]; rfl) (by omega)
  have c1 : decide (((p1 + 1 + 1 : Nat) : Int) < (s.length : Int)) = true := decide_eq_true (by omega)
  have c2 : decide (((p1 + 1 + 1 + 1 : Nat) : Int) < (s.length : Int)) = true := decide_eq_true (by omega)
  have w1 : IntKind.wrap .i64 (((p1 + 1 : Nat) : Int) + 1) = ((p1 + 1 + 1 : Nat) : Int) := by rw [wrap64] <;> omega
  have w2 : IntKind.wrap .i64 (((p1 + 1 + 1 : Nat) : Int) + 1) = ((p1 + 1 + 1 + 1 : Nat) : Int) := by rw [wrap64] <;> omega
  have w3 : IntKind.wrap .i64 (((p1 + 1 + 1 + 1 : Nat) : Int) + 1) = ((p1 + 1 + 1 + 1 + 1 : Nat) : Int) := by rw [wrap64] <;> omega
  have ne : ∀ c : UInt8, v ≠ c → ((v.toNat : Int) == (c.toNat : Int)) = false := fun c h => beq_false_of_ne fun e => h (UInt8.toNat_inj.1 (by omega))
  have n39 : ((v.toNat : Int) == 39) = false := ne 39 v1
  have n38 : ((v.toNat : Int) == 38) = false := ne 38 v3
  have n9 : ((v.toNat : Int) == 9) = false := ne 9 v4
  have n10 : ((v.toNat : Int) == 10) = false := ne 10 v5
  have n60 : ((v.toNat : Int) != 60) = true := by
    have := ne 60 v2
    simp only [bne]; rw [show ((v.toNat : Int) == 60) = false from this]; rfl
  have m60 : ((39 : Int) != 60) = true := rfl
  have m39 : ((39 : Int) == 39) = true := rfl
  have m34 : ((39 : Int) == 34) = false := rfl
  rw [show p1 + 4 = p1 + 1 + 1 + 1 + 1 by omega]
  generalize p1 + 1 + 1 + 1 + 1 = a4 at *
  generalize p1 + 1 + 1 + 1 = a3 at *
  generalize p1 + 1 + 1 = a2 at *
  simp only [z,x0,b1,Zg,Zf,Zk,ZL,ZM,Nat.lt_irrefl,ZO,Zn,Zp,Zr,getE_k,setE_k,Zm,Zl,ZK,Nat.reduceAdd] at q2 q3 q4 q5 q6 q8 q9 q10 q11
  have hkeep : ∀ x : AAct, roundEnd (some [0, 2, 3, 4, 5]) (A ++ rdr s a2 many :: (B ++ [rowW [] [] [], rowW pre nm [], rowB])) x (A ++ rdr s a3 many :: (B ++ [rowW [] [] [], rowW pre nm [], .row [.ptr (A.length + (B.length + 3)) 0 0, .slc (A.length + (B.length + 5)) 0 1 1 0] 0 (104 + 1), rowU v, rowU v])) = (x.keepT [0, 2, 3, 4, 5], A ++ rdr s a3 many :: (B ++ [rowW [] [] [], rowW pre nm [], .row [.ptr (A.length + (B.length + 3)) 0 0, .slc (A.length + (B.length + 5)) 0 1 1 0] 0 (104 + 1), rowU v, rowU v])) := fun x => by
    have ht : (A ++ rdr s a3 many :: (B ++ [rowW [] [] [], rowW pre nm [], .row [.ptr (A.length + (B.length + 3)) 0 0, .slc (A.length + (B.length + 5)) 0 1 1 0] 0 (104 + 1), rowU v, rowU v])).take (A ++ rdr s a2 many :: (B ++ [rowW [] [] [], rowW pre nm [], rowB])).length = A ++ rdr s a3 many :: (B ++ [rowW [] [] [], rowW pre nm [], .row [.ptr (A.length + (B.length + 3)) 0 0, .slc (A.length + (B.length + 5)) 0 1 1 0] 0 (104 + 1)]) := by
      rw [show A ++ rdr s a3 many :: (B ++ [rowW [] [] [], rowW pre nm [], Blk.row [.ptr (A.length + (B.length + 3)) 0 0, .slc (A.length + (B.length + 5)) 0 1 1 0] 0 (104 + 1), rowU v, rowU v]) = (A ++ rdr s a3 many :: (B ++ [rowW [] [] [], rowW pre nm [], .row [.ptr (A.length + (B.length + 3)) 0 0, .slc (A.length + (B.length + 5)) 0 1 1 0] 0 (104 + 1)])) ++ [rowU v, rowU v] by simp]
      exact List.take_left' (by simp)
    refine re_keep (b := .row [.ptr (A.length + (B.length + 3)) 0 0, .slc (A.length + (B.length + 5)) 0 1 1 0] 0 (104 + 1)) ?_ ?_ ?_
    · rw [ht]; simp
    · have h1 : decide (A.length + (B.length + 5) < A.length + (B.length + 4)) = false := decide_eq_false (by omega)
      simp only [lowB,lowL,low,Zg,Zf,Zk,ZL,ZK,Nat.reduceAdd,h1,ZD,ZE]
    · rw [ht]
      intro h
      have h1 := congrArg (fun M : Mem => M[A.length + (B.length + 3)]?) h
      simp only [getE_k,Zd] at h1
      simp at h1
  refine evF_ret (m := 89) (v := .agg [.str pre, .str nm, .str [v]]) (a := ?aa) (H1 := ?Ha) rfl t65 rfl ?hb ?hd ?hr ?hz
  case hb =>
    apply evI_seq
    · simp only [Zf,Zk,idx,I65,Zs,Zr,Zp,Za,Zb,evI,opsI,stepI,wantI,opI,AAct.evI,look,AAct.put,mkVal,mkVM,intOpA,intA,shiftA,unA,ZP,ZO,Zh,Zt,reduceIte,Nat.reduceEqDiff,Nat.reduceLT,Zo,Zq,true_and,and_true,and_self,ZB,cellsAt,Zg,ZC,Zf,Zk,ZL,ZM,Nat.reduceAdd,Nat.reduceMul,ZN,AV.cells,AV.one,known,Zn,getE_0,getE_k,setE_0,setE_k,Zc,Zd,Zl,Zm,Zi,Zw,Zu,Zj,Z1,Zx,Zy,ZJ,ZI,ZH,ZD,ZE,splice,fillI,Nat.reduceLeDiff,strA,ZK,ZA,Ze,bq_ft,bq_tf,ZG,ZF,ZQ,Zv,Zz,isNilA,nilPtr,nilSl,nilIf,nilFn,nilMap,nilCheckA,if_true,if_false,lt_lit,le_lit,lt_lit2,le_lit2,le_sub1,le_sub2]; rfl
    apply evI_seq
    · simp only [Zs,Zr,Zp,Za,Zb,evI,opsI,stepI,wantI,opI,AAct.evI,look,AAct.put,mkVal,mkVM,intOpA,intA,shiftA,unA,ZP,ZO,Zh,Zt,reduceIte,Nat.reduceEqDiff,Nat.reduceLT,Zo,Zq,true_and,and_true,and_self,ZB,cellsAt,Zg,ZC,Zf,Zk,ZL,ZM,Nat.reduceAdd,Nat.reduceMul,ZN,AV.cells,AV.one,known,Zn,getE_0,getE_k,setE_0,setE_k,Zc,Zd,Zl,Zm,Zi,Zw,Zu,Zj,Z1,Zx,Zy,ZJ,ZI,ZH,ZD,ZE,splice,fillI,Nat.reduceLeDiff,strA,ZK,ZA,Ze,bq_ft,bq_tf,ZG,ZF,ZQ,Zv,Zz,isNilA,nilPtr,nilSl,nilIf,nilFn,nilMap,nilCheckA,if_true,if_false,lt_lit,le_lit,lt_lit2,le_lit2,le_sub1,le_sub2]; rfl
    apply evI_seq
    · simp only [q2,Zs,Zr,Zp,Za,Zb,evI,opsI,stepI,wantI,opI,AAct.evI,look,AAct.put,mkVal,mkVM,intOpA,intA,shiftA,unA,ZP,ZO,Zh,Zt,reduceIte,Nat.reduceEqDiff,Nat.reduceLT,Zo,Zq,true_and,and_true,and_self,ZB,cellsAt,Zg,ZC,Zf,Zk,ZL,ZM,Nat.reduceAdd,Nat.reduceMul,ZN,AV.cells,AV.one,known,Zn,getE_0,getE_k,setE_0,setE_k,Zc,Zd,Zl,Zm,Zi,Zw,Zu,Zj,Z1,Zx,Zy,ZJ,ZI,ZH,ZD,ZE,splice,fillI,Nat.reduceLeDiff,strA,ZK,ZA,Ze,bq_ft,bq_tf,ZG,ZF,ZQ,Zv,Zz,isNilA,nilPtr,nilSl,nilIf,nilFn,nilMap,nilCheckA,if_true,if_false,lt_lit,le_lit,lt_lit2,le_lit2,le_sub1,le_sub2]; rfl
    apply evI_seq
    · simp only [q3,Zs,Zr,Zp,Za,Zb,evI,opsI,stepI,wantI,opI,AAct.evI,look,AAct.put,mkVal,mkVM,intOpA,intA,shiftA,unA,ZP,ZO,Zh,Zt,reduceIte,Nat.reduceEqDiff,Nat.reduceLT,Zo,Zq,true_and,and_true,and_self,ZB,cellsAt,Zg,ZC,Zf,Zk,ZL,ZM,Nat.reduceAdd,Nat.reduceMul,ZN,AV.cells,AV.one,known,Zn,getE_0,getE_k,setE_0,setE_k,Zc,Zd,Zl,Zm,Zi,Zw,Zu,Zj,Z1,Zx,Zy,ZJ,ZI,ZH,ZD,ZE,splice,fillI,Nat.reduceLeDiff,strA,ZK,ZA,Ze,bq_ft,bq_tf,ZG,ZF,ZQ,Zv,Zz,isNilA,nilPtr,nilSl,nilIf,nilFn,nilMap,nilCheckA,if_true,if_false,lt_lit,le_lit,lt_lit2,le_lit2,le_sub1,le_sub2]; rfl
    apply evI_seq
    · simp only [q4,Zs,Zr,Zp,Za,Zb,evI,opsI,stepI,wantI,opI,AAct.evI,look,AAct.put,mkVal,mkVM,intOpA,intA,shiftA,unA,ZP,ZO,Zh,Zt,reduceIte,Nat.reduceEqDiff,Nat.reduceLT,Zo,Zq,true_and,and_true,and_self,ZB,cellsAt,Zg,ZC,Zf,Zk,ZL,ZM,Nat.reduceAdd,Nat.reduceMul,ZN,AV.cells,AV.one,known,Zn,getE_0,getE_k,setE_0,setE_k,Zc,Zd,Zl,Zm,Zi,Zw,Zu,Zj,Z1,Zx,Zy,ZJ,ZI,ZH,ZD,ZE,splice,fillI,Nat.reduceLeDiff,strA,ZK,ZA,Ze,bq_ft,bq_tf,ZG,ZF,ZQ,Zv,Zz,isNilA,nilPtr,nilSl,nilIf,nilFn,nilMap,nilCheckA,if_true,if_false,lt_lit,le_lit,lt_lit2,le_lit2,le_sub1,le_sub2]; rfl
    apply evI_seq
    · simp only [q5,Zs,Zr,Zp,Za,Zb,evI,opsI,stepI,wantI,opI,AAct.evI,look,AAct.put,mkVal,mkVM,intOpA,intA,shiftA,unA,ZP,ZO,Zh,Zt,reduceIte,Nat.reduceEqDiff,Nat.reduceLT,Zo,Zq,true_and,and_true,and_self,ZB,cellsAt,Zg,ZC,Zf,Zk,ZL,ZM,Nat.reduceAdd,Nat.reduceMul,ZN,AV.cells,AV.one,known,Zn,getE_0,getE_k,setE_0,setE_k,Zc,Zd,Zl,Zm,Zi,Zw,Zu,Zj,Z1,Zx,Zy,ZJ,ZI,ZH,ZD,ZE,splice,fillI,Nat.reduceLeDiff,strA,ZK,ZA,Ze,bq_ft,bq_tf,ZG,ZF,ZQ,Zv,Zz,isNilA,nilPtr,nilSl,nilIf,nilFn,nilMap,nilCheckA,if_true,if_false,lt_lit,le_lit,lt_lit2,le_lit2,le_sub1,le_sub2]; rfl
    apply evI_seq
    · simp only [q6,Zs,Zr,Zp,Za,Zb,evI,opsI,stepI,wantI,opI,AAct.evI,look,AAct.put,mkVal,mkVM,intOpA,intA,shiftA,unA,ZP,ZO,Zh,Zt,reduceIte,Nat.reduceEqDiff,Nat.reduceLT,Zo,Zq,true_and,and_true,and_self,ZB,cellsAt,Zg,ZC,Zf,Zk,ZL,ZM,Nat.reduceAdd,Nat.reduceMul,ZN,AV.cells,AV.one,known,Zn,getE_0,getE_k,setE_0,setE_k,Zc,Zd,Zl,Zm,Zi,Zw,Zu,Zj,Z1,Zx,Zy,ZJ,ZI,ZH,ZD,ZE,splice,fillI,Nat.reduceLeDiff,strA,ZK,ZA,Ze,bq_ft,bq_tf,ZG,ZF,ZQ,Zv,Zz,isNilA,nilPtr,nilSl,nilIf,nilFn,nilMap,nilCheckA,if_true,if_false,lt_lit,le_lit,lt_lit2,le_lit2,le_sub1,le_sub2]; rfl
    apply evI_seq
    · simp only [m34,m39,q7,Zs,Zr,Zp,Za,Zb,evI,opsI,stepI,wantI,opI,AAct.evI,look,AAct.put,mkVal,mkVM,intOpA,intA,shiftA,unA,ZP,ZO,Zh,Zt,reduceIte,Nat.reduceEqDiff,Nat.reduceLT,Zo,Zq,true_and,and_true,and_self,ZB,cellsAt,Zg,ZC,Zf,Zk,ZL,ZM,Nat.reduceAdd,Nat.reduceMul,ZN,AV.cells,AV.one,known,Zn,getE_0,getE_k,setE_0,setE_k,Zc,Zd,Zl,Zm,Zi,Zw,Zu,Zj,Z1,Zx,Zy,ZJ,ZI,ZH,ZD,ZE,splice,fillI,Nat.reduceLeDiff,strA,ZK,ZA,Ze,bq_ft,bq_tf,ZG,ZF,ZQ,Zv,Zz,isNilA,nilPtr,nilSl,nilIf,nilFn,nilMap,nilCheckA,if_true,if_false,lt_lit,le_lit,lt_lit2,le_lit2,le_sub1,le_sub2]; rfl
    apply evI_seq (H' := A ++ rdr s a2 many :: (B ++ [rowW [] [] [], rowW pre nm []]))
    · simp only [rdr,w1,Zs,Zr,Zp,Za,Zb,evI,opsI,stepI,wantI,opI,AAct.evI,look,AAct.put,mkVal,mkVM,intOpA,intA,shiftA,unA,ZP,ZO,Zh,Zt,reduceIte,Nat.reduceEqDiff,Nat.reduceLT,Zo,Zq,true_and,and_true,and_self,ZB,cellsAt,Zg,ZC,Zf,Zk,ZL,ZM,Nat.reduceAdd,Nat.reduceMul,ZN,AV.cells,AV.one,known,Zn,getE_0,getE_k,setE_0,setE_k,Zc,Zd,Zl,Zm,Zi,Zw,Zu,Zj,Z1,Zx,Zy,ZJ,ZI,ZH,ZD,ZE,splice,fillI,Nat.reduceLeDiff,strA,ZK,ZA,Ze,bq_ft,bq_tf,ZG,ZF,ZQ,Zv,Zz,isNilA,nilPtr,nilSl,nilIf,nilFn,nilMap,nilCheckA,if_true,if_false,lt_lit,le_lit,lt_lit2,le_lit2,le_sub1,le_sub2]; rfl
    apply evI_seq (H' := A ++ rdr s a2 many :: (B ++ [rowW [] [] [], rowW pre nm [], rowB]))
    · simp only [Zs,Zr,Zp,Za,Zb,evI,opsI,stepI,wantI,opI,AAct.evI,look,AAct.put,mkVal,mkVM,intOpA,intA,shiftA,unA,ZP,ZO,Zh,Zt,reduceIte,Nat.reduceEqDiff,Nat.reduceLT,Zo,Zq,true_and,and_true,and_self,ZB,cellsAt,Zg,ZC,Zf,Zk,ZL,ZM,Nat.reduceAdd,Nat.reduceMul,ZN,AV.cells,AV.one,known,Zn,getE_0,getE_k,setE_0,setE_k,Zc,Zd,Zl,Zm,Zi,Zw,Zu,Zj,Z1,Zx,Zy,ZJ,ZI,ZH,ZD,ZE,splice,fillI,Nat.reduceLeDiff,strA,ZK,ZA,Ze,bq_ft,bq_tf,ZG,ZF,ZQ,Zv,Zz,isNilA,nilPtr,nilSl,nilIf,nilFn,nilMap,nilCheckA,if_true,if_false,lt_lit,le_lit,lt_lit2,le_lit2,le_sub1,le_sub2]; rfl
    apply evI_block_ret
    apply evI_loop
    refine loopA_go (a' := ?a1) (H' := A ++ rdr s a3 many :: (B ++ [rowW [] [] [], rowW pre nm [], .row [.ptr (A.length + (B.length + 3)) 0 0, .slc (A.length + (B.length + 5)) 0 1 1 0] 0 (104 + 1), rowU v, rowU v])) (by
      apply evI_block
      apply evI_seq
      · simp only [AAct.keepT,q8,Zs,Zr,Zp,Za,Zb,evI,opsI,stepI,wantI,opI,AAct.evI,look,AAct.put,mkVal,mkVM,intOpA,intA,shiftA,unA,ZP,ZO,Zh,Zt,reduceIte,Nat.reduceEqDiff,Nat.reduceLT,Zo,Zq,true_and,and_true,and_self,ZB,cellsAt,Zg,ZC,Zf,Zk,ZL,ZM,Nat.reduceAdd,Nat.reduceMul,ZN,AV.cells,AV.one,known,Zn,getE_0,getE_k,setE_0,setE_k,Zc,Zd,Zl,Zm,Zi,Zw,Zu,Zj,Z1,Zx,Zy,ZJ,ZI,ZH,ZD,ZE,splice,fillI,Nat.reduceLeDiff,strA,ZK,ZA,Ze,bq_ft,bq_tf,ZG,ZF,ZQ,Zv,Zz,isNilA,nilPtr,nilSl,nilIf,nilFn,nilMap,nilCheckA,if_true,if_false,lt_lit,le_lit,lt_lit2,le_lit2,le_sub1,le_sub2]; rfl
      apply evI_seq (H' := A ++ rdr s a2 many :: (B ++ [rowW [] [] [], rowW pre nm [], rowB]))
      · simp only [rdr,c1,n60,q7,Zs,Zr,Zp,Za,Zb,evI,opsI,stepI,wantI,opI,AAct.evI,look,AAct.put,mkVal,mkVM,intOpA,intA,shiftA,unA,ZP,ZO,Zh,Zt,reduceIte,Nat.reduceEqDiff,Nat.reduceLT,Zo,Zq,true_and,and_true,and_self,ZB,cellsAt,Zg,ZC,Zf,Zk,ZL,ZM,Nat.reduceAdd,Nat.reduceMul,ZN,AV.cells,AV.one,known,Zn,getE_0,getE_k,setE_0,setE_k,Zc,Zd,Zl,Zm,Zi,Zw,Zu,Zj,Z1,Zx,Zy,ZJ,ZI,ZH,ZD,ZE,splice,fillI,Nat.reduceLeDiff,strA,ZK,ZA,Ze,bq_ft,bq_tf,ZG,ZF,ZQ,Zv,Zz,isNilA,nilPtr,nilSl,nilIf,nilFn,nilMap,nilCheckA,if_true,if_false,lt_lit,le_lit,lt_lit2,le_lit2,le_sub1,le_sub2,drawI,drawI2,drawI0,drawI20,lexD,valD,valI,putD,okD,roD,memAt,lastM,wantI,eqv_refl,eqM_refl,eqM_app,eqB,eqvL,eqv,List.getLast?_cons_cons,List.getLast?_singleton,Option.getD_some,Bool.or_true,Bool.true_or,ZA,resvV]; rfl
      apply evI_seq
      · apply evI_block
        simp only [n39,n38,n9,n10,Zs,Zr,Zp,Za,Zb,evI,opsI,stepI,wantI,opI,AAct.evI,look,AAct.put,mkVal,mkVM,intOpA,intA,shiftA,unA,ZP,ZO,Zh,Zt,reduceIte,Nat.reduceEqDiff,Nat.reduceLT,Zo,Zq,true_and,and_true,and_self,ZB,cellsAt,Zg,ZC,Zf,Zk,ZL,ZM,Nat.reduceAdd,Nat.reduceMul,ZN,AV.cells,AV.one,known,Zn,getE_0,getE_k,setE_0,setE_k,Zc,Zd,Zl,Zm,Zi,Zw,Zu,Zj,Z1,Zx,Zy,ZJ,ZI,ZH,ZD,ZE,splice,fillI,Nat.reduceLeDiff,strA,ZK,ZA,Ze,bq_ft,bq_tf,ZG,ZF,ZQ,Zv,Zz,isNilA,nilPtr,nilSl,nilIf,nilFn,nilMap,nilCheckA,if_true,if_false,lt_lit,le_lit,lt_lit2,le_lit2,le_sub1,le_sub2]; rfl
      apply evI_seq
      · simp only [q9,Zs,Zr,Zp,Za,Zb,evI,opsI,stepI,wantI,opI,AAct.evI,look,AAct.put,mkVal,mkVM,intOpA,intA,shiftA,unA,ZP,ZO,Zh,Zt,reduceIte,Nat.reduceEqDiff,Nat.reduceLT,Zo,Zq,true_and,and_true,and_self,ZB,cellsAt,Zg,ZC,Zf,Zk,ZL,ZM,Nat.reduceAdd,Nat.reduceMul,ZN,AV.cells,AV.one,known,Zn,getE_0,getE_k,setE_0,setE_k,Zc,Zd,Zl,Zm,Zi,Zw,Zu,Zj,Z1,Zx,Zy,ZJ,ZI,ZH,ZD,ZE,splice,fillI,Nat.reduceLeDiff,strA,ZK,ZA,Ze,bq_ft,bq_tf,ZG,ZF,ZQ,Zv,Zz,isNilA,nilPtr,nilSl,nilIf,nilFn,nilMap,nilCheckA,if_true,if_false,lt_lit,le_lit,lt_lit2,le_lit2,le_sub1,le_sub2]; rfl
      simp only [rdr,w2,Zs,Zr,Zp,Za,Zb,evI,opsI,stepI,wantI,opI,AAct.evI,look,AAct.put,mkVal,mkVM,intOpA,intA,shiftA,unA,ZP,ZO,Zh,Zt,reduceIte,Nat.reduceEqDiff,Nat.reduceLT,Zo,Zq,true_and,and_true,and_self,ZB,cellsAt,Zg,ZC,Zf,Zk,ZL,ZM,Nat.reduceAdd,Nat.reduceMul,ZN,AV.cells,AV.one,known,Zn,getE_0,getE_k,setE_0,setE_k,Zc,Zd,Zl,Zm,Zi,Zw,Zu,Zj,Z1,Zx,Zy,ZJ,ZI,ZH,ZD,ZE,splice,fillI,Nat.reduceLeDiff,strA,ZK,ZA,Ze,bq_ft,bq_tf,ZG,ZF,ZQ,Zv,Zz,isNilA,nilPtr,nilSl,nilIf,nilFn,nilMap,nilCheckA,if_true,if_false,lt_lit,le_lit,lt_lit2,le_lit2,le_sub1,le_sub2]; rfl) ?_
    rw [hkeep]
    apply loopA_ret
    apply evI_block_ret
    apply evI_seq
    · simp only [AAct.keepT,q10,Zs,Zr,Zp,Za,Zb,evI,opsI,stepI,wantI,opI,AAct.evI,look,AAct.put,mkVal,mkVM,intOpA,intA,shiftA,unA,ZP,ZO,Zh,Zt,reduceIte,Nat.reduceEqDiff,Nat.reduceLT,Zo,Zq,true_and,and_true,and_self,ZB,cellsAt,Zg,ZC,Zf,Zk,ZL,ZM,Nat.reduceAdd,Nat.reduceMul,ZN,AV.cells,AV.one,known,Zn,getE_0,getE_k,setE_0,setE_k,Zc,Zd,Zl,Zm,Zi,Zw,Zu,Zj,Z1,Zx,Zy,ZJ,ZI,ZH,ZD,ZE,splice,fillI,Nat.reduceLeDiff,strA,ZK,ZA,Ze,bq_ft,bq_tf,ZG,ZF,ZQ,Zv,Zz,isNilA,nilPtr,nilSl,nilIf,nilFn,nilMap,nilCheckA,if_true,if_false,lt_lit,le_lit,lt_lit2,le_lit2,le_sub1,le_sub2]; rfl
    apply evI_seq (H' := A ++ rdr s a3 many :: (B ++ [rowW [] [] [], rowW pre nm [], .row [.ptr (A.length + (B.length + 3)) 0 0, .slc (A.length + (B.length + 5)) 0 1 1 0] 0 (104 + 1), rowU v, rowU v]))
    · simp only [rdr,c2,m60,q7,Zs,Zr,Zp,Za,Zb,evI,opsI,stepI,wantI,opI,AAct.evI,look,AAct.put,mkVal,mkVM,intOpA,intA,shiftA,unA,ZP,ZO,Zh,Zt,reduceIte,Nat.reduceEqDiff,Nat.reduceLT,Zo,Zq,true_and,and_true,and_self,ZB,cellsAt,Zg,ZC,Zf,Zk,ZL,ZM,Nat.reduceAdd,Nat.reduceMul,ZN,AV.cells,AV.one,known,Zn,getE_0,getE_k,setE_0,setE_k,Zc,Zd,Zl,Zm,Zi,Zw,Zu,Zj,Z1,Zx,Zy,ZJ,ZI,ZH,ZD,ZE,splice,fillI,Nat.reduceLeDiff,strA,ZK,ZA,Ze,bq_ft,bq_tf,ZG,ZF,ZQ,Zv,Zz,isNilA,nilPtr,nilSl,nilIf,nilFn,nilMap,nilCheckA,if_true,if_false,lt_lit,le_lit,lt_lit2,le_lit2,le_sub1,le_sub2,drawI,drawI2,drawI0,drawI20,lexD,valD,valI,putD,okD,roD,memAt,lastM,wantI,eqv_refl,eqM_refl,eqM_app,eqB,eqvL,eqv,List.getLast?_cons_cons,List.getLast?_singleton,Option.getD_some,Bool.or_true,Bool.true_or,ZA,resvV]; rfl
    apply evI_seq_ret
    apply evI_block_ret
    apply evI_seq
    · simp only [m39,Zs,Zr,Zp,Za,Zb,evI,opsI,stepI,wantI,opI,AAct.evI,look,AAct.put,mkVal,mkVM,intOpA,intA,shiftA,unA,ZP,ZO,Zh,Zt,reduceIte,Nat.reduceEqDiff,Nat.reduceLT,Zo,Zq,true_and,and_true,and_self,ZB,cellsAt,Zg,ZC,Zf,Zk,ZL,ZM,Nat.reduceAdd,Nat.reduceMul,ZN,AV.cells,AV.one,known,Zn,getE_0,getE_k,setE_0,setE_k,Zc,Zd,Zl,Zm,Zi,Zw,Zu,Zj,Z1,Zx,Zy,ZJ,ZI,ZH,ZD,ZE,splice,fillI,Nat.reduceLeDiff,strA,ZK,ZA,Ze,bq_ft,bq_tf,ZG,ZF,ZQ,Zv,Zz,isNilA,nilPtr,nilSl,nilIf,nilFn,nilMap,nilCheckA,if_true,if_false,lt_lit,le_lit,lt_lit2,le_lit2,le_sub1,le_sub2]; rfl
    apply evI_true rfl
    apply evI_seq (H' := A ++ rdr s a4 many :: (B ++ [rowW [] [] [], rowW pre nm [], .row [.ptr (A.length + (B.length + 3)) 0 0, .slc (A.length + (B.length + 5)) 0 1 1 0] 0 (104 + 1), rowU v, rowU v]))
    · simp only [rdr,w3,Zs,Zr,Zp,Za,Zb,evI,opsI,stepI,wantI,opI,AAct.evI,look,AAct.put,mkVal,mkVM,intOpA,intA,shiftA,unA,ZP,ZO,Zh,Zt,reduceIte,Nat.reduceEqDiff,Nat.reduceLT,Zo,Zq,true_and,and_true,and_self,ZB,cellsAt,Zg,ZC,Zf,Zk,ZL,ZM,Nat.reduceAdd,Nat.reduceMul,ZN,AV.cells,AV.one,known,Zn,getE_0,getE_k,setE_0,setE_k,Zc,Zd,Zl,Zm,Zi,Zw,Zu,Zj,Z1,Zx,Zy,ZJ,ZI,ZH,ZD,ZE,splice,fillI,Nat.reduceLeDiff,strA,ZK,ZA,Ze,bq_ft,bq_tf,ZG,ZF,ZQ,Zv,Zz,isNilA,nilPtr,nilSl,nilIf,nilFn,nilMap,nilCheckA,if_true,if_false,lt_lit,le_lit,lt_lit2,le_lit2,le_sub1,le_sub2]; rfl
    apply evI_seq
    · simp only [q11,Zs,Zr,Zp,Za,Zb,evI,opsI,stepI,wantI,opI,AAct.evI,look,AAct.put,mkVal,mkVM,intOpA,intA,shiftA,unA,ZP,ZO,Zh,Zt,reduceIte,Nat.reduceEqDiff,Nat.reduceLT,Zo,Zq,true_and,and_true,and_self,ZB,cellsAt,Zg,ZC,Zf,Zk,ZL,ZM,Nat.reduceAdd,Nat.reduceMul,ZN,AV.cells,AV.one,known,Zn,getE_0,getE_k,setE_0,setE_k,Zc,Zd,Zl,Zm,Zi,Zw,Zu,Zj,Z1,Zx,Zy,ZJ,ZI,ZH,ZD,ZE,splice,fillI,Nat.reduceLeDiff,strA,ZK,ZA,Ze,bq_ft,bq_tf,ZG,ZF,ZQ,Zv,Zz,isNilA,nilPtr,nilSl,nilIf,nilFn,nilMap,nilCheckA,if_true,if_false,lt_lit,le_lit,lt_lit2,le_lit2,le_sub1,le_sub2]; rfl
    simp only [Zs,Zr,Zp,Za,Zb,evI,opsI,stepI,wantI,opI,AAct.evI,look,AAct.put,mkVal,mkVM,intOpA,intA,shiftA,unA,ZP,ZO,Zh,Zt,reduceIte,Nat.reduceEqDiff,Nat.reduceLT,Zo,Zq,true_and,and_true,and_self,ZB,cellsAt,Zg,ZC,Zf,Zk,ZL,ZM,Nat.reduceAdd,Nat.reduceMul,ZN,AV.cells,AV.one,known,Zn,getE_0,getE_k,setE_0,setE_k,Zc,Zd,Zl,Zm,Zi,Zw,Zu,Zj,Z1,Zx,Zy,ZJ,ZI,ZH,ZD,ZE,splice,fillI,Nat.reduceLeDiff,strA,ZK,ZA,Ze,bq_ft,bq_tf,ZG,ZF,ZQ,Zv,Zz,isNilA,nilPtr,nilSl,nilIf,nilFn,nilMap,nilCheckA,if_true,if_false,lt_lit,le_lit,lt_lit2,le_lit2,le_sub1,le_sub2]; rfl
  case hd => rfl
  case hr => simp only [I65,resI,resLI,Zs,Zr,Zp,Za,Zb,evI,opsI,stepI,wantI,opI,AAct.evI,look,AAct.put,mkVal,mkVM,intOpA,intA,shiftA,unA,ZP,ZO,Zh,Zt,reduceIte,Nat.reduceEqDiff,Nat.reduceLT,Zo,Zq,true_and,and_true,and_self,ZB,cellsAt,Zg,ZC,Zf,Zk,ZL,ZM,Nat.reduceAdd,Nat.reduceMul,ZN,AV.cells,AV.one,known,Zn,getE_0,getE_k,setE_0,setE_k,Zc,Zd,Zl,Zm,Zi,Zw,Zu,Zj,Z1,Zx,Zy,ZJ,ZI,ZH,ZD,ZE,splice,fillI,Nat.reduceLeDiff,strA,ZK,ZA,Ze,bq_ft,bq_tf,ZG,ZF,ZQ,Zv,Zz,isNilA,nilPtr,nilSl,nilIf,nilFn,nilMap,nilCheckA,if_true,if_false,lt_lit,le_lit,lt_lit2,le_lit2,le_sub1,le_sub2]
  case hz =>
    refine fin_cut rfl rfl rfl (take_rdr _ _ _ _ _) (by
      have := hlo.whole s a4 many
      simp only [Zg,Zf] at this ⊢
      exact this)
end
structure Wr where
  pre : List UInt8
  nm : List UInt8
  v : UInt8
def isNm (a : List UInt8) : Prop := ∃ b l, a = b :: l ∧ fst8 b = true ∧ ∀ c ∈ a, nxt8 c = true
structure WrOk (w : Wr) : Prop where
  nm : isNm w.nm
  pre : w.pre = [] ∨ isNm w.pre
  v1 : w.v ≠ 39
  v2 : w.v ≠ 60
  v3 : w.v ≠ 38
  v4 : w.v ≠ 9
  v5 : w.v ≠ 10
def wrN (w : Wr) : List UInt8 := match w.pre with
  | [] => w.nm
  | c :: l => (c :: l) ++ 58 :: w.nm
def wrT (w : Wr) : List UInt8 := wrN w ++ [61, 39, w.v, 39]
def wrC (w : Wr) : List AV := [.str w.pre, .str w.nm, .str [w.v]]
def attsT (ws : List Wr) : List UInt8 := ws.flatMap fun w => 32 :: wrT w
def attsC (ws : List Wr) : List AV := ws.flatMap wrC
theorem attsT_cons (w : Wr) (ws : List Wr) (r : List UInt8) : attsT (w :: ws) ++ r = 32 :: (wrT w ++ (attsT ws ++ r)) := by
  unfold attsT
  rw [List.flatMap_cons, List.cons_append, List.cons_append, List.append_assoc]
theorem attsC_len (ws : List Wr) : (attsC ws).length = ws.length * 3 := by
  induction ws with
  | nil => rfl
  | cons w ws ih =>
    have e : attsC (w :: ws) = wrC w ++ attsC ws := rfl
    rw [e, List.length_append, ih]; simp [wrC]; omega
theorem attsC_snoc (ws : List Wr) (w : Wr) : attsC (ws ++ [w]) = attsC ws ++ wrC w := by
  unfold attsC
  rw [List.flatMap_append]; simp
theorem attsC_low (n : Nat) (ws : List Wr) : lowL n (attsC ws) = true := by
  induction ws with
  | nil => rfl
  | cons w ws ih =>
    have e : attsC (w :: ws) = wrC w ++ attsC ws := rfl
    rw [e, lowL_app, ih]; rfl
theorem wrT_first (w : Wr) (h : WrOk w) : ∃ b l, wrT w = b :: l ∧ fst8 b = true := by
  unfold wrT wrN
  cases hp : w.pre with
  | nil =>
    obtain ⟨b, l, e, hf, _⟩ := h.nm
    exact ⟨b, l ++ [61, 39, w.v, 39], by rw [e]; rfl, hf⟩
  | cons c l =>
    rcases h.pre with h | ⟨b, l2, e, hf, _⟩
    · rw [hp] at h; cases h
    · rw [hp] at e
      injection e with e1 e2
      subst e1 e2
      exact ⟨c, _, rfl, hf⟩
theorem re_cut {l : List Tmp} {a : AAct} {H H' : Mem} (h1 : lowT H.length (a.keepT l).t = true) (h2 : lowD H.length a.d = true) (h3 : lowM H.length (H'.take H.length) = true) : roundEnd (some l) H a H' = (a.keepT l, H'.take H.length) := by
  unfold roundEnd
  simp only [mayCut,h1,h2,h3,Bool.or_true,ZJ,if_true]
theorem re_hold {l : List Tmp} {a : AAct} {H H' : Mem} (h1 : lowT H.length (a.keepT l).t = false) : roundEnd (some l) H a H' = (a.keepT l, H') := by
  unfold roundEnd
  simp only [h1,ZE,Ze,if_false]
noncomputable def loopEl : IC := (I38.c.loops).getD 0 .bad
section
variable {N : Nat}
variable (s : List UInt8) (hs : s.length < 4294967281) (hN : s.length < N)
include hs hN
theorem attr_w (w : Wr) (hw : WrOk w) (many : Nat) (A B : Mem) (hlo : LoM A B) (p : Nat) (r : List UInt8) (hd0 : s.drop p = wrT w ++ r) (d : Nat) (hd : 7 ≤ d) :
    evFI Tryz.prog (cfg ml) T N d 65 [.ptr A.length 0 0] (A ++ rdr s p many :: B) = some (.ret (.agg (wrC w)), A ++ rdr s (p + (wrT w).length) many :: B) := by
  obtain ⟨hn, hp, v1, v2, v3, v4, v5⟩ := hw
  obtain ⟨b, l, e, hf, hx⟩ := hn
  cases hpre : w.pre with
  | nil =>
    have et : wrT w = w.nm ++ 61 :: 39 :: w.v :: 39 :: [] := by unfold wrT wrN; rw [hpre]
    have d0 : s.drop p = w.nm ++ 61 :: (39 :: w.v :: 39 :: r) := by rw [hd0, et]; simp
    have m0 : nmN (s.drop p) = w.nm.length := by rw [d0]; exact nmN_app _ _ _ hx (by decide)
    have d1 : s.drop (p + w.nm.length) = 61 :: 39 :: w.v :: 39 :: r := drop_next d0
    have tk : (s.drop p).take w.nm.length = w.nm := by rw [d0, List.take_left]
    have h := attr_eq (ml := ml) s hs hN many A B hlo p (p + w.nm.length) [] w.nm w.v r d1 v1 v2 v3 v4 v5 d hd (fun dd B' hdd => by
      have q := qual_plain (P := Tryz.prog) (N := N) (ml := ml) s many A B' hs hN p b (get_at (by rw [d0, e]; rfl)) hf (by rw [m0, d1]; simp [hasP]) dd (by omega)
      rw [m0, tk] at q
      exact q)
    have el : p + (wrT w).length = p + w.nm.length + 4 := by rw [et]; simp; omega
    rw [el]
    unfold wrC
    rw [hpre]
    exact h
  | cons c l0 =>
    have hpn : isNm w.pre := by
      rcases hp with h | h
      · rw [hpre] at h; cases h
      · exact h
    obtain ⟨b2, l2, e2, hf2, hx2⟩ := hpn
    have et : wrT w = w.pre ++ 58 :: (w.nm ++ 61 :: 39 :: w.v :: 39 :: []) := by unfold wrT wrN; rw [hpre]; simp
    have d0 : s.drop p = w.pre ++ 58 :: (w.nm ++ 61 :: 39 :: w.v :: 39 :: r) := by rw [hd0, et]; simp
    have m0 : nmN (s.drop p) = w.pre.length := by rw [d0]; exact nmN_app _ _ _ hx2 (by decide)
    have d1 : s.drop (p + w.pre.length) = 58 :: (w.nm ++ 61 :: 39 :: w.v :: 39 :: r) := drop_next d0
    have d2 : s.drop (p + w.pre.length + 1) = w.nm ++ 61 :: (39 :: w.v :: 39 :: r) := drop_one d1
    have m2 : nmN (s.drop (p + w.pre.length + 1)) = w.nm.length := by rw [d2]; exact nmN_app _ _ _ hx (by decide)
    have d3 : s.drop (p + w.pre.length + 1 + w.nm.length) = 61 :: 39 :: w.v :: 39 :: r := drop_next d2
    have tk : (s.drop p).take w.pre.length = w.pre := by rw [d0, List.take_left]
    have tk2 : (s.drop (p + w.pre.length + 1)).take w.nm.length = w.nm := by rw [d2, List.take_left]
    have h := attr_eq (ml := ml) s hs hN many A B hlo p (p + w.pre.length + 1 + w.nm.length) w.pre w.nm w.v r d3 v1 v2 v3 v4 v5 d hd (fun dd B' hdd => by
      have q := qual_pre (P := Tryz.prog) (N := N) (ml := ml) s many A B' hs hN p b2 b (get_at (by rw [d0, e2]; rfl)) hf2 (by rw [m0, d1]; simp [hasP]) (p + w.pre.length + 1) (by rw [m0]) (get_at (by rw [d2, e]; rfl)) hf dd (by omega)
      rw [m0, m2, tk, tk2] at q
      exact q)
    have el : p + (wrT w).length = p + w.pre.length + 1 + w.nm.length + 4 := by rw [et]; simp; omega
    rw [el]
    exact h
abbrev elS (A : Mem) (mi dp : Nat) (ip : Nat) (pf nm : List UInt8) (lv : AV) : List (Nat × AV) := [(0, .ptr A.length 0 0), (1, .map mi), (2, .int .i64 (dp : Nat)), (6, .ptr ip 0 0), (7, .str pf), (8, .str nm), (9, lv)]
abbrev rowL2 (ws : List Wr) (k : Nat) : Blk := .row (attsC ws) k (87 + 1)
theorem att_loop (n many : Nat) (A B : Mem) (hlo : LoM A B) (mi dp : Nat) (hmi : mi < A.length + (B.length + 1)) (pf nm : List UInt8) (w1 : Wr) (r : List UInt8) : ∀ (ws2 ws1 : List Wr) (fuel p k : Nat), (∀ w ∈ ws2, WrOk w) → s.drop p = attsT ws2 ++ 47 :: r → ws1.length = k + 1 → k + ws2.length < 1000 → ws2.length < fuel →
    ∃ t, loopA (fun a H => evI Tryz.prog (cfg ml) (evFI Tryz.prog (cfg ml) T N (n + 7)) N loopEl a H) (some [0, 1, 2, 6, 7, 8, 9]) fuel ⟨126, elS A mi dp (A.length + (B.length + 1)) pf nm (.slc (A.length + (B.length + 3)) 0 (k + 1) 3 k), []⟩ (A ++ rdr s p many :: (B ++ [r27 [] [], rowW w1.pre w1.nm [w1.v], rowL2 ws1 k])) = some (.exit 0, ⟨126, t, []⟩, A ++ rdr s (p + (attsT ws2).length) many :: (B ++ [r27 [] [], rowW w1.pre w1.nm [w1.v], rowL2 (ws1 ++ ws2) (k + ws2.length)])) ∧ look t 0 = .ptr A.length 0 0 ∧ look t 1 = .map mi ∧ look t 2 = .int .i64 (dp : Nat) ∧ look t 6 = .ptr (A.length + (B.length + 1)) 0 0 ∧ look t 7 = .str pf ∧ look t 8 = .str nm ∧ look t 9 = .slc (A.length + (B.length + 3)) 0 (k + ws2.length + 1) 3 (k + ws2.length)
  | [], ws1, fuel, p, k, hw, hd0, hk, hk2, hf => by
    obtain ⟨fuel, rfl⟩ : ∃ q, fuel = q + 1 := ⟨fuel - 1, by simp at hf; omega⟩
    have d0 : s.drop p = 47 :: r := hd0
    have hlt : p < s.length := (List.getElem?_eq_some_iff.1 (get_at d0)).1
    have q1 := blank_eq (P := Tryz.prog) (N := N) (ml := ml) s many A (B ++ [r27 [] [], rowW w1.pre w1.nm [w1.v], rowL2 ws1 k]) hs hN p (by omega) (n + 7) (by omega)
    rw [show blN (s.drop p) = 0 by rw [d0]; rfl] at q1
    simp only [ZM,Nat.lt_irrefl,ZO] at q1
    rw [List.append_nil]
    exact ⟨_, loopA_exit (by simp only [loopEl,I38,IC.loops,Za,q1,Zs,Zr,Zp,Za,Zb,evI,opsI,stepI,wantI,opI,AAct.evI,look,AAct.put,mkVal,mkVM,intOpA,intA,shiftA,unA,ZP,ZO,Zh,Zt,reduceIte,Nat.reduceEqDiff,Nat.reduceLT,Zo,Zq,true_and,and_true,and_self,ZB,cellsAt,Zg,ZC,Zf,Zk,ZL,ZM,Nat.reduceAdd,Nat.reduceMul,ZN,AV.cells,AV.one,known,Zn,getE_0,getE_k,setE_0,setE_k,Zc,Zd,Zl,Zm,Zi,Zw,Zu,Zj,Z1,Zx,Zy,ZJ,ZI,ZH,ZD,ZE,splice,fillI,Nat.reduceLeDiff,strA,ZK,ZA,Ze,bq_ft,bq_tf,ZG,ZF,ZQ,Zv,Zz,isNilA,nilPtr,nilSl,nilIf,nilFn,nilMap,nilCheckA,if_true,if_false,lt_lit,le_lit,lt_lit2,le_lit2,le_sub1,le_sub2,drawI,drawI2,drawI0,drawI20,lexD,valD,valI,putD,okD,roD,memAt,lastM,wantI,eqv_refl,eqM_refl,eqM_app,eqB,eqvL,eqv,List.getLast?_cons_cons,List.getLast?_singleton,Option.getD_some,Bool.or_true,Bool.true_or,ZA,resvV]; rfl), rfl, rfl, rfl, rfl, rfl, rfl, rfl⟩
  | w :: ws2, ws1, fuel, p, k, hw, hd0, hk, hk2, hf => by
    obtain ⟨fuel, rfl⟩ : ∃ q, fuel = q + 1 := ⟨fuel - 1, by simp at hf; omega⟩
    simp only [Zf] at hk2 hf
    rw [attsT_cons] at hd0
    have d1 := drop_one hd0
    obtain ⟨b, l, e1, hf1⟩ := wrT_first w (hw w (by simp))
    have d1' : s.drop (p + 1) = b :: (l ++ (attsT ws2 ++ 47 :: r)) := by rw [d1, e1]; rfl
    have hlt : p + 1 < s.length := (List.getElem?_eq_some_iff.1 (get_at d1')).1
    have hgb := get_at d1'
    let B1 : Mem := B ++ [r27 [] [], rowW w1.pre w1.nm [w1.v], rowL2 ws1 k]
    have hlo1 : LoM A B1 := hlo.more fun y hy => by
      simp only [List.mem_cons,List.not_mem_nil,or_false] at hy
      rcases hy with rfl | rfl | rfl
      · rfl
      · rfl
      · exact attsC_low _ _
    have q1 := blank_eq (P := Tryz.prog) (N := N) (ml := ml) s many A B1 hs hN p (by omega) (n + 7) (by omega)
    have hb1 : blN (s.drop p) = 1 := by
      rw [hd0, e1]
      unfold blN
      have hbl : isBl b = false := by
        unfold fst8 nameFirst at hf1
        have := of_decide_eq_true hf1
        unfold isBl
        have ne : ∀ c : UInt8, c.toNat < 65 → (b == c) = false := fun c hc => beq_false_of_ne fun h => by rw [h] at this; omega
        rw [ne 32 (by decide), ne 9 (by decide), ne 10 (by decide)]; rfl
      rw [List.takeWhile_cons, show isBl 32 = true from rfl]
      simp only [if_true,Zp,List.takeWhile_cons,hbl,Ze,if_false,Zf,Zk]
    rw [hb1] at q1
    have q2 := attr_w (ml := ml) s hs hN w (hw w (by simp)) many A B1 hlo1 (p + 1) _ d1 (n + 7) (by omega)
    have q3 := fun H => isFirst_eq (ml := ml) Tryz.prog N (n + 6) (b.toNat : Int) H
    rw [show nameFirst (b.toNat : Int) = true from hf1] at q3
    have c1 : decide (((p + 1 : Nat) : Int) < (s.length : Int)) = true := decide_eq_true (by omega)
    have n1 := natOf_nat (p + 1) .i64
    have z01 : decide (0 < 1) = true := rfl
    have p34' : (2 : Nat) ^ 34 = 17179869184 := by decide
    have p34 : k + 1 + 1 ≤ 2 ^ 34 := by omega
    have hal : (attsC ws1).length = (k + 1) * 3 := by rw [attsC_len, hk]
    obtain ⟨t, ht, l0, l1, l2, l6, l7, l8, l9⟩ := att_loop n many A B hlo mi dp hmi pf nm w1 r ws2 (ws1 ++ [w]) fuel (p + 1 + (wrT w).length) (k + 1) (fun y hy => hw y (by simp [hy])) (drop_next d1) (by simp [hk]) (by omega) (by omega)
    have hlo2 : LoM A (B ++ [r27 [] [], rowW w1.pre w1.nm [w1.v], rowL2 (ws1 ++ [w]) (k + 1)]) := hlo.more fun y hy => by
      simp only [List.mem_cons,List.not_mem_nil,or_false] at hy
      rcases hy with rfl | rfl | rfl
      · rfl
      · rfl
      · exact attsC_low _ _
    rw [show p + (attsT (w :: ws2)).length = p + 1 + (wrT w).length + (attsT ws2).length by unfold attsT; simp; omega, show k + (w :: ws2).length = k + 1 + ws2.length by simp; omega, show ws1 ++ w :: ws2 = (ws1 ++ [w]) ++ ws2 by simp]
    refine ⟨t, ?_, l0, l1, l2, l6, l7, l8, l9⟩
    generalize hP2 : p + 1 + (wrT w).length = p2 at *
    simp only [B1] at q1 q2
    simp only [rdr] at q1
    have hc3 : (attsC ws1 ++ wrC w) = attsC (ws1 ++ [w]) := (attsC_snoc ws1 w).symm
    have hw3 : wrC w = [.str w.pre, .str w.nm, .str [w.v]] := rfl
    have htk : (A ++ rdr s p2 many :: (B ++ [r27 [] [], rowW w1.pre w1.nm [w1.v], rowL2 (ws1 ++ [w]) (k + 1), rowW w.pre w.nm [w.v]])).take (A ++ rdr s p many :: (B ++ [r27 [] [], rowW w1.pre w1.nm [w1.v], rowL2 ws1 k])).length = A ++ rdr s p2 many :: (B ++ [r27 [] [], rowW w1.pre w1.nm [w1.v], rowL2 (ws1 ++ [w]) (k + 1)]) := by
      rw [show A ++ rdr s p2 many :: (B ++ [r27 [] [], rowW w1.pre w1.nm [w1.v], rowL2 (ws1 ++ [w]) (k + 1), rowW w.pre w.nm [w.v]]) = (A ++ rdr s p2 many :: (B ++ [r27 [] [], rowW w1.pre w1.nm [w1.v], rowL2 (ws1 ++ [w]) (k + 1)])) ++ [rowW w.pre w.nm [w.v]] by simp]
      exact List.take_left' (by simp)
    refine loopA_go (H' := A ++ rdr s p2 many :: (B ++ [r27 [] [], rowW w1.pre w1.nm [w1.v], rowL2 (ws1 ++ [w]) (k + 1), rowW w.pre w.nm [w.v]])) (by
      apply evI_seq (H' := A ++ rdr s (p + 1) many :: (B ++ [r27 [] [], rowW w1.pre w1.nm [w1.v], rowL2 ws1 k]))
      · apply evI_seq (H' := A ++ rdr s (p + 1) many :: (B ++ [r27 [] [], rowW w1.pre w1.nm [w1.v], rowL2 ws1 k]))
        · simp only [rdr,q1,c1,n1,hgb,q3,z01,Zs,Zr,Zp,Za,Zb,evI,opsI,stepI,wantI,opI,AAct.evI,look,AAct.put,mkVal,mkVM,intOpA,intA,shiftA,unA,ZP,ZO,Zh,Zt,reduceIte,Nat.reduceEqDiff,Nat.reduceLT,Zo,Zq,true_and,and_true,and_self,ZB,cellsAt,Zg,ZC,Zf,Zk,ZL,ZM,Nat.reduceAdd,Nat.reduceMul,ZN,AV.cells,AV.one,known,Zn,getE_0,getE_k,setE_0,setE_k,Zc,Zd,Zl,Zm,Zi,Zw,Zu,Zj,Z1,Zx,Zy,ZJ,ZI,ZH,ZD,ZE,splice,fillI,Nat.reduceLeDiff,strA,ZK,ZA,Ze,bq_ft,bq_tf,ZG,ZF,ZQ,Zv,Zz,isNilA,nilPtr,nilSl,nilIf,nilFn,nilMap,nilCheckA,if_true,if_false,lt_lit,le_lit,lt_lit2,le_lit2,le_sub1,le_sub2,drawI,drawI2,drawI0,drawI20,lexD,valD,valI,putD,okD,roD,memAt,lastM,wantI,eqv_refl,eqM_refl,eqM_app,eqB,eqvL,eqv,List.getLast?_cons_cons,List.getLast?_singleton,Option.getD_some,Bool.or_true,Bool.true_or,ZA,resvV]; rfl
        apply evI_true rfl
        rfl
      apply evI_block
      simp only [q2,hw3,rowL2,srcA,held,app2,hal,p34,Zs,Zr,Zp,Za,Zb,evI,opsI,stepI,wantI,opI,AAct.evI,look,AAct.put,mkVal,mkVM,intOpA,intA,shiftA,unA,ZP,ZO,Zh,Zt,reduceIte,Nat.reduceEqDiff,Nat.reduceLT,Zo,Zq,true_and,and_true,and_self,ZB,cellsAt,Zg,ZC,Zf,Zk,ZL,ZM,Nat.reduceAdd,Nat.reduceMul,ZN,AV.cells,AV.one,known,Zn,getE_0,getE_k,setE_0,setE_k,Zc,Zd,Zl,Zm,Zi,Zw,Zu,Zj,Z1,Zx,Zy,ZJ,ZI,ZH,ZD,ZE,splice,fillI,Nat.reduceLeDiff,strA,ZK,ZA,Ze,bq_ft,bq_tf,ZG,ZF,ZQ,Zv,Zz,isNilA,nilPtr,nilSl,nilIf,nilFn,nilMap,nilCheckA,if_true,if_false,lt_lit,le_lit,lt_lit2,le_lit2,le_sub1,le_sub2]
      rw [← hw3, hc3]
      rfl) ?_
    rw [re_cut ?k1 rfl ?k3, htk]
    · exact ht
    case k1 =>
      simp only [AAct.keepT,lowT,Zv,Zz,look,AAct.put,reduceIte,Nat.reduceEqDiff,Zx,Zy,low,Zg,Zf,Zk,ZI,ZH]
      rw [decide_eq_true (show A.length < A.length + (B.length + (0 + 1 + 1 + 1) + 1) by omega), decide_eq_true (show mi < A.length + (B.length + (0 + 1 + 1 + 1) + 1) by omega), decide_eq_true (show A.length + (B.length + 1) < A.length + (B.length + (0 + 1 + 1 + 1) + 1) by omega), decide_eq_true (show A.length + (B.length + 3) < A.length + (B.length + (0 + 1 + 1 + 1) + 1) by omega)]
      rfl
    case k3 =>
      rw [htk]
      have := hlo2.whole s p2 many
      simp only [Zg,Zf,Zk] at this ⊢
      exact this
theorem bl_one (w : Wr) (hw : WrOk w) (r : List UInt8) : blN (32 :: (wrT w ++ r)) = 1 := by
  obtain ⟨b, l, e1, hf1⟩ := wrT_first w hw
  rw [e1]
  unfold blN
  have hbl : isBl b = false := by
    unfold fst8 nameFirst at hf1
    have := of_decide_eq_true hf1
    unfold isBl
    have ne : ∀ c : UInt8, c.toNat < 65 → (b == c) = false := fun c hc => beq_false_of_ne fun h => by rw [h] at this; omega
    rw [ne 32 (by decide), ne 9 (by decide), ne 10 (by decide)]; rfl
  rw [List.takeWhile_cons, show isBl 32 = true from rfl]
  simp only [if_true,Zp,List.takeWhile_cons,hbl,Ze,if_false,Zf,Zk]
theorem att_all (n many : Nat) (A B : Mem) (hlo : LoM A B) (mi dp : Nat) (hmi : mi < A.length + (B.length + 1)) (pf nm : List UInt8) (w1 : Wr) (ws2 : List Wr) (r : List UInt8) (fuel p : Nat) (hw : ∀ w ∈ w1 :: ws2, WrOk w) (hd0 : s.drop p = attsT (w1 :: ws2) ++ 47 :: r) (hk2 : ws2.length < 900) (hf : ws2.length + 1 < fuel) :
    ∃ t, loopA (fun a H => evI Tryz.prog (cfg ml) (evFI Tryz.prog (cfg ml) T N (n + 7)) N loopEl a H) (some [0, 1, 2, 6, 7, 8, 9]) fuel ⟨126, elS A mi dp (A.length + (B.length + 1)) pf nm .nilS, []⟩ (A ++ rdr s p many :: (B ++ [r27 [] []])) = some (.exit 0, ⟨126, t, []⟩, A ++ rdr s (p + (attsT (w1 :: ws2)).length) many :: (B ++ [r27 [] [], rowW w1.pre w1.nm [w1.v], rowL2 (w1 :: ws2) ws2.length])) ∧ look t 0 = .ptr A.length 0 0 ∧ look t 1 = .map mi ∧ look t 2 = .int .i64 (dp : Nat) ∧ look t 6 = .ptr (A.length + (B.length + 1)) 0 0 ∧ look t 7 = .str pf ∧ look t 8 = .str nm ∧ look t 9 = .slc (A.length + (B.length + 3)) 0 (ws2.length + 1) 3 ws2.length := by
  obtain ⟨fuel, rfl⟩ : ∃ q, fuel = q + 1 := ⟨fuel - 1, by omega⟩
  rw [attsT_cons] at hd0
  have d1 := drop_one hd0
  obtain ⟨b, l, e1, hf1⟩ := wrT_first w1 (hw w1 (by simp))
  have d1' : s.drop (p + 1) = b :: (l ++ (attsT ws2 ++ 47 :: r)) := by rw [d1, e1]; rfl
  have hlt : p + 1 < s.length := (List.getElem?_eq_some_iff.1 (get_at d1')).1
  have hgb := get_at d1'
  have hlo1 : LoM A (B ++ [r27 [] []]) := hlo.more fun y hy => by
    simp only [List.mem_cons,List.not_mem_nil,or_false] at hy
    rcases hy with rfl
    rfl
  have q1 := blank_eq (P := Tryz.prog) (N := N) (ml := ml) s many A (B ++ [r27 [] []]) hs hN p (by omega) (n + 7) (by omega)
  rw [show blN (s.drop p) = 1 by rw [hd0]; exact bl_one s hs hN w1 (hw w1 (by simp)) _] at q1
  have q2 := attr_w (ml := ml) s hs hN w1 (hw w1 (by simp)) many A (B ++ [r27 [] []]) hlo1 (p + 1) _ d1 (n + 7) (by omega)
  have q3 := fun H => isFirst_eq (ml := ml) Tryz.prog N (n + 6) (b.toNat : Int) H
  rw [show nameFirst (b.toNat : Int) = true from hf1] at q3
  have c1 : decide (((p + 1 : Nat) : Int) < (s.length : Int)) = true := decide_eq_true (by omega)
  have n1 := natOf_nat (p + 1) .i64
  have z01 : decide (0 < 1) = true := rfl
  have p34 : (1 : Nat) ≤ 2 ^ 34 := by decide
  obtain ⟨t, ht, l0, l1, l2, l6, l7, l8, l9⟩ := att_loop (ml := ml) s hs hN n many A B hlo mi dp hmi pf nm w1 r ws2 [w1] fuel (p + 1 + (wrT w1).length) 0 (fun y hy => hw y (by simp [hy])) (drop_next d1) rfl (by omega) (by omega)
  simp only [ZL] at ht l9
  rw [show p + (attsT (w1 :: ws2)).length = p + 1 + (wrT w1).length + (attsT ws2).length by unfold attsT; simp; omega]
  refine ⟨t, ?_, l0, l1, l2, l6, l7, l8, l9⟩
  generalize hP2 : p + 1 + (wrT w1).length = p2 at *
  simp only [rdr] at q1
  have hw3 : wrC w1 = [.str w1.pre, .str w1.nm, .str [w1.v]] := rfl
  have hc3 : attsC [w1] = wrC w1 := by unfold attsC; simp
  refine loopA_go (H' := A ++ rdr s p2 many :: (B ++ [r27 [] [], rowW w1.pre w1.nm [w1.v], rowL2 [w1] 0])) (by
    apply evI_seq (H' := A ++ rdr s (p + 1) many :: (B ++ [r27 [] []]))
    · apply evI_seq (H' := A ++ rdr s (p + 1) many :: (B ++ [r27 [] []]))
      · simp only [rdr,q1,c1,n1,hgb,q3,z01,Zs,Zr,Zp,Za,Zb,evI,opsI,stepI,wantI,opI,AAct.evI,look,AAct.put,mkVal,mkVM,intOpA,intA,shiftA,unA,ZP,ZO,Zh,Zt,reduceIte,Nat.reduceEqDiff,Nat.reduceLT,Zo,Zq,true_and,and_true,and_self,ZB,cellsAt,Zg,ZC,Zf,Zk,ZL,ZM,Nat.reduceAdd,Nat.reduceMul,ZN,AV.cells,AV.one,known,Zn,getE_0,getE_k,setE_0,setE_k,Zc,Zd,Zl,Zm,Zi,Zw,Zu,Zj,Z1,Zx,Zy,ZJ,ZI,ZH,ZD,ZE,splice,fillI,Nat.reduceLeDiff,strA,ZK,ZA,Ze,bq_ft,bq_tf,ZG,ZF,ZQ,Zv,Zz,isNilA,nilPtr,nilSl,nilIf,nilFn,nilMap,nilCheckA,if_true,if_false,lt_lit,le_lit,lt_lit2,le_lit2,le_sub1,le_sub2,drawI,drawI2,drawI0,drawI20,lexD,valD,valI,putD,okD,roD,memAt,lastM,wantI,eqv_refl,eqM_refl,eqM_app,eqB,eqvL,eqv,List.getLast?_cons_cons,List.getLast?_singleton,Option.getD_some,Bool.or_true,Bool.true_or,ZA,resvV]; rfl
      apply evI_true rfl
      rfl
    apply evI_block
    simp only [q2,hw3,rowL2,hc3,srcA,held,app2,p34,Zs,Zr,Zp,Za,Zb,evI,opsI,stepI,wantI,opI,AAct.evI,look,AAct.put,mkVal,mkVM,intOpA,intA,shiftA,unA,ZP,ZO,Zh,Zt,reduceIte,Nat.reduceEqDiff,Nat.reduceLT,Zo,Zq,true_and,and_true,and_self,ZB,cellsAt,Zg,ZC,Zf,Zk,ZL,ZM,Nat.reduceAdd,Nat.reduceMul,ZN,AV.cells,AV.one,known,Zn,getE_0,getE_k,setE_0,setE_k,Zc,Zd,Zl,Zm,Zi,Zw,Zu,Zj,Z1,Zx,Zy,ZJ,ZI,ZH,ZD,ZE,splice,fillI,Nat.reduceLeDiff,strA,ZK,ZA,Ze,bq_ft,bq_tf,ZG,ZF,ZQ,Zv,Zz,isNilA,nilPtr,nilSl,nilIf,nilFn,nilMap,nilCheckA,if_true,if_false,lt_lit,le_lit,lt_lit2,le_lit2,le_sub1,le_sub2]; rfl) ?_
  rw [re_hold ?k1]
  · exact ht
  case k1 =>
    simp only [AAct.keepT,lowT,Zv,Zz,look,AAct.put,reduceIte,Nat.reduceEqDiff,Zx,Zy,low,Zg,Zf,Zk,ZI,ZH]
    rw [decide_eq_false (show ¬ A.length + (B.length + 3) < A.length + (B.length + (0 + 1) + 1) by omega), Bool.and_false, Bool.and_false, Bool.and_false]
end
abbrev T3 := List UInt8 × List UInt8 × List UInt8
abbrev c3 (x : T3) : List AV := [.str x.1, .str x.2.1, .str x.2.2]
def trC (ts : List T3) : List AV := ts.flatMap c3
def same3 (x y : T3) : Bool := x.1 == y.1 && x.2.1 == y.2.1
theorem trC_len (ts : List T3) : (trC ts).length = ts.length * 3 := by
  induction ts with
  | nil => rfl
  | cons w ws ih =>
    have e : trC (w :: ws) = c3 w ++ trC ws := rfl
    rw [e, List.length_append, ih]; simp; omega
theorem trC_drop (ts : List T3) (j : Nat) : (trC ts).drop (j * 3) = trC (ts.drop j) := by
  induction j generalizing ts with
  | zero => simp
  | succ j ih =>
    cases ts with
    | nil => simp [trC]
    | cons x ts =>
      have e : trC (x :: ts) = .str x.1 :: .str x.2.1 :: .str x.2.2 :: trC ts := rfl
      rw [e, show (j + 1) * 3 = j * 3 + 1 + 1 + 1 by omega, List.drop_succ_cons, List.drop_succ_cons, List.drop_succ_cons, ih, List.drop_succ_cons]
theorem callableW : callable Tryz.prog 91 = true := by kernel_rfl
section
variable {N : Nat}
theorem cloW_eq (d : Nat) (hd : 1 ≤ d) (H : Mem) (xr : Nat) (x y : T3) (hx : H[xr]? = some (.row (c3 x) 0 (87 + 1))) :
    evFI Tryz.prog (cfg ml) T N d 91 [.agg (c3 y), .ptr xr 0 0] H = some (.ret (.bool (same3 x y)), H) := by
  obtain ⟨n, rfl⟩ : ∃ n, d = n + 1 := ⟨d - 1, by omega⟩
  have hlt : xr < H.length := (List.getElem?_eq_some_iff.1 hx).1
  have hx2 : ∀ L : Mem, (H ++ L)[xr]? = some (.row (c3 x) 0 (87 + 1)) := fun L => by rw [List.getElem?_append_left hlt]; exact hx
  unfold same3
  cases h1 : (x.1 == y.1)
  · refine evF_ret (m := 16) (v := .bool false) (a := ?aa) (H1 := ?Ha) rfl t91 rfl ?hb ?hd ?hr ?hz
    case hb =>
      apply evI_seq
      · simp only [Zf,Zk,idx,I91,Zs,Zr,Zp,Za,Zb,evI,opsI,stepI,wantI,opI,AAct.evI,look,AAct.put,mkVal,mkVM,intOpA,intA,shiftA,unA,ZP,ZO,Zh,Zt,reduceIte,Nat.reduceEqDiff,Nat.reduceLT,Zo,Zq,true_and,and_true,and_self,ZB,cellsAt,Zg,ZC,Zf,Zk,ZL,ZM,Nat.reduceAdd,Nat.reduceMul,ZN,AV.cells,AV.one,known,Zn,getE_0,getE_k,setE_0,setE_k,Zc,Zd,Zl,Zm,Zi,Zw,Zu,Zj,Z1,Zx,Zy,ZJ,ZI,ZH,ZD,ZE,splice,fillI,Nat.reduceLeDiff,strA,ZK,ZA,Ze,bq_ft,bq_tf,ZG,ZF,ZQ,Zv,Zz,isNilA,nilPtr,nilSl,nilIf,nilFn,nilMap,nilCheckA,if_true,if_false,lt_lit,le_lit,lt_lit2,le_lit2,le_sub1,le_sub2]; rfl
      apply evI_seq
      · simp only [hx2,h1,Zs,Zr,Zp,Za,Zb,evI,opsI,stepI,wantI,opI,AAct.evI,look,AAct.put,mkVal,mkVM,intOpA,intA,shiftA,unA,ZP,ZO,Zh,Zt,reduceIte,Nat.reduceEqDiff,Nat.reduceLT,Zo,Zq,true_and,and_true,and_self,ZB,cellsAt,Zg,ZC,Zf,Zk,ZL,ZM,Nat.reduceAdd,Nat.reduceMul,ZN,AV.cells,AV.one,known,Zn,getE_0,getE_k,setE_0,setE_k,Zc,Zd,Zl,Zm,Zi,Zw,Zu,Zj,Z1,Zx,Zy,ZJ,ZI,ZH,ZD,ZE,splice,fillI,Nat.reduceLeDiff,strA,ZK,ZA,Ze,bq_ft,bq_tf,ZG,ZF,ZQ,Zv,Zz,isNilA,nilPtr,nilSl,nilIf,nilFn,nilMap,nilCheckA,if_true,if_false,lt_lit,le_lit,lt_lit2,le_lit2,le_sub1,le_sub2]; rfl
      rfl
    case hd => rfl
    case hr => rfl
    case hz => simp only [finish,finish,cfg,keep,Ze,if_false,frz,frzL,eC_low,kC_low,atsC_low,low,lowL,ZP,Zh,roundEnd,AAct.keepT,Zv,Zz,look,reduceIte,Nat.reduceEqDiff,lowT,Zx,Zy,low,lowL,lowD,mayCut,Zg,Zf,Zk,ZL,Nat.reduceAdd,takeS,takeE_0,takeE_k,Zi,Zw,eqM_app,eqM_refl,Bool.true_or,ZJ,ZI,ZH,ZP,Nat.lt_succ_self,Nat.lt_add_right_iff_pos,Nat.add_lt_add_iff_left,Nat.reduceLT,if_true,lt_k,Zn,Zp,Zr,ZE]
  · cases h2 : (x.2.1 == y.2.1)
    · refine evF_ret (m := 16) (v := .bool false) (a := ?ab) (H1 := ?Hb) rfl t91 rfl ?hb ?hd ?hr ?hz
      case hb =>
        apply evI_seq
        · simp only [Zf,Zk,idx,I91,Zs,Zr,Zp,Za,Zb,evI,opsI,stepI,wantI,opI,AAct.evI,look,AAct.put,mkVal,mkVM,intOpA,intA,shiftA,unA,ZP,ZO,Zh,Zt,reduceIte,Nat.reduceEqDiff,Nat.reduceLT,Zo,Zq,true_and,and_true,and_self,ZB,cellsAt,Zg,ZC,Zf,Zk,ZL,ZM,Nat.reduceAdd,Nat.reduceMul,ZN,AV.cells,AV.one,known,Zn,getE_0,getE_k,setE_0,setE_k,Zc,Zd,Zl,Zm,Zi,Zw,Zu,Zj,Z1,Zx,Zy,ZJ,ZI,ZH,ZD,ZE,splice,fillI,Nat.reduceLeDiff,strA,ZK,ZA,Ze,bq_ft,bq_tf,ZG,ZF,ZQ,Zv,Zz,isNilA,nilPtr,nilSl,nilIf,nilFn,nilMap,nilCheckA,if_true,if_false,lt_lit,le_lit,lt_lit2,le_lit2,le_sub1,le_sub2]; rfl
        apply evI_seq
        · simp only [hx2,h1,h2,Zs,Zr,Zp,Za,Zb,evI,opsI,stepI,wantI,opI,AAct.evI,look,AAct.put,mkVal,mkVM,intOpA,intA,shiftA,unA,ZP,ZO,Zh,Zt,reduceIte,Nat.reduceEqDiff,Nat.reduceLT,Zo,Zq,true_and,and_true,and_self,ZB,cellsAt,Zg,ZC,Zf,Zk,ZL,ZM,Nat.reduceAdd,Nat.reduceMul,ZN,AV.cells,AV.one,known,Zn,getE_0,getE_k,setE_0,setE_k,Zc,Zd,Zl,Zm,Zi,Zw,Zu,Zj,Z1,Zx,Zy,ZJ,ZI,ZH,ZD,ZE,splice,fillI,Nat.reduceLeDiff,strA,ZK,ZA,Ze,bq_ft,bq_tf,ZG,ZF,ZQ,Zv,Zz,isNilA,nilPtr,nilSl,nilIf,nilFn,nilMap,nilCheckA,if_true,if_false,lt_lit,le_lit,lt_lit2,le_lit2,le_sub1,le_sub2]; rfl
        rfl
      case hd => rfl
      case hr => rfl
      case hz => simp only [finish,finish,cfg,keep,Ze,if_false,frz,frzL,eC_low,kC_low,atsC_low,low,lowL,ZP,Zh,roundEnd,AAct.keepT,Zv,Zz,look,reduceIte,Nat.reduceEqDiff,lowT,Zx,Zy,low,lowL,lowD,mayCut,Zg,Zf,Zk,ZL,Nat.reduceAdd,takeS,takeE_0,takeE_k,Zi,Zw,eqM_app,eqM_refl,Bool.true_or,ZJ,ZI,ZH,ZP,Nat.lt_succ_self,Nat.lt_add_right_iff_pos,Nat.add_lt_add_iff_left,Nat.reduceLT,if_true,lt_k,Zn,Zp,Zr]
    · refine evF_ret (m := 16) (v := .bool true) (a := ?ac) (H1 := ?Hc) rfl t91 rfl ?hb ?hd ?hr ?hz
      case hb =>
        apply evI_seq
        · simp only [Zf,Zk,idx,I91,Zs,Zr,Zp,Za,Zb,evI,opsI,stepI,wantI,opI,AAct.evI,look,AAct.put,mkVal,mkVM,intOpA,intA,shiftA,unA,ZP,ZO,Zh,Zt,reduceIte,Nat.reduceEqDiff,Nat.reduceLT,Zo,Zq,true_and,and_true,and_self,ZB,cellsAt,Zg,ZC,Zf,Zk,ZL,ZM,Nat.reduceAdd,Nat.reduceMul,ZN,AV.cells,AV.one,known,Zn,getE_0,getE_k,setE_0,setE_k,Zc,Zd,Zl,Zm,Zi,Zw,Zu,Zj,Z1,Zx,Zy,ZJ,ZI,ZH,ZD,ZE,splice,fillI,Nat.reduceLeDiff,strA,ZK,ZA,Ze,bq_ft,bq_tf,ZG,ZF,ZQ,Zv,Zz,isNilA,nilPtr,nilSl,nilIf,nilFn,nilMap,nilCheckA,if_true,if_false,lt_lit,le_lit,lt_lit2,le_lit2,le_sub1,le_sub2]; rfl
        apply evI_seq
        · simp only [hx2,h1,h2,Zs,Zr,Zp,Za,Zb,evI,opsI,stepI,wantI,opI,AAct.evI,look,AAct.put,mkVal,mkVM,intOpA,intA,shiftA,unA,ZP,ZO,Zh,Zt,reduceIte,Nat.reduceEqDiff,Nat.reduceLT,Zo,Zq,true_and,and_true,and_self,ZB,cellsAt,Zg,ZC,Zf,Zk,ZL,ZM,Nat.reduceAdd,Nat.reduceMul,ZN,AV.cells,AV.one,known,Zn,getE_0,getE_k,setE_0,setE_k,Zc,Zd,Zl,Zm,Zi,Zw,Zu,Zj,Z1,Zx,Zy,ZJ,ZI,ZH,ZD,ZE,splice,fillI,Nat.reduceLeDiff,strA,ZK,ZA,Ze,bq_ft,bq_tf,ZG,ZF,ZQ,Zv,Zz,isNilA,nilPtr,nilSl,nilIf,nilFn,nilMap,nilCheckA,if_true,if_false,lt_lit,le_lit,lt_lit2,le_lit2,le_sub1,le_sub2]; rfl
        rfl
      case hd => rfl
      case hr => rfl
      case hz => simp only [finish,finish,cfg,keep,Ze,if_false,frz,frzL,eC_low,kC_low,atsC_low,low,lowL,ZP,Zh,roundEnd,AAct.keepT,Zv,Zz,look,reduceIte,Nat.reduceEqDiff,lowT,Zx,Zy,low,lowL,lowD,mayCut,Zg,Zf,Zk,ZL,Nat.reduceAdd,takeS,takeE_0,takeE_k,Zi,Zw,eqM_app,eqM_refl,Bool.true_or,ZJ,ZI,ZH,ZP,Nat.lt_succ_self,Nat.lt_add_right_iff_pos,Nat.add_lt_add_iff_left,Nat.reduceLT,if_true,lt_k,Zn,Zp,Zr]
noncomputable def loopIW : IC := (I114.c.loops).getD 0 .bad
theorem idxW_loop (n : Nat) (H : Mem) (q st ty xr i : Nat) (ts : List T3) (x : T3) (hq : H[q]? = some (.row (trC ts) st ty)) (hx : H[xr]? = some (.row (c3 x) 0 (87 + 1))) (hi : i ≤ ts.length) (hil : i < 1000) : ∀ (fuel j : Nat), j ≤ i → i - j < fuel →
    ∃ t o, loopA (fun a H => evI Tryz.prog (cfg ml) (evFI Tryz.prog (cfg ml) T N (n + 1)) N loopIW a H) (some [0, 1, 7, 8]) fuel ⟨19, [(0, .slc q 0 i 3 st), (1, .fn (.func 91) [.ptr xr 0 0]), (7, .int .i64 i), (8, .int .i64 j)], []⟩ H = some (o, ⟨19, t, []⟩, H) ∧ (if ((ts.take i).drop j).any (same3 x) = true then o = .ret ∧ ∃ m : Nat, look t 4 = .int .i64 m else o = .exit 0)
  | 0, j, _, h => by omega
  | fuel + 1, j, hj, hf => by
    rcases Nat.lt_or_ge j i with hlt | hge
    · have hjl : j < ts.length := by omega
      have hd : (ts.take i).drop j = ts[j] :: (ts.take i).drop (j + 1) := by
        rw [List.drop_eq_getElem_cons (by rw [List.length_take]; omega), List.getElem_take]
      have hcell : (trC ts).drop (j * 3) = c3 ts[j] ++ trC (ts.drop (j + 1)) := by
        rw [trC_drop, List.drop_eq_getElem_cons hjl]; rfl
      have hlen : j * 3 + 3 ≤ (trC ts).length := by rw [trC_len]; omega
      generalize ts[j] = y at *
      have hc1 : decide ((j : Int) < (i : Int)) = true := decide_eq_true (by omega)
      have hn := natOf_nat j .i64
      have hw : IntKind.wrap .i64 ((j : Int) + 1) = ((j + 1 : Nat) : Int) := by rw [wrap64] <;> omega
      have qc := cloW_eq (N := N) (ml := ml) (n + 1) (by omega) H xr x y hx
      have hcl := callableW
      have z0 : ∀ k : Nat, 0 + k = k := Nat.zero_add
      rw [hd, List.any_cons]
      cases hs : same3 x y
      · rw [hs] at qc
        obtain ⟨t, o, ht, ho⟩ := idxW_loop n H q st ty xr i ts x hq hx hi hil fuel (j + 1) (by omega) (by omega)
        rw [Bool.false_or]
        refine ⟨t, o, ?_, ho⟩
        refine loopA_go (H' := H) (by simp only [loopIW,I114,IC.loops,Za,hc1,hn,hw,hq,hcell,hlen,hlt,qc,hcl,z0,Zs,Zr,Zp,Za,Zb,evI,opsI,stepI,wantI,opI,AAct.evI,look,AAct.put,mkVal,mkVM,intOpA,intA,shiftA,unA,ZP,ZO,Zh,Zt,reduceIte,Nat.reduceEqDiff,Nat.reduceLT,Zo,Zq,true_and,and_true,and_self,ZB,cellsAt,Zg,ZC,Zf,Zk,ZL,ZM,Nat.reduceAdd,Nat.reduceMul,ZN,AV.cells,AV.one,known,Zn,getE_0,getE_k,setE_0,setE_k,Zc,Zd,Zl,Zm,Zi,Zw,Zu,Zj,Z1,Zx,Zy,ZJ,ZI,ZH,ZD,ZE,splice,fillI,Nat.reduceLeDiff,strA,ZK,ZA,Ze,bq_ft,bq_tf,ZG,ZF,ZQ,Zv,Zz,isNilA,nilPtr,nilSl,nilIf,nilFn,nilMap,nilCheckA,if_true,if_false,lt_lit,le_lit,lt_lit2,le_lit2,le_sub1,le_sub2]; rfl) ?_
        rw [re_len rfl]
        exact ht
      · rw [hs] at qc
        rw [Bool.true_or]
        simp only [if_true]
        exact ⟨_, _, loopA_ret (by simp only [loopIW,I114,IC.loops,Za,hc1,hn,hw,hq,hcell,hlen,hlt,qc,hcl,z0,Zs,Zr,Zp,Za,Zb,evI,opsI,stepI,wantI,opI,AAct.evI,look,AAct.put,mkVal,mkVM,intOpA,intA,shiftA,unA,ZP,ZO,Zh,Zt,reduceIte,Nat.reduceEqDiff,Nat.reduceLT,Zo,Zq,true_and,and_true,and_self,ZB,cellsAt,Zg,ZC,Zf,Zk,ZL,ZM,Nat.reduceAdd,Nat.reduceMul,ZN,AV.cells,AV.one,known,Zn,getE_0,getE_k,setE_0,setE_k,Zc,Zd,Zl,Zm,Zi,Zw,Zu,Zj,Z1,Zx,Zy,ZJ,ZI,ZH,ZD,ZE,splice,fillI,Nat.reduceLeDiff,strA,ZK,ZA,Ze,bq_ft,bq_tf,ZG,ZF,ZQ,Zv,Zz,isNilA,nilPtr,nilSl,nilIf,nilFn,nilMap,nilCheckA,if_true,if_false,lt_lit,le_lit,lt_lit2,le_lit2,le_sub1,le_sub2]; rfl), rfl, j, rfl⟩
    · have hc1 : decide ((j : Int) < (i : Int)) = false := decide_eq_false (by omega)
      have hd : (ts.take i).drop j = [] := List.drop_eq_nil_of_le (by rw [List.length_take]; omega)
      rw [hd]
      simp only [List.any_nil,Ze,if_false]
      exact ⟨_, _, loopA_exit (by simp only [loopIW,I114,IC.loops,Za,hc1,Zs,Zr,Zp,Za,Zb,evI,opsI,stepI,wantI,opI,AAct.evI,look,AAct.put,mkVal,mkVM,intOpA,intA,shiftA,unA,ZP,ZO,Zh,Zt,reduceIte,Nat.reduceEqDiff,Nat.reduceLT,Zo,Zq,true_and,and_true,and_self,ZB,cellsAt,Zg,ZC,Zf,Zk,ZL,ZM,Nat.reduceAdd,Nat.reduceMul,ZN,AV.cells,AV.one,known,Zn,getE_0,getE_k,setE_0,setE_k,Zc,Zd,Zl,Zm,Zi,Zw,Zu,Zj,Z1,Zx,Zy,ZJ,ZI,ZH,ZD,ZE,splice,fillI,Nat.reduceLeDiff,strA,ZK,ZA,Ze,bq_ft,bq_tf,ZG,ZF,ZQ,Zv,Zz,isNilA,nilPtr,nilSl,nilIf,nilFn,nilMap,nilCheckA,if_true,if_false,lt_lit,le_lit,lt_lit2,le_lit2,le_sub1,le_sub2]; rfl), rfl⟩
theorem idxW_eq (hN : 1000 < N) (d : Nat) (hd : 2 ≤ d) (H : Mem) (q st ty xr i : Nat) (ts : List T3) (x : T3) (hq : H[q]? = some (.row (trC ts) st ty)) (hx : H[xr]? = some (.row (c3 x) 0 (87 + 1))) (hi : i ≤ ts.length) (hil : i < 1000) :
    ∃ v : Int, evFI Tryz.prog (cfg ml) T N d 114 [.slc q 0 i 3 st, .fn (.func 91) [.ptr xr 0 0]] H = some (.ret (.int .i64 v), H) ∧ decide (v ≥ 0) = (ts.take i).any (same3 x) := by
  obtain ⟨n, rfl⟩ : ∃ n, d = n + 2 := ⟨d - 2, by omega⟩
  obtain ⟨t, o, ht, ho⟩ := idxW_loop (N := N) (ml := ml) n H q st ty xr i ts x hq hx hi hil N 0 (by omega) (by omega)
  rw [List.drop_zero] at ho
  cases hc : (ts.take i).any (same3 x)
  · rw [hc] at ho
    simp only [Ze,if_false] at ho
    subst ho
    refine ⟨-1, ?_, rfl⟩
    refine evF_ret (m := 19) (v := .int .i64 (-1)) (a := ?aa) (H1 := H) rfl t114 rfl ?hb ?hd ?hr ?hz
    case hb =>
      apply evI_seq
      · simp only [Zf,Zk,idx,I114,Zs,Zr,Zp,Za,Zb,evI,opsI,stepI,wantI,opI,AAct.evI,look,AAct.put,mkVal,mkVM,intOpA,intA,shiftA,unA,ZP,ZO,Zh,Zt,reduceIte,Nat.reduceEqDiff,Nat.reduceLT,Zo,Zq,true_and,and_true,and_self,ZB,cellsAt,Zg,ZC,Zf,Zk,ZL,ZM,Nat.reduceAdd,Nat.reduceMul,ZN,AV.cells,AV.one,known,Zn,getE_0,getE_k,setE_0,setE_k,Zc,Zd,Zl,Zm,Zi,Zw,Zu,Zj,Z1,Zx,Zy,ZJ,ZI,ZH,ZD,ZE,splice,fillI,Nat.reduceLeDiff,strA,ZK,ZA,Ze,bq_ft,bq_tf,ZG,ZF,ZQ,Zv,Zz,isNilA,nilPtr,nilSl,nilIf,nilFn,nilMap,nilCheckA,if_true,if_false,lt_lit,le_lit,lt_lit2,le_lit2,le_sub1,le_sub2]; rfl
      apply evI_seq
      · apply evI_seq
        · simp only [Zs,Zr,Zp,Za,Zb,evI,opsI,stepI,wantI,opI,AAct.evI,look,AAct.put,mkVal,mkVM,intOpA,intA,shiftA,unA,ZP,ZO,Zh,Zt,reduceIte,Nat.reduceEqDiff,Nat.reduceLT,Zo,Zq,true_and,and_true,and_self,ZB,cellsAt,Zg,ZC,Zf,Zk,ZL,ZM,Nat.reduceAdd,Nat.reduceMul,ZN,AV.cells,AV.one,known,Zn,getE_0,getE_k,setE_0,setE_k,Zc,Zd,Zl,Zm,Zi,Zw,Zu,Zj,Z1,Zx,Zy,ZJ,ZI,ZH,ZD,ZE,splice,fillI,Nat.reduceLeDiff,strA,ZK,ZA,Ze,bq_ft,bq_tf,ZG,ZF,ZQ,Zv,Zz,isNilA,nilPtr,nilSl,nilIf,nilFn,nilMap,nilCheckA,if_true,if_false,lt_lit,le_lit,lt_lit2,le_lit2,le_sub1,le_sub2]; rfl
        apply evI_block_exit
        apply evI_loop
        exact ht
      simp only [Zs,Zr,Zp,Za,Zb,evI,opsI,stepI,wantI,opI,AAct.evI,look,AAct.put,mkVal,mkVM,intOpA,intA,shiftA,unA,ZP,ZO,Zh,Zt,reduceIte,Nat.reduceEqDiff,Nat.reduceLT,Zo,Zq,true_and,and_true,and_self,ZB,cellsAt,Zg,ZC,Zf,Zk,ZL,ZM,Nat.reduceAdd,Nat.reduceMul,ZN,AV.cells,AV.one,known,Zn,getE_0,getE_k,setE_0,setE_k,Zc,Zd,Zl,Zm,Zi,Zw,Zu,Zj,Z1,Zx,Zy,ZJ,ZI,ZH,ZD,ZE,splice,fillI,Nat.reduceLeDiff,strA,ZK,ZA,Ze,bq_ft,bq_tf,ZG,ZF,ZQ,Zv,Zz,isNilA,nilPtr,nilSl,nilIf,nilFn,nilMap,nilCheckA,if_true,if_false,lt_lit,le_lit,lt_lit2,le_lit2,le_sub1,le_sub2]; rfl
    case hd => rfl
    case hr => rfl
    case hz => exact fin_len rfl rfl
  · rw [hc] at ho
    simp only [if_true] at ho
    obtain ⟨rfl, m, hm⟩ := ho
    refine ⟨m, ?_, decide_eq_true (by omega)⟩
    refine evF_ret (m := 19) (v := .int .i64 m) (a := ⟨19, t, []⟩) (H1 := H) rfl t114 rfl ?hb ?hd ?hr ?hz
    case hb =>
      apply evI_seq
      · simp only [Zf,Zk,idx,I114,Zs,Zr,Zp,Za,Zb,evI,opsI,stepI,wantI,opI,AAct.evI,look,AAct.put,mkVal,mkVM,intOpA,intA,shiftA,unA,ZP,ZO,Zh,Zt,reduceIte,Nat.reduceEqDiff,Nat.reduceLT,Zo,Zq,true_and,and_true,and_self,ZB,cellsAt,Zg,ZC,Zf,Zk,ZL,ZM,Nat.reduceAdd,Nat.reduceMul,ZN,AV.cells,AV.one,known,Zn,getE_0,getE_k,setE_0,setE_k,Zc,Zd,Zl,Zm,Zi,Zw,Zu,Zj,Z1,Zx,Zy,ZJ,ZI,ZH,ZD,ZE,splice,fillI,Nat.reduceLeDiff,strA,ZK,ZA,Ze,bq_ft,bq_tf,ZG,ZF,ZQ,Zv,Zz,isNilA,nilPtr,nilSl,nilIf,nilFn,nilMap,nilCheckA,if_true,if_false,lt_lit,le_lit,lt_lit2,le_lit2,le_sub1,le_sub2]; rfl
      apply evI_seq_ret
      apply evI_seq
      · simp only [Zs,Zr,Zp,Za,Zb,evI,opsI,stepI,wantI,opI,AAct.evI,look,AAct.put,mkVal,mkVM,intOpA,intA,shiftA,unA,ZP,ZO,Zh,Zt,reduceIte,Nat.reduceEqDiff,Nat.reduceLT,Zo,Zq,true_and,and_true,and_self,ZB,cellsAt,Zg,ZC,Zf,Zk,ZL,ZM,Nat.reduceAdd,Nat.reduceMul,ZN,AV.cells,AV.one,known,Zn,getE_0,getE_k,setE_0,setE_k,Zc,Zd,Zl,Zm,Zi,Zw,Zu,Zj,Z1,Zx,Zy,ZJ,ZI,ZH,ZD,ZE,splice,fillI,Nat.reduceLeDiff,strA,ZK,ZA,Ze,bq_ft,bq_tf,ZG,ZF,ZQ,Zv,Zz,isNilA,nilPtr,nilSl,nilIf,nilFn,nilMap,nilCheckA,if_true,if_false,lt_lit,le_lit,lt_lit2,le_lit2,le_sub1,le_sub2]; rfl
      apply evI_block_ret
      apply evI_loop
      exact ht
    case hd => rfl
    case hr => simp only [I114,resI,resLI,hm,Zh]
    case hz => exact fin_len rfl rfl
theorem contW_eq (hN : 1000 < N) (d : Nat) (hd : 3 ≤ d) (H : Mem) (q st ty xr i : Nat) (ts : List T3) (x : T3) (hq : H[q]? = some (.row (trC ts) st ty)) (hx : H[xr]? = some (.row (c3 x) 0 (87 + 1))) (hi : i ≤ ts.length) (hil : i < 1000) :
    evFI Tryz.prog (cfg ml) T N d 90 [.slc q 0 i 3 st, .fn (.func 91) [.ptr xr 0 0]] H = some (.ret (.bool ((ts.take i).any (same3 x))), H) := by
  obtain ⟨n, rfl⟩ : ∃ n, d = n + 3 := ⟨d - 3, by omega⟩
  obtain ⟨v, q1, q2⟩ := idxW_eq (N := N) (ml := ml) hN (n + 2) (by omega) H q st ty xr i ts x hq hx hi hil
  generalize (ts.take i).any (same3 x) = b at *
  refine evF_ret (m := 9) (v := .bool b) (a := ?aa) (H1 := H) rfl t90 rfl ?hb ?hd ?hr ?hz
  case hb => simp only [Zf,Zk,idx,I90,q1,q2,Zs,Zr,Zp,Za,Zb,evI,opsI,stepI,wantI,opI,AAct.evI,look,AAct.put,mkVal,mkVM,intOpA,intA,shiftA,unA,ZP,ZO,Zh,Zt,reduceIte,Nat.reduceEqDiff,Nat.reduceLT,Zo,Zq,true_and,and_true,and_self,ZB,cellsAt,Zg,ZC,Zf,Zk,ZL,ZM,Nat.reduceAdd,Nat.reduceMul,ZN,AV.cells,AV.one,known,Zn,getE_0,getE_k,setE_0,setE_k,Zc,Zd,Zl,Zm,Zi,Zw,Zu,Zj,Z1,Zx,Zy,ZJ,ZI,ZH,ZD,ZE,splice,fillI,Nat.reduceLeDiff,strA,ZK,ZA,Ze,bq_ft,bq_tf,ZG,ZF,ZQ,Zv,Zz,isNilA,nilPtr,nilSl,nilIf,nilFn,nilMap,nilCheckA,if_true,if_false,lt_lit,le_lit,lt_lit2,le_lit2,le_sub1,le_sub2]; rfl
  case hd => rfl
  case hr => rfl
  case hz => exact fin_len rfl rfl
def dupW : List T3 → List T3 → Bool
  | _, [] => false
  | l, x :: r => l.any (same3 x) || dupW (l ++ [x]) r
noncomputable def loopS (k : Nat) : IC := (I66.c.loops).getD k .bad
theorem dup_loop (hN : 1000 < N) (n : Nat) (H : Mem) (hlo : lowM H.length H = true) (q st ty mi : Nat) (hmi : mi < H.length) (pf : List UInt8) (ts : List T3) (hq : H[q]? = some (.row (trC ts) st ty)) (hil : ts.length < 900) : ∀ (fuel i : Nat), i ≤ ts.length → ts.length - i < fuel →
    ∃ t o H', loopA (fun a H => evI Tryz.prog (cfg ml) (evFI Tryz.prog (cfg ml) T N (n + 4)) N (loopS 0) a H) (some [0, 1, 2, 21, 22, 23]) fuel ⟨163, [(0, .map mi), (1, .str pf), (2, .slc q 0 ts.length 3 st), (21, .slc q 0 ts.length 3 st), (22, .int .i64 ts.length), (23, .int .i64 i)], []⟩ H = some (o, ⟨163, t, []⟩, H') ∧ H'.take H.length = H ∧ (if dupW (ts.take i) (ts.drop i) = true then o = .pan (failv 8) else o = .exit 0 ∧ H' = H ∧ look t 0 = .map mi ∧ look t 1 = .str pf ∧ look t 2 = .slc q 0 ts.length 3 st)
  | 0, i, _, h => by omega
  | fuel + 1, i, hi, hf => by
    rcases Nat.lt_or_ge i ts.length with hlt | hge
    · have hql : q < H.length := (List.getElem?_eq_some_iff.1 hq).1
      have hd : ts.drop i = ts[i] :: ts.drop (i + 1) := List.drop_eq_getElem_cons hlt
      have hcell : (trC ts).drop (i * 3) = c3 ts[i] ++ trC (ts.drop (i + 1)) := by
        rw [trC_drop, hd]; rfl
      have htk : ts.take (i + 1) = ts.take i ++ [ts[i]] := by rw [List.take_succ_eq_append_getElem hlt]
      have hlen : i * 3 + 3 ≤ (trC ts).length := by rw [trC_len]; omega
      generalize ts[i] = x at *
      have hc1 : decide ((i : Int) < (ts.length : Int)) = true := decide_eq_true (by omega)
      have hn := natOf_nat i .i64
      have hw : IntKind.wrap .i64 ((i : Int) + 1) = ((i + 1 : Nat) : Int) := by rw [wrap64] <;> omega
      have hq2 : ∀ L : Mem, (H ++ L)[q]? = some (.row (trC ts) st ty) := fun L => by rw [List.getElem?_append_left hql]; exact hq
      have qc := contW_eq (N := N) (ml := ml) hN (n + 4) (by omega) (H ++ [.row (c3 x) 0 (87 + 1)]) q st ty H.length i ts x (hq2 _) (by rw [getE_0]; rfl) (by omega) (by omega)
      have z0 : ∀ k : Nat, 0 + k = k := Nat.zero_add
      have hle : i ≤ ts.length := hi
      have i0 : i - 0 = i := rfl
      have hcut : cutSD 3 (.slc q 0 ts.length 3 st) none (some (.int .i64 (i : Int))) = some (.slc q 0 i 3 st) := by
        simp only [cutSD,bound,hn,Zt,Zh,Zo,Nat.zero_le,hle,and_self,if_true,ZN,ZM,Nat.sub_zero]
      rw [hd]
      unfold dupW
      cases hs : (ts.take i).any (same3 x)
      · rw [hs] at qc
        have qm := fun e H => must_t (P := Tryz.prog) (N := N) (ml := ml) (n + 4) (by omega) e H
        obtain ⟨t, o, H', ht, h1, h2⟩ := dup_loop hN n H hlo q st ty mi hmi pf ts hq hil fuel (i + 1) (by omega) (by omega)
        rw [Bool.false_or, ← htk]
        refine ⟨t, o, H', ?_, h1, h2⟩
        refine loopA_go (H' := H ++ [.row (c3 x) 0 (87 + 1)]) (by simp only [loopS,I66,IC.loops,Za,hc1,hn,hw,hq,hq2,hcell,hlen,hlt,qc,qm,z0,hcut,Zs,Zr,Zp,Za,Zb,evI,opsI,stepI,wantI,opI,AAct.evI,look,AAct.put,mkVal,mkVM,intOpA,intA,shiftA,unA,ZP,ZO,Zh,Zt,reduceIte,Nat.reduceEqDiff,Nat.reduceLT,Zo,Zq,true_and,and_true,and_self,ZB,cellsAt,Zg,ZC,Zf,Zk,ZL,ZM,Nat.reduceAdd,Nat.reduceMul,ZN,AV.cells,AV.one,known,Zn,getE_0,getE_k,setE_0,setE_k,Zc,Zd,Zl,Zm,Zi,Zw,Zu,Zj,Z1,Zx,Zy,ZJ,ZI,ZH,ZD,ZE,splice,fillI,Nat.reduceLeDiff,strA,ZK,ZA,Ze,bq_ft,bq_tf,ZG,ZF,ZQ,Zv,Zz,isNilA,nilPtr,nilSl,nilIf,nilFn,nilMap,nilCheckA,if_true,if_false,lt_lit,le_lit,lt_lit2,le_lit2,le_sub1,le_sub2]; rfl) ?_
        rw [re_cut (by
          simp only [AAct.keepT,lowT,Zv,Zz,look,AAct.put,reduceIte,Nat.reduceEqDiff,Zx,Zy,low,decide_eq_true hql,decide_eq_true hmi,ZI]) rfl (by rw [takeE_0]; exact hlo), takeE_0]
        exact ht
      · rw [hs] at qc
        have qm := fun e H => must_f (P := Tryz.prog) (N := N) (ml := ml) (n + 4) (by omega) e H
        rw [Bool.true_or]
        simp only [if_true]
        exact ⟨_, _, _, loopA_pan (by simp only [loopS,I66,IC.loops,Za,hc1,hn,hw,hq,hq2,hcell,hlen,hlt,qc,qm,z0,hcut,Zs,Zr,Zp,Za,Zb,evI,opsI,stepI,wantI,opI,AAct.evI,look,AAct.put,mkVal,mkVM,intOpA,intA,shiftA,unA,ZP,ZO,Zh,Zt,reduceIte,Nat.reduceEqDiff,Nat.reduceLT,Zo,Zq,true_and,and_true,and_self,ZB,cellsAt,Zg,ZC,Zf,Zk,ZL,ZM,Nat.reduceAdd,Nat.reduceMul,ZN,AV.cells,AV.one,known,Zn,getE_0,getE_k,setE_0,setE_k,Zc,Zd,Zl,Zm,Zi,Zw,Zu,Zj,Z1,Zx,Zy,ZJ,ZI,ZH,ZD,ZE,splice,fillI,Nat.reduceLeDiff,strA,ZK,ZA,Ze,bq_ft,bq_tf,ZG,ZF,ZQ,Zv,Zz,isNilA,nilPtr,nilSl,nilIf,nilFn,nilMap,nilCheckA,if_true,if_false,lt_lit,le_lit,lt_lit2,le_lit2,le_sub1,le_sub2]; rfl), takeE_0 _ _, rfl⟩
    · have hc1 : decide ((i : Int) < (ts.length : Int)) = false := decide_eq_false (by omega)
      rw [List.drop_eq_nil_of_le hge]
      unfold dupW
      simp only [Ze,if_false]
      exact ⟨_, _, H, loopA_exit (by simp only [loopS,I66,IC.loops,Za,hc1,Zs,Zr,Zp,Za,Zb,evI,opsI,stepI,wantI,opI,AAct.evI,look,AAct.put,mkVal,mkVM,intOpA,intA,shiftA,unA,ZP,ZO,Zh,Zt,reduceIte,Nat.reduceEqDiff,Nat.reduceLT,Zo,Zq,true_and,and_true,and_self,ZB,cellsAt,Zg,ZC,Zf,Zk,ZL,ZM,Nat.reduceAdd,Nat.reduceMul,ZN,AV.cells,AV.one,known,Zn,getE_0,getE_k,setE_0,setE_k,Zc,Zd,Zl,Zm,Zi,Zw,Zu,Zj,Z1,Zx,Zy,ZJ,ZI,ZH,ZD,ZE,splice,fillI,Nat.reduceLeDiff,strA,ZK,ZA,Ze,bq_ft,bq_tf,ZG,ZF,ZQ,Zv,Zz,isNilA,nilPtr,nilSl,nilIf,nilFn,nilMap,nilCheckA,if_true,if_false,lt_lit,le_lit,lt_lit2,le_lit2,le_sub1,le_sub2]; rfl), List.take_length, rfl, rfl, rfl, rfl, rfl⟩
end
abbrev ES := List (List UInt8 × List UInt8)
def mapE (es : ES) : List (AV × AV) := es.map fun e => (.str e.1, .str e.2)
def atE (k : List UInt8) : ES → Nat → Option (Nat × List UInt8)
  | [], _ => none
  | e :: es, i => if (k == e.1) = true then some (i, e.2) else atE k es (i + 1)
def lkE (es : ES) (k : List UInt8) : List UInt8 := match atE k es 0 with
  | some (_, v) => v
  | none => []
def updE (es : ES) (k v : List UInt8) : ES := match atE k es 0 with
  | some (i, _) => es.set i (k, v)
  | none => es ++ [(k, v)]
theorem findA_str (k : List UInt8) : ∀ (es : ES) (i : Nat), findA .string (.str k) (mapE es) i = some ((atE k es i).map fun p => (p.1, AV.str p.2))
  | [], i => rfl
  | e :: es, i => by
    have ih := findA_str k es (i + 1)
    show (match keyEq .string (AV.str k) (AV.str e.1) with
      | some true => some (some (i, AV.str e.2))
      | some false => findA .string (.str k) (mapE es) (i + 1)
      | none => none) = _
    rw [ih]
    rw [show atE k (e :: es) i = if (k == e.1) = true then some (i, e.2) else atE k es (i + 1) from rfl]
    cases h : (k == e.1)
    · simp only [keyEq,h,Ze,if_false]
    · simp only [keyEq,h,if_true,Zh]
theorem lookup_str {M : Mem} {μ : Nat} {es : ES} (h : M[μ]? = some (.map (mapE es))) (k : List UInt8) : lookupD .string (.str []) M (.map μ) (.str k) false = some (.str (lkE es k)) := by
  unfold lookupD
  simp only [h,Zo,isKey,if_true,findA_str]
  unfold lkE
  cases atE k es 0 <;> rfl
theorem update_str {M : Mem} {μ : Nat} {es : ES} (h : M[μ]? = some (.map (mapE es))) (k v : List UInt8) : updateD .string M (.map μ) (.str k) (.str v) = some (M.set μ (.map (mapE (updE es k v)))) := by
  unfold updateD
  simp only [h,isKey,if_true,findA_str,Zh]
  unfold updE
  cases atE k es 0 with
  | none => simp [mapE]
  | some p => simp [mapE, List.map_set]
theorem mapE_low (n : Nat) (es : ES) : lowE n (mapE es) = true := by
  unfold lowE mapE
  rw [List.all_map]
  exact List.all_eq_true.2 fun e _ => rfl
def nsB : List UInt8 := [120, 109, 108, 110, 115]
def dclE (es : ES) (x : T3) : ES := if ((x.1 == []) && (x.2.1 == nsB)) = true then updE es [] x.2.2 else if (x.1 == nsB) = true then updE es x.2.1 x.2.2 else es
def dclOk (x : T3) : Prop := (x.1 == nsB) = true → (x.2.2 == []) = false ∧ (x.2.1 == nsB) = false ∧ (x.2.1 == [120, 109, 108]) = false
section
variable {N : Nat}
theorem dcl_loop (n : Nat) (H : Mem) (hlo : lowM H.length H = true) (q st ty mi : Nat) (hmi : mi < H.length) (pf : List UInt8) (ts : List T3) (hq : H[q]? = some (.row (trC ts) st ty)) (hil : ts.length < 900) (hok : ∀ x ∈ ts, dclOk x) : ∀ (fuel i : Nat) (es : ES), i ≤ ts.length → ts.length - i < fuel →
    ∃ t, loopA (fun a H => evI Tryz.prog (cfg ml) (evFI Tryz.prog (cfg ml) T N (n + 4)) N (loopS 2) a H) (some [1, 2, 10, 47, 48, 49]) fuel ⟨163, [(1, .str pf), (2, .slc q 0 ts.length 3 st), (10, .map H.length), (47, .slc q 0 ts.length 3 st), (48, .int .i64 ts.length), (49, .int .i64 i)], []⟩ (H ++ [.map (mapE es), .miter mi 1]) = some (.exit 4, ⟨163, t, []⟩, H ++ [.map (mapE ((ts.drop i).foldl dclE es)), .miter mi 1]) ∧ look t 1 = .str pf ∧ look t 2 = .slc q 0 ts.length 3 st ∧ look t 10 = .map H.length
  | 0, i, es, _, h => by omega
  | fuel + 1, i, es, hi, hf => by
    rcases Nat.lt_or_ge i ts.length with hlt | hge
    · have hql : q < H.length := (List.getElem?_eq_some_iff.1 hq).1
      have hd : ts.drop i = ts[i] :: ts.drop (i + 1) := List.drop_eq_getElem_cons hlt
      have hcell : (trC ts).drop (i * 3) = c3 ts[i] ++ trC (ts.drop (i + 1)) := by
        rw [trC_drop, hd]; rfl
      have hlen : i * 3 + 3 ≤ (trC ts).length := by rw [trC_len]; omega
      have hx := hok ts[i] (List.getElem_mem hlt)
      generalize ts[i] = x at *
      have hc1 : decide ((i : Int) < (ts.length : Int)) = true := decide_eq_true (by omega)
      have hn := natOf_nat i .i64
      have hw : IntKind.wrap .i64 ((i : Int) + 1) = ((i + 1 : Nat) : Int) := by rw [wrap64] <;> omega
      have hq2 : ∀ L : Mem, (H ++ L)[q]? = some (.row (trC ts) st ty) := fun L => by rw [List.getElem?_append_left hql]; exact hq
      have z0 : ∀ k : Nat, 0 + k = k := Nat.zero_add
      have qm := fun e H => must_t (P := Tryz.prog) (N := N) (ml := ml) (n + 4) (by omega) e H
      have qu : ∀ (k v : List UInt8), updateD .string (H ++ [.map (mapE es), .miter mi 1, .row (c3 x) 0 (87 + 1)]) (.map H.length) (.str k) (.str v) = some (H ++ [.map (mapE (updE es k v)), .miter mi 1, .row (c3 x) 0 (87 + 1)]) := fun k v => by
        rw [update_str (es := es) (by rw [getE_0]; rfl), setE_0]; rfl
      obtain ⟨t, ht, l1, l2, l10⟩ := dcl_loop n H hlo q st ty mi hmi pf ts hq hil hok fuel (i + 1) (dclE es x) (by omega) (by omega)
      rw [hd, List.foldl_cons]
      refine ⟨t, ?_, l1, l2, l10⟩
      have fin : ∀ (a : AAct) (es' : ES), a.keepT [1, 2, 10, 47, 48, 49] = ⟨163, [(1, .str pf), (2, .slc q 0 ts.length 3 st), (10, .map H.length), (47, .slc q 0 ts.length 3 st), (48, .int .i64 ts.length), (49, .int .i64 (i + 1 : Nat))], []⟩ → roundEnd (some [1, 2, 10, 47, 48, 49]) (H ++ [.map (mapE es), .miter mi 1]) a (H ++ [.map (mapE es'), .miter mi 1, .row (c3 x) 0 (87 + 1)]) = (a.keepT [1, 2, 10, 47, 48, 49], H ++ [.map (mapE es'), .miter mi 1]) := fun a es' ha => by
        have htk : (H ++ [Blk.map (mapE es'), .miter mi 1, .row (c3 x) 0 (87 + 1)]).take (H ++ [Blk.map (mapE es), .miter mi 1]).length = H ++ [.map (mapE es'), .miter mi 1] := by
          rw [show H ++ [Blk.map (mapE es'), .miter mi 1, .row (c3 x) 0 (87 + 1)] = (H ++ [.map (mapE es'), .miter mi 1]) ++ [.row (c3 x) 0 (87 + 1)] by simp]
          exact List.take_left' (by simp)
        have hd' : a.d = [] := by
          have := congrArg AAct.d ha
          exact this
        have hlen2 : (H ++ [Blk.map (mapE es), Blk.miter mi 1]).length = H.length + 2 := by simp
        rw [re_cut (by
          rw [ha, hlen2]
          simp only [lowT,Zx,Zy,low,decide_eq_true (show q < H.length + 2 by omega),decide_eq_true (show H.length < H.length + 2 by omega),ZI]) (by rw [hd']; rfl) (by
          rw [htk, hlen2]
          unfold lowM at *
          rw [List.all_append, List.all_eq_true.2 fun y hy => lowB_mono (by omega) (List.all_eq_true.1 hlo y hy)]
          simp only [Zx,Zy,lowB,mapE_low,decide_eq_true (show mi < H.length + 2 by omega),ZI,ZH]), htk]
      unfold dclOk at hx
      cases b1 : (x.1 == [])
      · cases b3 : (x.1 == [120, 109, 108, 110, 115])
        · have e : dclE es x = es := by
            unfold dclE nsB
            simp only [b1,b3,ZE,Ze,if_false]
          rw [e] at ht ⊢
          refine loopA_go (H' := H ++ [.map (mapE es), .miter mi 1, .row (c3 x) 0 (87 + 1)]) (by simp only [loopS,I66,IC.loops,Zb,Za,hc1,hn,hw,hq2,hcell,hlen,hlt,qm,qu,mkM,z0,b1,b3,Zs,Zr,Zp,Za,Zb,evI,opsI,stepI,wantI,opI,AAct.evI,look,AAct.put,mkVal,mkVM,intOpA,intA,shiftA,unA,ZP,ZO,Zh,Zt,reduceIte,Nat.reduceEqDiff,Nat.reduceLT,Zo,Zq,true_and,and_true,and_self,ZB,cellsAt,Zg,ZC,Zf,Zk,ZL,ZM,Nat.reduceAdd,Nat.reduceMul,ZN,AV.cells,AV.one,known,Zn,getE_0,getE_k,setE_0,setE_k,Zc,Zd,Zl,Zm,Zi,Zw,Zu,Zj,Z1,Zx,Zy,ZJ,ZI,ZH,ZD,ZE,splice,fillI,Nat.reduceLeDiff,strA,ZK,ZA,Ze,bq_ft,bq_tf,ZG,ZF,ZQ,Zv,Zz,isNilA,nilPtr,nilSl,nilIf,nilFn,nilMap,nilCheckA,if_true,if_false,lt_lit,le_lit,lt_lit2,le_lit2,le_sub1,le_sub2]; rfl) ?_
          rw [fin _ _ rfl]
          exact ht
        · obtain ⟨g1, g2, g3⟩ := hx b3
          have g2' : (x.2.1 == [120, 109, 108, 110, 115]) = false := g2
          have e : dclE es x = updE es x.2.1 x.2.2 := by
            unfold dclE nsB
            simp only [b1,b3,ZE,Ze,if_false,if_true]
          rw [e] at ht ⊢
          refine loopA_go (H' := H ++ [.map (mapE (updE es x.2.1 x.2.2)), .miter mi 1, .row (c3 x) 0 (87 + 1)]) (by simp only [loopS,I66,IC.loops,Zb,Za,hc1,hn,hw,hq2,hcell,hlen,hlt,qm,qu,mkM,z0,b1,b3,g1,g2',g3,Zs,Zr,Zp,Za,Zb,evI,opsI,stepI,wantI,opI,AAct.evI,look,AAct.put,mkVal,mkVM,intOpA,intA,shiftA,unA,ZP,ZO,Zh,Zt,reduceIte,Nat.reduceEqDiff,Nat.reduceLT,Zo,Zq,true_and,and_true,and_self,ZB,cellsAt,Zg,ZC,Zf,Zk,ZL,ZM,Nat.reduceAdd,Nat.reduceMul,ZN,AV.cells,AV.one,known,Zn,getE_0,getE_k,setE_0,setE_k,Zc,Zd,Zl,Zm,Zi,Zw,Zu,Zj,Z1,Zx,Zy,ZJ,ZI,ZH,ZD,ZE,splice,fillI,Nat.reduceLeDiff,strA,ZK,ZA,Ze,bq_ft,bq_tf,ZG,ZF,ZQ,Zv,Zz,isNilA,nilPtr,nilSl,nilIf,nilFn,nilMap,nilCheckA,if_true,if_false,lt_lit,le_lit,lt_lit2,le_lit2,le_sub1,le_sub2]; rfl) ?_
          rw [fin _ _ rfl]
          exact ht
      · have b3 : (x.1 == [120, 109, 108, 110, 115]) = false := by rw [eq_of_beq b1]; rfl
        cases b2 : (x.2.1 == [120, 109, 108, 110, 115])
        · have e : dclE es x = es := by
            unfold dclE nsB
            simp only [b1,b2,b3,ZD,Ze,if_false]
          rw [e] at ht ⊢
          refine loopA_go (H' := H ++ [.map (mapE es), .miter mi 1, .row (c3 x) 0 (87 + 1)]) (by simp only [loopS,I66,IC.loops,Zb,Za,hc1,hn,hw,hq2,hcell,hlen,hlt,qm,qu,mkM,z0,b1,b2,b3,Zs,Zr,Zp,Za,Zb,evI,opsI,stepI,wantI,opI,AAct.evI,look,AAct.put,mkVal,mkVM,intOpA,intA,shiftA,unA,ZP,ZO,Zh,Zt,reduceIte,Nat.reduceEqDiff,Nat.reduceLT,Zo,Zq,true_and,and_true,and_self,ZB,cellsAt,Zg,ZC,Zf,Zk,ZL,ZM,Nat.reduceAdd,Nat.reduceMul,ZN,AV.cells,AV.one,known,Zn,getE_0,getE_k,setE_0,setE_k,Zc,Zd,Zl,Zm,Zi,Zw,Zu,Zj,Z1,Zx,Zy,ZJ,ZI,ZH,ZD,ZE,splice,fillI,Nat.reduceLeDiff,strA,ZK,ZA,Ze,bq_ft,bq_tf,ZG,ZF,ZQ,Zv,Zz,isNilA,nilPtr,nilSl,nilIf,nilFn,nilMap,nilCheckA,if_true,if_false,lt_lit,le_lit,lt_lit2,le_lit2,le_sub1,le_sub2]; rfl) ?_
          rw [fin _ _ rfl]
          exact ht
        · have e : dclE es x = updE es [] x.2.2 := by
            unfold dclE nsB
            simp only [b1,b2,ZJ,if_true]
          rw [e] at ht ⊢
          refine loopA_go (H' := H ++ [.map (mapE (updE es [] x.2.2)), .miter mi 1, .row (c3 x) 0 (87 + 1)]) (by simp only [loopS,I66,IC.loops,Zb,Za,hc1,hn,hw,hq2,hcell,hlen,hlt,qm,qu,mkM,z0,b1,b2,b3,Zs,Zr,Zp,Za,Zb,evI,opsI,stepI,wantI,opI,AAct.evI,look,AAct.put,mkVal,mkVM,intOpA,intA,shiftA,unA,ZP,ZO,Zh,Zt,reduceIte,Nat.reduceEqDiff,Nat.reduceLT,Zo,Zq,true_and,and_true,and_self,ZB,cellsAt,Zg,ZC,Zf,Zk,ZL,ZM,Nat.reduceAdd,Nat.reduceMul,ZN,AV.cells,AV.one,known,Zn,getE_0,getE_k,setE_0,setE_k,Zc,Zd,Zl,Zm,Zi,Zw,Zu,Zj,Z1,Zx,Zy,ZJ,ZI,ZH,ZD,ZE,splice,fillI,Nat.reduceLeDiff,strA,ZK,ZA,Ze,bq_ft,bq_tf,ZG,ZF,ZQ,Zv,Zz,isNilA,nilPtr,nilSl,nilIf,nilFn,nilMap,nilCheckA,if_true,if_false,lt_lit,le_lit,lt_lit2,le_lit2,le_sub1,le_sub2]; rfl) ?_
          rw [fin _ _ rfl]
          exact ht
    · have hc1 : decide ((i : Int) < (ts.length : Int)) = false := decide_eq_false (by omega)
      rw [List.drop_eq_nil_of_le hge]
      exact ⟨_, loopA_exit (by simp only [loopS,I66,IC.loops,Zb,Za,hc1,Zs,Zr,Zp,Za,Zb,evI,opsI,stepI,wantI,opI,AAct.evI,look,AAct.put,mkVal,mkVM,intOpA,intA,shiftA,unA,ZP,ZO,Zh,Zt,reduceIte,Nat.reduceEqDiff,Nat.reduceLT,Zo,Zq,true_and,and_true,and_self,ZB,cellsAt,Zg,ZC,Zf,Zk,ZL,ZM,Nat.reduceAdd,Nat.reduceMul,ZN,AV.cells,AV.one,known,Zn,getE_0,getE_k,setE_0,setE_k,Zc,Zd,Zl,Zm,Zi,Zw,Zu,Zj,Z1,Zx,Zy,ZJ,ZI,ZH,ZD,ZE,splice,fillI,Nat.reduceLeDiff,strA,ZK,ZA,Ze,bq_ft,bq_tf,ZG,ZF,ZQ,Zv,Zz,isNilA,nilPtr,nilSl,nilIf,nilFn,nilMap,nilCheckA,if_true,if_false,lt_lit,le_lit,lt_lit2,le_lit2,le_sub1,le_sub2]; rfl), rfl, rfl, rfl⟩
end
end Go.Proofs.YtmnajffpmbidiaaGreatDoor.Ev
