/- Parts of one proof. -/
import Derived.Test.YtmnajffpmbidiaaGreatDoorMdf
import Derived.Test.YtmnajffpmbidiaaGreatDoorMdh
import Derived.Test.YtmnajffpmbidiaaGreatDoorMcg
import Derived.Below
set_option linter.all false
namespace Go.Proofs.YtmnajffpmbidiaaGreatDoor.Ev
variable {ml : Int}
open Go.Proofs.YtmnajffpmbidiaaGreatDoor.Ic
set_option maxRecDepth 100000
set_option maxHeartbeats 4000000
def smallB (c : UInt8) : Bool := decide (97 ≤ c.toNat ∧ c.toNat ≤ 122)
theorem small_first {c : UInt8} (h : smallB c = true) : fst8 c = true := by
  unfold smallB at h
  have := of_decide_eq_true h
  unfold fst8 nameFirst
  exact decide_eq_true (.inl (by omega))
theorem small_next {c : UInt8} (h : smallB c = true) : nxt8 c = true := fst_nxt c (small_first h)
theorem small_plain {c : UInt8} (h : smallB c = true) : plainB c = true := by
  unfold smallB at h
  have := of_decide_eq_true h
  unfold plainB
  exact decide_eq_true (.inr (.inr (by omega)))
def lettersOf (s : List UInt8) : Bool := s.all smallB && (decide (0 < s.length) && decide (s.length < 50))
noncomputable def loopLt : IC := (I20.c.loops).getD 0 .bad
theorem letters_loop (P : Program) (N n : Nat) (s : List UInt8) (hl : s.length ≤ 9223372036854775807) (H : Mem) : ∀ (fuel k : Nat), k ≤ s.length → s.length - k < fuel →
    ∃ t, loopA (fun a H => evI P (cfg ml) (evFI P (cfg ml) T N n) N loopLt a H) (some [0, 3]) fuel ⟨28, [(0, .str s), (3, .int .i64 k)], []⟩ H =
      (if (s.drop k).all smallB = true then some (.exit 0, ⟨28, t, []⟩, H) else some (.ret, ⟨28, (2, .bool false) :: t, []⟩, H)) ∧ look t 0 = .str s
  | 0, k, _, h => by omega
  | fuel + 1, k, hk, hf => by
    rcases Nat.lt_or_ge k s.length with hlt | hge
    · obtain ⟨b, hb⟩ := all_drop hlt
      have hget : s[k]? = some b := get_at hb
      have hi : decide ((k : Int) < (s.length : Int)) = true := decide_eq_true (by omega)
      have hw := wrap_next hlt hl
      have hn := natOf_nat k .i64
      obtain ⟨t, ht, h0⟩ := letters_loop P N n s hl H fuel (k + 1) (by omega) (by omega)
      rw [hb, List.all_cons]
      cases c1 : decide ((b.toNat : Int) < 97)
      · cases c2 : decide ((b.toNat : Int) > 122)
        · have e : smallB b = true := by
            unfold smallB
            have h1 := of_decide_eq_false c1
            have h2 := of_decide_eq_false c2
            exact decide_eq_true (by omega)
          rw [e, Bool.true_and]
          refine ⟨t, ?_, h0⟩
          refine loopA_go (H' := H) (by simp only [loopLt,I20,IC.loops,Za,hi,hn,hget,hw,c1,c2,Zs,Zr,Zp,Za,Zb,evI,opsI,stepI,wantI,opI,AAct.evI,look,AAct.put,mkVal,mkVM,intOpA,intA,shiftA,unA,ZP,ZO,Zh,Zt,reduceIte,Nat.reduceEqDiff,Nat.reduceLT,Zo,Zq,true_and,and_true,and_self,ZB,cellsAt,Zg,ZC,Zf,Zk,ZL,ZM,Nat.reduceAdd,Nat.reduceMul,ZN,AV.cells,AV.one,known,Zn,getE_0,getE_k,setE_0,setE_k,Zc,Zd,Zl,Zm,Zi,Zw,Zu,Zj,Z1,Zx,Zy,ZJ,ZI,ZH,ZD,ZE,splice,fillI,Nat.reduceLeDiff,strA,ZK,ZA,Ze,bq_ft,bq_tf,ZG,ZF,ZQ,Zv,Zz,isNilA,nilPtr,nilSl,nilIf,nilFn,nilMap,nilCheckA,if_true,if_false,lt_lit,le_lit,lt_lit2,le_lit2,le_sub1,le_sub2]; rfl) ?_
          rw [re_len rfl]
          exact ht
        · have e : smallB b = false := by
            unfold smallB
            have h2 := of_decide_eq_true c2
            exact decide_eq_false (by omega)
          rw [e, Bool.false_and]
          simp only [Ze,if_false]
          exact ⟨_, loopA_ret (by simp only [loopLt,I20,IC.loops,Za,hi,hn,hget,hw,c1,c2,Zs,Zr,Zp,Za,Zb,evI,opsI,stepI,wantI,opI,AAct.evI,look,AAct.put,mkVal,mkVM,intOpA,intA,shiftA,unA,ZP,ZO,Zh,Zt,reduceIte,Nat.reduceEqDiff,Nat.reduceLT,Zo,Zq,true_and,and_true,and_self,ZB,cellsAt,Zg,ZC,Zf,Zk,ZL,ZM,Nat.reduceAdd,Nat.reduceMul,ZN,AV.cells,AV.one,known,Zn,getE_0,getE_k,setE_0,setE_k,Zc,Zd,Zl,Zm,Zi,Zw,Zu,Zj,Z1,Zx,Zy,ZJ,ZI,ZH,ZD,ZE,splice,fillI,Nat.reduceLeDiff,strA,ZK,ZA,Ze,bq_ft,bq_tf,ZG,ZF,ZQ,Zv,Zz,isNilA,nilPtr,nilSl,nilIf,nilFn,nilMap,nilCheckA,if_true,if_false,lt_lit,le_lit,lt_lit2,le_lit2,le_sub1,le_sub2]; rfl), rfl⟩
      · have e : smallB b = false := by
          unfold smallB
          have h2 := of_decide_eq_true c1
          exact decide_eq_false (by omega)
        rw [e, Bool.false_and]
        simp only [Ze,if_false]
        exact ⟨_, loopA_ret (by simp only [loopLt,I20,IC.loops,Za,hi,hn,hget,hw,c1,Zs,Zr,Zp,Za,Zb,evI,opsI,stepI,wantI,opI,AAct.evI,look,AAct.put,mkVal,mkVM,intOpA,intA,shiftA,unA,ZP,ZO,Zh,Zt,reduceIte,Nat.reduceEqDiff,Nat.reduceLT,Zo,Zq,true_and,and_true,and_self,ZB,cellsAt,Zg,ZC,Zf,Zk,ZL,ZM,Nat.reduceAdd,Nat.reduceMul,ZN,AV.cells,AV.one,known,Zn,getE_0,getE_k,setE_0,setE_k,Zc,Zd,Zl,Zm,Zi,Zw,Zu,Zj,Z1,Zx,Zy,ZJ,ZI,ZH,ZD,ZE,splice,fillI,Nat.reduceLeDiff,strA,ZK,ZA,Ze,bq_ft,bq_tf,ZG,ZF,ZQ,Zv,Zz,isNilA,nilPtr,nilSl,nilIf,nilFn,nilMap,nilCheckA,if_true,if_false,lt_lit,le_lit,lt_lit2,le_lit2,le_sub1,le_sub2]; rfl), rfl⟩
    · have hi : decide ((k : Int) < (s.length : Int)) = false := decide_eq_false (by omega)
      rw [List.drop_eq_nil_of_le hge]
      simp only [Zy,if_true]
      exact ⟨_, loopA_exit (by simp only [loopLt,I20,IC.loops,Za,hi,Zs,Zr,Zp,Za,Zb,evI,opsI,stepI,wantI,opI,AAct.evI,look,AAct.put,mkVal,mkVM,intOpA,intA,shiftA,unA,ZP,ZO,Zh,Zt,reduceIte,Nat.reduceEqDiff,Nat.reduceLT,Zo,Zq,true_and,and_true,and_self,ZB,cellsAt,Zg,ZC,Zf,Zk,ZL,ZM,Nat.reduceAdd,Nat.reduceMul,ZN,AV.cells,AV.one,known,Zn,getE_0,getE_k,setE_0,setE_k,Zc,Zd,Zl,Zm,Zi,Zw,Zu,Zj,Z1,Zx,Zy,ZJ,ZI,ZH,ZD,ZE,splice,fillI,Nat.reduceLeDiff,strA,ZK,ZA,Ze,bq_ft,bq_tf,ZG,ZF,ZQ,Zv,Zz,isNilA,nilPtr,nilSl,nilIf,nilFn,nilMap,nilCheckA,if_true,if_false,lt_lit,le_lit,lt_lit2,le_lit2,le_sub1,le_sub2]; rfl), rfl⟩
theorem letters_eq (P : Program) (N d : Nat) (hd : 1 ≤ d) (s : List UInt8) (hl : s.length ≤ 9223372036854775807) (hN : s.length < N) (H : Mem) : evFI P (cfg ml) T N d 20 [.str s] H = some (.ret (.bool (lettersOf s)), H) := by
  obtain ⟨n, rfl⟩ : ∃ k, d = k + 1 := ⟨d - 1, by omega⟩
  obtain ⟨t, ht, h0⟩ := letters_loop (ml := ml) P N n s hl H N 0 (by omega) (by omega)
  rw [List.drop_zero] at ht
  unfold lettersOf
  cases hc : s.all smallB
  · simp only [hc,Ze,if_false] at ht
    rw [Bool.false_and]
    refine evF_ret (m := 28) (v := .bool false) (a := ?aa) (H1 := H) rfl t20 rfl ?hb ?hd ?hr ?hz
    case hb =>
      apply evI_seq
      · simp only [Zf,Zk,idx,I20,Zs,Zr,Zp,Za,Zb,evI,opsI,stepI,wantI,opI,AAct.evI,look,AAct.put,mkVal,mkVM,intOpA,intA,shiftA,unA,ZP,ZO,Zh,Zt,reduceIte,Nat.reduceEqDiff,Nat.reduceLT,Zo,Zq,true_and,and_true,and_self,ZB,cellsAt,Zg,ZC,Zf,Zk,ZL,ZM,Nat.reduceAdd,Nat.reduceMul,ZN,AV.cells,AV.one,known,Zn,getE_0,getE_k,setE_0,setE_k,Zc,Zd,Zl,Zm,Zi,Zw,Zu,Zj,Z1,Zx,Zy,ZJ,ZI,ZH,ZD,ZE,splice,fillI,Nat.reduceLeDiff,strA,ZK,ZA,Ze,bq_ft,bq_tf,ZG,ZF,ZQ,Zv,Zz,isNilA,nilPtr,nilSl,nilIf,nilFn,nilMap,nilCheckA,if_true,if_false,lt_lit,le_lit,lt_lit2,le_lit2,le_sub1,le_sub2]; rfl
      apply evI_seq_ret
      apply evI_seq
      · simp only [Zs,Zr,Zp,Za,Zb,evI,opsI,stepI,wantI,opI,AAct.evI,look,AAct.put,mkVal,mkVM,intOpA,intA,shiftA,unA,ZP,ZO,Zh,Zt,reduceIte,Nat.reduceEqDiff,Nat.reduceLT,Zo,Zq,true_and,and_true,and_self,ZB,cellsAt,Zg,ZC,Zf,Zk,ZL,ZM,Nat.reduceAdd,Nat.reduceMul,ZN,AV.cells,AV.one,known,Zn,getE_0,getE_k,setE_0,setE_k,Zc,Zd,Zl,Zm,Zi,Zw,Zu,Zj,Z1,Zx,Zy,ZJ,ZI,ZH,ZD,ZE,splice,fillI,Nat.reduceLeDiff,strA,ZK,ZA,Ze,bq_ft,bq_tf,ZG,ZF,ZQ,Zv,Zz,isNilA,nilPtr,nilSl,nilIf,nilFn,nilMap,nilCheckA,if_true,if_false,lt_lit,le_lit,lt_lit2,le_lit2,le_sub1,le_sub2]; rfl
      apply evI_block_ret
      apply evI_loop
      exact ht
    case hd => rfl
    case hr => simp only [I20,resI,resLI,look,reduceIte,Nat.reduceEqDiff,Zh]
    case hz => exact fin_len rfl rfl
  · simp only [hc,if_true] at ht
    rw [Bool.true_and]
    have e1 : decide ((s.length : Int) > 0) = decide (0 < s.length) := by congr 1; apply propext; omega
    have e2 : decide ((s.length : Int) < 50) = decide (s.length < 50) := by congr 1; apply propext; omega
    cases c1 : decide (0 < s.length)
    · rw [c1] at e1
      refine evF_ret (m := 28) (v := .bool false) (a := ?ab) (H1 := H) rfl t20 rfl ?hb ?hd ?hr ?hz
      case hb =>
        apply evI_seq
        · simp only [Zf,Zk,idx,I20,Zs,Zr,Zp,Za,Zb,evI,opsI,stepI,wantI,opI,AAct.evI,look,AAct.put,mkVal,mkVM,intOpA,intA,shiftA,unA,ZP,ZO,Zh,Zt,reduceIte,Nat.reduceEqDiff,Nat.reduceLT,Zo,Zq,true_and,and_true,and_self,ZB,cellsAt,Zg,ZC,Zf,Zk,ZL,ZM,Nat.reduceAdd,Nat.reduceMul,ZN,AV.cells,AV.one,known,Zn,getE_0,getE_k,setE_0,setE_k,Zc,Zd,Zl,Zm,Zi,Zw,Zu,Zj,Z1,Zx,Zy,ZJ,ZI,ZH,ZD,ZE,splice,fillI,Nat.reduceLeDiff,strA,ZK,ZA,Ze,bq_ft,bq_tf,ZG,ZF,ZQ,Zv,Zz,isNilA,nilPtr,nilSl,nilIf,nilFn,nilMap,nilCheckA,if_true,if_false,lt_lit,le_lit,lt_lit2,le_lit2,le_sub1,le_sub2]; rfl
        apply evI_seq
        · apply evI_seq
          · simp only [Zs,Zr,Zp,Za,Zb,evI,opsI,stepI,wantI,opI,AAct.evI,look,AAct.put,mkVal,mkVM,intOpA,intA,shiftA,unA,ZP,ZO,Zh,Zt,reduceIte,Nat.reduceEqDiff,Nat.reduceLT,Zo,Zq,true_and,and_true,and_self,ZB,cellsAt,Zg,ZC,Zf,Zk,ZL,ZM,Nat.reduceAdd,Nat.reduceMul,ZN,AV.cells,AV.one,known,Zn,getE_0,getE_k,setE_0,setE_k,Zc,Zd,Zl,Zm,Zi,Zw,Zu,Zj,Z1,Zx,Zy,ZJ,ZI,ZH,ZD,ZE,splice,fillI,Nat.reduceLeDiff,strA,ZK,ZA,Ze,bq_ft,bq_tf,ZG,ZF,ZQ,Zv,Zz,isNilA,nilPtr,nilSl,nilIf,nilFn,nilMap,nilCheckA,if_true,if_false,lt_lit,le_lit,lt_lit2,le_lit2,le_sub1,le_sub2]; rfl
          apply evI_block_exit
          apply evI_loop
          exact ht
        simp only [h0,e1,Zs,Zr,Zp,Za,Zb,evI,opsI,stepI,wantI,opI,AAct.evI,look,AAct.put,mkVal,mkVM,intOpA,intA,shiftA,unA,ZP,ZO,Zh,Zt,reduceIte,Nat.reduceEqDiff,Nat.reduceLT,Zo,Zq,true_and,and_true,and_self,ZB,cellsAt,Zg,ZC,Zf,Zk,ZL,ZM,Nat.reduceAdd,Nat.reduceMul,ZN,AV.cells,AV.one,known,Zn,getE_0,getE_k,setE_0,setE_k,Zc,Zd,Zl,Zm,Zi,Zw,Zu,Zj,Z1,Zx,Zy,ZJ,ZI,ZH,ZD,ZE,splice,fillI,Nat.reduceLeDiff,strA,ZK,ZA,Ze,bq_ft,bq_tf,ZG,ZF,ZQ,Zv,Zz,isNilA,nilPtr,nilSl,nilIf,nilFn,nilMap,nilCheckA,if_true,if_false,lt_lit,le_lit,lt_lit2,le_lit2,le_sub1,le_sub2]; rfl
      case hd => rfl
      case hr => simp only [I20,resI,resLI,look,reduceIte,Nat.reduceEqDiff,Zh]
      case hz => exact fin_len rfl rfl
    · rw [c1] at e1
      rw [Bool.true_and]
      generalize decide (s.length < 50) = q at *
      refine evF_ret (m := 28) (v := .bool q) (a := ?ac) (H1 := H) rfl t20 rfl ?hb ?hd ?hr ?hz
      case hb =>
        apply evI_seq
        · simp only [Zf,Zk,idx,I20,Zs,Zr,Zp,Za,Zb,evI,opsI,stepI,wantI,opI,AAct.evI,look,AAct.put,mkVal,mkVM,intOpA,intA,shiftA,unA,ZP,ZO,Zh,Zt,reduceIte,Nat.reduceEqDiff,Nat.reduceLT,Zo,Zq,true_and,and_true,and_self,ZB,cellsAt,Zg,ZC,Zf,Zk,ZL,ZM,Nat.reduceAdd,Nat.reduceMul,ZN,AV.cells,AV.one,known,Zn,getE_0,getE_k,setE_0,setE_k,Zc,Zd,Zl,Zm,Zi,Zw,Zu,Zj,Z1,Zx,Zy,ZJ,ZI,ZH,ZD,ZE,splice,fillI,Nat.reduceLeDiff,strA,ZK,ZA,Ze,bq_ft,bq_tf,ZG,ZF,ZQ,Zv,Zz,isNilA,nilPtr,nilSl,nilIf,nilFn,nilMap,nilCheckA,if_true,if_false,lt_lit,le_lit,lt_lit2,le_lit2,le_sub1,le_sub2]; rfl
        apply evI_seq
        · apply evI_seq
          · simp only [Zs,Zr,Zp,Za,Zb,evI,opsI,stepI,wantI,opI,AAct.evI,look,AAct.put,mkVal,mkVM,intOpA,intA,shiftA,unA,ZP,ZO,Zh,Zt,reduceIte,Nat.reduceEqDiff,Nat.reduceLT,Zo,Zq,true_and,and_true,and_self,ZB,cellsAt,Zg,ZC,Zf,Zk,ZL,ZM,Nat.reduceAdd,Nat.reduceMul,ZN,AV.cells,AV.one,known,Zn,getE_0,getE_k,setE_0,setE_k,Zc,Zd,Zl,Zm,Zi,Zw,Zu,Zj,Z1,Zx,Zy,ZJ,ZI,ZH,ZD,ZE,splice,fillI,Nat.reduceLeDiff,strA,ZK,ZA,Ze,bq_ft,bq_tf,ZG,ZF,ZQ,Zv,Zz,isNilA,nilPtr,nilSl,nilIf,nilFn,nilMap,nilCheckA,if_true,if_false,lt_lit,le_lit,lt_lit2,le_lit2,le_sub1,le_sub2]; rfl
          apply evI_block_exit
          apply evI_loop
          exact ht
        simp only [h0,e1,e2,Zs,Zr,Zp,Za,Zb,evI,opsI,stepI,wantI,opI,AAct.evI,look,AAct.put,mkVal,mkVM,intOpA,intA,shiftA,unA,ZP,ZO,Zh,Zt,reduceIte,Nat.reduceEqDiff,Nat.reduceLT,Zo,Zq,true_and,and_true,and_self,ZB,cellsAt,Zg,ZC,Zf,Zk,ZL,ZM,Nat.reduceAdd,Nat.reduceMul,ZN,AV.cells,AV.one,known,Zn,getE_0,getE_k,setE_0,setE_k,Zc,Zd,Zl,Zm,Zi,Zw,Zu,Zj,Z1,Zx,Zy,ZJ,ZI,ZH,ZD,ZE,splice,fillI,Nat.reduceLeDiff,strA,ZK,ZA,Ze,bq_ft,bq_tf,ZG,ZF,ZQ,Zv,Zz,isNilA,nilPtr,nilSl,nilIf,nilFn,nilMap,nilCheckA,if_true,if_false,lt_lit,le_lit,lt_lit2,le_lit2,le_sub1,le_sub2]; rfl
      case hd => rfl
      case hr => simp only [I20,resI,resLI,look,reduceIte,Nat.reduceEqDiff,Zh]
      case hz => exact fin_len rfl rfl
section
variable {N : Nat} (hN : 4294967281 ≤ N)
include hN
end
section
variable {N : Nat} (hN : 4294967281 ≤ N)
include hN
theorem one_el (w1 : Wr) (ws2 : List Wr) (hw : ∀ w ∈ w1 :: ws2, WrOk w) (hp : (attsT (w1 :: ws2)).all plainB = true) (hk2 : ws2.length < 800) (hl : (attsT (w1 :: ws2)).length < 4000000000) (x : List UInt8) (hx : x = 60 :: (101 :: (attsT (w1 :: ws2) ++ [47, 62]))) (H : Mem) (hlo : lowM H.length H = true) (q ty : Nat) (hq : H[q]? = some (.row (ofBytes x) 0 ty)) (n : Nat) (ts : List T3) (hts : ts = (w1 :: ws2).map t3) :
    (dupW [] ts = true → evFI Tryz.prog (cfg ml) T N (n + 9) 13 [.slc q 0 x.length 1 0] H = some (.ret (.tup [.agg [.str [], .str [], .str [], .lst 0 [], .lst 0 []], .int .i64 8]), H)) ∧
    (∀ es, es = ts.foldl dclE [(ownK, nsX)] → dupW [] ts = false → (∀ t ∈ ts, dclOk t) → (∀ t ∈ ts, pfxOk es t) → 0 < (atrs es ts).length → (atrs es ts).length < 900 →
      evFI Tryz.prog (cfg ml) T N (n + 9) 13 [.slc q 0 x.length 1 0] H = some (.ret (if dupW [] (atrs es ts) = true then .tup [.agg [.str [], .str [], .str [], .lst 0 [], .lst 0 []], .int .i64 8] else .tup [.agg [.str (lkE es []), .str [101], .str [], .lst (atrs es ts).length (trC (atrs es ts)), .lst 0 []], .int .i64 0]), H)) := by
  have hlen : x.length = (attsT (w1 :: ws2)).length + 4 := by rw [hx]; simp
  have hpl : ∀ c ∈ x, plainB c = true := by
    intro c hc
    rw [hx] at hc
    simp only [List.mem_cons,List.mem_append,List.not_mem_nil,or_false] at hc
    rcases hc with rfl | rfl | h | rfl | rfl <;> first | decide | exact List.all_eq_true.1 hp _ h
  have hnm : isNm [101] := ⟨101, [], rfl, by decide, by decide⟩
  have d0 : x.drop 0 = 60 :: ([101] ++ (attsT (w1 :: ws2) ++ 47 :: 62 :: [])) := by rw [hx]; rfl
  have h60 : x[0]? = some 60 := by rw [hx]; rfl
  have hM1 : ∀ A : Mem, evFI Tryz.prog (cfg ml) T N (n + 8) 37 [.ptr A.length 0 0, .bool true] (A ++ rdr x 0 0 :: []) = some (.ret (.tup []), A ++ rdr x 0 0 :: []) := fun A =>
    misc_no (P := Tryz.prog) (N := N) (ml := ml) x 0 A [] (by omega) (by omega) 0 (by omega) true (by rw [d0]; rfl) (by rw [d0]; exact hasP_two _ _ _ _ _ (by decide)) (by rw [d0]; exact hasP_two _ _ _ _ _ (by decide)) (fun _ => by rw [d0]; exact hasP_two _ _ _ _ _ (by decide)) (n + 8) (by omega)
  have hx2 : hasP x [60, 63, 120, 109, 108] = false := by
    have : x = x.drop 0 := rfl
    rw [this, d0]; exact hasP_two _ _ _ _ _ (by decide)
  have hx1 : hasP x [239, 187, 191] = false := by
    have : x = x.drop 0 := rfl
    rw [this, d0]; simp [hasP]
  have hmi : ∀ A : Mem, ∀ L : Mem, ∀ p m, (A ++ rdr x p m :: ([scope1 nsX] ++ L))[A.length + 1]? = some (scope1 nsX) := fun A L p m => by rw [getE_k]; rfl
  have hmi2 : ∀ A : Mem, ∀ L : Mem, ∀ p m, (A ++ rdr x p m :: ([scope1 nsX] ++ L))[A.length + 1]? = some (.map (mapE [(ownK, nsX)])) := fun A L p m => by rw [getE_k]; rfl
  have e4 : x.length = 0 + 1 + ([101] : List UInt8).length + (attsT (w1 :: ws2)).length + 2 := by rw [hlen]; simp; omega
  have hS0 : ∀ A : Mem, LoM A [scope1 nsX] → lowM (A ++ rdr x x.length (0 + 1) :: ([scope1 nsX] ++ [r27 [] [], rowW w1.pre w1.nm [w1.v], rowL2 (w1 :: ws2) ws2.length])).length (A ++ rdr x x.length (0 + 1) :: ([scope1 nsX] ++ [r27 [] [], rowW w1.pre w1.nm [w1.v], rowL2 (w1 :: ws2) ws2.length])) = true := fun A hA =>
    (hA.more (C := [r27 [] [], rowW w1.pre w1.nm [w1.v], rowL2 (w1 :: ws2) ws2.length]) fun y hy => by
      simp only [List.mem_cons,List.not_mem_nil,or_false] at hy
      rcases hy with rfl | rfl | rfl
      · rfl
      · rfl
      · exact attsC_low _ _).whole x x.length (0 + 1)
  have htl : ts.length = ws2.length + 1 := by rw [hts]; simp
  have hSq : ∀ A : Mem, (A ++ rdr x x.length (0 + 1) :: ([scope1 nsX] ++ [r27 [] [], rowW w1.pre w1.nm [w1.v], rowL2 (w1 :: ws2) ws2.length]))[A.length + ([scope1 nsX].length + 3)]? = some (.row (trC ts) ws2.length (87 + 1)) := fun A => by
    rw [getE_k, hts, trC_t3]; rfl
  have hM2 : ∀ A B : Mem, evFI Tryz.prog (cfg ml) T N (n + 8) 37 [.ptr A.length 0 0, .bool false] (A ++ rdr x x.length (0 + 1) :: B) = some (.ret (.tup []), A ++ rdr x x.length (0 + 1) :: B) := fun A B => by
    have dn : x.drop x.length = [] := List.drop_length
    exact misc_no (P := Tryz.prog) (N := N) (ml := ml) x (0 + 1) A B (by omega) (by omega) x.length (by omega) false (by rw [dn]; rfl) (by rw [dn]; rfl) (by rw [dn]; rfl) (fun h => by cases h) (n + 8) (by omega)
  have bad : (∀ A : Mem, LoM A [scope1 nsX] → ∃ M, evFI Tryz.prog (cfg ml) T N (n + 7) 66 [.map (A.length + 1), .str [], .slc (A.length + ([scope1 nsX].length + 3)) 0 (ws2.length + 1) 3 ws2.length] (A ++ rdr x x.length (0 + 1) :: ([scope1 nsX] ++ [r27 [] [], rowW w1.pre w1.nm [w1.v], rowL2 (w1 :: ws2) ws2.length])) = some (.pan (failv 8), M) ∧ M.take (A ++ rdr x x.length (0 + 1) :: ([scope1 nsX] ++ [r27 [] [], rowW w1.pre w1.nm [w1.v], rowL2 (w1 :: ws2) ws2.length])).length = A ++ rdr x x.length (0 + 1) :: ([scope1 nsX] ++ [r27 [] [], rowW w1.pre w1.nm [w1.v], rowL2 (w1 :: ws2) ws2.length])) →
      evFI Tryz.prog (cfg ml) T N (n + 9) 13 [.slc q 0 x.length 1 0] H = some (.ret (.tup [.agg [.str [], .str [], .str [], .lst 0 [], .lst 0 []], .int .i64 8]), H) := fun hS =>
    read_pan (ml := ml) x (by omega) (by omega) hpl (n + 8) q ty H hq hx1 hx2 0 hM1 (by omega) 8 (fun A hA => ela_pan (ml := ml) (N := N) x (by omega) (by omega) (by omega) n 0 0 A [scope1 nsX] hA (A.length + 1) nsX 0 (hmi A) [101] [] hnm w1 ws2 hw (by omega) d0 (by omega) (by omega) x.length e4 8 (hS A hA)) hlo
  refine ⟨fun hd => ?_, fun es hes hd hok hpf hne hal => ?_⟩
  · refine bad fun A hA => ?_
    have h := spaced_dup (ml := ml) (N := N) (by omega) (n + 2) _ (hS0 A hA) (A.length + ([scope1 nsX].length + 3)) ws2.length (87 + 1) (A.length + 1) (by simp) [] ts (hSq A) (by omega) hd
    rw [htl] at h
    exact h
  · have hS := fun (A : Mem) hA => spaced_w (ml := ml) (N := N) (by omega) (n + 2) _ (hS0 A hA) (A.length + ([scope1 nsX].length + 3)) ws2.length (87 + 1) (A.length + 1) ownK nsX (hmi2 A _ _ _) ts (hSq A) (by omega) hd hok es hes hpf hne hal
    rw [htl] at hS
    generalize hat : atrs es ts = al at *
    split
    · rename_i hdd
      refine bad fun A hA => ?_
      obtain ⟨r1, r2, r3, k', hk, h⟩ := hS A hA
      rw [if_pos hdd] at h
      exact h
    · rename_i hdd
      obtain ⟨k', hk⟩ : ∃ k', al.length = k' + 1 := ⟨al.length - 1, by omega⟩
      have trl : lowL 0 (trC al) = true := by
        clear hS hk hdd hal hne hat
        induction al with
        | nil => rfl
        | cons y l ih =>
          have e : trC (y :: l) = c3 y ++ trC l := rfl
          rw [e, lowL_app, ih]; rfl
      refine read_ok (ml := ml) x (by omega) (by omega) hpl (n + 8) q ty H hq hx1 hx2 0 hM1 (by omega) (lkE es []) [101] [] x.length (0 + 1) 0 al.length (trC al) [] trl rfl (fun A hA => ?_) hM2 hlo
      obtain ⟨r1, r2, r3, k2, hk2', h⟩ := hS A hA
      rw [if_neg hdd] at h
      obtain rfl : k2 = k' := by omega
      have h2 := ela_ok (ml := ml) (N := N) x (by omega) (by omega) (by omega) n 0 0 A [scope1 nsX] hA (A.length + 1) nsX 0 (hmi A) [101] [] hnm w1 ws2 hw (by omega) d0 (by omega) (by omega) x.length e4 es al k2 hk r1 r2 r3 (by
        simp only [Zg,Zf,Zk,Zn,Zp,Zr,ZL,ZK,Nat.reduceAdd] at h ⊢
        exact h)
      rw [hk]
      exact h2
end
def twX (w : Nat) (a b : List UInt8) : List UInt8 := match w with
  | 0 => 60 :: 101 :: 32 :: (a ++ 61 :: 39 :: 49 :: 39 :: 32 :: (b ++ [61, 39, 50, 39, 47, 62]))
  | 1 => 60 :: 101 :: 32 :: 120 :: 109 :: 108 :: 110 :: 115 :: 58 :: 112 :: 61 :: 39 :: 117 :: 39 :: 32 :: 120 :: 109 :: 108 :: 110 :: 115 :: 58 :: 113 :: 61 :: 39 :: 117 :: 39 :: 32 :: 112 :: 58 :: (a ++ 61 :: 39 :: 49 :: 39 :: 32 :: 113 :: 58 :: (b ++ [61, 39, 50, 39, 47, 62]))
  | 2 => 60 :: 101 :: 32 :: 120 :: 109 :: 108 :: 110 :: 115 :: 58 :: 112 :: 61 :: 39 :: 117 :: 39 :: 32 :: 120 :: 109 :: 108 :: 110 :: 115 :: 58 :: 113 :: 61 :: 39 :: 118 :: 39 :: 32 :: 112 :: 58 :: (a ++ 61 :: 39 :: 49 :: 39 :: 32 :: 113 :: 58 :: (b ++ [61, 39, 50, 39, 47, 62]))
  | _ => 60 :: 101 :: 32 :: 120 :: 109 :: 108 :: 110 :: 115 :: 61 :: 39 :: 117 :: 39 :: 32 :: (a ++ 61 :: 39 :: 49 :: 39 :: 32 :: (b ++ [61, 39, 50, 39, 47, 62]))
def Tells (ml : Int) (N : Nat) (a b : List UInt8) (w d : Nat) : Prop := ∃ sp nm an ac e, evFI Tryz.prog (cfg ml) T N d 13 [.slc 0 0 (twX w a b).length 1 0] [.row (ofBytes (twX w a b)) 0 (5 + 1)] = some (.ret (.tup [.agg [.str sp, .str nm, .str [], .lst an ac, .lst 0 []], .int .i64 e]), [.row (ofBytes (twX w a b)) 0 (5 + 1)]) ∧
  ((a == nsB) = false → (b == nsB) = false → if a = b ∧ w ≠ 2 then e = 8 else e = 0 ∧ an = 2 ∧ ∃ u1 v1 u2 v2, ac = [.str u1, .str a, .str v1, .str u2, .str b, .str v2])
theorem letters_nm {a : List UInt8} (h : lettersOf a = true) : isNm a ∧ a.all plainB = true ∧ a.length < 50 := by
  unfold lettersOf at h
  simp only [Bool.and_eq_true,decide_eq_true_eq] at h
  obtain ⟨h1, h2, h3⟩ := h
  have sa := fun c hc => List.all_eq_true.1 h1 c hc
  refine ⟨?_, List.all_eq_true.2 fun c hc => small_plain (sa c hc), h3⟩
  cases a with
  | nil => simp at h2
  | cons c l => exact ⟨c, l, rfl, small_first (sa c (by simp)), fun d hd => small_next (sa d hd)⟩
theorem wr_ok (pre nm : List UInt8) (v : UInt8) (h1 : isNm nm) (h2 : pre = [] ∨ isNm pre) (h3 : (v != 39 && (v != 60 && (v != 38 && (v != 9 && v != 10)))) = true) : WrOk ⟨pre, nm, v⟩ := by
  simp only [Bool.and_eq_true,bne_iff_ne] at h3
  exact ⟨h1, h2, h3.1, h3.2.1, h3.2.2.1, h3.2.2.2.1, h3.2.2.2.2⟩
theorem dcl_no (a v : List UInt8) (h : (a == nsB) = false) : isDcl ([], a, v) = false := by
  show ((([] : List UInt8) == nsB) || ((([] : List UInt8) == []) && (a == nsB))) = false
  rw [h]; rfl
theorem dcl_yes (a v : List UInt8) (h : (a == nsB) = true) : isDcl ([], a, v) = true := by
  show ((([] : List UInt8) == nsB) || ((([] : List UInt8) == []) && (a == nsB))) = true
  rw [h]; rfl
theorem isNm_ns : isNm nsB := ⟨120, _, rfl, by decide, by decide⟩
theorem isNm_p : isNm [112] := ⟨112, _, rfl, by decide, by decide⟩
theorem isNm_q : isNm [113] := ⟨113, _, rfl, by decide, by decide⟩
section
variable {N : Nat} (hN : 4294967281 ≤ N)
include hN
theorem tw_0 (a b : List UInt8) (ha : lettersOf a = true) (hb : lettersOf b = true) (n : Nat) : Tells ml N a b 0 (n + 9) := by
  obtain ⟨na, pa, la⟩ := letters_nm ha
  obtain ⟨nb, pb, lb⟩ := letters_nm hb
  obtain ⟨h1, h2⟩ := one_el (ml := ml) hN ⟨[], a, 49⟩ [⟨[], b, 50⟩] (by
    intro w hw
    simp only [List.mem_cons,List.not_mem_nil,or_false] at hw
    rcases hw with rfl | rfl
    · exact wr_ok _ _ _ na (.inl rfl) (by decide)
    · exact wr_ok _ _ _ nb (.inl rfl) (by decide)) (by simp [attsT, wrT, wrN, pa, pb]; decide) (by simp) (by simp [attsT, wrT, wrN]; omega) (twX 0 a b) (by simp [twX, attsT, wrT, wrN]) [.row (ofBytes (twX 0 a b)) 0 (5 + 1)] (bytes_row _ _) 0 (5 + 1) rfl n [([], a, [49]), ([], b, [50])] rfl
  have hdw : dupW [] [([], a, [49]), ([], b, [50])] = (b == a) := by simp [dupW, same3]
  rw [hdw] at h1 h2
  by_cases hab : a = b
  · exact ⟨_, _, _, _, _, h1 (by rw [hab]; exact beq_self_eq_true _), fun _ _ => by rw [if_pos ⟨hab, by decide⟩]⟩
  have hba : (b == a) = false := beq_false_of_ne fun h => hab h.symm
  have h3 := h2 _ rfl hba (by
    intro t ht
    simp only [List.mem_cons,List.not_mem_nil,or_false] at ht
    rcases ht with rfl | rfl <;> (intro h; cases h)) (by
    intro t ht
    simp only [List.mem_cons,List.not_mem_nil,or_false] at ht
    rcases ht with rfl | rfl <;> (intro _ h; cases h))
  clear h1 h2 hdw
  generalize hes : List.foldl dclE _ _ = es at h3
  cases ca : (a == nsB)
  · cases cb : (b == nsB)
    · have hat : atrs es [([], a, [49]), ([], b, [50])] = [([], a, [49]), ([], b, [50])] := by rw [atrs_no es _ _ (dcl_no a _ ca), atrs_no es _ _ (dcl_no b _ cb)]; rfl
      have hdw : dupW [] [([], a, [49]), ([], b, [50])] = false := by simp [dupW, same3, hba]
      rw [hat, hdw] at h3
      refine ⟨_, _, _, _, _, h3 (by simp) (by simp), fun _ _ => ?_⟩
      rw [if_neg fun h => hab h.1]
      exact ⟨rfl, rfl, _, _, _, _, rfl⟩
    · have hat : atrs es [([], a, [49]), ([], b, [50])] = [([], a, [49])] := by rw [atrs_no es _ _ (dcl_no a _ ca), atrs_dcl es _ _ (dcl_yes b _ cb)]; rfl
      rw [hat] at h3
      exact ⟨_, _, _, _, _, h3 (by simp) (by simp), fun _ h => by rw [cb] at h; cases h⟩
  · have cb : (b == nsB) = false := beq_false_of_ne fun h => hab ((eq_of_beq ca).trans h.symm)
    have hat : atrs es [([], a, [49]), ([], b, [50])] = [([], b, [50])] := by rw [atrs_dcl es _ _ (dcl_yes a _ ca), atrs_no es _ _ (dcl_no b _ cb)]; rfl
    rw [hat] at h3
    exact ⟨_, _, _, _, _, h3 (by simp) (by simp), fun h => by rw [ca] at h; cases h⟩
theorem tw_3 (a b : List UInt8) (ha : lettersOf a = true) (hb : lettersOf b = true) (n : Nat) : Tells ml N a b 3 (n + 9) := by
  obtain ⟨na, pa, la⟩ := letters_nm ha
  obtain ⟨nb, pb, lb⟩ := letters_nm hb
  obtain ⟨h1, h2⟩ := one_el (ml := ml) hN ⟨[], nsB, 117⟩ [⟨[], a, 49⟩, ⟨[], b, 50⟩] (by
    intro w hw
    simp only [List.mem_cons,List.not_mem_nil,or_false] at hw
    rcases hw with rfl | rfl | rfl
    · exact wr_ok _ _ _ isNm_ns (.inl rfl) (by decide)
    · exact wr_ok _ _ _ na (.inl rfl) (by decide)
    · exact wr_ok _ _ _ nb (.inl rfl) (by decide)) (by simp [attsT, wrT, wrN, pa, pb]; decide) (by simp) (by simp [attsT, wrT, wrN, nsB]; omega) (twX 3 a b) (by simp [twX, attsT, wrT, wrN, nsB]) [.row (ofBytes (twX 3 a b)) 0 (5 + 1)] (bytes_row _ _) 0 (5 + 1) rfl n [([], nsB, [117]), ([], a, [49]), ([], b, [50])] rfl
  have hdw : dupW [] [([], nsB, [117]), ([], a, [49]), ([], b, [50])] = ((a == nsB) || ((b == nsB) || (b == a))) := by simp [dupW, same3]
  rw [hdw] at h1 h2
  cases ca : (a == nsB)
  · cases cb : (b == nsB)
    · by_cases hab : a = b
      · exact ⟨_, _, _, _, _, h1 (by rw [ca, cb, hab, beq_self_eq_true]; rfl), fun _ _ => by rw [if_pos ⟨hab, by decide⟩]⟩
      have hba : (b == a) = false := beq_false_of_ne fun h => hab h.symm
      have h3 := h2 _ rfl (by rw [ca, cb, hba]; rfl) (by
        intro t ht
        simp only [List.mem_cons,List.not_mem_nil,or_false] at ht
        rcases ht with rfl | rfl | rfl <;> (intro h; cases h)) (by
        intro t ht
        simp only [List.mem_cons,List.not_mem_nil,or_false] at ht
        rcases ht with rfl | rfl | rfl <;> (intro _ h; cases h))
      clear h1 h2 hdw
      generalize hes : List.foldl dclE _ _ = es at h3
      have hat : atrs es [([], nsB, [117]), ([], a, [49]), ([], b, [50])] = [([], a, [49]), ([], b, [50])] := by rw [atrs_dcl es _ _ (dcl_yes nsB _ rfl), atrs_no es _ _ (dcl_no a _ ca), atrs_no es _ _ (dcl_no b _ cb)]; rfl
      have hdw : dupW [] [([], a, [49]), ([], b, [50])] = false := by simp [dupW, same3, hba]
      rw [hat, hdw] at h3
      refine ⟨_, _, _, _, _, h3 (by simp) (by simp), fun _ _ => ?_⟩
      rw [if_neg fun h => hab h.1]
      exact ⟨rfl, rfl, _, _, _, _, rfl⟩
    · exact ⟨_, _, _, _, _, h1 (by rw [ca, cb]; rfl), fun _ h => by rw [cb] at h; cases h⟩
  · exact ⟨_, _, _, _, _, h1 (by rw [ca]; rfl), fun h => by rw [ca] at h; cases h⟩
theorem tw_12 (w : Nat) (v2 : UInt8) (hv : (w = 1 ∧ v2 = 117) ∨ (w = 2 ∧ v2 = 118)) (a b : List UInt8) (ha : lettersOf a = true) (hb : lettersOf b = true) (n : Nat) : Tells ml N a b w (n + 9) := by
  obtain ⟨na, pa, la⟩ := letters_nm ha
  obtain ⟨nb, pb, lb⟩ := letters_nm hb
  have hx : twX w a b = 60 :: (101 :: (attsT [⟨nsB, [112], 117⟩, ⟨nsB, [113], v2⟩, ⟨[112], a, 49⟩, ⟨[113], b, 50⟩] ++ [47, 62])) := by
    rcases hv with ⟨rfl, rfl⟩ | ⟨rfl, rfl⟩ <;> simp [twX, attsT, wrT, wrN, nsB]
  have hvp : plainB v2 = true := by rcases hv with ⟨_, rfl⟩ | ⟨_, rfl⟩ <;> decide
  have hvc : (v2 != 39 && (v2 != 60 && (v2 != 38 && (v2 != 9 && v2 != 10)))) = true := by rcases hv with ⟨_, rfl⟩ | ⟨_, rfl⟩ <;> decide
  obtain ⟨h1, h2⟩ := one_el (ml := ml) hN ⟨nsB, [112], 117⟩ [⟨nsB, [113], v2⟩, ⟨[112], a, 49⟩, ⟨[113], b, 50⟩] (by
    intro w hw
    simp only [List.mem_cons,List.not_mem_nil,or_false] at hw
    rcases hw with rfl | rfl | rfl | rfl
    · exact wr_ok _ _ _ isNm_p (.inr isNm_ns) (by decide)
    · exact wr_ok _ _ _ isNm_q (.inr isNm_ns) hvc
    · exact wr_ok _ _ _ na (.inr isNm_p) (by decide)
    · exact wr_ok _ _ _ nb (.inr isNm_q) (by decide)) (by simp [attsT, wrT, wrN, nsB, pa, pb, hvp]; decide) (by simp) (by simp [attsT, wrT, wrN, nsB]; omega) (twX w a b) hx [.row (ofBytes (twX w a b)) 0 (5 + 1)] (bytes_row _ _) 0 (5 + 1) rfl n [(nsB, [112], [117]), (nsB, [113], [v2]), ([112], a, [49]), ([113], b, [50])] rfl
  clear h1
  have hdw : dupW [] [(nsB, [112], [117]), (nsB, [113], [v2]), ([112], a, [49]), ([113], b, [50])] = false := by simp [dupW, same3, nsB]
  have he : [(nsB, [112], [117]), (nsB, [113], [v2]), ([112], a, [49]), ([113], b, [50])].foldl dclE [(ownK, nsX)] = [(ownK, nsX), ([112], [117]), ([113], [v2])] := rfl
  have h3 := h2 _ he.symm hdw (by
    intro t ht
    simp only [List.mem_cons,List.not_mem_nil,or_false] at ht
    rcases ht with rfl | rfl | rfl | rfl
    · exact fun _ => ⟨rfl, rfl, rfl⟩
    · exact fun _ => ⟨rfl, rfl, rfl⟩
    · intro h; cases h
    · intro h; cases h) (by
    intro t ht
    simp only [List.mem_cons,List.not_mem_nil,or_false] at ht
    rcases ht with rfl | rfl | rfl | rfl
    · intro h; cases h
    · intro h; cases h
    · exact fun _ _ => rfl
    · exact fun _ _ => rfl)
  have hat : atrs [(ownK, nsX), ([112], [117]), ([113], [v2])] [(nsB, [112], [117]), (nsB, [113], [v2]), ([112], a, [49]), ([113], b, [50])] = [([117], a, [49]), ([v2], b, [50])] := rfl
  have hd2 : dupW [] [([117], a, [49]), ([v2], b, [50])] = ((v2 == 117) && (b == a)) := by simp [dupW, same3]
  rw [hat, hd2] at h3
  have h4 := h3 (by simp) (by simp)
  clear h2 h3 hx
  cases hc : ((v2 == 117) && (b == a))
  · rw [hc] at h4
    refine ⟨_, _, _, _, _, h4, fun _ _ => ?_⟩
    rw [if_neg fun h => by
      obtain ⟨rfl, h⟩ := h
      rcases hv with ⟨rfl, rfl⟩ | ⟨rfl, rfl⟩
      · simp at hc
      · exact h rfl]
    exact ⟨rfl, rfl, _, _, _, _, rfl⟩
  · rw [hc] at h4
    refine ⟨_, _, _, _, _, h4, fun _ _ => ?_⟩
    simp only [Bool.and_eq_true] at hc
    rw [if_pos ⟨(eq_of_beq hc.2).symm, by
      rcases hv with ⟨rfl, rfl⟩ | ⟨rfl, rfl⟩
      · decide
      · cases hc.1⟩]
theorem tw_all (a b : List UInt8) (ha : lettersOf a = true) (hb : lettersOf b = true) (w : Nat) (hw : w < 4) (n : Nat) : Tells ml N a b w (n + 9) := by
  match w with
  | 0 => exact tw_0 hN a b ha hb n
  | 1 => exact tw_12 hN 1 117 (.inl ⟨rfl, rfl⟩) a b ha hb n
  | 2 => exact tw_12 hN 2 118 (.inr ⟨rfl, rfl⟩) a b ha hb n
  | 3 => exact tw_3 hN a b ha hb n
  | w + 4 => omega
end
def wayN (z : Int) : Nat := (BitVec.ofInt (IntKind.bits .i64) z &&& BitVec.ofInt (IntKind.bits .i64) 3).toNat
theorem way_lt (z : Int) : wayN z < 4 := by
  unfold wayN
  rw [BitVec.toNat_and]
  exact Nat.lt_of_le_of_lt Nat.and_le_right (by decide)
theorem way_wrap (z : Int) : IntKind.wrap .i64 ((BitVec.ofInt (IntKind.bits .i64) z &&& BitVec.ofInt (IntKind.bits .i64) 3).toNat : Int) = (wayN z : Int) := by
  have := way_lt z
  show IntKind.wrap .i64 (wayN z : Int) = _
  rw [wrap64] <;> omega
section
variable {N : Nat} (hN : 4294967281 ≤ N)
include hN
theorem tw_pre (a b : List UInt8) (z : Int) (ha : lettersOf a = true) (hb : lettersOf b = true) (n : Nat) :
    ∃ t, look t 0 = .str a ∧ look t 1 = .str b ∧ look t 2 = .int .i64 z ∧ look t 7 = .str (twX (wayN z) a b) ∧
      evI Tryz.prog (cfg ml) (evFI Tryz.prog (cfg ml) T N (n + 9)) N I7.c ⟨106, [(0, .str a), (1, .str b), (2, .int .i64 z)], []⟩ [] = evI Tryz.prog (cfg ml) (evFI Tryz.prog (cfg ml) T N (n + 9)) N (I7.c.nb 4) ⟨106, t, []⟩ [] := by
  have la := (letters_nm ha).2.2
  have lb := (letters_nm hb).2.2
  have q1 := fun H => letters_eq (ml := ml) Tryz.prog N (n + 9) (by omega) a (by omega) (by omega) H
  have q2 := fun H => letters_eq (ml := ml) Tryz.prog N (n + 9) (by omega) b (by omega) (by omega) H
  rw [ha] at q1
  rw [hb] at q2
  have hz := way_wrap z
  have hlt := way_lt z
  generalize wayN z = w at *
  have p40 : (2 : Nat) ^ 40 = 1099511627776 := by decide
  have f0 : ∀ k l : Nat, k ≤ 100 → l ≤ 100 → k + l ≤ 2 ^ 40 := fun k l _ _ => by omega
  have g1 : 3 + a.length ≤ 2 ^ 40 := by omega
  have g2 : ∀ k : Nat, k ≤ 60 → a.length + k ≤ 2 ^ 40 := fun k _ => by omega
  have g3 : ∀ k : Nat, k ≤ 60 → a.length + (k + b.length) ≤ 2 ^ 40 := fun k _ => by omega
  have g4 : ∀ k : Nat, k ≤ 60 → a.length + (b.length + k) ≤ 2 ^ 40 := fun k _ => by omega
  have g5 : ∀ k : Nat, k ≤ 60 → k + a.length ≤ 2 ^ 40 := fun k _ => by omega
  have g6 : ∀ j k : Nat, j ≤ 60 → k ≤ 60 → j + (a.length + k) ≤ 2 ^ 40 := fun j k _ _ => by omega
  have hz' : ∀ k : Nat, w = k → IntKind.wrap .i64 ((BitVec.ofInt (IntKind.bits .i64) z &&& BitVec.ofInt (IntKind.bits .i64) 3).toNat : Int) = (k : Int) := fun k h => by rw [hz, h]
  clear hz
  have a3 : 3 + a.length ≤ 1099511627776 := by omega
  match w, hlt with
  | 0, _ =>
    have hz : IntKind.wrap .i64 ((BitVec.ofInt (IntKind.bits .i64) z &&& BitVec.ofInt (IntKind.bits .i64) 3).toNat : Int) = (0 : Int) := hz' 0 rfl
    have e1 : ((0 : Int) == 1) = false := rfl
    have e2 : ((0 : Int) == 2) = false := rfl
    have e3 : ((0 : Int) == 3) = false := rfl
    refine ⟨?ta, ?a0, ?a1, ?a2, ?a7, ?amain⟩
    case amain =>
      apply evI_seq
      · simp only [Zs,Zr,Zp,Za,Zb,evI,opsI,stepI,wantI,opI,AAct.evI,look,AAct.put,mkVal,mkVM,intOpA,intA,shiftA,unA,ZP,ZO,Zh,Zt,reduceIte,Nat.reduceEqDiff,Nat.reduceLT,Zo,Zq,true_and,and_true,and_self,ZB,cellsAt,Zg,ZC,Zf,Zk,ZL,ZM,Nat.reduceAdd,Nat.reduceMul,ZN,AV.cells,AV.one,known,Zn,getE_0,getE_k,setE_0,setE_k,Zc,Zd,Zl,Zm,Zi,Zw,Zu,Zj,Z1,Zx,Zy,ZJ,ZI,ZH,ZD,ZE,splice,fillI,Nat.reduceLeDiff,strA,ZK,ZA,Ze,bq_ft,bq_tf,ZG,ZF,ZQ,Zv,Zz,isNilA,nilPtr,nilSl,nilIf,nilFn,nilMap,nilCheckA,if_true,if_false,lt_lit,le_lit,lt_lit2,le_lit2,le_sub1,le_sub2]; rfl
      apply evI_seq
      · simp only [q1,q2,Zs,Zr,Zp,Za,Zb,evI,opsI,stepI,wantI,opI,AAct.evI,look,AAct.put,mkVal,mkVM,intOpA,intA,shiftA,unA,ZP,ZO,Zh,Zt,reduceIte,Nat.reduceEqDiff,Nat.reduceLT,Zo,Zq,true_and,and_true,and_self,ZB,cellsAt,Zg,ZC,Zf,Zk,ZL,ZM,Nat.reduceAdd,Nat.reduceMul,ZN,AV.cells,AV.one,known,Zn,getE_0,getE_k,setE_0,setE_k,Zc,Zd,Zl,Zm,Zi,Zw,Zu,Zj,Z1,Zx,Zy,ZJ,ZI,ZH,ZD,ZE,splice,fillI,Nat.reduceLeDiff,strA,ZK,ZA,Ze,bq_ft,bq_tf,ZG,ZF,ZQ,Zv,Zz,isNilA,nilPtr,nilSl,nilIf,nilFn,nilMap,nilCheckA,if_true,if_false,lt_lit,le_lit,lt_lit2,le_lit2,le_sub1,le_sub2]; rfl
      apply evI_seq
      · simp only [g1,g2,g3,g4,Zs,Zr,Zp,Za,Zb,evI,opsI,stepI,wantI,opI,AAct.evI,look,AAct.put,mkVal,mkVM,intOpA,intA,shiftA,unA,ZP,ZO,Zh,Zt,reduceIte,Nat.reduceEqDiff,Nat.reduceLT,Zo,Zq,true_and,and_true,and_self,ZB,cellsAt,Zg,ZC,Zf,Zk,ZL,ZM,Nat.reduceAdd,Nat.reduceMul,ZN,AV.cells,AV.one,known,Zn,getE_0,getE_k,setE_0,setE_k,Zc,Zd,Zl,Zm,Zi,Zw,Zu,Zj,Z1,Zx,Zy,ZJ,ZI,ZH,ZD,ZE,splice,fillI,Nat.reduceLeDiff,strA,ZK,ZA,Ze,bq_ft,bq_tf,ZG,ZF,ZQ,Zv,Zz,isNilA,nilPtr,nilSl,nilIf,nilFn,nilMap,nilCheckA,if_true,if_false,lt_lit,le_lit,lt_lit2,le_lit2,le_sub1,le_sub2]; rfl
      apply evI_seq
      · simp only [hz,e1,e2,e3,Zs,Zr,Zp,Za,Zb,evI,opsI,stepI,wantI,opI,AAct.evI,look,AAct.put,mkVal,mkVM,intOpA,intA,shiftA,unA,ZP,ZO,Zh,Zt,reduceIte,Nat.reduceEqDiff,Nat.reduceLT,Zo,Zq,true_and,and_true,and_self,ZB,cellsAt,Zg,ZC,Zf,Zk,ZL,ZM,Nat.reduceAdd,Nat.reduceMul,ZN,AV.cells,AV.one,known,Zn,getE_0,getE_k,setE_0,setE_k,Zc,Zd,Zl,Zm,Zi,Zw,Zu,Zj,Z1,Zx,Zy,ZJ,ZI,ZH,ZD,ZE,splice,fillI,Nat.reduceLeDiff,strA,ZK,ZA,Ze,bq_ft,bq_tf,ZG,ZF,ZQ,Zv,Zz,isNilA,nilPtr,nilSl,nilIf,nilFn,nilMap,nilCheckA,if_true,if_false,lt_lit,le_lit,lt_lit2,le_lit2,le_sub1,le_sub2]; rfl
      rfl
    all_goals rfl
  | 1, _ =>
    have hz : IntKind.wrap .i64 ((BitVec.ofInt (IntKind.bits .i64) z &&& BitVec.ofInt (IntKind.bits .i64) 3).toNat : Int) = (1 : Int) := hz' 1 rfl
    refine ⟨?tb, ?b0, ?b1, ?b2, ?b7, ?bmain⟩
    case bmain =>
      apply evI_seq
      · simp only [Zs,Zr,Zp,Za,Zb,evI,opsI,stepI,wantI,opI,AAct.evI,look,AAct.put,mkVal,mkVM,intOpA,intA,shiftA,unA,ZP,ZO,Zh,Zt,reduceIte,Nat.reduceEqDiff,Nat.reduceLT,Zo,Zq,true_and,and_true,and_self,ZB,cellsAt,Zg,ZC,Zf,Zk,ZL,ZM,Nat.reduceAdd,Nat.reduceMul,ZN,AV.cells,AV.one,known,Zn,getE_0,getE_k,setE_0,setE_k,Zc,Zd,Zl,Zm,Zi,Zw,Zu,Zj,Z1,Zx,Zy,ZJ,ZI,ZH,ZD,ZE,splice,fillI,Nat.reduceLeDiff,strA,ZK,ZA,Ze,bq_ft,bq_tf,ZG,ZF,ZQ,Zv,Zz,isNilA,nilPtr,nilSl,nilIf,nilFn,nilMap,nilCheckA,if_true,if_false,lt_lit,le_lit,lt_lit2,le_lit2,le_sub1,le_sub2]; rfl
      apply evI_seq
      · simp only [q1,q2,Zs,Zr,Zp,Za,Zb,evI,opsI,stepI,wantI,opI,AAct.evI,look,AAct.put,mkVal,mkVM,intOpA,intA,shiftA,unA,ZP,ZO,Zh,Zt,reduceIte,Nat.reduceEqDiff,Nat.reduceLT,Zo,Zq,true_and,and_true,and_self,ZB,cellsAt,Zg,ZC,Zf,Zk,ZL,ZM,Nat.reduceAdd,Nat.reduceMul,ZN,AV.cells,AV.one,known,Zn,getE_0,getE_k,setE_0,setE_k,Zc,Zd,Zl,Zm,Zi,Zw,Zu,Zj,Z1,Zx,Zy,ZJ,ZI,ZH,ZD,ZE,splice,fillI,Nat.reduceLeDiff,strA,ZK,ZA,Ze,bq_ft,bq_tf,ZG,ZF,ZQ,Zv,Zz,isNilA,nilPtr,nilSl,nilIf,nilFn,nilMap,nilCheckA,if_true,if_false,lt_lit,le_lit,lt_lit2,le_lit2,le_sub1,le_sub2]; rfl
      apply evI_seq
      · simp only [g1,g2,g3,g4,Zs,Zr,Zp,Za,Zb,evI,opsI,stepI,wantI,opI,AAct.evI,look,AAct.put,mkVal,mkVM,intOpA,intA,shiftA,unA,ZP,ZO,Zh,Zt,reduceIte,Nat.reduceEqDiff,Nat.reduceLT,Zo,Zq,true_and,and_true,and_self,ZB,cellsAt,Zg,ZC,Zf,Zk,ZL,ZM,Nat.reduceAdd,Nat.reduceMul,ZN,AV.cells,AV.one,known,Zn,getE_0,getE_k,setE_0,setE_k,Zc,Zd,Zl,Zm,Zi,Zw,Zu,Zj,Z1,Zx,Zy,ZJ,ZI,ZH,ZD,ZE,splice,fillI,Nat.reduceLeDiff,strA,ZK,ZA,Ze,bq_ft,bq_tf,ZG,ZF,ZQ,Zv,Zz,isNilA,nilPtr,nilSl,nilIf,nilFn,nilMap,nilCheckA,if_true,if_false,lt_lit,le_lit,lt_lit2,le_lit2,le_sub1,le_sub2]; rfl
      apply evI_seq
      · simp only [hz,g1,g2,g3,g4,g5,g6,Zs,Zr,Zp,Za,Zb,evI,opsI,stepI,wantI,opI,AAct.evI,look,AAct.put,mkVal,mkVM,intOpA,intA,shiftA,unA,ZP,ZO,Zh,Zt,reduceIte,Nat.reduceEqDiff,Nat.reduceLT,Zo,Zq,true_and,and_true,and_self,ZB,cellsAt,Zg,ZC,Zf,Zk,ZL,ZM,Nat.reduceAdd,Nat.reduceMul,ZN,AV.cells,AV.one,known,Zn,getE_0,getE_k,setE_0,setE_k,Zc,Zd,Zl,Zm,Zi,Zw,Zu,Zj,Z1,Zx,Zy,ZJ,ZI,ZH,ZD,ZE,splice,fillI,Nat.reduceLeDiff,strA,ZK,ZA,Ze,bq_ft,bq_tf,ZG,ZF,ZQ,Zv,Zz,isNilA,nilPtr,nilSl,nilIf,nilFn,nilMap,nilCheckA,if_true,if_false,lt_lit,le_lit,lt_lit2,le_lit2,le_sub1,le_sub2]; rfl
      rfl
    all_goals rfl
  | 2, _ =>
    have hz : IntKind.wrap .i64 ((BitVec.ofInt (IntKind.bits .i64) z &&& BitVec.ofInt (IntKind.bits .i64) 3).toNat : Int) = (2 : Int) := hz' 2 rfl
    have e1 : ((2 : Int) == 1) = false := rfl
    refine ⟨?tc, ?c0, ?c1, ?c2, ?c7, ?cmain⟩
    case cmain =>
      apply evI_seq
      · simp only [Zs,Zr,Zp,Za,Zb,evI,opsI,stepI,wantI,opI,AAct.evI,look,AAct.put,mkVal,mkVM,intOpA,intA,shiftA,unA,ZP,ZO,Zh,Zt,reduceIte,Nat.reduceEqDiff,Nat.reduceLT,Zo,Zq,true_and,and_true,and_self,ZB,cellsAt,Zg,ZC,Zf,Zk,ZL,ZM,Nat.reduceAdd,Nat.reduceMul,ZN,AV.cells,AV.one,known,Zn,getE_0,getE_k,setE_0,setE_k,Zc,Zd,Zl,Zm,Zi,Zw,Zu,Zj,Z1,Zx,Zy,ZJ,ZI,ZH,ZD,ZE,splice,fillI,Nat.reduceLeDiff,strA,ZK,ZA,Ze,bq_ft,bq_tf,ZG,ZF,ZQ,Zv,Zz,isNilA,nilPtr,nilSl,nilIf,nilFn,nilMap,nilCheckA,if_true,if_false,lt_lit,le_lit,lt_lit2,le_lit2,le_sub1,le_sub2]; rfl
      apply evI_seq
      · simp only [q1,q2,Zs,Zr,Zp,Za,Zb,evI,opsI,stepI,wantI,opI,AAct.evI,look,AAct.put,mkVal,mkVM,intOpA,intA,shiftA,unA,ZP,ZO,Zh,Zt,reduceIte,Nat.reduceEqDiff,Nat.reduceLT,Zo,Zq,true_and,and_true,and_self,ZB,cellsAt,Zg,ZC,Zf,Zk,ZL,ZM,Nat.reduceAdd,Nat.reduceMul,ZN,AV.cells,AV.one,known,Zn,getE_0,getE_k,setE_0,setE_k,Zc,Zd,Zl,Zm,Zi,Zw,Zu,Zj,Z1,Zx,Zy,ZJ,ZI,ZH,ZD,ZE,splice,fillI,Nat.reduceLeDiff,strA,ZK,ZA,Ze,bq_ft,bq_tf,ZG,ZF,ZQ,Zv,Zz,isNilA,nilPtr,nilSl,nilIf,nilFn,nilMap,nilCheckA,if_true,if_false,lt_lit,le_lit,lt_lit2,le_lit2,le_sub1,le_sub2]; rfl
      apply evI_seq
      · simp only [g1,g2,g3,g4,Zs,Zr,Zp,Za,Zb,evI,opsI,stepI,wantI,opI,AAct.evI,look,AAct.put,mkVal,mkVM,intOpA,intA,shiftA,unA,ZP,ZO,Zh,Zt,reduceIte,Nat.reduceEqDiff,Nat.reduceLT,Zo,Zq,true_and,and_true,and_self,ZB,cellsAt,Zg,ZC,Zf,Zk,ZL,ZM,Nat.reduceAdd,Nat.reduceMul,ZN,AV.cells,AV.one,known,Zn,getE_0,getE_k,setE_0,setE_k,Zc,Zd,Zl,Zm,Zi,Zw,Zu,Zj,Z1,Zx,Zy,ZJ,ZI,ZH,ZD,ZE,splice,fillI,Nat.reduceLeDiff,strA,ZK,ZA,Ze,bq_ft,bq_tf,ZG,ZF,ZQ,Zv,Zz,isNilA,nilPtr,nilSl,nilIf,nilFn,nilMap,nilCheckA,if_true,if_false,lt_lit,le_lit,lt_lit2,le_lit2,le_sub1,le_sub2]; rfl
      apply evI_seq
      · simp only [hz,e1,g1,g2,g3,g4,g5,g6,Zs,Zr,Zp,Za,Zb,evI,opsI,stepI,wantI,opI,AAct.evI,look,AAct.put,mkVal,mkVM,intOpA,intA,shiftA,unA,ZP,ZO,Zh,Zt,reduceIte,Nat.reduceEqDiff,Nat.reduceLT,Zo,Zq,true_and,and_true,and_self,ZB,cellsAt,Zg,ZC,Zf,Zk,ZL,ZM,Nat.reduceAdd,Nat.reduceMul,ZN,AV.cells,AV.one,known,Zn,getE_0,getE_k,setE_0,setE_k,Zc,Zd,Zl,Zm,Zi,Zw,Zu,Zj,Z1,Zx,Zy,ZJ,ZI,ZH,ZD,ZE,splice,fillI,Nat.reduceLeDiff,strA,ZK,ZA,Ze,bq_ft,bq_tf,ZG,ZF,ZQ,Zv,Zz,isNilA,nilPtr,nilSl,nilIf,nilFn,nilMap,nilCheckA,if_true,if_false,lt_lit,le_lit,lt_lit2,le_lit2,le_sub1,le_sub2]; rfl
      rfl
    all_goals rfl
  | 3, _ =>
    have hz : IntKind.wrap .i64 ((BitVec.ofInt (IntKind.bits .i64) z &&& BitVec.ofInt (IntKind.bits .i64) 3).toNat : Int) = (3 : Int) := hz' 3 rfl
    have e1 : ((3 : Int) == 1) = false := rfl
    have e2 : ((3 : Int) == 2) = false := rfl
    refine ⟨?td, ?d0, ?d1, ?d2, ?d7, ?dmain⟩
    case dmain =>
      apply evI_seq
      · simp only [Zs,Zr,Zp,Za,Zb,evI,opsI,stepI,wantI,opI,AAct.evI,look,AAct.put,mkVal,mkVM,intOpA,intA,shiftA,unA,ZP,ZO,Zh,Zt,reduceIte,Nat.reduceEqDiff,Nat.reduceLT,Zo,Zq,true_and,and_true,and_self,ZB,cellsAt,Zg,ZC,Zf,Zk,ZL,ZM,Nat.reduceAdd,Nat.reduceMul,ZN,AV.cells,AV.one,known,Zn,getE_0,getE_k,setE_0,setE_k,Zc,Zd,Zl,Zm,Zi,Zw,Zu,Zj,Z1,Zx,Zy,ZJ,ZI,ZH,ZD,ZE,splice,fillI,Nat.reduceLeDiff,strA,ZK,ZA,Ze,bq_ft,bq_tf,ZG,ZF,ZQ,Zv,Zz,isNilA,nilPtr,nilSl,nilIf,nilFn,nilMap,nilCheckA,if_true,if_false,lt_lit,le_lit,lt_lit2,le_lit2,le_sub1,le_sub2]; rfl
      apply evI_seq
      · simp only [q1,q2,Zs,Zr,Zp,Za,Zb,evI,opsI,stepI,wantI,opI,AAct.evI,look,AAct.put,mkVal,mkVM,intOpA,intA,shiftA,unA,ZP,ZO,Zh,Zt,reduceIte,Nat.reduceEqDiff,Nat.reduceLT,Zo,Zq,true_and,and_true,and_self,ZB,cellsAt,Zg,ZC,Zf,Zk,ZL,ZM,Nat.reduceAdd,Nat.reduceMul,ZN,AV.cells,AV.one,known,Zn,getE_0,getE_k,setE_0,setE_k,Zc,Zd,Zl,Zm,Zi,Zw,Zu,Zj,Z1,Zx,Zy,ZJ,ZI,ZH,ZD,ZE,splice,fillI,Nat.reduceLeDiff,strA,ZK,ZA,Ze,bq_ft,bq_tf,ZG,ZF,ZQ,Zv,Zz,isNilA,nilPtr,nilSl,nilIf,nilFn,nilMap,nilCheckA,if_true,if_false,lt_lit,le_lit,lt_lit2,le_lit2,le_sub1,le_sub2]; rfl
      apply evI_seq
      · simp only [g1,g2,g3,g4,Zs,Zr,Zp,Za,Zb,evI,opsI,stepI,wantI,opI,AAct.evI,look,AAct.put,mkVal,mkVM,intOpA,intA,shiftA,unA,ZP,ZO,Zh,Zt,reduceIte,Nat.reduceEqDiff,Nat.reduceLT,Zo,Zq,true_and,and_true,and_self,ZB,cellsAt,Zg,ZC,Zf,Zk,ZL,ZM,Nat.reduceAdd,Nat.reduceMul,ZN,AV.cells,AV.one,known,Zn,getE_0,getE_k,setE_0,setE_k,Zc,Zd,Zl,Zm,Zi,Zw,Zu,Zj,Z1,Zx,Zy,ZJ,ZI,ZH,ZD,ZE,splice,fillI,Nat.reduceLeDiff,strA,ZK,ZA,Ze,bq_ft,bq_tf,ZG,ZF,ZQ,Zv,Zz,isNilA,nilPtr,nilSl,nilIf,nilFn,nilMap,nilCheckA,if_true,if_false,lt_lit,le_lit,lt_lit2,le_lit2,le_sub1,le_sub2]; rfl
      apply evI_seq
      · simp only [hz,e1,e2,g1,g2,g3,g4,g5,g6,Zs,Zr,Zp,Za,Zb,evI,opsI,stepI,wantI,opI,AAct.evI,look,AAct.put,mkVal,mkVM,intOpA,intA,shiftA,unA,ZP,ZO,Zh,Zt,reduceIte,Nat.reduceEqDiff,Nat.reduceLT,Zo,Zq,true_and,and_true,and_self,ZB,cellsAt,Zg,ZC,Zf,Zk,ZL,ZM,Nat.reduceAdd,Nat.reduceMul,ZN,AV.cells,AV.one,known,Zn,getE_0,getE_k,setE_0,setE_k,Zc,Zd,Zl,Zm,Zi,Zw,Zu,Zj,Z1,Zx,Zy,ZJ,ZI,ZH,ZD,ZE,splice,fillI,Nat.reduceLeDiff,strA,ZK,ZA,Ze,bq_ft,bq_tf,ZG,ZF,ZQ,Zv,Zz,isNilA,nilPtr,nilSl,nilIf,nilFn,nilMap,nilCheckA,if_true,if_false,lt_lit,le_lit,lt_lit2,le_lit2,le_sub1,le_sub2]; rfl
      rfl
    all_goals rfl
theorem twX_len (a b : List UInt8) (la : a.length < 50) (lb : b.length < 50) (w : Nat) : (twX w a b).length ≤ 200 := by
  unfold twX
  split <;> (simp; omega)
theorem law_twice (a b : List UInt8) (z : Int) (hla : a.length ≤ 1125899906842624) (hlb : b.length ≤ 1125899906842624) (hN2 : 1125899906842625 ≤ N) (d : Nat) (hd : 20 ≤ d) :
    evFI Tryz.prog (cfg ml) T N d 7 [.str a, .str b, .int .i64 z] [] = some (.ret (.bool true), []) := by
  obtain ⟨n, rfl⟩ : ∃ k, d = k + 10 := ⟨d - 10, by omega⟩
  have q1 := fun H => letters_eq (ml := ml) Tryz.prog N (n + 9) (by omega) a (by omega) (by omega) H
  have q2 := fun H => letters_eq (ml := ml) Tryz.prog N (n + 9) (by omega) b (by omega) (by omega) H
  have q3 := fun H => known_ok (ml := ml) Tryz.prog N (n + 9) (by omega) H
  cases ca : lettersOf a
  · rw [ca] at q1
    refine evF_ret (m := 106) (v := .bool true) (a := ?aa) (H1 := []) rfl t7 rfl ?hb ?hd ?hr ?hz
    case hb => simp only [Zf,Zk,idx,I7,q1,q3,Zs,Zr,Zp,Za,Zb,evI,opsI,stepI,wantI,opI,AAct.evI,look,AAct.put,mkVal,mkVM,intOpA,intA,shiftA,unA,ZP,ZO,Zh,Zt,reduceIte,Nat.reduceEqDiff,Nat.reduceLT,Zo,Zq,true_and,and_true,and_self,ZB,cellsAt,Zg,ZC,Zf,Zk,ZL,ZM,Nat.reduceAdd,Nat.reduceMul,ZN,AV.cells,AV.one,known,Zn,getE_0,getE_k,setE_0,setE_k,Zc,Zd,Zl,Zm,Zi,Zw,Zu,Zj,Z1,Zx,Zy,ZJ,ZI,ZH,ZD,ZE,splice,fillI,Nat.reduceLeDiff,strA,ZK,ZA,Ze,bq_ft,bq_tf,ZG,ZF,ZQ,Zv,Zz,isNilA,nilPtr,nilSl,nilIf,nilFn,nilMap,nilCheckA,if_true,if_false,lt_lit,le_lit,lt_lit2,le_lit2,le_sub1,le_sub2]; rfl
    case hd => rfl
    case hr => rfl
    case hz => rfl
  cases cb : lettersOf b
  · rw [ca] at q1
    rw [cb] at q2
    refine evF_ret (m := 106) (v := .bool true) (a := ?ab) (H1 := []) rfl t7 rfl ?hb ?hd ?hr ?hz
    case hb => simp only [Zf,Zk,idx,I7,q1,q2,q3,Zs,Zr,Zp,Za,Zb,evI,opsI,stepI,wantI,opI,AAct.evI,look,AAct.put,mkVal,mkVM,intOpA,intA,shiftA,unA,ZP,ZO,Zh,Zt,reduceIte,Nat.reduceEqDiff,Nat.reduceLT,Zo,Zq,true_and,and_true,and_self,ZB,cellsAt,Zg,ZC,Zf,Zk,ZL,ZM,Nat.reduceAdd,Nat.reduceMul,ZN,AV.cells,AV.one,known,Zn,getE_0,getE_k,setE_0,setE_k,Zc,Zd,Zl,Zm,Zi,Zw,Zu,Zj,Z1,Zx,Zy,ZJ,ZI,ZH,ZD,ZE,splice,fillI,Nat.reduceLeDiff,strA,ZK,ZA,Ze,bq_ft,bq_tf,ZG,ZF,ZQ,Zv,Zz,isNilA,nilPtr,nilSl,nilIf,nilFn,nilMap,nilCheckA,if_true,if_false,lt_lit,le_lit,lt_lit2,le_lit2,le_sub1,le_sub2]; rfl
    case hd => rfl
    case hr => rfl
    case hz => rfl
  clear q1 q2
  obtain ⟨t, l0, l1, l2, l7, hpre⟩ := tw_pre (ml := ml) hN a b z ca cb n
  obtain ⟨sp, nm, an, ac, e, r1, hc⟩ := tw_all (ml := ml) hN a b ca cb (wayN z) (way_lt z) n
  have hxl := twX_len hN a b (letters_nm ca).2.2 (letters_nm cb).2.2 (wayN z)
  have hz := way_wrap z
  have p40 : (2 : Nat) ^ 40 = 1099511627776 := by decide
  have f1 : (twX (wayN z) a b).length ≤ 2 ^ 40 := by omega
  have c22 : (((2 : Nat) : Int) == 2) = true := rfl
  have i0 : natOf (.int .i64 0) = some 0 := rfl
  have i1 : natOf (.int .i64 1) = some 1 := rfl
  clear hxl
  generalize twX (wayN z) a b = x at *
  have wz : ((wayN z : Int) == 2) = decide (wayN z = 2) := by
    cases h : decide (wayN z = 2)
    · exact beq_false_of_ne fun h2 => by have := of_decide_eq_false h; omega
    · rw [of_decide_eq_true h]; rfl
  have wn : ((wayN z : Int) != 2) = !decide (wayN z = 2) := by unfold bne; rw [wz]
  clear wz
  generalize wayN z = w at *
  unfold nsB at hc
  cases da : (a == [120, 109, 108, 110, 115])
  · cases db : (b == [120, 109, 108, 110, 115])
    · have hc := hc da db
      by_cases hab : a = b
      · subst hab
        cases w2 : decide (w = 2)
        · rw [w2] at wn
          rw [if_pos ⟨rfl, of_decide_eq_false w2⟩] at hc
          subst hc
          refine evF_ret (m := 106) (v := .bool true) (a := ?ac) (H1 := ?Hc) rfl t7 rfl ?hb ?hd ?hr ?hz
          case hb =>
            refine hpre.trans ?_
            apply evI_seq
            · simp only [l7,f1,r1,Zs,Zr,Zp,Za,Zb,evI,opsI,stepI,wantI,opI,AAct.evI,look,AAct.put,mkVal,mkVM,intOpA,intA,shiftA,unA,ZP,ZO,Zh,Zt,reduceIte,Nat.reduceEqDiff,Nat.reduceLT,Zo,Zq,true_and,and_true,and_self,ZB,cellsAt,Zg,ZC,Zf,Zk,ZL,ZM,Nat.reduceAdd,Nat.reduceMul,ZN,AV.cells,AV.one,known,Zn,getE_0,getE_k,setE_0,setE_k,Zc,Zd,Zl,Zm,Zi,Zw,Zu,Zj,Z1,Zx,Zy,ZJ,ZI,ZH,ZD,ZE,splice,fillI,Nat.reduceLeDiff,strA,ZK,ZA,Ze,bq_ft,bq_tf,ZG,ZF,ZQ,Zv,Zz,isNilA,nilPtr,nilSl,nilIf,nilFn,nilMap,nilCheckA,if_true,if_false,lt_lit,le_lit,lt_lit2,le_lit2,le_sub1,le_sub2]; rfl
            apply evI_seq
            · simp only [l0,l1,da,db,Zs,Zr,Zp,Za,Zb,evI,opsI,stepI,wantI,opI,AAct.evI,look,AAct.put,mkVal,mkVM,intOpA,intA,shiftA,unA,ZP,ZO,Zh,Zt,reduceIte,Nat.reduceEqDiff,Nat.reduceLT,Zo,Zq,true_and,and_true,and_self,ZB,cellsAt,Zg,ZC,Zf,Zk,ZL,ZM,Nat.reduceAdd,Nat.reduceMul,ZN,AV.cells,AV.one,known,Zn,getE_0,getE_k,setE_0,setE_k,Zc,Zd,Zl,Zm,Zi,Zw,Zu,Zj,Z1,Zx,Zy,ZJ,ZI,ZH,ZD,ZE,splice,fillI,Nat.reduceLeDiff,strA,ZK,ZA,Ze,bq_ft,bq_tf,ZG,ZF,ZQ,Zv,Zz,isNilA,nilPtr,nilSl,nilIf,nilFn,nilMap,nilCheckA,if_true,if_false,lt_lit,le_lit,lt_lit2,le_lit2,le_sub1,le_sub2]; rfl
            apply evI_seq_ret
            simp only [l0,l1,l2,hz,wn,q3,Zs,Zr,Zp,Za,Zb,evI,opsI,stepI,wantI,opI,AAct.evI,look,AAct.put,mkVal,mkVM,intOpA,intA,shiftA,unA,ZP,ZO,Zh,Zt,reduceIte,Nat.reduceEqDiff,Nat.reduceLT,Zo,Zq,true_and,and_true,and_self,ZB,cellsAt,Zg,ZC,Zf,Zk,ZL,ZM,Nat.reduceAdd,Nat.reduceMul,ZN,AV.cells,AV.one,known,Zn,getE_0,getE_k,setE_0,setE_k,Zc,Zd,Zl,Zm,Zi,Zw,Zu,Zj,Z1,Zx,Zy,ZJ,ZI,ZH,ZD,ZE,splice,fillI,Nat.reduceLeDiff,strA,ZK,ZA,Ze,bq_ft,bq_tf,ZG,ZF,ZQ,Zv,Zz,isNilA,nilPtr,nilSl,nilIf,nilFn,nilMap,nilCheckA,if_true,if_false,lt_lit,le_lit,lt_lit2,le_lit2,le_sub1,le_sub2]; rfl
          case hd => rfl
          case hr => rfl
          case hz => rfl
        · rw [w2] at wn
          rw [if_neg fun h => h.2 (of_decide_eq_true w2)] at hc
          obtain ⟨rfl, rfl, u1, v1, u2, v2, rfl⟩ := hc
          refine evF_ret (m := 106) (v := .bool true) (a := ?ad) (H1 := ?Hd) rfl t7 rfl ?hb ?hd ?hr ?hz
          case hb =>
            refine hpre.trans ?_
            apply evI_seq
            · simp only [l7,f1,r1,Zs,Zr,Zp,Za,Zb,evI,opsI,stepI,wantI,opI,AAct.evI,look,AAct.put,mkVal,mkVM,intOpA,intA,shiftA,unA,ZP,ZO,Zh,Zt,reduceIte,Nat.reduceEqDiff,Nat.reduceLT,Zo,Zq,true_and,and_true,and_self,ZB,cellsAt,Zg,ZC,Zf,Zk,ZL,ZM,Nat.reduceAdd,Nat.reduceMul,ZN,AV.cells,AV.one,known,Zn,getE_0,getE_k,setE_0,setE_k,Zc,Zd,Zl,Zm,Zi,Zw,Zu,Zj,Z1,Zx,Zy,ZJ,ZI,ZH,ZD,ZE,splice,fillI,Nat.reduceLeDiff,strA,ZK,ZA,Ze,bq_ft,bq_tf,ZG,ZF,ZQ,Zv,Zz,isNilA,nilPtr,nilSl,nilIf,nilFn,nilMap,nilCheckA,if_true,if_false,lt_lit,le_lit,lt_lit2,le_lit2,le_sub1,le_sub2]; rfl
            apply evI_seq
            · simp only [l0,l1,da,db,Zs,Zr,Zp,Za,Zb,evI,opsI,stepI,wantI,opI,AAct.evI,look,AAct.put,mkVal,mkVM,intOpA,intA,shiftA,unA,ZP,ZO,Zh,Zt,reduceIte,Nat.reduceEqDiff,Nat.reduceLT,Zo,Zq,true_and,and_true,and_self,ZB,cellsAt,Zg,ZC,Zf,Zk,ZL,ZM,Nat.reduceAdd,Nat.reduceMul,ZN,AV.cells,AV.one,known,Zn,getE_0,getE_k,setE_0,setE_k,Zc,Zd,Zl,Zm,Zi,Zw,Zu,Zj,Z1,Zx,Zy,ZJ,ZI,ZH,ZD,ZE,splice,fillI,Nat.reduceLeDiff,strA,ZK,ZA,Ze,bq_ft,bq_tf,ZG,ZF,ZQ,Zv,Zz,isNilA,nilPtr,nilSl,nilIf,nilFn,nilMap,nilCheckA,if_true,if_false,lt_lit,le_lit,lt_lit2,le_lit2,le_sub1,le_sub2]; rfl
            apply evI_seq
            · simp only [l0,l1,l2,hz,wn,q3,Zs,Zr,Zp,Za,Zb,evI,opsI,stepI,wantI,opI,AAct.evI,look,AAct.put,mkVal,mkVM,intOpA,intA,shiftA,unA,ZP,ZO,Zh,Zt,reduceIte,Nat.reduceEqDiff,Nat.reduceLT,Zo,Zq,true_and,and_true,and_self,ZB,cellsAt,Zg,ZC,Zf,Zk,ZL,ZM,Nat.reduceAdd,Nat.reduceMul,ZN,AV.cells,AV.one,known,Zn,getE_0,getE_k,setE_0,setE_k,Zc,Zd,Zl,Zm,Zi,Zw,Zu,Zj,Z1,Zx,Zy,ZJ,ZI,ZH,ZD,ZE,splice,fillI,Nat.reduceLeDiff,strA,ZK,ZA,Ze,bq_ft,bq_tf,ZG,ZF,ZQ,Zv,Zz,isNilA,nilPtr,nilSl,nilIf,nilFn,nilMap,nilCheckA,if_true,if_false,lt_lit,le_lit,lt_lit2,le_lit2,le_sub1,le_sub2]; rfl
            simp only [l0,l1,q3,c22,i0,i1,Zs,Zr,Zp,Za,Zb,evI,opsI,stepI,wantI,opI,AAct.evI,look,AAct.put,mkVal,mkVM,intOpA,intA,shiftA,unA,ZP,ZO,Zh,Zt,reduceIte,Nat.reduceEqDiff,Nat.reduceLT,Zo,Zq,true_and,and_true,and_self,ZB,cellsAt,Zg,ZC,Zf,Zk,ZL,ZM,Nat.reduceAdd,Nat.reduceMul,ZN,AV.cells,AV.one,known,Zn,getE_0,getE_k,setE_0,setE_k,Zc,Zd,Zl,Zm,Zi,Zw,Zu,Zj,Z1,Zx,Zy,ZJ,ZI,ZH,ZD,ZE,splice,fillI,Nat.reduceLeDiff,strA,ZK,ZA,Ze,bq_ft,bq_tf,ZG,ZF,ZQ,Zv,Zz,isNilA,nilPtr,nilSl,nilIf,nilFn,nilMap,nilCheckA,if_true,if_false,lt_lit,le_lit,lt_lit2,le_lit2,le_sub1,le_sub2]; rfl
          case hd => rfl
          case hr => rfl
          case hz => rfl
      · have hb : (a == b) = false := beq_false_of_ne hab
        rw [if_neg fun h => hab h.1] at hc
        obtain ⟨rfl, rfl, u1, v1, u2, v2, rfl⟩ := hc
        refine evF_ret (m := 106) (v := .bool true) (a := ?ae) (H1 := ?He) rfl t7 rfl ?hb ?hd ?hr ?hz
        case hb =>
          refine hpre.trans ?_
          apply evI_seq
          · simp only [l7,f1,r1,Zs,Zr,Zp,Za,Zb,evI,opsI,stepI,wantI,opI,AAct.evI,look,AAct.put,mkVal,mkVM,intOpA,intA,shiftA,unA,ZP,ZO,Zh,Zt,reduceIte,Nat.reduceEqDiff,Nat.reduceLT,Zo,Zq,true_and,and_true,and_self,ZB,cellsAt,Zg,ZC,Zf,Zk,ZL,ZM,Nat.reduceAdd,Nat.reduceMul,ZN,AV.cells,AV.one,known,Zn,getE_0,getE_k,setE_0,setE_k,Zc,Zd,Zl,Zm,Zi,Zw,Zu,Zj,Z1,Zx,Zy,ZJ,ZI,ZH,ZD,ZE,splice,fillI,Nat.reduceLeDiff,strA,ZK,ZA,Ze,bq_ft,bq_tf,ZG,ZF,ZQ,Zv,Zz,isNilA,nilPtr,nilSl,nilIf,nilFn,nilMap,nilCheckA,if_true,if_false,lt_lit,le_lit,lt_lit2,le_lit2,le_sub1,le_sub2]; rfl
          apply evI_seq
          · simp only [l0,l1,da,db,Zs,Zr,Zp,Za,Zb,evI,opsI,stepI,wantI,opI,AAct.evI,look,AAct.put,mkVal,mkVM,intOpA,intA,shiftA,unA,ZP,ZO,Zh,Zt,reduceIte,Nat.reduceEqDiff,Nat.reduceLT,Zo,Zq,true_and,and_true,and_self,ZB,cellsAt,Zg,ZC,Zf,Zk,ZL,ZM,Nat.reduceAdd,Nat.reduceMul,ZN,AV.cells,AV.one,known,Zn,getE_0,getE_k,setE_0,setE_k,Zc,Zd,Zl,Zm,Zi,Zw,Zu,Zj,Z1,Zx,Zy,ZJ,ZI,ZH,ZD,ZE,splice,fillI,Nat.reduceLeDiff,strA,ZK,ZA,Ze,bq_ft,bq_tf,ZG,ZF,ZQ,Zv,Zz,isNilA,nilPtr,nilSl,nilIf,nilFn,nilMap,nilCheckA,if_true,if_false,lt_lit,le_lit,lt_lit2,le_lit2,le_sub1,le_sub2]; rfl
          apply evI_seq
          · simp only [l0,l1,l2,hb,q3,Zs,Zr,Zp,Za,Zb,evI,opsI,stepI,wantI,opI,AAct.evI,look,AAct.put,mkVal,mkVM,intOpA,intA,shiftA,unA,ZP,ZO,Zh,Zt,reduceIte,Nat.reduceEqDiff,Nat.reduceLT,Zo,Zq,true_and,and_true,and_self,ZB,cellsAt,Zg,ZC,Zf,Zk,ZL,ZM,Nat.reduceAdd,Nat.reduceMul,ZN,AV.cells,AV.one,known,Zn,getE_0,getE_k,setE_0,setE_k,Zc,Zd,Zl,Zm,Zi,Zw,Zu,Zj,Z1,Zx,Zy,ZJ,ZI,ZH,ZD,ZE,splice,fillI,Nat.reduceLeDiff,strA,ZK,ZA,Ze,bq_ft,bq_tf,ZG,ZF,ZQ,Zv,Zz,isNilA,nilPtr,nilSl,nilIf,nilFn,nilMap,nilCheckA,if_true,if_false,lt_lit,le_lit,lt_lit2,le_lit2,le_sub1,le_sub2]; rfl
          simp only [l0,l1,q3,c22,i0,i1,Zs,Zr,Zp,Za,Zb,evI,opsI,stepI,wantI,opI,AAct.evI,look,AAct.put,mkVal,mkVM,intOpA,intA,shiftA,unA,ZP,ZO,Zh,Zt,reduceIte,Nat.reduceEqDiff,Nat.reduceLT,Zo,Zq,true_and,and_true,and_self,ZB,cellsAt,Zg,ZC,Zf,Zk,ZL,ZM,Nat.reduceAdd,Nat.reduceMul,ZN,AV.cells,AV.one,known,Zn,getE_0,getE_k,setE_0,setE_k,Zc,Zd,Zl,Zm,Zi,Zw,Zu,Zj,Z1,Zx,Zy,ZJ,ZI,ZH,ZD,ZE,splice,fillI,Nat.reduceLeDiff,strA,ZK,ZA,Ze,bq_ft,bq_tf,ZG,ZF,ZQ,Zv,Zz,isNilA,nilPtr,nilSl,nilIf,nilFn,nilMap,nilCheckA,if_true,if_false,lt_lit,le_lit,lt_lit2,le_lit2,le_sub1,le_sub2]; rfl
        case hd => rfl
        case hr => rfl
        case hz => rfl
    · refine evF_ret (m := 106) (v := .bool true) (a := ?af) (H1 := ?Hf) rfl t7 rfl ?hb ?hd ?hr ?hz
      case hb =>
        refine hpre.trans ?_
        apply evI_seq
        · simp only [l7,f1,r1,Zs,Zr,Zp,Za,Zb,evI,opsI,stepI,wantI,opI,AAct.evI,look,AAct.put,mkVal,mkVM,intOpA,intA,shiftA,unA,ZP,ZO,Zh,Zt,reduceIte,Nat.reduceEqDiff,Nat.reduceLT,Zo,Zq,true_and,and_true,and_self,ZB,cellsAt,Zg,ZC,Zf,Zk,ZL,ZM,Nat.reduceAdd,Nat.reduceMul,ZN,AV.cells,AV.one,known,Zn,getE_0,getE_k,setE_0,setE_k,Zc,Zd,Zl,Zm,Zi,Zw,Zu,Zj,Z1,Zx,Zy,ZJ,ZI,ZH,ZD,ZE,splice,fillI,Nat.reduceLeDiff,strA,ZK,ZA,Ze,bq_ft,bq_tf,ZG,ZF,ZQ,Zv,Zz,isNilA,nilPtr,nilSl,nilIf,nilFn,nilMap,nilCheckA,if_true,if_false,lt_lit,le_lit,lt_lit2,le_lit2,le_sub1,le_sub2]; rfl
        apply evI_seq_ret
        simp only [l0,l1,da,db,q3,Zs,Zr,Zp,Za,Zb,evI,opsI,stepI,wantI,opI,AAct.evI,look,AAct.put,mkVal,mkVM,intOpA,intA,shiftA,unA,ZP,ZO,Zh,Zt,reduceIte,Nat.reduceEqDiff,Nat.reduceLT,Zo,Zq,true_and,and_true,and_self,ZB,cellsAt,Zg,ZC,Zf,Zk,ZL,ZM,Nat.reduceAdd,Nat.reduceMul,ZN,AV.cells,AV.one,known,Zn,getE_0,getE_k,setE_0,setE_k,Zc,Zd,Zl,Zm,Zi,Zw,Zu,Zj,Z1,Zx,Zy,ZJ,ZI,ZH,ZD,ZE,splice,fillI,Nat.reduceLeDiff,strA,ZK,ZA,Ze,bq_ft,bq_tf,ZG,ZF,ZQ,Zv,Zz,isNilA,nilPtr,nilSl,nilIf,nilFn,nilMap,nilCheckA,if_true,if_false,lt_lit,le_lit,lt_lit2,le_lit2,le_sub1,le_sub2]; rfl
      case hd => rfl
      case hr => rfl
      case hz => rfl
  · refine evF_ret (m := 106) (v := .bool true) (a := ?ag) (H1 := ?Hg) rfl t7 rfl ?hb ?hd ?hr ?hz
    case hb =>
      refine hpre.trans ?_
      apply evI_seq
      · simp only [l7,f1,r1,Zs,Zr,Zp,Za,Zb,evI,opsI,stepI,wantI,opI,AAct.evI,look,AAct.put,mkVal,mkVM,intOpA,intA,shiftA,unA,ZP,ZO,Zh,Zt,reduceIte,Nat.reduceEqDiff,Nat.reduceLT,Zo,Zq,true_and,and_true,and_self,ZB,cellsAt,Zg,ZC,Zf,Zk,ZL,ZM,Nat.reduceAdd,Nat.reduceMul,ZN,AV.cells,AV.one,known,Zn,getE_0,getE_k,setE_0,setE_k,Zc,Zd,Zl,Zm,Zi,Zw,Zu,Zj,Z1,Zx,Zy,ZJ,ZI,ZH,ZD,ZE,splice,fillI,Nat.reduceLeDiff,strA,ZK,ZA,Ze,bq_ft,bq_tf,ZG,ZF,ZQ,Zv,Zz,isNilA,nilPtr,nilSl,nilIf,nilFn,nilMap,nilCheckA,if_true,if_false,lt_lit,le_lit,lt_lit2,le_lit2,le_sub1,le_sub2]; rfl
      apply evI_seq_ret
      simp only [l0,l1,da,q3,Zs,Zr,Zp,Za,Zb,evI,opsI,stepI,wantI,opI,AAct.evI,look,AAct.put,mkVal,mkVM,intOpA,intA,shiftA,unA,ZP,ZO,Zh,Zt,reduceIte,Nat.reduceEqDiff,Nat.reduceLT,Zo,Zq,true_and,and_true,and_self,ZB,cellsAt,Zg,ZC,Zf,Zk,ZL,ZM,Nat.reduceAdd,Nat.reduceMul,ZN,AV.cells,AV.one,known,Zn,getE_0,getE_k,setE_0,setE_k,Zc,Zd,Zl,Zm,Zi,Zw,Zu,Zj,Z1,Zx,Zy,ZJ,ZI,ZH,ZD,ZE,splice,fillI,Nat.reduceLeDiff,strA,ZK,ZA,Ze,bq_ft,bq_tf,ZG,ZF,ZQ,Zv,Zz,isNilA,nilPtr,nilSl,nilIf,nilFn,nilMap,nilCheckA,if_true,if_false,lt_lit,le_lit,lt_lit2,le_lit2,le_sub1,le_sub2]; rfl
    case hd => rfl
    case hr => rfl
    case hz => rfl
end
open Go.RowKit
variable {P : Program} {g : Cfg} {w : World}
theorem Ext.below {η' : Nat → Option Nat} {H' : Mem} {w' : World} (e : Ext (fun _ => none) [] w η' H' w') : Below w.heap.size w w' :=
  ⟨e.os, e.tape, e.output, e.size, fun k hk => (e.imm k ⟨hk, fun _ h => by cases h⟩).1⟩
theorem relGlob (hg : ∀ k cs, g.glob k = some cs → VR (fun _ => none) [] w (.iptr cs) (.pointer (some ⟨k, 0, none⟩))) : Rel g (fun _ => none) [] w :=
  ⟨fun _ _ h => (by cases h), fun _ _ _ h => (by cases h), fun x hx => (by simp at hx), fun _ _ _ _ h => (by cases h), hg⟩
theorem glob_one {k : Nat} {x : AV} {u : Value} (hc : w.cell? ⟨k, 0, none⟩ = some u) (hv : VR (fun _ => none) [] w x u) : VR (fun _ => none) [] w (.iptr [x]) (.pointer (some ⟨k, 0, none⟩)) := by
  have hlt : k < w.heap.size := by
    rcases Nat.lt_or_ge k w.heap.size with h | h
    · exact h
    · simp [World.cell?, Array.getElem?_eq_none h] at hc
  refine .iptr _ _ (fun _ => u) (fun j c h => ?_) (fun j c h => ?_)
  · cases j with
    | zero => exact ⟨⟨hlt, fun id h => by cases h⟩, by simpa [Addr.add] using hc⟩
    | succ j => simp at h
  · cases j with
    | zero => simp at h; subst h; exact hv
    | succ j => simp at h
theorem glob_cell {η : Nat → Option Nat} {H : Mem} {k : Nat} {x : AV} (r : Rel g η H w) (hk : g.glob k = some [x]) : ∃ u, w.cell? ⟨k, 0, none⟩ = some u ∧ VR η H w x u := by
  have h := r.glob k _ hk
  cases h with
  | iptr _ _ us ha hv =>
    obtain ⟨_, h2⟩ := ha 0 x rfl
    exact ⟨us 0, by simpa [Addr.add] using h2, hv 0 x rfl⟩
theorem useG (hm : P.follows .mixedOrders = true) (hL : LibOk P g) {T : FuncId → Option IF} (hT : TOk P g T) (hr : Rel g (fun _ => none) [] w) {N n f : Nat} {args : List AV} {v : AV} {H' : Mem} (h : evFI P g T N n f args [] = some (.ret v, H')) {us : Array Value} (hv : VRs (fun _ => none) [] w args us) :
    Calls P f us w fun e w' => ∃ u, e = .returned u ∧ Below w.heap.size w w' ∧ ∃ η', VR η' H' w' v u := by
  refine (evI_ok hm hL hT N n f args [] (.ret v) H' h _ w us hr hv).mono ?_
  rintro e w' ⟨η', h1, h2, h3⟩
  cases e with
  | returned u => exact ⟨u, rfl, h1.below, η', h3⟩
  | panicked ch => exact h3.elim
  | outgrown => exact h3.elim
theorem lib_of {f : FuncId} {η : Nat → Option Nat} {H : Mem} {us : Array Value} {u : Value} {v : AV} (r : Rel g η H w) (hc : Calls P f us w fun e w' => e = .returned u ∧ Below w.heap.size w w') (hv : ∀ w', VR η H w' v u) :
    Calls P f us w fun e w' => ∃ η', Ext η H w η' H w' ∧ Rel g η' H w' ∧ EndR η' H w' (.ret v) e := by
  refine hc.mono ?_
  rintro e w' ⟨rfl, hb⟩
  have e1 : Ext η H w η H w' := ⟨⟨Nat.le_refl _, fun id x hx => ⟨x, hx, Nat.le_refl _, fun _ b hη => ⟨hη, fun s hs => by
    rw [stab_heap (hb.block b (r.dom id b hη).2)]; exact hs⟩⟩, hb.size, fun b hi => ⟨hb.block b hi.1, hi.2⟩, hb.os, hb.tape, hb.output⟩, fun _ _ h => h⟩
  exact ⟨η, e1, r.step e1.toExtW (fun id b h => ⟨(r.dom id b h).1, Nat.lt_of_lt_of_le (r.dom id b h).2 hb.size⟩) r.inj r.low (fun id x b h1 h2 => .inl ⟨h1, h2, hb.block b (r.dom id b h2).2⟩), hv w'⟩
end Go.Proofs.YtmnajffpmbidiaaGreatDoor.Ev
