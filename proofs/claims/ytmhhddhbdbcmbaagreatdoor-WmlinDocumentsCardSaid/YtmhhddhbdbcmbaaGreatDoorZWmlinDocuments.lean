/- WmlinDocuments: whatever the arguments, the law returns true and each argument reads afterwards as it read before; where the listed variables of the library hold what their text lays. -/
import Derived.Test.YtmhhddhbdbcmbaaGreatDoorCards
import Derived.Test.YtmhhddhbdbcmbaaGreatDoorTie
import Derived.Test.YtmhhddhbdbcmbaaGreatDoorMef
import Derived.Test.YtmhhddhbdbcmbaaGreatDoorMeh
import Derived.Test.YtmhhddhbdbcmbaaGreatDoorMei
import Derived.Test.YtmhhddhbdbcmbaaGreatDoorMej
import Derived.WalkKit
import Derived.ProofKit
import Derived.OpenShut
import Derived.SizedLaws
import Derived.ChangeOld
import Derived.Deep.DeepHandedRow
namespace Go.Proofs.YtmhhddhbdbcmbaaGreatDoor.wmlinDocuments
set_option linter.all false
open Go.ChangeShapes Go.WideShapes Go.ChangeAt Go.RowKit
theorem own:ownKnob Tryz.prog.godebug=none:=by kernel_rfl
theorem Xvb:laidOutB Tryz.prog=true:=by kernel_rfl
open Ev
theorem libs_ok:LibOk Tryz.prog Ic.cfg:=by
 intro f s hf args H v H' hs η w us r hv
 simp only [Ic.cfg,Ic.libs] at hf
 split at hf
 ·injection hf with hf; subst hf
  unfold Xp1 at hs
  split at hs
  ·injection hs with hs; injection hs with h1 h2; subst h1 h2
   obtain rfl:us = #[]:=Array.eq_empty_of_size_eq_zero hv.1
   exact lib_of r (Xu2 w) fun w'=>.bool true
  ·cases hs
 ·injection hf with hf; subst hf
  unfold Xv8 at hs
  split at hs
  ·rename_i s
   split at hs
   ·rename_i hl
    injection hs with hs; injection hs with h1 h2; subst h1 h2
    obtain ⟨hsz,hj⟩:=hv
    obtain ⟨l⟩:=us
    match l,hsz with
    | [u],_ =>
     have h0:=hj 0 _ u rfl rfl
     cases h0 with
     | str l s' h =>
      subst h
      refine lib_of r (Xx8 s' (by rw [← Xlb]; exact hl) w) fun w'=>.tup _ _ rfl fun j c u h1 h2=>?_
      match j with
      | 0=>simp at h1 h2; subst h1 h2; exact .int _ _
      | 1=>simp at h1 h2; subst h1 h2; exact .bool _
      | j+2=>simp at h1
   ·cases hs
  ·cases hs
 ·injection hf with hf; subst hf
  unfold Xp5 at hs
  split at hs
  ·rename_i s c
   split at hs
   ·rename_i hl
    injection hs with hs; injection hs with h1 h2; subst h1 h2
    obtain ⟨hsz,hj⟩:=hv
    obtain ⟨l⟩:=us
    match l,hsz with
    | [u,u'],_ =>
     have h0:=hj 0 _ u rfl rfl
     have h1:=hj 1 _ u' rfl rfl
     cases h0 with
     | str l s' h =>
      cases h1 with
      | str l2 c' h2 =>
       subst h h2
       obtain ⟨ha,hb,hc⟩:=hl
       exact lib_of r (Go.Proofs.Any.strings_Trim_laid Tryz.lays160 (by kernel_rfl) s' c' w (by rw [← Xlb]; exact ha) (by have:=Xlb c'; omega) (Go.Proofs.ascii_of_all hc)) fun w'=>.str _ _ rfl
   ·cases hs
  ·cases hs
 ·cases hf
set_option maxRecDepth 100000 in
/-- WHAT THE RECKONING GIVES, FOR EVERY ARGUMENT AND EVERY WORLD. -/
theorem contract (H:Type) (enc:TypeId × Value→H) (W:World) (base:Nat) (args:Array Value) (ds gs:List (DataW H)) (before:List MemPlace)
  (hval0:∀ (j:Nat) t v,Tryz.f3.params[j]? = some t→args[j]? = some v→Value.okWide Tryz.prog W .any base t v)
  (hW:DataW.Whole enc Tryz.prog Tryz.f3.params.toList Rows.wmlinDocumentsSpec.vars false W args.toList ds gs before)
  (hwt:(DataW.weightsEach Tryz.prog (Tryz.f3.params.toList++(OpenSpec.ofChange Rows.wmlinDocumentsSpec).bare.plain.varTypes Tryz.prog) (ds++gs)).all (·≤reachBytes)=true) :
  Calls Tryz.prog 3 args W fun e W'=>∃ v,e=.returned v∧Rows.wmlinDocumentsSpec.post enc Tryz.prog Tryz.f3 false true false false W args v W':=by
 have hval:=hval0
 have hW':=hW
 obtain ⟨p,q,hA0,hV,rfl,hfz,hnd⟩:=hW
 have hA:DataW.TrodAll enc Tryz.prog W 0 (fun _=>true) true Tryz.f3.params.toList args.toList ds p:=hA0
 rw [Tryz.params3] at hA hval hwt
 obtain ⟨v0,vs0,d0,ds0,p0,q0,hargs,rfl,rfl,h0,r0⟩:=trodAll_cons hA
 obtain ⟨v1,vs1,d1,ds1,p1,q1,rfl,rfl,rfl,h1,r1⟩:=trodAll_cons r0
 obtain ⟨v2,vs2,d2,ds2,p2,q2,rfl,rfl,rfl,h2,r2⟩:=trodAll_cons r1
 obtain ⟨rfl,rfl,rfl⟩:=trodAll_nil r2
 obtain rfl:args = #[v0,v1,v2]:=by cases args; simp_all
 obtain ⟨rfl,rfl⟩:=trodVars_none hV
 have k0:=h0
 have k1:=h1
 have k2:=h2
 have lt0:∀ x ∈ p0,x.block<W.heap.size:=by obtain ⟨m,hm⟩:=k0; exact DataW.trod_lt m _ _ _ hm
 have lt1:∀ x ∈ p1,x.block<W.heap.size:=by obtain ⟨m,hm⟩:=k1; exact DataW.trod_lt m _ _ _ hm
 have lt2:∀ x ∈ p2,x.block<W.heap.size:=by obtain ⟨m,hm⟩:=k2; exact DataW.trod_lt m _ _ _ hm
 have hB0:Xjo Tryz.prog 1125899906842624 25 d0:=fun x hx=>by
  have h:=List.all_eq_true.1 hwt x (by simp [DataW.weightsEach,hx])
  have h:=of_decide_eq_true h
  unfold reachBytes at h
  omega
 have hB1:Xjo Tryz.prog 1125899906842624 26 d1:=fun x hx=>by
  have h:=List.all_eq_true.1 hwt x (by simp [DataW.weightsEach,hx])
  have h:=of_decide_eq_true h
  unfold reachBytes at h
  omega
 have hB2:Xjo Tryz.prog 1125899906842624 27 d2:=fun x hx=>by
  have h:=List.all_eq_true.1 hwt x (by simp [DataW.weightsEach,hx])
  have h:=of_decide_eq_true h
  unfold reachBytes at h
  omega
 have hok:∃ cs:Array Value,v0=.agg cs∧v0.cells.toList=cs.toList:=by
  have h:=hval 0 25 v0 rfl rfl
  unfold Value.okWide at h
  rw [Tryz.underlying25] at h
  obtain ⟨cs,rfl,_⟩:=h
  exact ⟨cs,rfl,rfl⟩
 have ok1:v1.cells.toList=[v1]:=by
  obtain ⟨a,b,c,rfl⟩:=okWide_slice Tryz.underlying26 (hval 1 _ v1 rfl rfl)
  rfl
 have ok2:v2.cells.toList=[v2]:=by
  obtain ⟨a,b,c,rfl⟩:=okWide_slice Tryz.underlying27 (hval 2 _ v2 rfl rfl)
  rfl
 obtain ⟨e,hv0,hs⟩:=arg_el hok hB0 h0
 obtain ⟨rels,hv1,hl⟩:=arg_rls ok1 hB1 h1
 obtain ⟨sts,hv2,hst⟩:=arg_sts ok2 hB2 h2
 obtain ⟨D,heq⟩:=law_docs 9223372036854775808 (Nat.le_refl _) e hs rels sts hl hst
 clear hA0 hval0 hV
 refine (use (us:=#[v0,v1,v2]) (w:=W) (by kernel_rfl) libs_ok Ic.T_ok (fun _=>rfl) heq ⟨rfl,fun j c u h1 h2=>?_⟩).mono fun e W' hend=>?_
 ·match j with
  | 0=>simp at h1 h2; subst h1 h2; exact hv0
  | 1=>simp at h1 h2; subst h1 h2; exact hv1
  | 2=>simp at h1 h2; subst h1 h2; exact hv2
  | j+3=>simp at h1
 obtain ⟨u,he,bel,η',hr⟩:=hend
 cases hr
 subst he
 exact ⟨_,rfl,_,_,_,[],_,[],hW',trodAll_mk1 (shut_bool Tryz.underlying4 _),trodAll_cons_mk (Below.trod Xvb (by kernel_rfl) (of_decide_eq_true (by kernel_rfl)) k0 bel lt0) (trodAll_cons_mk (Below.trod Xvb (by kernel_rfl) (of_decide_eq_true (by kernel_rfl)) k1 bel lt1) (trodAll_cons_mk (Below.trod Xvb (by kernel_rfl) (of_decide_eq_true (by kernel_rfl)) k2 bel lt2) trodAll_mk0)),rfl,bel.frame _,fun h=>by cases h⟩
/-- A block of cells that holds other values. -/
def put (xs:Array Value):Obj→Obj
 | .cells _ t frozen=>.cells xs t frozen
 | o=>o
noncomputable def lowest:Nat:=(World.holding Tryz.prog default ⟨#[],#[],[]⟩).heap.size
/-- A WORLD FOR THE WITNESS: the settled one, with the library's tables as their text lays them. -/
noncomputable def Xml (os:Os):World :=
 let w:=World.holding Tryz.prog os ⟨#[.cells #[.string { data:=#[105,110,118,97,108,105,100,32,115,121,110,116,97,120] }] 212,.cells #[.string { data:=#[118,97,108,117,101,32,111,117,116,32,111,102,32,114,97,110,103,101] }] 212],#[],[]⟩
 let h0:=w.heap.modify 0 (put #[.iface 210 (.pointer (some ⟨lowest+0,0,none⟩))])
 let h1:=h0.modify 1 (put #[.iface 210 (.pointer (some ⟨lowest+1,0,none⟩))])
 let h2:=h1.modify 2 (put (Go.Pinned.utf8FirstZ.map fun (n:Nat)=>Value.int .u8 (Int.ofNat n)).toArray)
 let h3:=h2.modify 3 (put #[.int .u8 128,.int .u8 191,.int .u8 160,.int .u8 191,.int .u8 128,.int .u8 159,.int .u8 144,.int .u8 191,.int .u8 128,.int .u8 143,.int .u8 0,.int .u8 0,.int .u8 0,.int .u8 0,.int .u8 0,.int .u8 0,.int .u8 0,.int .u8 0,.int .u8 0,.int .u8 0,.int .u8 0,.int .u8 0,.int .u8 0,.int .u8 0,.int .u8 0,.int .u8 0,.int .u8 0,.int .u8 0,.int .u8 0,.int .u8 0,.int .u8 0,.int .u8 0])
 let h4:=h3.modify 5 (put #[.int .u64 1,.int .u64 10,.int .u64 100,.int .u64 1000,.int .u64 10000,.int .u64 100000,.int .u64 1000000,.int .u64 10000000,.int .u64 100000000,.int .u64 1000000000,.int .u64 10000000000,.int .u64 100000000000,.int .u64 1000000000000,.int .u64 10000000000000,.int .u64 100000000000000,.int .u64 1000000000000000,.int .u64 10000000000000000,.int .u64 100000000000000000,.int .u64 1000000000000000000,.int .u64 10000000000000000000])
 let h5:=h4.modify 6 (put #[.int .u8 0,.int .u8 1,.int .u8 28,.int .u8 2,.int .u8 29,.int .u8 14,.int .u8 24,.int .u8 3,.int .u8 30,.int .u8 22,.int .u8 20,.int .u8 15,.int .u8 25,.int .u8 17,.int .u8 4,.int .u8 8,.int .u8 31,.int .u8 27,.int .u8 13,.int .u8 23,.int .u8 21,.int .u8 19,.int .u8 16,.int .u8 7,.int .u8 26,.int .u8 12,.int .u8 18,.int .u8 6,.int .u8 11,.int .u8 5,.int .u8 10,.int .u8 9])
 { w with heap:=h5.modify 7 (put #[.int .u8 0,.int .u8 1,.int .u8 56,.int .u8 2,.int .u8 57,.int .u8 49,.int .u8 28,.int .u8 3,.int .u8 61,.int .u8 58,.int .u8 42,.int .u8 50,.int .u8 38,.int .u8 29,.int .u8 17,.int .u8 4,.int .u8 62,.int .u8 47,.int .u8 59,.int .u8 36,.int .u8 45,.int .u8 43,.int .u8 51,.int .u8 22,.int .u8 53,.int .u8 39,.int .u8 33,.int .u8 30,.int .u8 24,.int .u8 18,.int .u8 12,.int .u8 5,.int .u8 63,.int .u8 55,.int .u8 48,.int .u8 27,.int .u8 60,.int .u8 41,.int .u8 37,.int .u8 16,.int .u8 46,.int .u8 35,.int .u8 44,.int .u8 21,.int .u8 52,.int .u8 32,.int .u8 23,.int .u8 11,.int .u8 54,.int .u8 26,.int .u8 40,.int .u8 15,.int .u8 34,.int .u8 20,.int .u8 31,.int .u8 10,.int .u8 25,.int .u8 14,.int .u8 19,.int .u8 9,.int .u8 13,.int .u8 8,.int .u8 7,.int .u8 6]) }
/-- THE WITNESS's ARGUMENTS. -/
abbrev Xpg:Array Value:=#[.agg #[.string ⟨#[]⟩,.string ⟨#[]⟩,.string ⟨#[]⟩,.slice none 0 0,.slice none 0 0],.slice none 0 0,.slice none 0 0]
theorem laid_met (os:Os):laidMet Tryz.prog Rows.wmlinDocumentsRow.laid ((Xml os).forCall (fun _ _=>0) ⟨#[],Xpg,[]⟩).memory :=
 laidMet_of_run' 8 (by kernel_rfl) (by kernel_rfl)
theorem reads (os:Os) {H:Type} (enc:TypeId × Value→H):∃ places,DataW.whole enc Tryz.prog ((Xml os).forCall (fun _ _=>0) ⟨#[],Xpg,[]⟩).memory Tryz.f3.params.toList Rows.wmlinDocumentsSpec.vars false Xpg.toList 8=some ([.agg [.lit (.string []),.lit (.string []),.lit (.string []),.nil,.nil],.nil,.nil],[],places) :=
 ⟨[],by kernel_rfl⟩
set_option maxRecDepth 100000 in
/-- THE ROW's STEP. -/
theorem lifted (os:Os) (started:os.Started) (H:Type) (enc:TypeId × Value→H) (F:Stop.Interp) :
  ReturnsInHanded {} Tryz.checked os 3 .any ((OpenSpec.ofChange Rows.wmlinDocumentsSpec).preRow enc Tryz.prog Tryz.f3 Rows.wmlinDocumentsRow.domain false Rows.wmlinDocumentsRow.laid) (((OpenSpec.ofChange Rows.wmlinDocumentsSpec).at F).post enc Tryz.prog Tryz.f3 false true false false):=by
 obtain ⟨places,hx⟩:=reads os enc
 refine returnsInHanded_of_row (C:=Tryz.checked) (s:=OpenSpec.ofChange Rows.wmlinDocumentsSpec) own started (by kernel_rfl) Tryz.func3
  (witness_row_at (enc:=enc) (C:=Tryz.checked) false (Xml os) Xpg rfl (by kernel_rfl) (by kernel_rfl) (by kernel_rfl)
   (OpenSpec.preRow_of_cond 8 hx (by kernel_rfl) (fun k hk=>by cases hk) (by kernel_rfl) (laid_met os))) ?_
 intro W base args ds gs before hval hW _ hc hwt _ _ _
 exact contract H enc W base args ds gs before hval hW hwt
/-- THE ROW. -/
theorem said:Rows.WmlinDocumentsSaid :=
 OpenClaim.holds_of_cond 3 Tryz.f3 rfl rfl rfl rfl rfl rfl rfl ⟨rfl,rfl,rfl,rfl,rfl⟩ rfl rfl rfl rfl rfl (by kernel_rfl) Tryz.func3 (by kernel_rfl)
  (of_decide_eq_true (by kernel_rfl)) (by unfold Func.isWrapper; first | (rw [if_pos (by decide +kernel)]; kernel_rfl) | (rw [if_neg (by decide +kernel)]; exact ⟨rfl,rfl⟩))
  (fun os started H enc _ F=>by rw [OpenClaim.pre_eq_preRow]; exact lifted os started H enc F)
/-- No parameter wants a stand-in; the program's own looks are on. -/
theorem plain (f:FuncId) (fn:Func) (hf:Tryz.pinned.checked.prog.funcNamed "rubricator/rubricatorlaw16.WmlinDocuments" = some f) (hfn:Tryz.pinned.checked.prog.funcs[f]? = some fn) :
  true=Tryz.pinned.checked.prog.looks []∧∀ (j:Nat) t,fn.params[j]? = some t→Tryz.pinned.checked.prog.wantsStandIn t=false:=by
 obtain rfl:f=3:=Option.some.inj ((show Tryz.prog.funcNamed "rubricator/rubricatorlaw16.WmlinDocuments" = some 3 by kernel_rfl).symm.trans hf) |>.symm
 obtain rfl:fn=Tryz.f3:=(Option.some.inj (Tryz.func3.symm.trans hfn)).symm
 refine ⟨by kernel_rfl,fun j t ht=>?_⟩
 rw [Tryz.params3] at ht
 have ht:=Array.mem_of_getElem? ht
 simp only [List.mem_toArray,List.mem_cons,List.mem_nil_iff,or_false] at ht
 rcases ht with rfl | rfl | rfl
 ·exact (show Tryz.prog.wantsStandIn 25=false by kernel_rfl)
 ·exact (show Tryz.prog.wantsStandIn 26=false by kernel_rfl)
 ·exact (show Tryz.prog.wantsStandIn 27=false by kernel_rfl)
/-- THE CARD. -/
theorem card:Rows.WmlinDocumentsCardSaid :=
 Claim7.holds_tied_plain_at .later [] _ _ _ _ said (fun _ h=>by cases h) (by kernel_rfl) (fun _ h=>by cases h) wmlinDocuments_row_tie rfl ⟨rfl,rfl⟩ (by kernel_rfl) rfl plain (by kernel_rfl)
#print axioms card
end Go.Proofs.YtmhhddhbdbcmbaaGreatDoor.wmlinDocuments
