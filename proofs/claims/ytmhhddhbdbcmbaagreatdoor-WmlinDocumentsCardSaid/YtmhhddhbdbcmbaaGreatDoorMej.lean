/- Parts of one proof. -/
import Derived.Test.YtmhhddhbdbcmbaaGreatDoorMef
import Derived.Test.YtmhhddhbdbcmbaaGreatDoorProg
set_option linter.all false
namespace Go.Proofs.YtmhhddhbdbcmbaaGreatDoor.Ev
open Nat (reduceEqDiff reduceLT reduceAdd reduceMul reduceLeDiff reduceSub)
open Go.RowKit
def cfgAll:Cfg:=⟨fun _=>none,fun _=>none,fun _ _=>none,fun _=>true⟩
def isT:Option (End × Mem)→Bool
 | some (.ret (.bool true),[])=>true
 | _=>false
theorem isT_eq {x:Option (End × Mem)} (h:isT x=true):x=some (.ret (.bool true),[]):=by
 unfold isT at h; split at h <;> first | rfl | cases h
set_option maxRecDepth 1000000 in
theorem Xxa:isT (evF Tryz.prog cfgAll 200 100 13 [] [])=true:=by decide +kernel
theorem Xu2 (w:World):Calls Tryz.prog 13 #[] w fun e w'=>e=.returned (.bool true)∧Below w.heap.size w w':=by
 have hm:Tryz.prog.follows .mixedOrders=true:=by kernel_rfl
 refine (Xw2 hm (g:=cfgAll) (fun f s h=>by cases h) 200 100 _ [] [] _ _ (isT_eq Xxa) _ w #[] (relNil fun _=>rfl) ⟨rfl,fun j c u h=>by simp at h⟩).mono ?_
 rintro e w' ⟨η',h1,h2,h3⟩
 cases e with
 | returned u =>
  cases h3
  exact ⟨rfl,h1.below⟩
 | panicked ch=>exact h3.elim
 | outgrown=>exact h3.elim
end Go.Proofs.YtmhhddhbdbcmbaaGreatDoor.Ev
