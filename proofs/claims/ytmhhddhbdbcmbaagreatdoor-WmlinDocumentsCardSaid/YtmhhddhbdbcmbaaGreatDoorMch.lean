/- Parts of one proof. -/
import Derived.Test.YtmhhddhbdbcmbaaGreatDoorMaa
import Derived.Lib.SlTrimSet
set_option linter.all false
namespace Go.Proofs.YtmhhddhbdbcmbaaGreatDoor.Ev
def Xnb (c:UInt8):Bool:=decide (48≤c.toNat) && decide (c.toNat≤57)
def Xnn (l:List UInt8):Int:=l.foldl (fun n c=>n*10+(c.toNat:Int)-48) 0
def Xiz (s:List UInt8):Int:=if 1≤s.length∧s.length≤9∧s.all Xnb=true then Xnn s else -1
theorem Xs0 (l:List UInt8) (c:UInt8):Xnn (l++[c])=Xnn l*10+(c.toNat:Int)-48:=by simp [Xnn]
theorem Xh3:∀ (n:Nat) (l:List UInt8),l.length=n→l.all Xnb=true→0≤Xnn l∧Xnn l<10 ^ n
 | 0,l,hl,_=>by
  have:l=[]:=List.eq_nil_of_length_eq_zero hl
  subst this
  simp [Xnn]
 | n+1,l,hl,h=>by
  have hne:l≠[]:=by intro e; subst e; simp at hl
  have e:=(List.dropLast_concat_getLast hne).symm
  have ih:=Xh3 n l.dropLast (by simp [hl]) (by
   rw [e,List.all_append,Bool.and_eq_true] at h
   exact h.1)
  have hc:Xnb (l.getLast hne)=true:=by
   rw [e,List.all_append,Bool.and_eq_true] at h
   simpa using h.2
  rw [e,Xs0]
  simp only [Xnb,Bool.and_eq_true,decide_eq_true_eq] at hc
  have hp:(10:Int) ^ (n+1)=10 ^ n*10:=Int.pow_succ ..
  rw [hp]
  omega
theorem pow_le8:∀ k:Nat,k≤8→(10:Int) ^ k≤100000000
 | 0,_=>by decide
 | 1,_=>by decide
 | 2,_=>by decide
 | 3,_=>by decide
 | 4,_=>by decide
 | 5,_=>by decide
 | 6,_=>by decide
 | 7,_=>by decide
 | 8,_=>by decide
 | n+9,h=>by omega
theorem Xxg (s:List UInt8) : -1≤Xiz s∧Xiz s<1000000000:=by
 unfold Xiz
 split
 ·rename_i h
  have:=Xh3 s.length s rfl h.2.2
  have hp:(10:Int) ^ s.length≤1000000000:=by
   rcases Nat.lt_or_ge s.length 9 with h9 | h9
   ·have:=pow_le8 s.length (by omega); omega
   ·have:s.length=9:=by omega
    rw [this]; decide
  omega
 ·omega
def Xni (s:List UInt8):Int:=if Xiz s = -1 then 0 else Xiz s
def Xnq (s:List UInt8):Bool:=Xiz s != -1
def Xv8:List AV→Mem→Option (AV × Mem)
 | [.str s],H=>if s.length≤9223372036854775807 then some (.tup [.int .i64 (Xni s),.bool (Xnq s)],H) else none
 | _,_=>none
def Xp1:List AV→Mem→Option (AV × Mem)
 | [],H=>some (.bool true,H)
 | _,_=>none
def Xp5:List AV→Mem→Option (AV × Mem)
 | [.str s,.str c],H=>if s.length≤9223372036854775807∧c.length≤4294967280∧c.all (fun b=>decide (b.toNat<128))=true then some (.str (Lib.trimS s c),H) else none
 | _,_=>none
end Go.Proofs.YtmhhddhbdbcmbaaGreatDoor.Ev
