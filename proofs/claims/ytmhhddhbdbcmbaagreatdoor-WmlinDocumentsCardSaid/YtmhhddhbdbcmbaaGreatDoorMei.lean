/- Parts of one proof. -/
import Derived.Test.YtmhhddhbdbcmbaaGreatDoorMch
import Derived.Test.YtmhhddhbdbcmbaaGreatDoorMeh
import Derived.Lib.SlTrimSet
import Derived.Lib.Atoi
import Derived.Shelf.Strings.SlTrimAscii
import Derived.WalkKit
import Derived.WalkSpells
import Derived.WalkLawsBesides
import Derived.Lib.Hide
import Derived.Handy
import Derived.Outline
import Derived.Deep.QuietTactic
import Derived.BigQuiet
set_option linter.all false
namespace Go.Proofs.YtmhhddhbdbcmbaaGreatDoor.Ev
open Nat (reduceEqDiff reduceLT reduceAdd reduceMul reduceLeDiff reduceSub)
open Go.RowKit
theorem Xlb (s:ByteArray):s.data.toList.length=s.size:=by rw [Array.length_toList]; rfl
theorem Xun {B:Nat} {w W:World} (h:Below B w W) (n:Nat):Below B w (W.drewN n):=⟨h.os,h.tape,h.output,h.size,h.block⟩
theorem Xmu {α:Type} (p:α→Bool):∀ l:List α,l.dropWhile p=[]↔l.all p=true
 | []=>by simp
 | a::l=>by
  have:=Xmu p l
  cases h:p a <;> simp [h,this]
theorem Xtb {α:Type} (p:α→Bool):∀ l:List α,(l.takeWhile p).all p=true
 | []=>rfl
 | a::l=>by
  have:=Xtb p l
  cases h:p a <;> simp [h,this]
theorem trimS_all (l cs:List UInt8) (h:l.all (cs.contains ·)=true):Lib.trimS l cs=[]:=by
 have:Lib.trimRightS l cs=[]:=by
  unfold Lib.trimRightS
  rw [(Xmu _ _).2 (by simpa using h)]
  rfl
 rw [Lib.trimS,this]
 rfl
theorem trimS_not (l cs:List UInt8) (h:l.all (cs.contains ·)=false):Lib.trimS l cs≠[]:=by
 intro e
 rw [Lib.trimS,Lib.trimLeftS,Xmu] at e
 have hr:(Lib.trimRightS l cs).reverse=l.reverse.dropWhile (cs.contains ·):=by rw [Lib.trimRightS,List.reverse_reverse]
 have e2:(l.reverse.dropWhile (cs.contains ·)).all (cs.contains ·)=true:=by rw [← hr,List.all_reverse]; exact e
 have e3:l.reverse.all (cs.contains ·)=true:=by
  rw [← List.takeWhile_append_dropWhile (p:=(cs.contains ·)) (l:=l.reverse),List.all_append,e2,Bool.and_true]
  exact Xtb _ _
 rw [List.all_reverse] at e3
 rw [e3] at h
 cases h
def Xiq:List UInt8:=[48,49,50,51,52,53,54,55,56,57]
theorem Xyc (c:UInt8):Xiq.contains c=Xnb c:=by
 have h:∀ n:Fin 256,Xiq.contains (UInt8.ofNat n.val)=Xnb (UInt8.ofNat n.val):=by decide +kernel
 have:=h ⟨c.toNat,c.toNat_lt⟩
 simpa using this
theorem Xkj:∀ (l:List UInt8) (acc:Nat),l.all Xnb=true→∃ n:Nat,Lib.decFrom acc l=some n∧(n:Int)=l.foldl (fun n c=>n*10+(c.toNat:Int)-48) (acc:Int)
 | [],acc,_=>⟨acc,rfl,rfl⟩
 | c::l,acc,h=>by
  rw [List.all_cons,Bool.and_eq_true] at h
  obtain ⟨h1,h2⟩:=h
  simp only [Xnb,Bool.and_eq_true,decide_eq_true_eq] at h1
  have hd:Lib.digitVal c=some (c.toNat-48):=by rw [Lib.digitVal,if_pos ⟨by omega,by omega⟩]
  obtain ⟨n,e1,e2⟩:=Xkj l (acc*10+(c.toNat-48)) h2
  refine ⟨n,by rw [Lib.decFrom,hd]; exact e1,?_⟩
  rw [e2,List.foldl_cons]
  congr 1
  omega
theorem atoi_digs:∀ (l:List UInt8),1≤l.length→l.all Xnb=true→Lib.atoi l=some (Xnn l)
 | [],hl,_=>by simp at hl
 | c::r,_,ha=>by
  obtain ⟨n,e1,e2⟩:=Xkj (c::r) 0 ha
  rw [List.all_cons,Bool.and_eq_true] at ha
  have h3:=ha.1
  simp only [Xnb,Bool.and_eq_true,decide_eq_true_eq] at h3
  have n1:(c == 45)=false:=by
   rw [beq_eq_false_iff_ne]; intro e; subst e; revert h3; decide
  have n2:(c == 43)=false:=by
   rw [beq_eq_false_iff_ne]; intro e; subst e; revert h3; decide
  rw [Lib.atoi,n1,n2]
  simp only [Ze,if_false]
  rw [Lib.decNat,if_neg (by simp),e1]
  simp only [Zh]
  rw [e2]
  rfl
theorem Xo2 (l:List UInt8):l.all (Xiq.contains ·)=l.all Xnb:=by
 congr 1
 funext c
 exact Xyc c
def Xq1:ByteArray:=⟨#[48,49,50,51,52,53,54,55,56,57]⟩
theorem Xu9 (s:ByteArray) (hs:s.size≤9223372036854775807) (W:World):Calls Tryz.prog 66 #[.string s,.string Xq1] W fun e w'=>e=.returned (.string ⟨(Lib.trimS s.data.toList Xiq).toArray⟩)∧Below W.heap.size W w' :=
 Go.Proofs.Any.strings_Trim_laid Tryz.lays160 (by kernel_rfl) s Xq1 W hs (by decide) (Go.Proofs.ascii_of_all (by decide))
theorem Xu7 (s:ByteArray) (n:Int) (hl:s.size≤18) (h:Lib.atoi s.data.toList=some n) (W:World):Calls Tryz.prog 67 #[.string s] W fun e w'=>e=.returned (.tuple #[.int .i64 n,.nilIface])∧Below W.heap.size W w':=by
 refine (Tryz.strconv_Atoi s n hl h W).mono ?_
 rintro e w' ⟨rfl,t,rfl⟩
 exact ⟨rfl,⟨rfl,rfl,rfl,by rw [Lib.bytesWorld_size]; omega,fun i hi=>Lib.bytesWorld_at_old W _ t i (by omega)⟩⟩
set_option maxRecDepth 100000 in
set_option maxHeartbeats 2000000 in
theorem Xx8 (s:ByteArray) (hs:s.size≤9223372036854775807) (W:World):Calls Tryz.prog 43 #[.string s] W fun e w'=>e=.returned (.tuple #[.int .i64 (Xni s.data.toList),.bool (Xnq s.data.toList)])∧Below W.heap.size W w':=by
 have hsz:=Xlb s
 by_cases h0:s.size<1
 ·have HN:=Lib.hid (show Xiz s.data.toList = -1 by rw [Xiz,if_neg (by omega)])
  have he:s.toList=[]:=by
   rw [ByteArray.toList_eq]
   exact List.eq_nil_of_length_eq_zero (by omega)
  have he2:s.toList.isEmpty=true:=by rw [he]; rfl
  clear hsz
  go_enter Tryz.func43,Tryz.ntmps43
  go_wp2_with fail
  go_ret2
  exact ⟨by rw [Xni,Xnq,HN.out]; rfl,Below.refl _ _⟩
 ·have he2:s.toList.isEmpty=false:=by
   rw [ByteArray.toList_eq]
   cases e:s.data.toList with
   | nil=>rw [e] at hsz; exact absurd (show s.size<1 by rw [← hsz]; decide) h0
   | cons a l=>rfl
  by_cases h9:9<s.size
  ·have HN:=Lib.hid (show Xiz s.data.toList = -1 by rw [Xiz,if_neg (by omega)])
   have h9i:(9:Int)<(s.size:Int):=by omega
   clear hsz
   go_enter Tryz.func43,Tryz.ntmps43
   go_wp2_with fail
   go_ret2
   exact ⟨by rw [Xni,Xnq,HN.out]; rfl,Below.refl _ _⟩
  ·have h9i:(s.size:Int)≤9:=by omega
   have HT:=Lib.hid (Xu9 s hs W)
   by_cases ha:s.data.toList.all Xnb=true
   ·have HN:=Lib.hid (show Xiz s.data.toList=Xnn s.data.toList by rw [Xiz,if_pos ⟨by omega,by omega,ha⟩])
    have hr:=Xh3 s.size s.data.toList hsz ha
    have HA:=Lib.hid (Xu7 s (Xnn s.data.toList) (by omega) (atoi_digs s.data.toList (by omega) ha))
    have HE:=Lib.hid (trimS_all s.data.toList Xiq (by rw [Xo2]; exact ha))
    have HR:=Lib.hid hr
    rw [HE.out] at HT
    clear ha hr hsz
    go_enter Tryz.func43,Tryz.ntmps43
    unfold Xq1 at HT
    go_wp2_with (first | (go_at_call 66; refine HT.out.mono ?_; rintro e w1 ⟨rfl,hb1⟩) | (go_at_call 67; refine (HA.out _).mono ?_; rintro e w2 ⟨rfl,hb2⟩))
    go_quiet (fail)
    go_wp2_with fail
    have HB:=Lib.hid (hb1.trans (hb2.mono hb1.size))
    have HZ:=Lib.hid (show Xni s.data.toList=Xnn s.data.toList∧Xnq s.data.toList=true by
     have h:=HR.out.1
     rw [Xni,Xnq,HN.out,if_neg (by omega)]
     exact ⟨rfl,by rw [bne_iff_ne]; omega⟩)
    clear hb1 hb2
    generalize Xnn s.data.toList=d at HZ ⊢
    go_ret2
    refine ⟨by rw [HZ.out.1,HZ.out.2]; rfl,?_⟩
    exact Xun HB.out _
   ·have ha2:s.data.toList.all Xnb=false:=by simpa using ha
    have HN:=Lib.hid (show Xiz s.data.toList = -1 by rw [Xiz,if_neg (by rintro ⟨_,_,h⟩; exact ha h)])
    have hne:=trimS_not s.data.toList Xiq (by rw [Xo2]; exact ha2)
    generalize Lib.trimS s.data.toList Xiq=r at HT hne
    have he3:(⟨r.toArray⟩ : ByteArray).toList.isEmpty=false:=by
     rw [ByteArray.toList_eq]
     cases r with
     | nil=>exact absurd rfl hne
     | cons a l=>rfl
    clear ha ha2 hne hsz
    generalize (⟨r.toArray⟩ : ByteArray)=q at HT he3
    go_enter Tryz.func43,Tryz.ntmps43
    unfold Xq1 at HT
    go_wp2_with (go_at_call 66; refine HT.out.mono ?_; rintro e w1 ⟨rfl,hb1⟩)
    go_ret2
    exact ⟨by rw [Xni,Xnq,HN.out]; rfl,hb1⟩
end Go.Proofs.YtmhhddhbdbcmbaaGreatDoor.Ev
