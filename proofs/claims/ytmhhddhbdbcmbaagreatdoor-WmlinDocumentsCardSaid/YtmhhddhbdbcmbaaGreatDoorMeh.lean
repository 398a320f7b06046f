/- Parts of one proof. -/
import Derived.Test.YtmhhddhbdbcmbaaGreatDoorMdb
import Derived.Test.YtmhhddhbdbcmbaaGreatDoorMeg
import Derived.Test.YtmhhddhbdbcmbaaGreatDoorMef
import Derived.Shelf.Strings.Builder1
import Derived.Shelf.Strings.Trim
import Derived.Shelf.Small.Utf8
import Derived.Shelf.Small.Strs
import Derived.Shelf.Strconv.Atoi
import Derived.Shelf.Strconv.Itoa0
import Derived.Shelf.Strconv.Itoa1
import Derived.Shelf.LaysM
import Derived.Shelf.Strconv.Itoa2
import Derived.Shelf.Strconv.Itoa3
import Derived.Shelf.Strings.Search1
import Derived.Shelf.Unicode.Decode
import Derived.Shelf.Strings.Runes
import Derived.Shelf.Strings.AsciiSet
import Derived.Shelf.Unicode.DecodeSlow
import Derived.Shelf.Unicode.DecodeAny
import Derived.Shelf.Unicode.DecodeLast
import Derived.Test.YtmhhddhbdbcmbaaGreatDoorProg
set_option linter.all false
namespace Go.Proofs.YtmhhddhbdbcmbaaGreatDoor.Ev
open Nat (reduceEqDiff reduceLT reduceAdd reduceMul reduceLeDiff reduceSub)
open Go.RowKit
theorem Xrs:Tryz.prog.cellsOf 25=5:=by kernel_rfl
theorem Xs5:Tryz.prog.cellsOf 66=3:=by kernel_rfl
theorem Xd2:Tryz.prog.cellsOf 9=1:=by kernel_rfl
theorem Xx9:Tryz.prog.cellsOf 22=1:=by kernel_rfl
theorem Xyl:Tryz.prog.cellsOf 23=1:=by kernel_rfl
theorem bytesAttr:1≤Tryz.prog.bytesOf 66:=of_decide_eq_true (by kernel_rfl)
theorem bytesElem:1≤Tryz.prog.bytesOf 25:=of_decide_eq_true (by kernel_rfl)
section
variable {H:Type} {enc:TypeId × Value→H} {w:World} {base:Nat} {spare:Nat→Bool} {Xcd:Bool}
set_option maxRecDepth 100000 in
theorem open_at {B fuel:Nat} {cs:List Value} {x:DataW H × List MemPlace} (hB:Xjo Tryz.prog B 66 x.1) (h:DataW.trod enc Tryz.prog w base spare Xcd fuel 66 cs=some x) :
  ∃ a:List UInt8 × List UInt8 × List UInt8,CR w (atC a) cs∧(a.1.length≤B∧a.2.1.length≤B∧a.2.2.length≤B):=by
 obtain ⟨hl,hf⟩:=Xjd Tryz.underlying66 hB h
 rw [Xs5] at hl
 match cs,hl with
 | [c0,c1,c2],_ =>
  obtain ⟨y0,n0,_,b0,h0⟩:=hf 0 _ rfl
  obtain ⟨y1,n1,_,b1,h1⟩:=hf 1 _ rfl
  obtain ⟨y2,n2,_,b2,h2⟩:=hf 2 _ rfl
  have h0:DataW.trod enc Tryz.prog w base spare Xcd n0 9 [c0]=some y0:=by simpa [Xd2] using h0
  have h1:DataW.trod enc Tryz.prog w base spare Xcd n1 9 [c1]=some y1:=by simpa [Xd2] using h1
  have h2:DataW.trod enc Tryz.prog w base spare Xcd n2 9 [c2]=some y2:=by simpa [Xd2] using h2
  obtain ⟨s0,e0,l0⟩:=Xd0 Tryz.underlying9 b0 h0
  obtain ⟨s1,e1,l1⟩:=Xd0 Tryz.underlying9 b1 h1
  obtain ⟨s2,e2,l2⟩:=Xd0 Tryz.underlying9 b2 h2
  exact ⟨(s0,s1,s2),e0.app (e1.app e2),l0,l1,l2⟩
theorem kC_flat:∀ l:List El,kC l=l.flatMap eC
 | []=>rfl
 | x::l=>by rw [kC,List.flatMap_cons,kC_flat l]
set_option maxRecDepth 100000 in
theorem open_el {B:Nat}:∀ (N fuel:Nat) (cs:List Value) (x:DataW H × List MemPlace),fuel<N→Xjo Tryz.prog B 25 x.1→DataW.trod enc Tryz.prog w base spare Xcd fuel 25 cs=some x→∃ e:El,CR w (eC e) cs∧Small B e
 | 0,_,_,_,hN,_,_=>absurd hN (Nat.not_lt_zero _)
 | N+1,fuel,cs,x,hN,hB,h=>by
  obtain ⟨hl,hf⟩:=Xjd Tryz.underlying25 hB h
  rw [Xrs] at hl
  match cs,hl with
  | [c0,c1,c2,c3,c4],_ =>
   obtain ⟨y0,n0,_,b0,h0⟩:=hf 0 _ rfl
   obtain ⟨y1,n1,_,b1,h1⟩:=hf 1 _ rfl
   obtain ⟨y2,n2,_,b2,h2⟩:=hf 2 _ rfl
   obtain ⟨y3,n3,_,b3,h3⟩:=hf 3 _ rfl
   obtain ⟨y4,n4,l4,b4,h4⟩:=hf 4 _ rfl
   have h0:DataW.trod enc Tryz.prog w base spare Xcd n0 9 [c0]=some y0:=by simpa [Xd2] using h0
   have h1:DataW.trod enc Tryz.prog w base spare Xcd n1 9 [c1]=some y1:=by simpa [Xd2] using h1
   have h2:DataW.trod enc Tryz.prog w base spare Xcd n2 9 [c2]=some y2:=by simpa [Xd2] using h2
   have h3:DataW.trod enc Tryz.prog w base spare Xcd n3 22 [c3]=some y3:=by simpa [Xx9] using h3
   have h4:DataW.trod enc Tryz.prog w base spare Xcd n4 23 [c4]=some y4:=by simpa [Xyl] using h4
   obtain ⟨s0,e0,k0⟩:=Xd0 Tryz.underlying9 b0 h0
   obtain ⟨s1,e1,k1⟩:=Xd0 Tryz.underlying9 b1 h1
   obtain ⟨s2,e2,k2⟩:=Xd0 Tryz.underlying9 b2 h2
   obtain ⟨al,e3,k3,q3⟩:=Xla atC 3 (fun _=>rfl) (fun a:List UInt8 × List UInt8 × List UInt8=>a.1.length≤B∧a.2.1.length≤B∧a.2.2.length≤B) Tryz.underlying22 Xs5 bytesAttr n3 _ _ (fun m cs y _ hb hy=>open_at hb hy) b3 h3
   obtain ⟨ks,e4,k4,q4⟩:=Xla eC 5 Xvj (Small B) Tryz.underlying23 Xrs bytesElem n4 _ _ (fun m cs y hm hb hy=>open_el N m cs y (by omega) hb hy) b4 h4
   refine ⟨.mk s0 s1 s2 al ks,?_,.mk _ _ _ _ _ k0 k1 k2 k3 k4 q4 q3⟩
   have:=e0.app (e1.app (e2.app (e3.app e4)))
   rw [← kC_flat] at this
   exact this
theorem arg_el {v:Value} {d:DataW H} {p:List MemPlace} {B:Nat} (hv:∃ cs:Array Value,v=.agg cs∧v.cells.toList=cs.toList) (hB:Xjo Tryz.prog B 25 d) (h:DataW.Trod enc Tryz.prog w base spare Xcd 25 v d p) :
  ∃ e:El,VR (fun _=>none) [] w (.agg (eC e)) v∧Small B e:=by
 obtain ⟨fuel,hf⟩:=h
 obtain ⟨e,he,hs⟩:=open_el (fuel+1) fuel _ _ (Nat.lt_succ_self _) hB hf
 obtain ⟨cs,rfl,hc⟩:=hv
 rw [hc] at he
 exact ⟨e,he.agg,hs⟩
end
end Go.Proofs.YtmhhddhbdbcmbaaGreatDoor.Ev
namespace Go.Proofs.YtmhhddhbdbcmbaaGreatDoor.Ev
open Go.RowKit
theorem Xvt:Tryz.prog.cellsOf 170=4:=by kernel_rfl
theorem Xoc:Tryz.prog.cellsOf 68=6:=by kernel_rfl
theorem Xta:Tryz.prog.cellsOf 4=1:=by kernel_rfl
theorem Xq3:Tryz.prog.cellsOf 3=1:=by kernel_rfl
theorem bytesRel:1≤Tryz.prog.bytesOf 170:=of_decide_eq_true (by kernel_rfl)
theorem Xxd:1≤Tryz.prog.bytesOf 68:=of_decide_eq_true (by kernel_rfl)
section
variable {H:Type} {enc:TypeId × Value→H} {w:World} {base:Nat} {spare:Nat→Bool} {Xcd:Bool}
set_option maxRecDepth 100000 in
theorem open_rl {B fuel:Nat} {cs:List Value} {x:DataW H × List MemPlace} (hB:Xjo Tryz.prog B 170 x.1) (h:DataW.trod enc Tryz.prog w base spare Xcd fuel 170 cs=some x) :
  ∃ r:Rl,CR w (rlC r) cs∧True:=by
 obtain ⟨hl,hf⟩:=Xjd Tryz.underlying170 hB h
 rw [Xvt] at hl
 match cs,hl with
 | [c0,c1,c2,c3],_ =>
  obtain ⟨y0,n0,_,b0,h0⟩:=hf 0 _ rfl
  obtain ⟨y1,n1,_,b1,h1⟩:=hf 1 _ rfl
  obtain ⟨y2,n2,_,b2,h2⟩:=hf 2 _ rfl
  obtain ⟨y3,n3,_,b3,h3⟩:=hf 3 _ rfl
  have h0:DataW.trod enc Tryz.prog w base spare Xcd n0 9 [c0]=some y0:=by simpa [Xd2] using h0
  have h1:DataW.trod enc Tryz.prog w base spare Xcd n1 9 [c1]=some y1:=by simpa [Xd2] using h1
  have h2:DataW.trod enc Tryz.prog w base spare Xcd n2 9 [c2]=some y2:=by simpa [Xd2] using h2
  have h3:DataW.trod enc Tryz.prog w base spare Xcd n3 4 [c3]=some y3:=by simpa [Xta] using h3
  obtain ⟨s0,e0,_⟩:=Xd0 Tryz.underlying9 b0 h0
  obtain ⟨s1,e1,_⟩:=Xd0 Tryz.underlying9 b1 h1
  obtain ⟨s2,e2,_⟩:=Xd0 Tryz.underlying9 b2 h2
  obtain ⟨b,e3⟩:=Xsf Tryz.underlying4 h3
  exact ⟨⟨s0,s1,s2,b⟩,e0.app (e1.app (e2.app e3)),trivial⟩
set_option maxRecDepth 100000 in
theorem open_st {B fuel:Nat} {cs:List Value} {x:DataW H × List MemPlace} (hB:Xjo Tryz.prog B 68 x.1) (h:DataW.trod enc Tryz.prog w base spare Xcd fuel 68 cs=some x) :
  ∃ r:St,CR w (stC r) cs∧True:=by
 obtain ⟨hl,hf⟩:=Xjd Tryz.underlying68 hB h
 rw [Xoc] at hl
 match cs,hl with
 | [c0,c1,c2,c3,c4,c5],_ =>
  obtain ⟨y0,n0,_,b0,h0⟩:=hf 0 _ rfl
  obtain ⟨y1,n1,_,b1,h1⟩:=hf 1 _ rfl
  obtain ⟨y2,n2,_,b2,h2⟩:=hf 2 _ rfl
  obtain ⟨y3,n3,_,b3,h3⟩:=hf 3 _ rfl
  obtain ⟨y4,n4,_,b4,h4⟩:=hf 4 _ rfl
  obtain ⟨y5,n5,_,b5,h5⟩:=hf 5 _ rfl
  have h0:DataW.trod enc Tryz.prog w base spare Xcd n0 9 [c0]=some y0:=by simpa [Xd2] using h0
  have h1:DataW.trod enc Tryz.prog w base spare Xcd n1 9 [c1]=some y1:=by simpa [Xd2] using h1
  have h2:DataW.trod enc Tryz.prog w base spare Xcd n2 4 [c2]=some y2:=by simpa [Xta] using h2
  have h3:DataW.trod enc Tryz.prog w base spare Xcd n3 3 [c3]=some y3:=by simpa [Xq3] using h3
  have h4:DataW.trod enc Tryz.prog w base spare Xcd n4 3 [c4]=some y4:=by simpa [Xq3] using h4
  have h5:DataW.trod enc Tryz.prog w base spare Xcd n5 3 [c5]=some y5:=by simpa [Xq3] using h5
  obtain ⟨s0,e0,_⟩:=Xd0 Tryz.underlying9 b0 h0
  obtain ⟨s1,e1,_⟩:=Xd0 Tryz.underlying9 b1 h1
  obtain ⟨b,e2⟩:=Xsf Tryz.underlying4 h2
  obtain ⟨i,e3,_⟩:=Xpi Tryz.underlying3 h3
  obtain ⟨j,e4,_⟩:=Xpi Tryz.underlying3 h4
  obtain ⟨k,e5,_⟩:=Xpi Tryz.underlying3 h5
  exact ⟨⟨s0,s1,b,i,j,k⟩,e0.app (e1.app (e2.app (e3.app (e4.app e5)))),trivial⟩
theorem arg_rls {v:Value} {d:DataW H} {p:List MemPlace} {B:Nat} (hv:v.cells.toList=[v]) (hB:Xjo Tryz.prog B 26 d) (h:DataW.Trod enc Tryz.prog w base spare Xcd 26 v d p) :
  ∃ l:List Rl,VR (fun _=>none) [] w (.lst l.length (Xg6 l)) v∧l.length≤B:=by
 obtain ⟨fuel,hf⟩:=h
 rw [hv] at hf
 obtain ⟨l,e,k,_⟩:=Xla rlC 4 (fun _=>rfl) (fun _:Rl=>True) Tryz.underlying26 Xvt bytesRel fuel _ _ (fun m cs y _ hb hy=>open_rl hb hy) hB hf
 exact ⟨l,e.2 0 _ _ rfl rfl,k⟩
theorem arg_sts {v:Value} {d:DataW H} {p:List MemPlace} {B:Nat} (hv:v.cells.toList=[v]) (hB:Xjo Tryz.prog B 27 d) (h:DataW.Trod enc Tryz.prog w base spare Xcd 27 v d p) :
  ∃ l:List St,VR (fun _=>none) [] w (.lst l.length (Xdb l)) v∧l.length≤B:=by
 obtain ⟨fuel,hf⟩:=h
 rw [hv] at hf
 obtain ⟨l,e,k,_⟩:=Xla stC 6 (fun _=>rfl) (fun _:St=>True) Tryz.underlying27 Xoc Xxd fuel _ _ (fun m cs y _ hb hy=>open_st hb hy) hB hf
 exact ⟨l,e.2 0 _ _ rfl rfl,k⟩
end
end Go.Proofs.YtmhhddhbdbcmbaaGreatDoor.Ev
namespace Go.Proofs
open Go.Shelf
def Tryz.lays160_ren:Go.Shelf.Ren:=⟨fun | 160=>66 | 232=>94 | 231=>93 | 227=>95 | 234=>97 | 233=>96 | 236=>99 | 235=>98 | 228=>113 | 271=>116 | 151=>115 | 197=>114 | 120=>137 | 152=>136 | 260=>135 | 137=>152 | 119=>74 | 224=>153 | 225=>154 | 217=>157 | 266=>159 | n=>n,fun | 9=>9 | 4=>4 | 3=>3 | 5=>5 | 117=>157 | 116=>156 | 0=>0 | 124=>160 | 21=>21 | 105=>171 | 46=>168 | 119=>203 | 139=>206 | 138=>205 | n=>n,fun | 3=>2 | 4=>3 | n=>n⟩
theorem Tryz.lays160:Go.Proofs.Lays.n160 Tryz.prog Tryz.lays160_ren:={
 mixed:=by kernel_rfl
 f119:=Tryz.func74.trans (congrArg some (by kernel_rfl))
 f120:=Tryz.func137.trans (congrArg some (by kernel_rfl))
 f137:=Tryz.func152.trans (congrArg some (by kernel_rfl))
 f151:=Tryz.func115.trans (congrArg some (by kernel_rfl))
 f152:=Tryz.func136.trans (congrArg some (by kernel_rfl))
 f160:=Tryz.func66.trans (congrArg some (by kernel_rfl))
 f197:=Tryz.func114.trans (congrArg some (by kernel_rfl))
 f217:=Tryz.func157.trans (congrArg some (by kernel_rfl))
 f224:=Tryz.func153.trans (congrArg some (by kernel_rfl))
 f225:=Tryz.func154.trans (congrArg some (by kernel_rfl))
 f227:=Tryz.func95.trans (congrArg some (by kernel_rfl))
 f228:=Tryz.func113.trans (congrArg some (by kernel_rfl))
 f231:=Tryz.func93.trans (congrArg some (by kernel_rfl))
 f232:=Tryz.func94.trans (congrArg some (by kernel_rfl))
 f233:=Tryz.func96.trans (congrArg some (by kernel_rfl))
 f234:=Tryz.func97.trans (congrArg some (by kernel_rfl))
 f235:=Tryz.func98.trans (congrArg some (by kernel_rfl))
 f236:=Tryz.func99.trans (congrArg some (by kernel_rfl))
 f260:=Tryz.func135.trans (congrArg some (by kernel_rfl))
 f266:=Tryz.func159.trans (congrArg some (by kernel_rfl))
 f271:=Tryz.func116.trans (congrArg some (by kernel_rfl))
 t0:=Tryz.underlying0
 a0:=Tryz.isAgg0
 z0:=Tryz.sizeOf0
 v0:=Tryz.zeroValue0
 t3:=Tryz.underlying3
 a3:=Tryz.isAgg3
 z3:=Tryz.sizeOf3
 v3:=Tryz.zeroValue3
 t4:=Tryz.underlying4
 a4:=Tryz.isAgg4
 z4:=Tryz.sizeOf4
 v4:=Tryz.zeroValue4
 t5:=Tryz.underlying5
 a5:=Tryz.isAgg5
 z5:=Tryz.sizeOf5
 v5:=Tryz.zeroValue5
 t9:=Tryz.underlying9
 a9:=Tryz.isAgg9
 z9:=Tryz.sizeOf9
 v9:=Tryz.zeroValue9
 t21:=Tryz.underlying21
 a21:=Tryz.isAgg21
 z21:=Tryz.sizeOf21
 v21:=Tryz.zeroValue21
 t46:=Tryz.underlying168
 a46:=Tryz.isAgg168
 z46:=Tryz.sizeOf168
 v46:=Tryz.zeroValue168
 t105:=Tryz.underlying171
 a105:=Tryz.isAgg171
 z105:=Tryz.sizeOf171
 v105:=Tryz.zeroValue171
 t116:=Tryz.underlying156
 a116:=Tryz.isAgg156
 z116:=Tryz.sizeOf156
 t117:=Tryz.underlying157
 a117:=Tryz.isAgg157
 z117:=Tryz.sizeOf157
 v117:=Tryz.zeroValue157
 t119:=Tryz.underlying203
 a119:=Tryz.isAgg203
 z119:=Tryz.sizeOf203
 t124:=Tryz.underlying160
 a124:=Tryz.isAgg160
 z124:=Tryz.sizeOf160
 v124:=Tryz.zeroValue160
 t138:=Tryz.underlying205
 a138:=Tryz.isAgg205
 z138:=Tryz.sizeOf205
 v138:=Tryz.zeroValue205
 t139:=Tryz.underlying206
 a139:=Tryz.isAgg206
 z139:=Tryz.sizeOf206
 v139:=Tryz.zeroValue206
 g3:=by kernel_rfl
 g4:=by kernel_rfl }
open Go.RowKit in
def Tryz.lays172_ren:Go.Shelf.Ren:=⟨fun | 172=>67 | 244=>100 | 245=>101 | 247=>105 | 279=>117 | 280=>118 | 281=>119 | 282=>120 | 287=>128 | 316=>138 | 171=>140 | 205=>139 | 321=>147 | 322=>148 | 243=>155 | 246=>158 | 283=>160 | 284=>161 | 285=>162 | 286=>163 | 129=>165 | 317=>164 | 318=>166 | 319=>167 | 320=>168 | 337=>169 | 338=>170 | n=>n,fun | 9=>9 | 3=>3 | 75=>124 | 76=>125 | 4=>4 | 5=>5 | 167=>174 | 37=>119 | 0=>0 | 85=>136 | 2=>2 | 168=>175 | 53=>183 | 175=>184 | 46=>168 | 210=>193 | 127=>166 | 145=>212 | 143=>210 | 21=>21 | 171=>215 | 173=>218 | 212=>221 | 51=>188 | 20=>20 | 213=>222 | 232=>226 | 233=>227 | 80=>141 | n=>n,fun | 15=>0 | 16=>1 | 17=>5 | 18=>6 | 19=>7 | n=>n⟩
theorem Tryz.lays172:Go.Proofs.Lays.n172 Tryz.prog Tryz.lays172_ren:={
 mixed:=by kernel_rfl
 f129:=Tryz.func165.trans (congrArg some (by kernel_rfl))
 f171:=Tryz.func140.trans (congrArg some (by kernel_rfl))
 f172:=Tryz.func67.trans (congrArg some (by kernel_rfl))
 f205:=Tryz.func139.trans (congrArg some (by kernel_rfl))
 f243:=Tryz.func155.trans (congrArg some (by kernel_rfl))
 f244:=Tryz.func100.trans (congrArg some (by kernel_rfl))
 f245:=Tryz.func101.trans (congrArg some (by kernel_rfl))
 f246:=Tryz.func158.trans (congrArg some (by kernel_rfl))
 f247:=Tryz.func105.trans (congrArg some (by kernel_rfl))
 f279:=Tryz.func117.trans (congrArg some (by kernel_rfl))
 f280:=Tryz.func118.trans (congrArg some (by kernel_rfl))
 f281:=Tryz.func119.trans (congrArg some (by kernel_rfl))
 f282:=Tryz.func120.trans (congrArg some (by kernel_rfl))
 f283:=Tryz.func160.trans (congrArg some (by kernel_rfl))
 f284:=Tryz.func161.trans (congrArg some (by kernel_rfl))
 f285:=Tryz.func162.trans (congrArg some (by kernel_rfl))
 f286:=Tryz.func163.trans (congrArg some (by kernel_rfl))
 f287:=Tryz.func128.trans (congrArg some (by kernel_rfl))
 f316:=Tryz.func138.trans (congrArg some (by kernel_rfl))
 f317:=Tryz.func164.trans (congrArg some (by kernel_rfl))
 f318:=Tryz.func166.trans (congrArg some (by kernel_rfl))
 f319:=Tryz.func167.trans (congrArg some (by kernel_rfl))
 f320:=Tryz.func168.trans (congrArg some (by kernel_rfl))
 f321:=Tryz.func147.trans (congrArg some (by kernel_rfl))
 f322:=Tryz.func148.trans (congrArg some (by kernel_rfl))
 f337:=Tryz.func169.trans (congrArg some (by kernel_rfl))
 f338:=Tryz.func170.trans (congrArg some (by kernel_rfl))
 t0:=Tryz.underlying0
 a0:=Tryz.isAgg0
 z0:=Tryz.sizeOf0
 v0:=Tryz.zeroValue0
 t2:=Tryz.underlying2
 a2:=Tryz.isAgg2
 z2:=Tryz.sizeOf2
 v2:=Tryz.zeroValue2
 t3:=Tryz.underlying3
 a3:=Tryz.isAgg3
 z3:=Tryz.sizeOf3
 v3:=Tryz.zeroValue3
 t4:=Tryz.underlying4
 a4:=Tryz.isAgg4
 z4:=Tryz.sizeOf4
 v4:=Tryz.zeroValue4
 t5:=Tryz.underlying5
 a5:=Tryz.isAgg5
 z5:=Tryz.sizeOf5
 v5:=Tryz.zeroValue5
 t9:=Tryz.underlying9
 a9:=Tryz.isAgg9
 z9:=Tryz.sizeOf9
 v9:=Tryz.zeroValue9
 t20:=Tryz.underlying20
 a20:=Tryz.isAgg20
 z20:=Tryz.sizeOf20
 v20:=Tryz.zeroValue20
 t21:=Tryz.underlying21
 a21:=Tryz.isAgg21
 z21:=Tryz.sizeOf21
 v21:=Tryz.zeroValue21
 t37:=Tryz.underlying119
 a37:=Tryz.isAgg119
 z37:=Tryz.sizeOf119
 v37:=Tryz.zeroValue119
 t46:=Tryz.underlying168
 a46:=Tryz.isAgg168
 z46:=Tryz.sizeOf168
 v46:=Tryz.zeroValue168
 t51:=Tryz.underlying188
 a51:=Tryz.isAgg188
 z51:=Tryz.sizeOf188
 v51:=Tryz.zeroValue188
 t53:=Tryz.underlying183
 a53:=Tryz.isAgg183
 z53:=Tryz.sizeOf183
 v53:=Tryz.zeroValue183
 t75:=Tryz.underlying124
 a75:=Tryz.isAgg124
 z75:=Tryz.sizeOf124
 v75:=Tryz.zeroValue124
 t76:=Tryz.underlying125
 a76:=Tryz.isAgg125
 z76:=Tryz.sizeOf125
 v76:=Tryz.zeroValue125
 t85:=Tryz.underlying136
 a85:=Tryz.isAgg136
 z85:=Tryz.sizeOf136
 v85:=Tryz.zeroValue136
 t127:=Tryz.underlying166
 a127:=Tryz.isAgg166
 z127:=Tryz.sizeOf166
 v127:=Tryz.zeroValue166
 t143:=Tryz.underlying210
 a143:=Tryz.isAgg210
 z143:=Tryz.sizeOf210
 v143:=Tryz.zeroValue210
 t145:=Tryz.underlying212
 a145:=Tryz.isAgg212
 z145:=Tryz.sizeOf212
 v145:=Tryz.zeroValue212
 t167:=Tryz.underlying174
 a167:=Tryz.isAgg174
 z167:=Tryz.sizeOf174
 v167:=Tryz.zeroValue174
 t168:=Tryz.underlying175
 a168:=Tryz.isAgg175
 z168:=Tryz.sizeOf175
 v168:=Tryz.zeroValue175
 t171:=Tryz.underlying215
 a171:=Tryz.isAgg215
 z171:=Tryz.sizeOf215
 v171:=Tryz.zeroValue215
 t173:=Tryz.underlying218
 a173:=Tryz.isAgg218
 z173:=Tryz.sizeOf218
 v173:=Tryz.zeroValue218
 t175:=Tryz.underlying184
 a175:=Tryz.isAgg184
 z175:=Tryz.sizeOf184
 v175:=Tryz.zeroValue184
 t210:=Tryz.underlying193
 a210:=Tryz.isAgg193
 z210:=Tryz.sizeOf193
 v210:=Tryz.zeroValue193
 t212:=Tryz.underlying221
 a212:=Tryz.isAgg221
 z212:=Tryz.sizeOf221
 v212:=Tryz.zeroValue221
 t213:=Tryz.underlying222
 a213:=Tryz.isAgg222
 z213:=Tryz.sizeOf222
 t232:=Tryz.underlying226
 a232:=Tryz.isAgg226
 z232:=Tryz.sizeOf226
 v232:=Tryz.zeroValue226
 t233:=Tryz.underlying227
 a233:=Tryz.isAgg227
 z233:=Tryz.sizeOf227
 v233:=Tryz.zeroValue227
 g15:=by kernel_rfl
 g16:=by kernel_rfl
 g17:=by kernel_rfl
 g18:=by kernel_rfl
 g19:=by kernel_rfl }
open Go.RowKit in
theorem Tryz.strconv_Atoi (s:ByteArray) (n:Int) (hl:s.size≤18) (h:Lib.atoi s.data.toList=some n) (w:World) :
  Calls Tryz.prog 67 #[.string s] w fun e w'=>e=.returned (.tuple #[.int .i64 n,.nilIface])∧∃ t,w'=Lib.bytesWorld w 5 t:=Any.strconv_Atoi Tryz.lays172 s n hl h w
end Go.Proofs
