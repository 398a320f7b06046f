/- Parts of one proof. -/
import Derived.Test.YtmhhddhbdbcmbaaGreatDoorMci
import Derived.Test.YtmhhddhbdbcmbaaGreatDoorMcj
import Derived.Test.YtmhhddhbdbcmbaaGreatDoorMcg
set_option linter.all false
namespace Go.Proofs.YtmhhddhbdbcmbaaGreatDoor.Ic
open Go Go.Proofs Go.Proofs.YtmhhddhbdbcmbaaGreatDoor.Ev
set_option maxRecDepth 100000
noncomputable def T (f:FuncId):Option IF:=(bif Nat.blt f 79 then (bif Nat.blt f 50 then (bif Nat.blt f 28 then (bif Nat.blt f 11 then (bif Nat.blt f 9 then (bif Nat.blt f 8 then (bif Nat.beq f 3 then some I3 else none)
 else (bif Nat.beq f 8 then some I8 else none))
 else (bif Nat.blt f 10 then (bif Nat.beq f 9 then some I9 else none)
 else (bif Nat.beq f 10 then some I10 else none)))
 else (bif Nat.blt f 25 then (bif Nat.blt f 12 then (bif Nat.beq f 11 then some I11 else none)
 else (bif Nat.beq f 12 then some I12 else none))
 else (bif Nat.blt f 26 then (bif Nat.beq f 25 then some I25 else none)
 else (bif Nat.blt f 27 then (bif Nat.beq f 26 then some I26 else none)
 else (bif Nat.beq f 27 then some I27 else none)))))
 else (bif Nat.blt f 41 then (bif Nat.blt f 30 then (bif Nat.blt f 29 then (bif Nat.beq f 28 then some I28 else none)
 else (bif Nat.beq f 29 then some I29 else none))
 else (bif Nat.blt f 31 then (bif Nat.beq f 30 then some I30 else none)
 else (bif Nat.beq f 31 then some I31 else none)))
 else (bif Nat.blt f 44 then (bif Nat.blt f 42 then (bif Nat.beq f 41 then some I41 else none)
 else (bif Nat.beq f 42 then some I42 else none))
 else (bif Nat.blt f 45 then (bif Nat.beq f 44 then some I44 else none)
 else (bif Nat.blt f 46 then (bif Nat.beq f 45 then some I45 else none)
 else (bif Nat.beq f 46 then some I46 else none))))))
 else (bif Nat.blt f 68 then (bif Nat.blt f 54 then (bif Nat.blt f 52 then (bif Nat.blt f 51 then (bif Nat.beq f 50 then some I50 else none)
 else (bif Nat.beq f 51 then some I51 else none))
 else (bif Nat.blt f 53 then (bif Nat.beq f 52 then some I52 else none)
 else (bif Nat.beq f 53 then some I53 else none)))
 else (bif Nat.blt f 56 then (bif Nat.blt f 55 then (bif Nat.beq f 54 then some I54 else none)
 else (bif Nat.beq f 55 then some I55 else none))
 else (bif Nat.blt f 60 then (bif Nat.beq f 56 then some I56 else none)
 else (bif Nat.blt f 65 then (bif Nat.beq f 60 then some I60 else none)
 else (bif Nat.beq f 65 then some I65 else none)))))
 else (bif Nat.blt f 74 then (bif Nat.blt f 71 then (bif Nat.blt f 69 then (bif Nat.beq f 68 then some I68 else none)
 else (bif Nat.beq f 69 then some I69 else none))
 else (bif Nat.blt f 72 then (bif Nat.beq f 71 then some I71 else none)
 else (bif Nat.blt f 73 then (bif Nat.beq f 72 then some I72 else none)
 else (bif Nat.beq f 73 then some I73 else none))))
 else (bif Nat.blt f 76 then (bif Nat.blt f 75 then (bif Nat.beq f 74 then some I74 else none)
 else (bif Nat.beq f 75 then some I75 else none))
 else (bif Nat.blt f 77 then (bif Nat.beq f 76 then some I76 else none)
 else (bif Nat.blt f 78 then (bif Nat.beq f 77 then some I77 else none)
 else (bif Nat.beq f 78 then some I78 else none)))))))
 else (bif Nat.blt f 126 then (bif Nat.blt f 106 then (bif Nat.blt f 83 then (bif Nat.blt f 81 then (bif Nat.blt f 80 then (bif Nat.beq f 79 then some I79 else none)
 else (bif Nat.beq f 80 then some I80 else none))
 else (bif Nat.blt f 82 then (bif Nat.beq f 81 then some I81 else none)
 else (bif Nat.beq f 82 then some I82 else none)))
 else (bif Nat.blt f 103 then (bif Nat.blt f 102 then (bif Nat.beq f 83 then some I83 else none)
 else (bif Nat.beq f 102 then some I102 else none))
 else (bif Nat.blt f 104 then (bif Nat.beq f 103 then some Xon else none)
 else (bif Nat.blt f 105 then (bif Nat.beq f 104 then some I104 else none)
 else (bif Nat.beq f 105 then some I105 else none)))))
 else (bif Nat.blt f 121 then (bif Nat.blt f 108 then (bif Nat.blt f 107 then (bif Nat.beq f 106 then some I106 else none)
 else (bif Nat.beq f 107 then some I107 else none))
 else (bif Nat.blt f 109 then (bif Nat.beq f 108 then some Xq5 else none)
 else (bif Nat.blt f 110 then (bif Nat.beq f 109 then some I109 else none)
 else (bif Nat.beq f 110 then some I110 else none))))
 else (bif Nat.blt f 123 then (bif Nat.blt f 122 then (bif Nat.beq f 121 then some I121 else none)
 else (bif Nat.beq f 122 then some I122 else none))
 else (bif Nat.blt f 124 then (bif Nat.beq f 123 then some I123 else none)
 else (bif Nat.blt f 125 then (bif Nat.beq f 124 then some Xym else none)
 else (bif Nat.beq f 125 then some I125 else none))))))
 else (bif Nat.blt f 142 then (bif Nat.blt f 131 then (bif Nat.blt f 128 then (bif Nat.blt f 127 then (bif Nat.beq f 126 then some I126 else none)
 else (bif Nat.beq f 127 then some I127 else none))
 else (bif Nat.blt f 130 then (bif Nat.beq f 128 then some I128 else none)
 else (bif Nat.beq f 130 then some I130 else none)))
 else (bif Nat.blt f 133 then (bif Nat.blt f 132 then (bif Nat.beq f 131 then some I131 else none)
 else (bif Nat.beq f 132 then some I132 else none))
 else (bif Nat.blt f 134 then (bif Nat.beq f 133 then some I133 else none)
 else (bif Nat.blt f 141 then (bif Nat.beq f 134 then some Xrc else none)
 else (bif Nat.beq f 141 then some I141 else none)))))
 else (bif Nat.blt f 147 then (bif Nat.blt f 144 then (bif Nat.blt f 143 then (bif Nat.beq f 142 then some I142 else none)
 else (bif Nat.beq f 143 then some I143 else none))
 else (bif Nat.blt f 145 then (bif Nat.beq f 144 then some I144 else none)
 else (bif Nat.blt f 146 then (bif Nat.beq f 145 then some I145 else none)
 else (bif Nat.beq f 146 then some I146 else none))))
 else (bif Nat.blt f 150 then (bif Nat.blt f 149 then (bif Nat.beq f 147 then some I147 else none)
 else (bif Nat.beq f 149 then some Xtx else none))
 else (bif Nat.blt f 151 then (bif Nat.beq f 150 then some I150 else none)
 else (bif Nat.blt f 156 then (bif Nat.beq f 151 then some Xra else none)
 else (bif Nat.beq f 156 then some Xv4 else none))))))))
theorem Xaj {b:Bool} {x y:Option IF} {i:IF} {Q:Prop} (h:(bif b then x else y)=some i) (hx:x=some i→Q) (hy:y=some i→Q):Q:=by
 cases b <;> simp at h <;> first | exact hy h | exact hx h
theorem Xco {f k:Nat} {j i:IF} (h:(bif Nat.beq f k then some j else none)=some i) (hk:Xag Tryz.prog cfg k=some j):Xag Tryz.prog cfg f=some i:=by
 cases hb:Nat.beq f k with
 | false=>simp [hb] at h
 | true=>have:=Nat.eq_of_beq_eq_true hb; subst this; simp [hb] at h; rw [hk,h]
theorem T_ok:TOk Tryz.prog cfg T:=fun f i h=>((fun h=>Xaj h (fun h=>Xaj h (fun h=>Xaj h (fun h=>Xaj h (fun h=>Xaj h (fun h=>Xaj h (fun h=>Xco h r3)
 (fun h=>Xco h r8))
 (fun h=>Xaj h (fun h=>Xco h r9)
 (fun h=>Xco h r10)))
 (fun h=>Xaj h (fun h=>Xaj h (fun h=>Xco h r11)
 (fun h=>Xco h r12))
 (fun h=>Xaj h (fun h=>Xco h r25)
 (fun h=>Xaj h (fun h=>Xco h r26)
 (fun h=>Xco h r27)))))
 (fun h=>Xaj h (fun h=>Xaj h (fun h=>Xaj h (fun h=>Xco h r28)
 (fun h=>Xco h r29))
 (fun h=>Xaj h (fun h=>Xco h r30)
 (fun h=>Xco h r31)))
 (fun h=>Xaj h (fun h=>Xaj h (fun h=>Xco h r41)
 (fun h=>Xco h r42))
 (fun h=>Xaj h (fun h=>Xco h r44)
 (fun h=>Xaj h (fun h=>Xco h r45)
 (fun h=>Xco h r46))))))
 (fun h=>Xaj h (fun h=>Xaj h (fun h=>Xaj h (fun h=>Xaj h (fun h=>Xco h r50)
 (fun h=>Xco h r51))
 (fun h=>Xaj h (fun h=>Xco h r52)
 (fun h=>Xco h r53)))
 (fun h=>Xaj h (fun h=>Xaj h (fun h=>Xco h r54)
 (fun h=>Xco h r55))
 (fun h=>Xaj h (fun h=>Xco h r56)
 (fun h=>Xaj h (fun h=>Xco h r60)
 (fun h=>Xco h r65)))))
 (fun h=>Xaj h (fun h=>Xaj h (fun h=>Xaj h (fun h=>Xco h r68)
 (fun h=>Xco h r69))
 (fun h=>Xaj h (fun h=>Xco h r71)
 (fun h=>Xaj h (fun h=>Xco h r72)
 (fun h=>Xco h r73))))
 (fun h=>Xaj h (fun h=>Xaj h (fun h=>Xco h r74)
 (fun h=>Xco h r75))
 (fun h=>Xaj h (fun h=>Xco h r76)
 (fun h=>Xaj h (fun h=>Xco h r77)
 (fun h=>Xco h r78)))))))
 (fun h=>Xaj h (fun h=>Xaj h (fun h=>Xaj h (fun h=>Xaj h (fun h=>Xaj h (fun h=>Xco h r79)
 (fun h=>Xco h r80))
 (fun h=>Xaj h (fun h=>Xco h r81)
 (fun h=>Xco h r82)))
 (fun h=>Xaj h (fun h=>Xaj h (fun h=>Xco h r83)
 (fun h=>Xco h r102))
 (fun h=>Xaj h (fun h=>Xco h r103)
 (fun h=>Xaj h (fun h=>Xco h r104)
 (fun h=>Xco h r105)))))
 (fun h=>Xaj h (fun h=>Xaj h (fun h=>Xaj h (fun h=>Xco h r106)
 (fun h=>Xco h r107))
 (fun h=>Xaj h (fun h=>Xco h r108)
 (fun h=>Xaj h (fun h=>Xco h r109)
 (fun h=>Xco h r110))))
 (fun h=>Xaj h (fun h=>Xaj h (fun h=>Xco h r121)
 (fun h=>Xco h r122))
 (fun h=>Xaj h (fun h=>Xco h r123)
 (fun h=>Xaj h (fun h=>Xco h r124)
 (fun h=>Xco h r125))))))
 (fun h=>Xaj h (fun h=>Xaj h (fun h=>Xaj h (fun h=>Xaj h (fun h=>Xco h r126)
 (fun h=>Xco h r127))
 (fun h=>Xaj h (fun h=>Xco h r128)
 (fun h=>Xco h r130)))
 (fun h=>Xaj h (fun h=>Xaj h (fun h=>Xco h r131)
 (fun h=>Xco h r132))
 (fun h=>Xaj h (fun h=>Xco h r133)
 (fun h=>Xaj h (fun h=>Xco h r134)
 (fun h=>Xco h r141)))))
 (fun h=>Xaj h (fun h=>Xaj h (fun h=>Xaj h (fun h=>Xco h r142)
 (fun h=>Xco h r143))
 (fun h=>Xaj h (fun h=>Xco h r144)
 (fun h=>Xaj h (fun h=>Xco h r145)
 (fun h=>Xco h r146))))
 (fun h=>Xaj h (fun h=>Xaj h (fun h=>Xco h r147)
 (fun h=>Xco h r149))
 (fun h=>Xaj h (fun h=>Xco h r150)
 (fun h=>Xaj h (fun h=>Xco h r151)
 (fun h=>Xco h r156)))))))):T f=some i→Xag Tryz.prog cfg f=some i) h
theorem t3:T 3=some I3:=by kernel_rfl
theorem t8:T 8=some I8:=by kernel_rfl
theorem t9:T 9=some I9:=by kernel_rfl
theorem t10:T 10=some I10:=by kernel_rfl
theorem t11:T 11=some I11:=by kernel_rfl
theorem t12:T 12=some I12:=by kernel_rfl
theorem t25:T 25=some I25:=by kernel_rfl
theorem t26:T 26=some I26:=by kernel_rfl
theorem t27:T 27=some I27:=by kernel_rfl
theorem t28:T 28=some I28:=by kernel_rfl
theorem t29:T 29=some I29:=by kernel_rfl
theorem t30:T 30=some I30:=by kernel_rfl
theorem t31:T 31=some I31:=by kernel_rfl
theorem t41:T 41=some I41:=by kernel_rfl
theorem t42:T 42=some I42:=by kernel_rfl
theorem t44:T 44=some I44:=by kernel_rfl
theorem t45:T 45=some I45:=by kernel_rfl
theorem t46:T 46=some I46:=by kernel_rfl
theorem t50:T 50=some I50:=by kernel_rfl
theorem t51:T 51=some I51:=by kernel_rfl
theorem t52:T 52=some I52:=by kernel_rfl
theorem t53:T 53=some I53:=by kernel_rfl
theorem t54:T 54=some I54:=by kernel_rfl
theorem t55:T 55=some I55:=by kernel_rfl
theorem t56:T 56=some I56:=by kernel_rfl
theorem t60:T 60=some I60:=by kernel_rfl
theorem t65:T 65=some I65:=by kernel_rfl
theorem t68:T 68=some I68:=by kernel_rfl
theorem t69:T 69=some I69:=by kernel_rfl
theorem t71:T 71=some I71:=by kernel_rfl
theorem t72:T 72=some I72:=by kernel_rfl
theorem t73:T 73=some I73:=by kernel_rfl
theorem t74:T 74=some I74:=by kernel_rfl
theorem t75:T 75=some I75:=by kernel_rfl
theorem t76:T 76=some I76:=by kernel_rfl
theorem t77:T 77=some I77:=by kernel_rfl
theorem t78:T 78=some I78:=by kernel_rfl
theorem t79:T 79=some I79:=by kernel_rfl
theorem t80:T 80=some I80:=by kernel_rfl
theorem t81:T 81=some I81:=by kernel_rfl
theorem t82:T 82=some I82:=by kernel_rfl
theorem t83:T 83=some I83:=by kernel_rfl
theorem t102:T 102=some I102:=by kernel_rfl
theorem t103:T 103=some Xon:=by kernel_rfl
theorem t104:T 104=some I104:=by kernel_rfl
theorem t105:T 105=some I105:=by kernel_rfl
theorem t106:T 106=some I106:=by kernel_rfl
theorem t107:T 107=some I107:=by kernel_rfl
theorem t108:T 108=some Xq5:=by kernel_rfl
theorem t109:T 109=some I109:=by kernel_rfl
theorem t110:T 110=some I110:=by kernel_rfl
theorem t121:T 121=some I121:=by kernel_rfl
theorem t122:T 122=some I122:=by kernel_rfl
theorem t123:T 123=some I123:=by kernel_rfl
theorem t124:T 124=some Xym:=by kernel_rfl
theorem t125:T 125=some I125:=by kernel_rfl
theorem t126:T 126=some I126:=by kernel_rfl
theorem t127:T 127=some I127:=by kernel_rfl
theorem t128:T 128=some I128:=by kernel_rfl
theorem t130:T 130=some I130:=by kernel_rfl
theorem t131:T 131=some I131:=by kernel_rfl
theorem t132:T 132=some I132:=by kernel_rfl
theorem t133:T 133=some I133:=by kernel_rfl
theorem t134:T 134=some Xrc:=by kernel_rfl
theorem t141:T 141=some I141:=by kernel_rfl
theorem t142:T 142=some I142:=by kernel_rfl
theorem t143:T 143=some I143:=by kernel_rfl
theorem t144:T 144=some I144:=by kernel_rfl
theorem t145:T 145=some I145:=by kernel_rfl
theorem t146:T 146=some I146:=by kernel_rfl
theorem t147:T 147=some I147:=by kernel_rfl
theorem t149:T 149=some Xtx:=by kernel_rfl
theorem t150:T 150=some I150:=by kernel_rfl
theorem t151:T 151=some Xra:=by kernel_rfl
theorem t156:T 156=some Xv4:=by kernel_rfl
end Go.Proofs.YtmhhddhbdbcmbaaGreatDoor.Ic
namespace Go.Proofs.YtmhhddhbdbcmbaaGreatDoor.Ev
open Nat (reduceEqDiff reduceLT reduceAdd reduceMul reduceLeDiff reduceSub)
variable {P:Program} {g:Cfg} {F:Xc5}
theorem Xfr (H:Mem) (L:List Blk):(H++L)[H.length]? = L[0]?:=by rw [List.getElem?_append_right (Nat.le_refl _),Nat.sub_self]
theorem Xff (H:Mem) (L:List Blk) (k:Nat):(H++L)[H.length+k]? = L[k]?:=by rw [List.getElem?_append_right (Nat.le_add_right _ _),Nat.add_sub_cancel_left]
theorem setE_0 (H:Mem) (L:List Blk) (b:Blk):(H++L).set H.length b=H++L.set 0 b:=by rw [List.set_append_right _ _ (Nat.le_refl _),Nat.sub_self]
theorem Xmd (H:Mem) (L:List Blk) (k:Nat) (b:Blk):(H++L).set (H.length+k) b=H++L.set k b:=by rw [List.set_append_right _ _ (Nat.le_add_right _ _),Nat.add_sub_cancel_left]
theorem takeE_0 (H:Mem) (L:List Blk):(H++L).take H.length=H:=by simp
theorem takeE_k (H:Mem) (L:List Blk) (k:Nat):(H++L).take (H.length+k)=H++L.take k:=by
 rw [List.take_append,List.take_of_length_le (Nat.le_add_right _ _),Nat.add_sub_cancel_left]
theorem eqM_app (H:Mem) (L:List Blk):eqM (H++L) (H++L)=true:=Xb0 _
def ZU:=And.intro @drawI.eq_1 (And.intro @Xwf.eq_1 (And.intro @Xw1.eq_1 (And.intro @Xqx.eq_1 (And.intro @Xr7.eq_1 (And.intro @Xr7.eq_2 (And.intro @Xtw.eq_1 (And.intro @valI.eq_1 (And.intro @Xpp.eq_1 (And.intro @Xpp.eq_2 (And.intro @okD.eq_1 (And.intro @okD.eq_2 (And.intro @roD.eq_1 (And.intro @Xai.eq_1 (And.intro @Xai.eq_2 (And.intro @Xi1.eq_1 (And.intro @Xya.eq_1 (And.intro @Xjj (And.intro @Xb0 (And.intro @eqM_app (And.intro @eqB.eq_1 (And.intro @eqB.eq_2 (And.intro @eqB.eq_3 (And.intro @eqB.eq_4 (And.intro @eqB.eq_5 (And.intro @eqvL.eq_1 (And.intro @eqvL.eq_2 (And.intro @eqvL.eq_3 (And.intro @eqv.eq_1 (And.intro @eqv.eq_2 (And.intro @eqv.eq_3 (And.intro @eqv.eq_4 (And.intro @eqv.eq_5 (And.intro @eqv.eq_6 (And.intro @eqv.eq_7 (And.intro @eqv.eq_8 (And.intro @eqv.eq_9 (And.intro @eqv.eq_10 (And.intro @eqv.eq_11 (And.intro @eqv.eq_12 (And.intro @eqv.eq_13 (And.intro @eqv.eq_14 (And.intro @eqv.eq_15 (And.intro @eqv.eq_16 (And.intro @eqv.eq_17 (And.intro @eqv.eq_18 (And.intro @eqv.eq_19 (And.intro @List.getLast?_cons_cons.{0} (And.intro @List.getLast?_singleton.{0} (And.intro @Option.getD_some.{0} (And.intro @Bool.or_true (And.intro @Bool.true_or (And.intro @ZA (And.intro @resvV.eq_1 (@resvV.eq_2))))))))))))))))))))))))))))))))))))))))))))))))))))))
theorem Xdj (body:AAct→Mem→Option (Out × AAct × Mem)) (lv:Option (List Tmp)) (n:Nat) (a:AAct) (H:Mem):Xa6 body lv (n+1) a H=match body a H with
  | some (.normal,a',H')=>Xa6 body lv n (Xbk lv H a' H').1 (Xbk lv H a' H').2
  | r=>r:=rfl
theorem bq_ft:(false == true)=false:=rfl
theorem bq_tf:(true == false)=false:=rfl
theorem lt_lit {k m:Nat} (n:Nat) (h:k<m):(k<n+m)=True:=by simp; omega
theorem le_lit {k m:Nat} (n:Nat) (h:k≤m):(k≤n+m)=True:=by simp; omega
theorem lt_lit2 {k m:Nat} (n:Nat) (h:k<m):(k<m+n)=True:=by simp; omega
theorem le_lit2 {k m:Nat} (n:Nat) (h:k≤m):(k≤m+n)=True:=by simp; omega
theorem le_sub1 {k m j:Nat} (n:Nat) (h:k+j≤m):(k≤m+n-j)=True:=by simp; omega
theorem le_sub2 {k m j:Nat} (n:Nat) (h:k+j≤m):(k≤n+m-j)=True:=by simp; omega
def ZS:=And.intro @Zs (And.intro @Zr (And.intro @Zp (And.intro @Za (And.intro @Zb (And.intro @evI.eq_1 (And.intro @evI.eq_2 (And.intro @evI.eq_3 (And.intro @evI.eq_4 (And.intro @evI.eq_5 (And.intro @evI.eq_6 (And.intro @evI.eq_7 (And.intro @evI.eq_8 (And.intro @evI.eq_9 (And.intro @evI.eq_10 (And.intro @evI.eq_11 (And.intro @evI.eq_12 (And.intro @opsI.eq_1 (And.intro @opsI.eq_2 (And.intro @stepI.eq_1 (And.intro @Xya.eq_1 (And.intro @opI.eq_1 (And.intro @opI.eq_2 (And.intro @opI.eq_3 (And.intro @opI.eq_4 (And.intro @opI.eq_5 (And.intro @opI.eq_6 (And.intro @opI.eq_7 (And.intro @opI.eq_8 (And.intro @opI.eq_9 (And.intro @opI.eq_10 (And.intro @opI.eq_11 (And.intro @opI.eq_12 (And.intro @opI.eq_13 (And.intro @opI.eq_14 (And.intro @opI.eq_15 (And.intro @opI.eq_16 (And.intro @opI.eq_17 (And.intro @opI.eq_18 (And.intro @opI.eq_19 (And.intro @opI.eq_20 (And.intro @opI.eq_21 (And.intro @opI.eq_22 (And.intro @opI.eq_23 (And.intro @opI.eq_24 (And.intro @opI.eq_25 (And.intro @opI.eq_26 (And.intro @opI.eq_27 (And.intro @opI.eq_28 (And.intro @opI.eq_29 (And.intro @opI.eq_30 (And.intro @opI.eq_31 (And.intro @opI.eq_32 (And.intro @opI.eq_33 (And.intro @opI.eq_34 (And.intro @opI.eq_35 (And.intro @opI.eq_36 (And.intro @opI.eq_37 (And.intro @opI.eq_38 (And.intro @opI.eq_39 (And.intro @opI.eq_40 (And.intro @opI.eq_41 (And.intro @opI.eq_42 (And.intro @opI.eq_43 (And.intro @opI.eq_44 (And.intro @opI.eq_45 (And.intro @opI.eq_46 (And.intro @opI.eq_47 (And.intro @opI.eq_48 (And.intro @opI.eq_49 (And.intro @opI.eq_50 (And.intro @opI.eq_51 (And.intro @AAct.evI.eq_1 (And.intro @AAct.evI.eq_2 (And.intro @AAct.evI.eq_3 (And.intro @Xad.eq_1 (And.intro @Xad.eq_2 (And.intro @AAct.put.eq_1 (And.intro @AAct.put.eq_2 (And.intro @Xbe.eq_1 (And.intro @Xlc.eq_1 (And.intro @Xmv.eq_1 (And.intro @Xmv.eq_2 (And.intro @Xmv.eq_3 (And.intro @Xns.eq_1 (And.intro @Xns.eq_2 (And.intro @Xns.eq_3 (And.intro @Xns.eq_4 (And.intro @Xns.eq_5 (And.intro @Xns.eq_6 (And.intro @Xns.eq_7 (And.intro @Xns.eq_8 (And.intro @Xns.eq_9 (And.intro @Xns.eq_10 (And.intro @Xns.eq_11 (And.intro @Xns.eq_12 (And.intro @Xns.eq_13 (And.intro @Xns.eq_14 (And.intro @Xns.eq_15 (And.intro @Xns.eq_16 (And.intro @Xlf.eq_1 (And.intro @Xlf.eq_2 (And.intro @Xlf.eq_3 (And.intro @unA.eq_1 (And.intro @unA.eq_2 (And.intro @unA.eq_3 (And.intro @unA.eq_4 (And.intro @ZP (And.intro @ZO (And.intro @Zh (And.intro @Zt (And.intro @Zo (And.intro @Zq (And.intro @true_and (And.intro @and_true (And.intro @and_self (And.intro @ZB (And.intro @Xdc.eq_1 (And.intro @Xdc.eq_2 (And.intro @Xdc.eq_3 (And.intro @Zg (And.intro @ZC (And.intro @Zf (And.intro @Zk (And.intro @ZL (And.intro @ZM (And.intro @ZN (And.intro @AV.cells.eq_1 (And.intro @AV.cells.eq_2 (And.intro @AV.one.eq_1 (And.intro @AV.one.eq_2 (And.intro @AV.one.eq_3 (And.intro @AV.one.eq_4 (And.intro @Xev.eq_1 (And.intro @Xev.eq_2 (And.intro @Xev.eq_3 (And.intro @Zn (And.intro @Xfr (And.intro @Xff (And.intro @setE_0 (And.intro @Xmd (And.intro @Zc (And.intro @Zd (And.intro @Zl (And.intro @Zm (And.intro @Zi (And.intro @Zw (And.intro @Zu (And.intro @Zj (And.intro @Z1 (And.intro @Zx (And.intro @Zy (And.intro @ZJ (And.intro @ZI (And.intro @ZH (And.intro @ZD (And.intro @ZE (And.intro @Xd4.eq_1 (And.intro @Xt0.eq_1 (And.intro @Xt0.eq_2 (And.intro @Xyn.eq_1 (And.intro @Xyn.eq_2 (And.intro @Xyn.eq_3 (And.intro @Xyn.eq_4 (And.intro @Xyn.eq_5 (And.intro @Xyn.eq_6 (And.intro @Xyn.eq_7 (And.intro @Xyn.eq_8 (And.intro @ZK (And.intro @ZA (And.intro @Ze (And.intro @bq_ft (And.intro @bq_tf (And.intro @ZG (And.intro @ZF (And.intro @ZQ (And.intro @Zv (And.intro @Zz (And.intro @Xhg.eq_1 (And.intro @Xhg.eq_2 (And.intro @Xhg.eq_3 (And.intro @Xhg.eq_4 (And.intro @Xhg.eq_5 (And.intro @Xkr.eq_1 (And.intro @Xkr.eq_2 (And.intro @Xkr.eq_3 (And.intro @Xkr.eq_4 (And.intro @Xrd.eq_1 (And.intro @Xrd.eq_2 (And.intro @Xrd.eq_3 (And.intro @Xrd.eq_4 (And.intro @Xrk.eq_1 (And.intro @Xrk.eq_2 (And.intro @Xrk.eq_3 (And.intro @Xu5.eq_1 (And.intro @Xu5.eq_2 (And.intro @Xu5.eq_3 (And.intro @Xl6.eq_1 (And.intro @Xl6.eq_2 (And.intro @Xl6.eq_3 (And.intro @Xdz.eq_1 (And.intro @Xdz.eq_2 (And.intro @Xdz.eq_3 (And.intro @Xdz.eq_4 (And.intro @Xdz.eq_5 (And.intro @if_true.{1} (And.intro @if_false.{1} (And.intro @lt_lit (And.intro @le_lit (And.intro @lt_lit2 (And.intro @le_lit2 (And.intro @le_sub1 (@le_sub2))))))))))))))))))))))))))))))))))))))))))))))))))))))))))))))))))))))))))))))))))))))))))))))))))))))))))))))))))))))))))))))))))))))))))))))))))))))))))))))))))))))))))))))))))))))))))))))))))))))))))))))))))))
theorem takeS (H:Mem):List.take (List.length H) H=H:=List.take_length
theorem lt_k (n k:Nat):n<n+(k+1):=by omega
def ZV:=And.intro @Xbk.eq_1 (And.intro @Xbk.eq_2 (And.intro @AAct.keepT.eq_1 (And.intro @Zv (And.intro @Zz (And.intro @Xad.eq_1 (And.intro @Xad.eq_2 (And.intro @Xto.eq_1 (And.intro @Zx (And.intro @Zy (And.intro @low.eq_1 (And.intro @low.eq_2 (And.intro @low.eq_3 (And.intro @low.eq_4 (And.intro @low.eq_5 (And.intro @low.eq_6 (And.intro @low.eq_7 (And.intro @low.eq_8 (And.intro @low.eq_9 (And.intro @low.eq_10 (And.intro @lowL.eq_1 (And.intro @lowL.eq_2 (And.intro @lowD.eq_1 (And.intro @Xce.eq_1 (And.intro @Zg (And.intro @Zf (And.intro @Zk (And.intro @ZL (And.intro @takeS (And.intro @takeE_0 (And.intro @takeE_k (And.intro @Zi (And.intro @Zw (And.intro @eqM_app (And.intro @Xb0 (And.intro @Bool.true_or (And.intro @ZJ (And.intro @ZI (And.intro @ZH (And.intro @ZP (And.intro @Nat.lt_succ_self (And.intro @Nat.lt_add_right_iff_pos (And.intro @Nat.add_lt_add_iff_left (And.intro @if_true.{1} (And.intro @lt_k (And.intro @Zn (And.intro @Zp (@Zr)))))))))))))))))))))))))))))))))))))))))))))))
theorem Xap {body:AAct→Mem→Option (Out × AAct × Mem)} {lv:Option (List Tmp)} {n:Nat} {a a':AAct} {H H':Mem} {r:Option (Out × AAct × Mem)} (h:body a H=some (.normal,a',H'))
  (h2:Xa6 body lv n (Xbk lv H a' H').1 (Xbk lv H a' H').2=r):Xa6 body lv (n+1) a H=r:=by
 rw [Xdj,h]; exact h2
theorem Xae {body:AAct→Mem→Option (Out × AAct × Mem)} {lv:Option (List Tmp)} {n i:Nat} {a a':AAct} {H H':Mem} (h:body a H=some (.exit i,a',H')):Xa6 body lv (n+1) a H=some (.exit i,a',H'):=by
 rw [Xdj,h]
theorem Xah {body:AAct→Mem→Option (Out × AAct × Mem)} {lv:Option (List Tmp)} {n:Nat} {a a':AAct} {H H':Mem} (h:body a H=some (.ret,a',H')):Xa6 body lv (n+1) a H=some (.ret,a',H'):=by
 rw [Xdj,h]
def IC.loops:IC→List IC
 | .seq x y=>x.loops++y.loops
 | .cond _ x y=>x.loops++y.loops
 | .block _ c=>c.loops
 | .loop _ c=>c::c.loops
 | _=>[]
theorem Xbs {n:Int} (h0 : -9223372036854775808≤n) (h1:n≤9223372036854775807):IntKind.wrap .i64 n=n:=by
 simp [IntKind.wrap,IntKind.bits,IntKind.signed]; omega
section
variable {N:Nat} {x y c:IC} {a a' a2:AAct} {H H' H2:Mem} {r:Option (Out × AAct × Mem)} {id:Nat}
theorem Xaa (h:evI P g F N x a H=some (.normal,a',H')) (h2:evI P g F N y a' H'=r):evI P g F N (.seq x y) a H=r:=by
 simp only [evI,h]; exact h2
theorem Xau (h:evI P g F N x a H=some (.ret,a',H')):evI P g F N (.seq x y) a H=some (.ret,a',H'):=by simp only [evI,h]
theorem Xbd (h:evI P g F N x a H=some (.exit id,a',H')):evI P g F N (.seq x y) a H=some (.exit id,a',H'):=by simp only [evI,h]
theorem Xab (h:evI P g F N c a H=some (.exit id,a',H')):evI P g F N (.block id c) a H=some (.normal,a',H'):=by simp only [evI,h,if_true]
theorem Xam (h:evI P g F N c a H=some (.ret,a',H')):evI P g F N (.block id c) a H=some (.ret,a',H'):=by simp only [evI,h]
theorem Xbh (h:evI P g F N c a H=some (.normal,a',H')):evI P g F N (.block id c) a H=some (.normal,a',H'):=by simp only [evI,h]
theorem Xaf {lv:List Tmp} (h:Xa6 (fun a H=>evI P g F N c a H) (some lv) N (a.keepT lv) H=r):evI P g F N (.loop (some lv) c) a H=r:=h
theorem Xde {v:IArg} (hv:a.evI g v=.bool true) (h:evI P g F N x a H=r):evI P g F N (.cond v x y) a H=r:=by simp only [evI,hv]; exact h
theorem Xe1 {v:IArg} (hv:a.evI g v=.bool false) (h:evI P g F N y a H=r):evI P g F N (.cond v x y) a H=r:=by simp only [evI,hv]; exact h
end
section
variable {T:FuncId→Option IF} {N n f m:Nat} {i:IF} {args:List AV} {H H1 H2:Mem} {a:AAct} {v v':AV}
theorem Xac (hl:g.lib f=none) (hT:T f=some i) (hm:max args.length i.n=m) (hb:evI P g (Xaw P g T N n) N i.c ⟨m,idx 0 args,[]⟩ H=some (.ret,a,H1)) (hd:a.d=[]) (hr:Xc6 i.res a H1=some v) (hz:Xao (g.keep f) H v H1=(v',H2)) :
  Xaw P g T N (n+1) f args H=some (.ret v',H2):=by
 simp only [Xaw,hl,hT,hm,hb,hd,List.isEmpty_nil,if_true,hr,Zh,hz]
theorem Xvf (hl:g.lib f=none) (hT:T f=some i) (hm:max args.length i.n=m) (hb:evI P g (Xaw P g T N n) N i.c ⟨m,idx 0 args,[]⟩ H=some (.normal,a,H1)) (hd:a.d=[]) (hr:Xc6 i.res a H1=some v) (hz:Xao (g.keep f) H v H1=(v',H2)) :
  Xaw P g T N (n+1) f args H=some (.ret v',H2):=by
 simp only [Xaw,hl,hT,hm,hb,hd,List.isEmpty_nil,if_true,hr,Zh,hz]
end
theorem Xaq {keep:Bool} {v:AV} {H0 H1:Mem} (hf:(if keep then some v else frz H0.length H1 12 v)=some v) (hlen:H1.length=H0.length):Xao keep H0 v H1=(v,H1):=by
 unfold Xao
 rw [hf]
 simp only []
 split
 ·rw [List.take_of_length_le (by omega)]
 ·rfl
def pure (x:AV):Bool:=low 0 x
theorem Xer (n:Nat):∀ (a b:List AV),lowL n (a++b)=(lowL n a && lowL n b)
 | [],b=>by simp [lowL]
 | x::a,b=>by simp [lowL,Xer n a b,Bool.and_assoc]
end Go.Proofs.YtmhhddhbdbcmbaaGreatDoor.Ev
