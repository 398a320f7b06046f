/- Parts of one proof. -/
import Derived.Test.YtmhhddhbdbcmbaaGreatDoorMcg
import Derived.Test.YtmhhddhbdbcmbaaGreatDoorMch
import Derived.Test.YtmhhddhbdbcmbaaGreatDoorProg
set_option linter.all false
namespace Go.Proofs.YtmhhddhbdbcmbaaGreatDoor.Ic
open Go Go.Proofs Go.Proofs.YtmhhddhbdbcmbaaGreatDoor.Ev
set_option maxRecDepth 100000
def live:FuncId→Nat→Option (List Tmp)
 | 5,5=>some [1,2,3,7,8]
 | 8,5=>some [1,2,5]
 | 8,11=>some [1,2,6]
 | 9,5=>some [1,3,4]
 | 9,9=>some [1,3,5]
 | 12,4=>some [0,1,5]
 | 14,7=>some [1,3,4]
 | 15,7=>some [1,2,6,7,8]
 | 16,3=>some [1,2,4,5,6]
 | 17,2=>some [0,3]
 | 18,5=>some [0,2,4,5]
 | 19,5=>some [0,2,4,5]
 | 19,13=>some [0,2,4,8]
 | 20,5=>some [4,22,23,24]
 | 21,5=>some [1,4,20,21,22]
 | 22,4=>some [2,3,5]
 | 22,9=>some [2,3,6]
 | 23,3=>some [0,3,4]
 | 23,8=>some [0,3,4,5,6,7]
 | 24,3=>some [1,2,5]
 | 24,8=>some [1,2,7]
 | 26,2=>some [1,2,6,11,12,13]
 | 28,3=>some [0,2,7,12,13,14]
 | 30,3=>some [0,2,4,7,8]
 | 31,4=>some [0,1,5]
 | 32,2=>some [0,3]
 | 33,3=>some [0,4,5]
 | 34,7=>some [0,2,4,7]
 | 36,4=>some [0,3,4,5,6]
 | 38,3=>some [0,3]
 | 46,3=>some [0,4,13,14,15]
 | 46,12=>some [0,4,35,36,37]
 | 46,18=>some [0,54,55,56]
 | 47,2=>some [1,4,17,18,19]
 | 51,3=>some [0,3,4]
 | 52,2=>some [1,2,3,6,8]
 | 54,3=>some [0,3,4]
 | 56,2=>some [0,4]
 | 56,10=>some [0,6]
 | 56,15=>some [0,7]
 | 56,19=>some [0,7,8,9]
 | 57,2=>some [0,3]
 | 58,2=>some [0,3]
 | 59,2=>some [0,3]
 | 60,2=>some [0,1,5]
 | 61,4=>some [0,1,2,7]
 | 62,2=>some [0,1,5]
 | 63,3=>some [0,3,4]
 | 64,3=>some [0,1,5,6]
 | 64,12=>some [0,1,5,6,7,8]
 | 65,2=>some [1,2,11,12,13]
 | 69,3=>some [0,3,5,8,9]
 | 70,2=>some [0,1,7,8]
 | 71,3=>some [3,7,8,9]
 | 72,3=>some [0,2,7,9,14,15,16]
 | 72,9=>some [0,2,7,9,14,15,16,30,31,32]
 | 78,5=>some [0,3,4]
 | 79,3=>some [0,3,4]
 | 80,3=>some [0,2,5,7,9,10]
 | 80,10=>some [0,2,5,7,9,10,12,13]
 | 81,5=>some [0,4,5]
 | 83,2=>some [1,2,3,8]
 | 86,15=>some [0,6,7,8]
 | 89,4=>some [0,3]
 | 90,3=>some [0,3,4]
 | 93,1=>some [0,1]
 | 94,1=>some [0,1]
 | 95,2=>some [0,2,4]
 | 96,1=>some [0,1]
 | 97,1=>some [0,1]
 | 98,1=>some [0,1]
 | 99,1=>some [0,1]
 | 100,10=>some [5,6,47,48,49]
 | 103,8=>some [0,9,10,38,39,40]
 | 103,15=>some [0,9,10,13,38,39,40,53,54,55]
 | 108,9=>some [0,4,10,11,12,13]
 | 108,17=>some [0,4,10,11,12,13,14,15,16]
 | 111,2=>some [0,3]
 | 116,10=>some [0,4,5,6]
 | 121,2=>some [0,1,7,8]
 | 124,2=>some [1,4,11,12,13]
 | 128,36=>some [1,8,9,10,11,12,13,99,100,101]
 | 134,2=>some [0,1,2,7]
 | 136,38=>some [175]
 | 145,2=>some [0,1,7,8]
 | 148,10=>some [0,3,4,5]
 | 149,5=>some [0,8,9,10]
 | 151,2=>some [1,2,3,4,8,10]
 | 156,5=>some [0,3,9,29,30]
 | 162,1=>some [0,1,4]
 | 163,11=>some [0,1,3,4,10,11,12,13,14,15,16]
 | 163,18=>some [0,1,3,4,10,11,12,13,17]
 | _,_=>none
def keep:FuncId→Bool
 | 107=>true
 | 108=>true
 | 130=>true
 | _=>false
def libs:FuncId→Option (List AV→Mem→Option (AV × Mem))
 | 13=>some Xp1
 | 43=>some Xv8
 | 66=>some Xp5
 | _=>none
def cfg:Cfg:=⟨fun _=>none,libs,live,keep⟩
noncomputable def I3:IF:=⟨53,(.seq (.ops [⟨none,some 3,.box 25 (.tmp 0)⟩,⟨none,some 6,.mov (.lit (.bool false))⟩])
 (.seq (.seq (.ops [⟨none,some 11,.loadN 5 (.tmp 3)⟩,⟨none,some 12,.call 8 [(.tmp 11),(.lit (.int .i64 3000))]⟩,⟨none,some 13,.bin .lss (.tmp 12) (.lit (.int .i64 0))⟩,⟨none,some 14,.mov (.tmp 13)⟩,⟨(some (14,false)),some 15,.mov (.tmp 1)⟩,⟨(some (14,false)),some 16,.lenL (.tmp 15)⟩,⟨(some (14,false)),some 17,.bin .gtr (.tmp 16) (.lit (.int .i64 50))⟩,⟨none,some 18,.pick (.tmp 14) (.lit (.bool true)) (.tmp 17)⟩,⟨none,some 19,.mov (.tmp 18)⟩,⟨(some (19,false)),some 20,.mov (.tmp 2)⟩,⟨(some (19,false)),some 21,.bld [.nilS,.nilS,.nilS] [(2,1,(.tmp 20))]⟩,⟨(some (19,false)),some 22,.call 9 [(.tmp 21)]⟩,⟨none,some 23,.pick (.tmp 19) (.lit (.bool true)) (.tmp 22)⟩])
 (.cond (.tmp 23) (.seq (.ops [⟨none,some 6,.mov (.lit (.bool true))⟩])
 .ret)
 .skip))
 (.seq (.draw [.row [] 0 171,.row [] 0 69] [⟨⟨none,some 25,.loadN 5 (.tmp 3)⟩,none,true,[],[]⟩,⟨⟨none,some 26,.mov (.lit (.bad))⟩,(some (0,170,[],some (0,4))),true,[],[]⟩,⟨⟨none,some 27,.mov (.tmp 1)⟩,none,true,[],[]⟩,⟨⟨none,some 28,.app 170 4 (.tmp 26) (.tmp 27)⟩,none,false,[0,4],[]⟩,⟨⟨none,some 29,.mov (.lit (.bad))⟩,(some (1,68,[],some (0,6))),true,[],[]⟩,⟨⟨none,some 30,.mov (.tmp 2)⟩,none,true,[],[]⟩,⟨⟨none,some 31,.app 68 6 (.tmp 29) (.tmp 30)⟩,none,false,[0],[]⟩,⟨⟨none,some 32,.call 10 [(.tmp 25),(.tmp 28),(.tmp 31)]⟩,none,true,[],[]⟩,⟨⟨none,some 24,.mov (.tmp 32)⟩,none,true,[],[]⟩,⟨⟨none,some 33,.ext (.tmp 24) 0⟩,none,true,[],[]⟩,⟨⟨none,some 34,.ext (.tmp 24) 1⟩,none,true,[],[]⟩,⟨⟨none,some 7,.mov (.tmp 33)⟩,none,true,[],[]⟩,⟨⟨none,some 8,.mov (.tmp 34)⟩,none,true,[],[]⟩])
 (.seq (.ops [⟨none,some 36,.loadN 5 (.tmp 3)⟩,⟨none,some 37,.mov (.tmp 1)⟩,⟨none,some 38,.mov (.tmp 2)⟩,⟨none,some 39,.call 11 [(.tmp 36),(.tmp 37),(.tmp 38)]⟩,⟨none,some 35,.mov (.tmp 39)⟩,⟨none,some 40,.ext (.tmp 35) 0⟩,⟨none,some 41,.ext (.tmp 35) 1⟩,⟨none,some 9,.mov (.tmp 40)⟩,⟨none,some 10,.mov (.tmp 41)⟩])
 (.seq (.ops [⟨none,some 42,.mov (.tmp 7)⟩,⟨none,some 43,.mov (.tmp 9)⟩,⟨none,some 44,.call 12 [(.tmp 42),(.tmp 43)]⟩,⟨none,some 45,.mov (.tmp 44)⟩,⟨(some (45,true)),some 46,.mov (.tmp 8)⟩,⟨(some (45,true)),some 47,.mov (.tmp 10)⟩,⟨(some (45,true)),some 48,.bin .eql (.tmp 46) (.tmp 47)⟩,⟨none,some 49,.pick (.tmp 45) (.tmp 48) (.lit (.bool false))⟩,⟨none,some 50,.mov (.tmp 49)⟩,⟨(some (50,true)),some 51,.call 13 []⟩,⟨none,some 52,.pick (.tmp 50) (.tmp 51) (.lit (.bool false))⟩,⟨none,some 6,.mov (.tmp 52)⟩])
 .ret))))),
 [.tmp 6],none⟩
theorem r3:Xag Tryz.prog cfg 3=some I3:=by kernel_rfl
noncomputable def I8:IF:=⟨77,(.seq (.ops [⟨none,some 2,.box 25 (.tmp 0)⟩,⟨none,some 4,.mov (.lit (.int .i64 0))⟩])
 (.seq (.seq (.ops [⟨none,some 7,.faddr 0 (.tmp 2)⟩,⟨none,some 8,.load1 (.tmp 7)⟩,⟨none,some 9,.lenS (.tmp 8)⟩,⟨none,some 10,.bin .gtr (.tmp 9) (.lit (.int .i64 200))⟩])
 (.cond (.tmp 10) (.seq (.ops [⟨none,some 4,.mov (.lit (.int .i64 (-1)))⟩])
 .ret)
 .skip))
 (.seq (.ops [⟨none,some 11,.mov (.tmp 1)⟩,⟨none,some 12,.bin .sub (.tmp 11) (.lit (.int .i64 8))⟩,⟨none,some 13,.faddr 1 (.tmp 2)⟩,⟨none,some 14,.load1 (.tmp 13)⟩,⟨none,some 15,.lenS (.tmp 14)⟩,⟨none,some 16,.bin .sub (.tmp 12) (.tmp 15)⟩,⟨none,some 17,.faddr 2 (.tmp 2)⟩,⟨none,some 18,.load1 (.tmp 17)⟩,⟨none,some 19,.lenS (.tmp 18)⟩,⟨none,some 20,.bin .sub (.tmp 16) (.tmp 19)⟩,⟨none,some 1,.mov (.tmp 20)⟩])
 (.seq (.seq (.ops [⟨none,some 5,.mov (.lit (.int .i64 0))⟩])
 (.block 0 (.loop (some [1,2,5]) (.seq (.seq (.ops [⟨none,some 21,.mov (.tmp 5)⟩,⟨none,some 22,.faddr 3 (.tmp 2)⟩,⟨none,some 23,.load1 (.tmp 22)⟩,⟨none,some 24,.lenL (.tmp 23)⟩,⟨none,some 25,.bin .lss (.tmp 21) (.tmp 24)⟩,⟨none,some 26,.mov (.tmp 25)⟩,⟨(some (26,true)),some 27,.mov (.tmp 1)⟩,⟨(some (26,true)),some 28,.bin .geq (.tmp 27) (.lit (.int .i64 0))⟩,⟨none,some 29,.pick (.tmp 26) (.tmp 28) (.lit (.bool false))⟩])
 (.cond (.tmp 29) .skip
 (.exit 0)))
 (.seq (.block 1 (.seq (.seq (.ops [⟨none,some 32,.faddr 3 (.tmp 2)⟩,⟨none,some 33,.load1 (.tmp 32)⟩,⟨none,some 34,.mov (.tmp 5)⟩,⟨none,some 35,.iaddr 3 (.tmp 33) (.tmp 34)⟩,⟨none,some 36,.faddr 0 (.tmp 35)⟩,⟨none,some 37,.load1 (.tmp 36)⟩,⟨none,some 38,.lenS (.tmp 37)⟩,⟨none,some 39,.bin .gtr (.tmp 38) (.lit (.int .i64 200))⟩])
 (.cond (.tmp 39) (.seq (.ops [⟨none,some 4,.mov (.lit (.int .i64 (-1)))⟩])
 .ret)
 .skip))
 (.draw [] [⟨⟨none,some 40,.mov (.tmp 1)⟩,none,true,[],[]⟩,⟨⟨none,some 41,.bin .sub (.tmp 40) (.lit (.int .i64 4))⟩,none,true,[],[]⟩,⟨⟨none,some 42,.faddr 3 (.tmp 2)⟩,none,true,[],[]⟩,⟨⟨none,some 43,.load1 (.tmp 42)⟩,none,true,[],[]⟩,⟨⟨none,some 44,.mov (.tmp 5)⟩,none,true,[],[]⟩,⟨⟨none,some 45,.iaddr 3 (.tmp 43) (.tmp 44)⟩,none,true,[],[]⟩,⟨⟨none,some 46,.faddr 1 (.tmp 45)⟩,none,true,[],[]⟩,⟨⟨none,some 47,.load1 (.tmp 46)⟩,none,true,[],[]⟩,⟨⟨none,some 48,.lenS (.tmp 47)⟩,none,true,[],[]⟩,⟨⟨none,some 49,.bin .sub (.tmp 41) (.tmp 48)⟩,none,true,[],[]⟩,⟨⟨none,some 50,.faddr 3 (.tmp 2)⟩,none,true,[],[]⟩,⟨⟨none,some 51,.load1 (.tmp 50)⟩,none,true,[],[]⟩,⟨⟨none,some 52,.mov (.tmp 5)⟩,none,true,[],[]⟩,⟨⟨none,some 53,.iaddr 3 (.tmp 51) (.tmp 52)⟩,none,true,[],[]⟩,⟨⟨none,some 54,.faddr 2 (.tmp 53)⟩,none,true,[],[]⟩,⟨⟨none,some 55,.load1 (.tmp 54)⟩,none,true,[],[]⟩,⟨⟨none,some 56,.lenS (.tmp 55)⟩,none,true,[],[]⟩,⟨⟨none,some 57,.bin .sub (.tmp 49) (.tmp 56)⟩,none,true,[],[]⟩,⟨⟨none,some 1,.mov (.tmp 57)⟩,none,true,[],[]⟩])))
 (.ops [⟨none,some 30,.mov (.tmp 5)⟩,⟨none,some 31,.bin .add (.tmp 30) (.lit (.int .i64 1))⟩,⟨none,some 5,.mov (.tmp 31)⟩]))))))
 (.seq (.seq (.ops [⟨none,some 6,.mov (.lit (.int .i64 0))⟩])
 (.block 2 (.loop (some [1,2,6]) (.seq (.seq (.ops [⟨none,some 58,.mov (.tmp 6)⟩,⟨none,some 59,.faddr 4 (.tmp 2)⟩,⟨none,some 60,.load1 (.tmp 59)⟩,⟨none,some 61,.lenL (.tmp 60)⟩,⟨none,some 62,.bin .lss (.tmp 58) (.tmp 61)⟩,⟨none,some 63,.mov (.tmp 62)⟩,⟨(some (63,true)),some 64,.mov (.tmp 1)⟩,⟨(some (63,true)),some 65,.bin .geq (.tmp 64) (.lit (.int .i64 0))⟩,⟨none,some 66,.pick (.tmp 63) (.tmp 65) (.lit (.bool false))⟩])
 (.cond (.tmp 66) .skip
 (.exit 2)))
 (.seq (.block 3 (.ops [⟨none,some 69,.faddr 4 (.tmp 2)⟩,⟨none,some 70,.load1 (.tmp 69)⟩,⟨none,some 71,.mov (.tmp 6)⟩,⟨none,some 72,.iaddr 5 (.tmp 70) (.tmp 71)⟩,⟨none,some 73,.loadN 5 (.tmp 72)⟩,⟨none,some 74,.mov (.tmp 1)⟩,⟨none,some 75,.call 8 [(.tmp 73),(.tmp 74)]⟩,⟨none,some 1,.mov (.tmp 75)⟩]))
 (.ops [⟨none,some 67,.mov (.tmp 6)⟩,⟨none,some 68,.bin .add (.tmp 67) (.lit (.int .i64 1))⟩,⟨none,some 6,.mov (.tmp 68)⟩]))))))
 (.seq (.ops [⟨none,some 76,.mov (.tmp 1)⟩,⟨none,some 4,.mov (.tmp 76)⟩])
 .ret)))))),
 [.tmp 4],none⟩
theorem r8:Xag Tryz.prog cfg 8=some I8:=by kernel_rfl
noncomputable def I9:IF:=⟨74,(.seq (.ops [⟨none,some 1,.box 33 (.tmp 0)⟩,⟨none,some 2,.mov (.lit (.bool false))⟩])
 (.seq (.ops [⟨none,some 6,.faddr 1 (.tmp 1)⟩,⟨none,some 7,.load1 (.tmp 6)⟩,⟨none,some 8,.lenL (.tmp 7)⟩,⟨none,some 9,.bin .mul (.lit (.int .i64 10)) (.tmp 8)⟩,⟨none,some 10,.bin .sub (.lit (.int .i64 3000)) (.tmp 9)⟩,⟨none,some 11,.faddr 2 (.tmp 1)⟩,⟨none,some 12,.load1 (.tmp 11)⟩,⟨none,some 13,.lenL (.tmp 12)⟩,⟨none,some 14,.bin .mul (.lit (.int .i64 10)) (.tmp 13)⟩,⟨none,some 15,.bin .sub (.tmp 10) (.tmp 14)⟩,⟨none,some 3,.mov (.tmp 15)⟩])
 (.seq (.seq (.ops [⟨none,some 16,.faddr 1 (.tmp 1)⟩,⟨none,some 17,.load1 (.tmp 16)⟩,⟨none,some 18,.lenL (.tmp 17)⟩,⟨none,some 19,.bin .gtr (.tmp 18) (.lit (.int .i64 3000))⟩,⟨none,some 20,.mov (.tmp 19)⟩,⟨(some (20,false)),some 21,.faddr 2 (.tmp 1)⟩,⟨(some (20,false)),some 22,.load1 (.tmp 21)⟩,⟨(some (20,false)),some 23,.lenL (.tmp 22)⟩,⟨(some (20,false)),some 24,.bin .gtr (.tmp 23) (.lit (.int .i64 100))⟩,⟨none,some 25,.pick (.tmp 20) (.lit (.bool true)) (.tmp 24)⟩])
 (.cond (.tmp 25) (.seq (.ops [⟨none,some 2,.mov (.lit (.bool true))⟩])
 .ret)
 .skip))
 (.seq (.seq (.ops [⟨none,some 4,.mov (.lit (.int .i64 0))⟩])
 (.block 0 (.loop (some [1,3,4]) (.seq (.seq (.ops [⟨none,some 26,.mov (.tmp 4)⟩,⟨none,some 27,.faddr 2 (.tmp 1)⟩,⟨none,some 28,.load1 (.tmp 27)⟩,⟨none,some 29,.lenL (.tmp 28)⟩,⟨none,some 30,.bin .lss (.tmp 26) (.tmp 29)⟩,⟨none,some 31,.mov (.tmp 30)⟩,⟨(some (31,true)),some 32,.mov (.tmp 3)⟩,⟨(some (31,true)),some 33,.bin .geq (.tmp 32) (.lit (.int .i64 0))⟩,⟨none,some 34,.pick (.tmp 31) (.tmp 33) (.lit (.bool false))⟩])
 (.cond (.tmp 34) .skip
 (.exit 0)))
 (.seq (.block 1 (.draw [] [⟨⟨none,some 37,.mov (.tmp 3)⟩,none,true,[],[]⟩,⟨⟨none,some 38,.faddr 2 (.tmp 1)⟩,none,true,[],[]⟩,⟨⟨none,some 39,.load1 (.tmp 38)⟩,none,true,[],[]⟩,⟨⟨none,some 40,.mov (.tmp 4)⟩,none,true,[],[]⟩,⟨⟨none,some 41,.iaddr 6 (.tmp 39) (.tmp 40)⟩,none,true,[],[]⟩,⟨⟨none,some 42,.faddr 0 (.tmp 41)⟩,none,true,[],[]⟩,⟨⟨none,some 43,.load1 (.tmp 42)⟩,none,true,[],[]⟩,⟨⟨none,some 44,.lenS (.tmp 43)⟩,none,true,[],[]⟩,⟨⟨none,some 45,.bin .sub (.tmp 37) (.tmp 44)⟩,none,true,[],[]⟩,⟨⟨none,some 46,.faddr 2 (.tmp 1)⟩,none,true,[],[]⟩,⟨⟨none,some 47,.load1 (.tmp 46)⟩,none,true,[],[]⟩,⟨⟨none,some 48,.mov (.tmp 4)⟩,none,true,[],[]⟩,⟨⟨none,some 49,.iaddr 6 (.tmp 47) (.tmp 48)⟩,none,true,[],[]⟩,⟨⟨none,some 50,.faddr 1 (.tmp 49)⟩,none,true,[],[]⟩,⟨⟨none,some 51,.load1 (.tmp 50)⟩,none,true,[],[]⟩,⟨⟨none,some 52,.lenS (.tmp 51)⟩,none,true,[],[]⟩,⟨⟨none,some 53,.bin .sub (.tmp 45) (.tmp 52)⟩,none,true,[],[]⟩,⟨⟨none,some 3,.mov (.tmp 53)⟩,none,true,[],[]⟩]))
 (.ops [⟨none,some 35,.mov (.tmp 4)⟩,⟨none,some 36,.bin .add (.tmp 35) (.lit (.int .i64 1))⟩,⟨none,some 4,.mov (.tmp 36)⟩]))))))
 (.seq (.seq (.ops [⟨none,some 5,.mov (.lit (.int .i64 0))⟩])
 (.block 2 (.loop (some [1,3,5]) (.seq (.seq (.ops [⟨none,some 54,.mov (.tmp 5)⟩,⟨none,some 55,.faddr 0 (.tmp 1)⟩,⟨none,some 56,.load1 (.tmp 55)⟩,⟨none,some 57,.lenL (.tmp 56)⟩,⟨none,some 58,.bin .lss (.tmp 54) (.tmp 57)⟩,⟨none,some 59,.mov (.tmp 58)⟩,⟨(some (59,true)),some 60,.mov (.tmp 3)⟩,⟨(some (59,true)),some 61,.bin .geq (.tmp 60) (.lit (.int .i64 0))⟩,⟨none,some 62,.pick (.tmp 59) (.tmp 61) (.lit (.bool false))⟩])
 (.cond (.tmp 62) .skip
 (.exit 2)))
 (.seq (.block 3 (.ops [⟨none,some 65,.faddr 0 (.tmp 1)⟩,⟨none,some 66,.load1 (.tmp 65)⟩,⟨none,some 67,.mov (.tmp 5)⟩,⟨none,some 68,.iaddr 6 (.tmp 66) (.tmp 67)⟩,⟨none,some 69,.loadN 6 (.tmp 68)⟩,⟨none,some 70,.mov (.tmp 3)⟩,⟨none,some 71,.call 24 [(.tmp 69),(.tmp 70)]⟩,⟨none,some 3,.mov (.tmp 71)⟩]))
 (.ops [⟨none,some 63,.mov (.tmp 5)⟩,⟨none,some 64,.bin .add (.tmp 63) (.lit (.int .i64 1))⟩,⟨none,some 5,.mov (.tmp 64)⟩]))))))
 (.seq (.ops [⟨none,some 72,.mov (.tmp 3)⟩,⟨none,some 73,.bin .lss (.tmp 72) (.lit (.int .i64 0))⟩,⟨none,some 2,.mov (.tmp 73)⟩])
 .ret)))))),
 [.tmp 2],none⟩
theorem r9:Xag Tryz.prog cfg 9=some I9:=by kernel_rfl
noncomputable def I10:IF:=⟨37,(.seq (.ops [⟨none,some 3,.box 25 (.tmp 0)⟩,⟨none,some 6,.new 30 [.nilS]⟩,⟨none,some 7,.new 34 [.int .i64 0]⟩])
 (.seq (.ops [⟨none,some 11,.mkfn (.func 25) [(.tmp 6),(.tmp 7)]⟩,⟨none,none,.raw (Xlh Tryz.f10 4)⟩])
 (.seq (.ops [⟨none,some 13,.loadN 5 (.tmp 3)⟩,⟨none,some 14,.call 26 [(.tmp 13),(.lit (.str [104,116,116,112,58,47,47,115,99,104,101,109,97,115,46,111,112,101,110,120,109,108,102,111,114,109,97,116,115,46,111,114,103,47,119,111,114,100,112,114,111,99,101,115,115,105,110,103,109,108,47,50,48,48,54,47,109,97,105,110])),(.lit (.str [98,111,100,121]))]⟩,⟨none,some 12,.mov (.tmp 14)⟩,⟨none,some 15,.ext (.tmp 12) 0⟩,⟨none,some 16,.ext (.tmp 12) 1⟩,⟨none,some 8,.new 25 [.str [],.str [],.str [],.nilS,.nilS]⟩,⟨none,none,.store 5 (.tmp 8) (.tmp 15)⟩,⟨none,some 9,.mov (.tmp 16)⟩])
 (.seq (.ops [⟨none,some 17,.mov (.tmp 9)⟩,⟨none,some 18,.mov (.tmp 17)⟩,⟨(some (18,true)),some 19,.faddr 0 (.tmp 3)⟩,⟨(some (18,true)),some 20,.load1 (.tmp 19)⟩,⟨(some (18,true)),some 21,.bin .eql (.tmp 20) (.lit (.str [104,116,116,112,58,47,47,115,99,104,101,109,97,115,46,111,112,101,110,120,109,108,102,111,114,109,97,116,115,46,111,114,103,47,119,111,114,100,112,114,111,99,101,115,115,105,110,103,109,108,47,50,48,48,54,47,109,97,105,110]))⟩,⟨none,some 22,.pick (.tmp 18) (.tmp 21) (.lit (.bool false))⟩,⟨none,some 23,.mov (.tmp 22)⟩,⟨(some (23,true)),some 24,.faddr 1 (.tmp 3)⟩,⟨(some (23,true)),some 25,.load1 (.tmp 24)⟩,⟨(some (23,true)),some 26,.bin .eql (.tmp 25) (.lit (.str [100,111,99,117,109,101,110,116]))⟩,⟨none,some 27,.pick (.tmp 23) (.tmp 26) (.lit (.bool false))⟩,⟨none,some 28,.call 27 [(.tmp 27),(.lit (.int .i64 3))]⟩])
 (.seq (.ops [⟨none,some 29,.mov (.tmp 1)⟩,⟨none,some 30,.mov (.tmp 2)⟩,⟨none,some 31,.bld [.nilS,.nilS,.int .i64 0] [(0,1,(.tmp 29)),(1,1,(.tmp 30))]⟩,⟨none,some 32,.box 77 (.tmp 31)⟩,⟨none,some 10,.mov (.tmp 32)⟩])
 (.seq (.ops [⟨none,some 33,.mov (.tmp 10)⟩,⟨none,some 34,.faddr 4 (.tmp 8)⟩,⟨none,some 35,.load1 (.tmp 34)⟩,⟨none,some 36,.call 28 [(.tmp 33),(.tmp 35),(.lit (.int .i64 1))]⟩,⟨none,none,.store 1 (.tmp 6) (.tmp 36)⟩,⟨none,none,.store 1 (.tmp 7) (.lit (.int .i64 0))⟩])
 .ret)))))),
 [.cell1 6,.cell1 7],none⟩
theorem r10:Xag Tryz.prog cfg 10=some I10:=by kernel_rfl
noncomputable def I11:IF:=⟨46,(.seq (.ops [⟨none,some 3,.box 25 (.tmp 0)⟩,⟨none,some 6,.mov (.lit (.nilS))⟩,⟨none,some 7,.mov (.lit (.int .i64 0))⟩])
 (.seq (.ops [⟨none,some 13,.loadN 5 (.tmp 3)⟩,⟨none,some 14,.call 29 [(.tmp 13),(.lit (.str [98,111,100,121]))]⟩,⟨none,some 12,.mov (.tmp 14)⟩,⟨none,some 15,.ext (.tmp 12) 0⟩,⟨none,some 16,.ext (.tmp 12) 1⟩,⟨none,some 8,.new 25 [.str [],.str [],.str [],.nilS,.nilS]⟩,⟨none,none,.store 5 (.tmp 8) (.tmp 15)⟩,⟨none,some 9,.mov (.tmp 16)⟩])
 (.seq (.seq (.ops [⟨none,some 17,.faddr 0 (.tmp 3)⟩,⟨none,some 18,.load1 (.tmp 17)⟩,⟨none,some 19,.bin .neq (.tmp 18) (.lit (.str [104,116,116,112,58,47,47,115,99,104,101,109,97,115,46,111,112,101,110,120,109,108,102,111,114,109,97,116,115,46,111,114,103,47,119,111,114,100,112,114,111,99,101,115,115,105,110,103,109,108,47,50,48,48,54,47,109,97,105,110]))⟩,⟨none,some 20,.mov (.tmp 19)⟩,⟨(some (20,false)),some 21,.faddr 1 (.tmp 3)⟩,⟨(some (20,false)),some 22,.load1 (.tmp 21)⟩,⟨(some (20,false)),some 23,.bin .neq (.tmp 22) (.lit (.str [100,111,99,117,109,101,110,116]))⟩,⟨none,some 24,.pick (.tmp 20) (.lit (.bool true)) (.tmp 23)⟩,⟨none,some 25,.mov (.tmp 24)⟩,⟨(some (25,false)),some 26,.mov (.tmp 9)⟩,⟨(some (25,false)),some 27,.un .not (.tmp 26)⟩,⟨none,some 28,.pick (.tmp 25) (.lit (.bool true)) (.tmp 27)⟩])
 (.cond (.tmp 28) (.seq (.ops [⟨none,some 6,.mov (.lit (.nilS))⟩,⟨none,some 7,.mov (.lit (.int .i64 3))⟩])
 .ret)
 .skip))
 (.seq (.ops [⟨none,some 29,.mov (.tmp 1)⟩,⟨none,some 30,.mov (.tmp 2)⟩,⟨none,some 31,.bld [.nilS,.nilS,.int .i64 0,.int .i64 0] [(0,1,(.tmp 29)),(1,1,(.tmp 30))]⟩,⟨none,some 32,.box 82 (.tmp 31)⟩,⟨none,some 10,.mov (.tmp 32)⟩])
 (.seq (.ops [⟨none,some 33,.mov (.tmp 10)⟩,⟨none,some 34,.loadN 5 (.tmp 8)⟩,⟨none,some 35,.call 30 [(.tmp 33),(.tmp 34),(.lit (.int .i64 1))]⟩,⟨none,some 11,.mov (.tmp 35)⟩])
 (.seq (.seq (.ops [⟨none,some 36,.mov (.tmp 10)⟩,⟨none,some 37,.nchk (.tmp 36)⟩,⟨none,some 38,.faddr 3 (.tmp 37)⟩,⟨none,some 39,.load1 (.tmp 38)⟩,⟨none,some 40,.bin .neq (.tmp 39) (.lit (.int .i64 0))⟩])
 (.cond (.tmp 40) (.seq (.draw [] [⟨⟨none,some 41,.mov (.tmp 10)⟩,none,true,[],[]⟩,⟨⟨none,some 42,.nchk (.tmp 41)⟩,none,true,[],[]⟩,⟨⟨none,some 43,.faddr 3 (.tmp 42)⟩,none,true,[],[]⟩,⟨⟨none,some 44,.load1 (.tmp 43)⟩,none,true,[],[]⟩,⟨⟨none,some 6,.mov (.lit (.nilS))⟩,none,true,[],[]⟩,⟨⟨none,some 7,.mov (.tmp 44)⟩,none,true,[],[]⟩])
 .ret)
 .skip))
 (.seq (.ops [⟨none,some 45,.mov (.tmp 11)⟩,⟨none,some 6,.mov (.tmp 45)⟩,⟨none,some 7,.mov (.lit (.int .i64 0))⟩])
 .ret))))))),
 [.tmp 6,.tmp 7],none⟩
theorem r11:Xag Tryz.prog cfg 11=some I11:=by kernel_rfl
noncomputable def I12:IF:=⟨95,(.seq (.ops [⟨none,some 4,.mov (.lit (.bool false))⟩])
 (.seq (.seq (.ops [⟨none,some 6,.mov (.tmp 0)⟩,⟨none,some 7,.lenL (.tmp 6)⟩,⟨none,some 8,.mov (.tmp 1)⟩,⟨none,some 9,.lenL (.tmp 8)⟩,⟨none,some 10,.bin .neq (.tmp 7) (.tmp 9)⟩])
 (.cond (.tmp 10) (.seq (.ops [⟨none,some 4,.mov (.lit (.bool false))⟩])
 .ret)
 .skip))
 (.seq (.seq (.ops [⟨none,some 5,.mov (.lit (.int .i64 0))⟩])
 (.block 0 (.loop (some [0,1,5]) (.seq (.seq (.ops [⟨none,some 11,.mov (.tmp 5)⟩,⟨none,some 12,.mov (.tmp 0)⟩,⟨none,some 13,.lenL (.tmp 12)⟩,⟨none,some 14,.bin .lss (.tmp 11) (.tmp 13)⟩])
 (.cond (.tmp 14) .skip
 (.exit 0)))
 (.seq (.block 1 (.seq (.draw [] [⟨⟨none,some 17,.mov (.tmp 0)⟩,none,true,[],[]⟩,⟨⟨none,some 18,.mov (.tmp 5)⟩,none,true,[],[]⟩,⟨⟨none,some 19,.iaddr 6 (.tmp 17) (.tmp 18)⟩,none,true,[],[]⟩,⟨⟨none,some 20,.faddr 0 (.tmp 19)⟩,none,true,[],[]⟩,⟨⟨none,some 21,.load1 (.tmp 20)⟩,none,true,[],[]⟩,⟨⟨none,some 22,.mov (.tmp 1)⟩,none,true,[],[]⟩,⟨⟨none,some 23,.mov (.tmp 5)⟩,none,true,[],[]⟩,⟨⟨none,some 24,.iaddr 6 (.tmp 22) (.tmp 23)⟩,none,true,[],[]⟩,⟨⟨none,some 25,.faddr 0 (.tmp 24)⟩,none,true,[],[]⟩,⟨⟨none,some 26,.load1 (.tmp 25)⟩,none,true,[],[]⟩,⟨⟨none,some 27,.bin .neq (.tmp 21) (.tmp 26)⟩,none,true,[],[]⟩,⟨⟨none,some 28,.mov (.tmp 27)⟩,none,true,[],[]⟩,⟨⟨(some (28,false)),some 29,.mov (.tmp 0)⟩,none,true,[],[]⟩,⟨⟨(some (28,false)),some 30,.mov (.tmp 5)⟩,none,true,[],[]⟩,⟨⟨(some (28,false)),some 31,.iaddr 6 (.tmp 29) (.tmp 30)⟩,none,true,[],[]⟩,⟨⟨(some (28,false)),some 32,.faddr 1 (.tmp 31)⟩,none,true,[],[]⟩,⟨⟨(some (28,false)),some 33,.load1 (.tmp 32)⟩,none,true,[],[]⟩,⟨⟨(some (28,false)),some 34,.mov (.tmp 1)⟩,none,true,[],[]⟩,⟨⟨(some (28,false)),some 35,.mov (.tmp 5)⟩,none,true,[],[]⟩,⟨⟨(some (28,false)),some 36,.iaddr 6 (.tmp 34) (.tmp 35)⟩,none,true,[],[]⟩,⟨⟨(some (28,false)),some 37,.faddr 1 (.tmp 36)⟩,none,true,[],[]⟩,⟨⟨(some (28,false)),some 38,.load1 (.tmp 37)⟩,none,true,[],[]⟩,⟨⟨(some (28,false)),some 39,.bin .neq (.tmp 33) (.tmp 38)⟩,none,true,[],[]⟩,⟨⟨none,some 40,.pick (.tmp 28) (.lit (.bool true)) (.tmp 39)⟩,none,true,[],[]⟩,⟨⟨none,some 41,.mov (.tmp 40)⟩,none,true,[],[]⟩,⟨⟨(some (41,false)),some 42,.mov (.tmp 0)⟩,none,true,[],[]⟩,⟨⟨(some (41,false)),some 43,.mov (.tmp 5)⟩,none,true,[],[]⟩,⟨⟨(some (41,false)),some 44,.iaddr 6 (.tmp 42) (.tmp 43)⟩,none,true,[],[]⟩,⟨⟨(some (41,false)),some 45,.faddr 2 (.tmp 44)⟩,none,true,[],[]⟩,⟨⟨(some (41,false)),some 46,.load1 (.tmp 45)⟩,none,true,[],[]⟩,⟨⟨(some (41,false)),some 47,.mov (.tmp 1)⟩,none,true,[],[]⟩,⟨⟨(some (41,false)),some 48,.mov (.tmp 5)⟩,none,true,[],[]⟩,⟨⟨(some (41,false)),some 49,.iaddr 6 (.tmp 47) (.tmp 48)⟩,none,true,[],[]⟩,⟨⟨(some (41,false)),some 50,.faddr 2 (.tmp 49)⟩,none,true,[],[]⟩,⟨⟨(some (41,false)),some 51,.load1 (.tmp 50)⟩,none,true,[],[]⟩,⟨⟨(some (41,false)),some 52,.bin .neq (.tmp 46) (.tmp 51)⟩,none,true,[],[]⟩,⟨⟨none,some 53,.pick (.tmp 41) (.lit (.bool true)) (.tmp 52)⟩,none,true,[],[]⟩,⟨⟨none,some 54,.mov (.tmp 53)⟩,none,true,[],[]⟩,⟨⟨(some (54,false)),some 55,.mov (.tmp 0)⟩,none,true,[],[]⟩,⟨⟨(some (54,false)),some 56,.mov (.tmp 5)⟩,none,true,[],[]⟩,⟨⟨(some (54,false)),some 57,.iaddr 6 (.tmp 55) (.tmp 56)⟩,none,true,[],[]⟩,⟨⟨(some (54,false)),some 58,.faddr 3 (.tmp 57)⟩,none,true,[],[]⟩,⟨⟨(some (54,false)),some 59,.load1 (.tmp 58)⟩,none,true,[],[]⟩,⟨⟨(some (54,false)),some 60,.mov (.tmp 1)⟩,none,true,[],[]⟩,⟨⟨(some (54,false)),some 61,.mov (.tmp 5)⟩,none,true,[],[]⟩,⟨⟨(some (54,false)),some 62,.iaddr 6 (.tmp 60) (.tmp 61)⟩,none,true,[],[]⟩,⟨⟨(some (54,false)),some 63,.faddr 3 (.tmp 62)⟩,none,true,[],[]⟩,⟨⟨(some (54,false)),some 64,.load1 (.tmp 63)⟩,none,true,[],[]⟩,⟨⟨(some (54,false)),some 65,.bin .neq (.tmp 59) (.tmp 64)⟩,none,true,[],[]⟩,⟨⟨none,some 66,.pick (.tmp 54) (.lit (.bool true)) (.tmp 65)⟩,none,true,[],[]⟩,⟨⟨none,some 67,.mov (.tmp 66)⟩,none,true,[],[]⟩,⟨⟨(some (67,false)),some 68,.mov (.tmp 0)⟩,none,true,[],[]⟩,⟨⟨(some (67,false)),some 69,.mov (.tmp 5)⟩,none,true,[],[]⟩,⟨⟨(some (67,false)),some 70,.iaddr 6 (.tmp 68) (.tmp 69)⟩,none,true,[],[]⟩,⟨⟨(some (67,false)),some 71,.faddr 4 (.tmp 70)⟩,none,true,[],[]⟩,⟨⟨(some (67,false)),some 72,.load1 (.tmp 71)⟩,none,true,[],[]⟩,⟨⟨(some (67,false)),some 73,.mov (.tmp 1)⟩,none,true,[],[]⟩,⟨⟨(some (67,false)),some 74,.mov (.tmp 5)⟩,none,true,[],[]⟩,⟨⟨(some (67,false)),some 75,.iaddr 6 (.tmp 73) (.tmp 74)⟩,none,true,[],[]⟩,⟨⟨(some (67,false)),some 76,.faddr 4 (.tmp 75)⟩,none,true,[],[]⟩,⟨⟨(some (67,false)),some 77,.load1 (.tmp 76)⟩,none,true,[],[]⟩,⟨⟨(some (67,false)),some 78,.call 31 [(.tmp 72),(.tmp 77)]⟩,none,true,[],[]⟩,⟨⟨(some (67,false)),some 79,.un .not (.tmp 78)⟩,none,true,[],[]⟩,⟨⟨none,some 80,.pick (.tmp 67) (.lit (.bool true)) (.tmp 79)⟩,none,true,[],[]⟩,⟨⟨none,some 81,.mov (.tmp 80)⟩,none,true,[],[]⟩,⟨⟨(some (81,false)),some 82,.mov (.tmp 0)⟩,none,true,[],[]⟩,⟨⟨(some (81,false)),some 83,.mov (.tmp 5)⟩,none,true,[],[]⟩,⟨⟨(some (81,false)),some 84,.iaddr 6 (.tmp 82) (.tmp 83)⟩,none,true,[],[]⟩,⟨⟨(some (81,false)),some 85,.faddr 5 (.tmp 84)⟩,none,true,[],[]⟩,⟨⟨(some (81,false)),some 86,.load1 (.tmp 85)⟩,none,true,[],[]⟩,⟨⟨(some (81,false)),some 87,.mov (.tmp 1)⟩,none,true,[],[]⟩,⟨⟨(some (81,false)),some 88,.mov (.tmp 5)⟩,none,true,[],[]⟩,⟨⟨(some (81,false)),some 89,.iaddr 6 (.tmp 87) (.tmp 88)⟩,none,true,[],[]⟩,⟨⟨(some (81,false)),some 90,.faddr 5 (.tmp 89)⟩,none,true,[],[]⟩,⟨⟨(some (81,false)),some 91,.load1 (.tmp 90)⟩,none,true,[],[]⟩,⟨⟨(some (81,false)),some 92,.call 12 [(.tmp 86),(.tmp 91)]⟩,none,true,[],[]⟩,⟨⟨(some (81,false)),some 93,.un .not (.tmp 92)⟩,none,true,[],[]⟩,⟨⟨none,some 94,.pick (.tmp 81) (.lit (.bool true)) (.tmp 93)⟩,none,true,[],[]⟩])
 (.cond (.tmp 94) (.seq (.ops [⟨none,some 4,.mov (.lit (.bool false))⟩])
 .ret)
 .skip)))
 (.ops [⟨none,some 15,.mov (.tmp 5)⟩,⟨none,some 16,.bin .add (.tmp 15) (.lit (.int .i64 1))⟩,⟨none,some 5,.mov (.tmp 16)⟩]))))))
 (.seq (.ops [⟨none,some 4,.mov (.lit (.bool true))⟩])
 .ret)))),
 [.tmp 4],none⟩
theorem r12:Xag Tryz.prog cfg 12=some I12:=by kernel_rfl
noncomputable def I25:IF:=⟨13,(.seq (.ops [⟨none,some 5,.raw (Xlh Tryz.f25 0)⟩])
 (.block 0 (.seq (.ops [⟨none,some 7,.nilT false 4 (.tmp 5)⟩])
 (.cond (.tmp 7) (.ops [⟨none,some 2,.mov (.tmp 5)⟩])
 (.seq (.ops [⟨none,some 8,.asrt 71 (.lit (.agg [.int .i64 0])) (.tmp 5) true⟩,⟨none,some 9,.ext (.tmp 8) 1⟩,⟨none,some 10,.ext (.tmp 8) 0⟩])
 (.cond (.tmp 9) (.seq (.ops [⟨none,some 3,.new 71 [.int .i64 0]⟩,⟨none,none,.store 1 (.tmp 3) (.tmp 10)⟩])
 (.draw [] [⟨⟨none,some 11,.faddr 0 (.tmp 3)⟩,none,true,[],[]⟩,⟨⟨none,some 12,.load1 (.tmp 11)⟩,none,true,[],[]⟩,⟨⟨none,none,.store 1 (.tmp 0) (.lit (.nilS))⟩,none,false,[1],[]⟩,⟨⟨none,none,.store 1 (.tmp 1) (.tmp 12)⟩,none,true,[],[]⟩]))
 (.seq (.ops [⟨none,some 4,.mov (.tmp 5)⟩])
 (.ops [⟨none,some 6,.mov (.tmp 4)⟩,⟨none,none,.pan (.tmp 6)⟩])))))))),
 [],(some (some 5,(.block 0 (.seq (.ops [⟨none,some 7,.nilT false 4 (.tmp 5)⟩])
 (.cond (.tmp 7) (.ops [⟨none,some 2,.mov (.tmp 5)⟩])
 (.seq (.ops [⟨none,some 8,.asrt 71 (.lit (.agg [.int .i64 0])) (.tmp 5) true⟩,⟨none,some 9,.ext (.tmp 8) 1⟩,⟨none,some 10,.ext (.tmp 8) 0⟩])
 (.cond (.tmp 9) (.seq (.ops [⟨none,some 3,.new 71 [.int .i64 0]⟩,⟨none,none,.store 1 (.tmp 3) (.tmp 10)⟩])
 (.draw [] [⟨⟨none,some 11,.faddr 0 (.tmp 3)⟩,none,true,[],[]⟩,⟨⟨none,some 12,.load1 (.tmp 11)⟩,none,true,[],[]⟩,⟨⟨none,none,.store 1 (.tmp 0) (.lit (.nilS))⟩,none,false,[1],[]⟩,⟨⟨none,none,.store 1 (.tmp 1) (.tmp 12)⟩,none,true,[],[]⟩]))
 (.seq (.ops [⟨none,some 4,.mov (.tmp 5)⟩])
 (.ops [⟨none,some 6,.mov (.tmp 4)⟩,⟨none,none,.pan (.tmp 6)⟩])))))))))⟩
theorem r25:Xag Tryz.prog cfg 25=some I25:=by kernel_rfl
noncomputable def I26:IF:=⟨30,(.seq (.ops [⟨none,some 3,.box 25 (.tmp 0)⟩,⟨none,some 6,.new 25 [.str [],.str [],.str [],.nilS,.nilS]⟩,⟨none,some 7,.mov (.lit (.bool false))⟩])
 (.seq (.seq (.ops [⟨none,some 10,.faddr 4 (.tmp 3)⟩,⟨none,some 11,.load1 (.tmp 10)⟩,⟨none,some 12,.lenL (.tmp 11)⟩,⟨none,some 13,.mov (.lit (.int .i64 0))⟩])
 (.block 0 (.loop (some [1,2,6,11,12,13]) (.seq (.ops [⟨none,some 14,.bin .lss (.tmp 13) (.tmp 12)⟩])
 (.seq (.cond (.tmp 14) .skip
 (.exit 0))
 (.seq (.block 1 (.seq (.ops [⟨none,some 15,.iaddr 5 (.tmp 11) (.tmp 13)⟩,⟨none,some 16,.loadN 5 (.tmp 15)⟩,⟨none,some 9,.new 25 [.str [],.str [],.str [],.nilS,.nilS]⟩,⟨none,none,.store 5 (.tmp 9) (.tmp 16)⟩])
 (.seq (.ops [⟨none,some 17,.faddr 0 (.tmp 9)⟩,⟨none,some 18,.load1 (.tmp 17)⟩,⟨none,some 19,.mov (.tmp 1)⟩,⟨none,some 20,.bin .eql (.tmp 18) (.tmp 19)⟩,⟨none,some 21,.mov (.tmp 20)⟩,⟨(some (21,true)),some 22,.faddr 1 (.tmp 9)⟩,⟨(some (21,true)),some 23,.load1 (.tmp 22)⟩,⟨(some (21,true)),some 24,.mov (.tmp 2)⟩,⟨(some (21,true)),some 25,.bin .eql (.tmp 23) (.tmp 24)⟩,⟨none,some 26,.pick (.tmp 21) (.tmp 25) (.lit (.bool false))⟩])
 (.cond (.tmp 26) (.seq (.ops [⟨none,some 27,.loadN 5 (.tmp 9)⟩,⟨none,none,.store 5 (.tmp 6) (.tmp 27)⟩,⟨none,some 7,.mov (.lit (.bool true))⟩])
 .ret)
 .skip))))
 (.ops [⟨none,some 28,.bin .add (.tmp 13) (.lit (.int .i64 1))⟩,⟨none,some 13,.mov (.tmp 28)⟩])))))))
 (.seq (.ops [⟨none,some 29,.bld [.str [],.str [],.str [],.nilS,.nilS] []⟩,⟨none,none,.store 5 (.tmp 6) (.tmp 29)⟩,⟨none,some 7,.mov (.lit (.bool false))⟩])
 .ret))),
 [.cellN 5 6,.tmp 7],none⟩
theorem r26:Xag Tryz.prog cfg 26=some I26:=by kernel_rfl
noncomputable def I27:IF:=⟨9,(.seq (.ops [⟨none,some 4,.mov (.tmp 0)⟩,⟨none,some 5,.un .not (.tmp 4)⟩])
 (.cond (.tmp 5) (.ops [⟨none,some 6,.mov (.tmp 1)⟩,⟨none,some 7,.bld [.int .i64 0] [(0,1,(.tmp 6))]⟩,⟨none,some 8,.mkif 71 (.tmp 7)⟩,⟨none,none,.pan (.tmp 8)⟩])
 .skip)),
 [],none⟩
theorem r27:Xag Tryz.prog cfg 27=some I27:=by kernel_rfl
noncomputable def I28:IF:=⟨67,(.seq (.ops [⟨none,some 6,.mov (.lit (.nilS))⟩])
 (.seq (.ops [⟨none,some 7,.mov (.lit (.nilS))⟩])
 (.seq (.seq (.ops [⟨none,some 12,.mov (.tmp 1)⟩,⟨none,some 13,.lenL (.tmp 12)⟩,⟨none,some 14,.mov (.lit (.int .i64 0))⟩])
 (.block 0 (.loop (some [0,2,7,12,13,14]) (.seq (.ops [⟨none,some 15,.bin .lss (.tmp 14) (.tmp 13)⟩])
 (.seq (.cond (.tmp 15) .skip
 (.exit 0))
 (.seq (.block 1 (.seq (.ops [⟨none,some 16,.iaddr 5 (.tmp 12) (.tmp 14)⟩,⟨none,some 17,.loadN 5 (.tmp 16)⟩,⟨none,some 9,.new 25 [.str [],.str [],.str [],.nilS,.nilS]⟩,⟨none,none,.store 5 (.tmp 9) (.tmp 17)⟩])
 (.seq (.seq (.ops [⟨none,some 18,.faddr 0 (.tmp 9)⟩,⟨none,some 19,.load1 (.tmp 18)⟩,⟨none,some 20,.bin .neq (.tmp 19) (.lit (.str [104,116,116,112,58,47,47,115,99,104,101,109,97,115,46,111,112,101,110,120,109,108,102,111,114,109,97,116,115,46,111,114,103,47,119,111,114,100,112,114,111,99,101,115,115,105,110,103,109,108,47,50,48,48,54,47,109,97,105,110]))⟩,⟨none,some 21,.mov (.tmp 20)⟩,⟨(some (21,false)),some 22,.faddr 1 (.tmp 9)⟩,⟨(some (21,false)),some 23,.load1 (.tmp 22)⟩,⟨(some (21,false)),some 24,.bin .neq (.tmp 23) (.lit (.str [112]))⟩,⟨(some (21,false)),some 25,.mov (.tmp 24)⟩,⟨(some (25,true)),some 26,.faddr 1 (.tmp 9)⟩,⟨(some (25,true)),some 27,.load1 (.tmp 26)⟩,⟨(some (25,true)),some 28,.bin .neq (.tmp 27) (.lit (.str [115,100,116]))⟩,⟨(some (21,false)),some 29,.pick (.tmp 25) (.tmp 28) (.lit (.bool false))⟩,⟨none,some 30,.pick (.tmp 21) (.lit (.bool true)) (.tmp 29)⟩])
 (.cond (.tmp 30) (.exit 1)
 .skip))
 (.seq (.ops [⟨none,some 31,.mov (.tmp 2)⟩,⟨none,some 32,.bin .leq (.tmp 31) (.lit (.int .i64 64))⟩,⟨none,some 33,.call 27 [(.tmp 32),(.lit (.int .i64 19))]⟩])
 (.seq (.seq (.ops [⟨none,some 34,.faddr 1 (.tmp 9)⟩,⟨none,some 35,.load1 (.tmp 34)⟩,⟨none,some 36,.bin .eql (.tmp 35) (.lit (.str [112]))⟩])
 (.cond (.tmp 36) (.seq (.ops [⟨none,some 37,.mov (.tmp 7)⟩,⟨none,some 38,.mov (.tmp 0)⟩,⟨none,some 39,.loadN 5 (.tmp 9)⟩,⟨none,some 40,.call 50 [(.tmp 38),(.tmp 39)]⟩,⟨none,some 41,.bldS 46 6 1 [.str [],.str [],.int .i64 0,.int .i64 0,.nilS,.nilS] [(0,6,(.tmp 40))]⟩,⟨none,some 42,.app 46 6 (.tmp 37) (.tmp 41)⟩,⟨none,some 7,.mov (.tmp 42)⟩])
 (.exit 1))
 .skip))
 (.seq (.ops [⟨none,some 43,.loadN 5 (.tmp 9)⟩,⟨none,some 44,.call 44 [(.tmp 43),(.lit (.str [115,100,116,80,114]))]⟩,⟨none,some 45,.call 42 [(.tmp 44),(.lit (.str [116,97,103]))]⟩,⟨none,some 46,.call 51 [(.tmp 45)]⟩,⟨none,some 10,.mov (.tmp 46)⟩])
 (.seq (.ops [⟨none,some 47,.mov (.tmp 0)⟩,⟨none,some 48,.loadN 5 (.tmp 9)⟩,⟨none,some 49,.call 44 [(.tmp 48),(.lit (.str [115,100,116,67,111,110,116,101,110,116]))]⟩,⟨none,some 50,.fld1 4 (.tmp 49)⟩,⟨none,some 51,.mov (.tmp 2)⟩,⟨none,some 52,.bin .add (.tmp 51) (.lit (.int .i64 1))⟩,⟨none,some 53,.call 28 [(.tmp 47),(.tmp 50),(.tmp 52)]⟩,⟨none,some 11,.mov (.tmp 53)⟩])
 (.seq (.ops [⟨none,some 54,.mov (.tmp 10)⟩,⟨none,some 55,.bin .eql (.tmp 54) (.lit (.str []))⟩])
 (.cond (.tmp 55) (.ops [⟨none,some 56,.mov (.tmp 7)⟩,⟨none,some 57,.mov (.tmp 11)⟩,⟨none,some 58,.app 46 6 (.tmp 56) (.tmp 57)⟩,⟨none,some 7,.mov (.tmp 58)⟩])
 (.ops [⟨none,some 59,.mov (.tmp 7)⟩,⟨none,some 60,.mov (.tmp 10)⟩,⟨none,some 61,.mov (.tmp 11)⟩,⟨none,some 62,.bld [.str [],.str [],.int .i64 0,.int .i64 0,.nilS,.nilS] [(0,1,(.tmp 60)),(5,1,(.tmp 61))]⟩,⟨none,some 63,.bldS 46 6 1 [.str [],.str [],.int .i64 0,.int .i64 0,.nilS,.nilS] [(0,6,(.tmp 62))]⟩,⟨none,some 64,.app 46 6 (.tmp 59) (.tmp 63)⟩,⟨none,some 7,.mov (.tmp 64)⟩]))))))))))
 (.ops [⟨none,some 65,.bin .add (.tmp 14) (.lit (.int .i64 1))⟩,⟨none,some 14,.mov (.tmp 65)⟩])))))))
 (.seq (.ops [⟨none,some 66,.mov (.tmp 7)⟩,⟨none,some 6,.mov (.tmp 66)⟩])
 .ret)))),
 [.tmp 6],none⟩
theorem r28:Xag Tryz.prog cfg 28=some I28:=by kernel_rfl
noncomputable def I29:IF:=⟨11,(.seq (.ops [⟨none,some 2,.box 25 (.tmp 0)⟩,⟨none,some 4,.new 25 [.str [],.str [],.str [],.nilS,.nilS]⟩,⟨none,some 5,.mov (.lit (.bool false))⟩])
 (.seq (.ops [⟨none,some 6,.loadN 5 (.tmp 2)⟩,⟨none,some 7,.mov (.tmp 1)⟩,⟨none,some 8,.call 52 [(.tmp 6),(.lit (.str [104,116,116,112,58,47,47,115,99,104,101,109,97,115,46,111,112,101,110,120,109,108,102,111,114,109,97,116,115,46,111,114,103,47,119,111,114,100,112,114,111,99,101,115,115,105,110,103,109,108,47,50,48,48,54,47,109,97,105,110])),(.tmp 7)]⟩,⟨none,some 9,.ext (.tmp 8) 0⟩,⟨none,some 10,.ext (.tmp 8) 1⟩,⟨none,none,.store 5 (.tmp 4) (.tmp 9)⟩,⟨none,some 5,.mov (.tmp 10)⟩])
 .ret)),
 [.cellN 5 4,.tmp 5],none⟩
theorem r29:Xag Tryz.prog cfg 29=some I29:=by kernel_rfl
noncomputable def I30:IF:=⟨92,(.seq (.ops [⟨none,some 4,.box 25 (.tmp 1)⟩,⟨none,some 6,.mov (.lit (.nilS))⟩])
 (.seq (.ops [⟨none,some 7,.mov (.lit (.nilS))⟩])
 (.seq (.seq (.ops [⟨none,some 8,.mov (.lit (.int .i64 0))⟩])
 (.block 0 (.loop (some [0,2,4,7,8]) (.seq (.seq (.ops [⟨none,some 16,.mov (.tmp 8)⟩,⟨none,some 17,.faddr 4 (.tmp 4)⟩,⟨none,some 18,.load1 (.tmp 17)⟩,⟨none,some 19,.lenL (.tmp 18)⟩,⟨none,some 20,.bin .lss (.tmp 16) (.tmp 19)⟩,⟨none,some 21,.mov (.tmp 20)⟩,⟨(some (21,true)),some 22,.mov (.tmp 0)⟩,⟨(some (21,true)),some 23,.nchk (.tmp 22)⟩,⟨(some (21,true)),some 24,.faddr 3 (.tmp 23)⟩,⟨(some (21,true)),some 25,.load1 (.tmp 24)⟩,⟨(some (21,true)),some 26,.bin .eql (.tmp 25) (.lit (.int .i64 0))⟩,⟨none,some 27,.pick (.tmp 21) (.tmp 26) (.lit (.bool false))⟩])
 (.cond (.tmp 27) .skip
 (.exit 0)))
 (.seq (.block 1 (.seq (.ops [⟨none,some 30,.faddr 4 (.tmp 4)⟩,⟨none,some 31,.load1 (.tmp 30)⟩,⟨none,some 32,.mov (.tmp 8)⟩,⟨none,some 33,.iaddr 5 (.tmp 31) (.tmp 32)⟩,⟨none,some 34,.loadN 5 (.tmp 33)⟩,⟨none,some 9,.new 25 [.str [],.str [],.str [],.nilS,.nilS]⟩,⟨none,none,.store 5 (.tmp 9) (.tmp 34)⟩])
 (.seq (.seq (.ops [⟨none,some 35,.faddr 0 (.tmp 9)⟩,⟨none,some 36,.load1 (.tmp 35)⟩,⟨none,some 37,.bin .neq (.tmp 36) (.lit (.str [104,116,116,112,58,47,47,115,99,104,101,109,97,115,46,111,112,101,110,120,109,108,102,111,114,109,97,116,115,46,111,114,103,47,119,111,114,100,112,114,111,99,101,115,115,105,110,103,109,108,47,50,48,48,54,47,109,97,105,110]))⟩,⟨none,some 38,.mov (.tmp 37)⟩,⟨(some (38,false)),some 39,.faddr 1 (.tmp 9)⟩,⟨(some (38,false)),some 40,.load1 (.tmp 39)⟩,⟨(some (38,false)),some 41,.bin .neq (.tmp 40) (.lit (.str [112]))⟩,⟨(some (38,false)),some 42,.mov (.tmp 41)⟩,⟨(some (42,true)),some 43,.faddr 1 (.tmp 9)⟩,⟨(some (42,true)),some 44,.load1 (.tmp 43)⟩,⟨(some (42,true)),some 45,.bin .neq (.tmp 44) (.lit (.str [115,100,116]))⟩,⟨(some (38,false)),some 46,.pick (.tmp 42) (.tmp 45) (.lit (.bool false))⟩,⟨none,some 47,.pick (.tmp 38) (.lit (.bool true)) (.tmp 46)⟩])
 (.cond (.tmp 47) (.exit 1)
 .skip))
 (.seq (.seq (.ops [⟨none,some 48,.mov (.tmp 2)⟩,⟨none,some 49,.bin .gtr (.tmp 48) (.lit (.int .i64 64))⟩])
 (.cond (.tmp 49) (.seq (.ops [⟨none,some 50,.mov (.tmp 0)⟩,⟨none,some 51,.nchk (.tmp 50)⟩,⟨none,some 52,.faddr 3 (.tmp 51)⟩,⟨none,none,.store 1 (.tmp 52) (.lit (.int .i64 19))⟩])
 (.seq (.ops [⟨none,some 6,.mov (.lit (.nilS))⟩])
 .ret))
 .skip))
 (.seq (.seq (.ops [⟨none,some 53,.faddr 1 (.tmp 9)⟩,⟨none,some 54,.load1 (.tmp 53)⟩,⟨none,some 55,.bin .eql (.tmp 54) (.lit (.str [112]))⟩])
 (.cond (.tmp 55) (.seq (.ops [⟨none,some 56,.mov (.tmp 7)⟩,⟨none,some 57,.mov (.tmp 0)⟩,⟨none,some 58,.loadN 5 (.tmp 9)⟩,⟨none,some 59,.call 53 [(.tmp 57),(.tmp 58)]⟩,⟨none,some 60,.bldS 46 6 1 [.str [],.str [],.int .i64 0,.int .i64 0,.nilS,.nilS] [(0,6,(.tmp 59))]⟩,⟨none,some 61,.app 46 6 (.tmp 56) (.tmp 60)⟩,⟨none,some 7,.mov (.tmp 61)⟩])
 (.exit 1))
 .skip))
 (.seq (.ops [⟨none,some 63,.loadN 5 (.tmp 9)⟩,⟨none,some 64,.call 29 [(.tmp 63),(.lit (.str [115,100,116,80,114]))]⟩,⟨none,some 62,.mov (.tmp 64)⟩,⟨none,some 65,.ext (.tmp 62) 0⟩,⟨none,some 66,.ext (.tmp 62) 1⟩,⟨none,some 10,.new 25 [.str [],.str [],.str [],.nilS,.nilS]⟩,⟨none,none,.store 5 (.tmp 10) (.tmp 65)⟩,⟨none,some 11,.mov (.tmp 66)⟩])
 (.seq (.ops [⟨none,some 68,.loadN 5 (.tmp 9)⟩,⟨none,some 69,.call 29 [(.tmp 68),(.lit (.str [115,100,116,67,111,110,116,101,110,116]))]⟩,⟨none,some 67,.mov (.tmp 69)⟩,⟨none,some 70,.ext (.tmp 67) 0⟩,⟨none,some 71,.ext (.tmp 67) 1⟩,⟨none,some 12,.new 25 [.str [],.str [],.str [],.nilS,.nilS]⟩,⟨none,none,.store 5 (.tmp 12) (.tmp 70)⟩,⟨none,some 13,.mov (.tmp 71)⟩])
 (.seq (.ops [⟨none,some 72,.loadN 5 (.tmp 10)⟩,⟨none,some 73,.call 55 [(.tmp 72),(.lit (.str [116,97,103]))]⟩,⟨none,some 74,.call 54 [(.tmp 73)]⟩,⟨none,some 14,.mov (.tmp 74)⟩])
 (.seq (.ops [⟨none,some 75,.mov (.tmp 0)⟩,⟨none,some 76,.loadN 5 (.tmp 12)⟩,⟨none,some 77,.mov (.tmp 2)⟩,⟨none,some 78,.bin .add (.tmp 77) (.lit (.int .i64 1))⟩,⟨none,some 79,.call 30 [(.tmp 75),(.tmp 76),(.tmp 78)]⟩,⟨none,some 15,.mov (.tmp 79)⟩])
 (.seq (.ops [⟨none,some 80,.mov (.tmp 14)⟩,⟨none,some 81,.bin .eql (.tmp 80) (.lit (.str []))⟩])
 (.cond (.tmp 81) (.ops [⟨none,some 82,.mov (.tmp 7)⟩,⟨none,some 83,.mov (.tmp 15)⟩,⟨none,some 84,.app 46 6 (.tmp 82) (.tmp 83)⟩,⟨none,some 7,.mov (.tmp 84)⟩])
 (.ops [⟨none,some 85,.mov (.tmp 7)⟩,⟨none,some 86,.mov (.tmp 14)⟩,⟨none,some 87,.mov (.tmp 15)⟩,⟨none,some 88,.bld [.str [],.str [],.int .i64 0,.int .i64 0,.nilS,.nilS] [(0,1,(.tmp 86)),(5,1,(.tmp 87))]⟩,⟨none,some 89,.bldS 46 6 1 [.str [],.str [],.int .i64 0,.int .i64 0,.nilS,.nilS] [(0,6,(.tmp 88))]⟩,⟨none,some 90,.app 46 6 (.tmp 85) (.tmp 89)⟩,⟨none,some 7,.mov (.tmp 90)⟩]))))))))))))
 (.ops [⟨none,some 28,.mov (.tmp 8)⟩,⟨none,some 29,.bin .add (.tmp 28) (.lit (.int .i64 1))⟩,⟨none,some 8,.mov (.tmp 29)⟩]))))))
 (.seq (.ops [⟨none,some 91,.mov (.tmp 7)⟩,⟨none,some 6,.mov (.tmp 91)⟩])
 .ret)))),
 [.tmp 6],none⟩
theorem r30:Xag Tryz.prog cfg 30=some I30:=by kernel_rfl
noncomputable def I31:IF:=⟨26,(.seq (.ops [⟨none,some 4,.mov (.lit (.bool false))⟩])
 (.seq (.seq (.ops [⟨none,some 6,.mov (.tmp 0)⟩,⟨none,some 7,.lenL (.tmp 6)⟩,⟨none,some 8,.mov (.tmp 1)⟩,⟨none,some 9,.lenL (.tmp 8)⟩,⟨none,some 10,.bin .neq (.tmp 7) (.tmp 9)⟩])
 (.cond (.tmp 10) (.seq (.ops [⟨none,some 4,.mov (.lit (.bool false))⟩])
 .ret)
 .skip))
 (.seq (.seq (.ops [⟨none,some 5,.mov (.lit (.int .i64 0))⟩])
 (.block 0 (.loop (some [0,1,5]) (.seq (.seq (.ops [⟨none,some 11,.mov (.tmp 5)⟩,⟨none,some 12,.mov (.tmp 0)⟩,⟨none,some 13,.lenL (.tmp 12)⟩,⟨none,some 14,.bin .lss (.tmp 11) (.tmp 13)⟩])
 (.cond (.tmp 14) .skip
 (.exit 0)))
 (.seq (.block 1 (.seq (.draw [] [⟨⟨none,some 17,.mov (.tmp 0)⟩,none,true,[],[]⟩,⟨⟨none,some 18,.mov (.tmp 5)⟩,none,true,[],[]⟩,⟨⟨none,some 19,.iaddr 9 (.tmp 17) (.tmp 18)⟩,none,true,[],[]⟩,⟨⟨none,some 20,.loadN 9 (.tmp 19)⟩,none,true,[],[]⟩,⟨⟨none,some 21,.mov (.tmp 1)⟩,none,true,[],[]⟩,⟨⟨none,some 22,.mov (.tmp 5)⟩,none,true,[],[]⟩,⟨⟨none,some 23,.iaddr 9 (.tmp 21) (.tmp 22)⟩,none,true,[],[]⟩,⟨⟨none,some 24,.loadN 9 (.tmp 23)⟩,none,true,[],[]⟩,⟨⟨none,some 25,.eqS true [(0,1),(1,1),(2,2),(3,2),(4,2),(5,0),(6,2),(7,2),(8,1)] (.tmp 20) (.tmp 24)⟩,none,true,[],[]⟩])
 (.cond (.tmp 25) (.seq (.ops [⟨none,some 4,.mov (.lit (.bool false))⟩])
 .ret)
 .skip)))
 (.ops [⟨none,some 15,.mov (.tmp 5)⟩,⟨none,some 16,.bin .add (.tmp 15) (.lit (.int .i64 1))⟩,⟨none,some 5,.mov (.tmp 16)⟩]))))))
 (.seq (.ops [⟨none,some 4,.mov (.lit (.bool true))⟩])
 .ret)))),
 [.tmp 4],none⟩
theorem r31:Xag Tryz.prog cfg 31=some I31:=by kernel_rfl
noncomputable def I41:IF:=⟨14,(.seq (.ops [⟨none,some 2,.box 25 (.tmp 0)⟩,⟨none,some 4,.mov (.lit (.str []))⟩])
 (.seq (.ops [⟨none,some 8,.loadN 5 (.tmp 2)⟩,⟨none,some 9,.mov (.tmp 1)⟩,⟨none,some 10,.call 65 [(.tmp 8),(.lit (.str [104,116,116,112,58,47,47,115,99,104,101,109,97,115,46,111,112,101,110,120,109,108,102,111,114,109,97,116,115,46,111,114,103,47,119,111,114,100,112,114,111,99,101,115,115,105,110,103,109,108,47,50,48,48,54,47,109,97,105,110])),(.tmp 9)]⟩,⟨none,some 7,.mov (.tmp 10)⟩,⟨none,some 11,.ext (.tmp 7) 0⟩,⟨none,some 12,.ext (.tmp 7) 1⟩,⟨none,some 5,.mov (.tmp 11)⟩,⟨none,some 6,.mov (.tmp 12)⟩])
 (.seq (.ops [⟨none,some 13,.mov (.tmp 5)⟩,⟨none,some 4,.mov (.tmp 13)⟩])
 .ret))),
 [.tmp 4],none⟩
theorem r41:Xag Tryz.prog cfg 41=some I41:=by kernel_rfl
noncomputable def I42:IF:=⟨9,(.seq (.ops [⟨none,some 2,.box 25 (.tmp 0)⟩,⟨none,some 4,.mov (.lit (.str []))⟩])
 (.seq (.ops [⟨none,some 5,.loadN 5 (.tmp 2)⟩,⟨none,some 6,.mov (.tmp 1)⟩,⟨none,some 7,.call 44 [(.tmp 5),(.tmp 6)]⟩,⟨none,some 8,.call 41 [(.tmp 7),(.lit (.str [118,97,108]))]⟩,⟨none,some 4,.mov (.tmp 8)⟩])
 .ret)),
 [.tmp 4],none⟩
theorem r42:Xag Tryz.prog cfg 42=some I42:=by kernel_rfl
noncomputable def I44:IF:=⟨14,(.seq (.ops [⟨none,some 2,.box 25 (.tmp 0)⟩,⟨none,some 4,.new 25 [.str [],.str [],.str [],.nilS,.nilS]⟩])
 (.seq (.ops [⟨none,some 8,.loadN 5 (.tmp 2)⟩,⟨none,some 9,.mov (.tmp 1)⟩,⟨none,some 10,.call 26 [(.tmp 8),(.lit (.str [104,116,116,112,58,47,47,115,99,104,101,109,97,115,46,111,112,101,110,120,109,108,102,111,114,109,97,116,115,46,111,114,103,47,119,111,114,100,112,114,111,99,101,115,115,105,110,103,109,108,47,50,48,48,54,47,109,97,105,110])),(.tmp 9)]⟩,⟨none,some 7,.mov (.tmp 10)⟩,⟨none,some 11,.ext (.tmp 7) 0⟩,⟨none,some 12,.ext (.tmp 7) 1⟩,⟨none,some 5,.new 25 [.str [],.str [],.str [],.nilS,.nilS]⟩,⟨none,none,.store 5 (.tmp 5) (.tmp 11)⟩,⟨none,some 6,.mov (.tmp 12)⟩])
 (.seq (.ops [⟨none,some 13,.loadN 5 (.tmp 5)⟩,⟨none,none,.store 5 (.tmp 4) (.tmp 13)⟩])
 .ret))),
 [.cellN 5 4],none⟩
theorem r44:Xag Tryz.prog cfg 44=some I44:=by kernel_rfl
noncomputable def I45:IF:=⟨21,(.seq (.ops [⟨none,some 2,.box 25 (.tmp 0)⟩,⟨none,some 4,.mov (.lit (.int .i64 0))⟩])
 (.seq (.ops [⟨none,some 8,.loadN 5 (.tmp 2)⟩,⟨none,some 9,.mov (.tmp 1)⟩,⟨none,some 10,.call 26 [(.tmp 8),(.lit (.str [104,116,116,112,58,47,47,115,99,104,101,109,97,115,46,111,112,101,110,120,109,108,102,111,114,109,97,116,115,46,111,114,103,47,119,111,114,100,112,114,111,99,101,115,115,105,110,103,109,108,47,50,48,48,54,47,109,97,105,110])),(.tmp 9)]⟩,⟨none,some 7,.mov (.tmp 10)⟩,⟨none,some 11,.ext (.tmp 7) 0⟩,⟨none,some 12,.ext (.tmp 7) 1⟩,⟨none,some 5,.new 25 [.str [],.str [],.str [],.nilS,.nilS]⟩,⟨none,none,.store 5 (.tmp 5) (.tmp 11)⟩,⟨none,some 6,.mov (.tmp 12)⟩])
 (.seq (.seq (.ops [⟨none,some 13,.mov (.tmp 6)⟩,⟨none,some 14,.un .not (.tmp 13)⟩])
 (.cond (.tmp 14) (.seq (.ops [⟨none,some 4,.mov (.lit (.int .i64 0))⟩])
 .ret)
 .skip))
 (.seq (.seq (.ops [⟨none,some 15,.loadN 5 (.tmp 5)⟩,⟨none,some 16,.call 41 [(.tmp 15),(.lit (.str [118,97,108]))]⟩])
 (.block 0 (.seq (.seq (.ops [⟨none,some 18,.bin .eql (.tmp 16) (.lit (.str [48]))⟩,⟨none,some 17,.mov (.tmp 18)⟩])
 (.cond (.tmp 17) .skip
 (.seq (.ops [⟨none,some 19,.bin .eql (.tmp 16) (.lit (.str [102,97,108,115,101]))⟩,⟨none,some 17,.mov (.tmp 19)⟩])
 (.cond (.tmp 17) .skip
 (.ops [⟨none,some 20,.bin .eql (.tmp 16) (.lit (.str [111,102,102]))⟩,⟨none,some 17,.mov (.tmp 20)⟩])))))
 (.cond (.tmp 17) (.seq (.ops [⟨none,some 4,.mov (.lit (.int .i64 2))⟩])
 .ret)
 .skip))))
 (.seq (.ops [⟨none,some 4,.mov (.lit (.int .i64 1))⟩])
 .ret))))),
 [.tmp 4],none⟩
theorem r45:Xag Tryz.prog cfg 45=some I45:=by kernel_rfl
noncomputable def I46:IF:=⟨69,(.seq (.ops [⟨none,some 2,.mov (.lit (.int .i64 0))⟩,⟨none,some 3,.mov (.lit (.int .i64 0))⟩])
 (.seq (.ops [⟨none,some 12,.mkm⟩,⟨none,some 4,.mov (.tmp 12)⟩])
 (.seq (.seq (.ops [⟨none,some 13,.mov (.tmp 0)⟩,⟨none,some 14,.lenL (.tmp 13)⟩,⟨none,some 15,.mov (.lit (.int .i64 0))⟩])
 (.block 0 (.loop (some [0,4,13,14,15]) (.seq (.ops [⟨none,some 16,.bin .lss (.tmp 15) (.tmp 14)⟩])
 (.seq (.cond (.tmp 16) .skip
 (.exit 0))
 (.seq (.block 1 (.seq (.ops [⟨none,some 17,.mov (.tmp 15)⟩,⟨none,some 18,.iaddr 6 (.tmp 13) (.tmp 15)⟩,⟨none,some 19,.loadN 6 (.tmp 18)⟩,⟨none,some 6,.new 68 [.str [],.str [],.bool false,.int .i64 0,.int .i64 0,.int .i64 0]⟩,⟨none,some 5,.mov (.tmp 17)⟩,⟨none,none,.store 6 (.tmp 6) (.tmp 19)⟩])
 (.seq (.seq (.ops [⟨none,some 20,.loadN 6 (.tmp 6)⟩,⟨none,some 21,.call 68 [(.tmp 20)]⟩])
 (.cond (.tmp 21) (.seq (.ops [⟨none,some 22,.mov (.tmp 5)⟩,⟨none,some 2,.mov (.tmp 22)⟩,⟨none,some 3,.mov (.lit (.int .i64 1))⟩])
 .ret)
 .skip))
 (.seq (.seq (.ops [⟨none,some 23,.mov (.tmp 4)⟩,⟨none,some 24,.faddr 0 (.tmp 6)⟩,⟨none,some 25,.load1 (.tmp 24)⟩,⟨none,some 26,.lkp .string (.int .i64 0) (.tmp 23) (.tmp 25) false⟩,⟨none,some 27,.bin .gtr (.tmp 26) (.lit (.int .i64 0))⟩])
 (.cond (.tmp 27) (.seq (.ops [⟨none,some 28,.mov (.tmp 5)⟩,⟨none,some 2,.mov (.tmp 28)⟩,⟨none,some 3,.mov (.lit (.int .i64 8))⟩])
 .ret)
 .skip))
 (.ops [⟨none,some 29,.mov (.tmp 4)⟩,⟨none,some 30,.faddr 0 (.tmp 6)⟩,⟨none,some 31,.load1 (.tmp 30)⟩,⟨none,some 32,.mov (.tmp 5)⟩,⟨none,some 33,.bin .add (.tmp 32) (.lit (.int .i64 1))⟩,⟨none,none,.upd .string (.tmp 29) (.tmp 31) (.tmp 33)⟩])))))
 (.ops [⟨none,some 34,.bin .add (.tmp 15) (.lit (.int .i64 1))⟩,⟨none,some 15,.mov (.tmp 34)⟩])))))))
 (.seq (.seq (.ops [⟨none,some 35,.mov (.tmp 0)⟩,⟨none,some 36,.lenL (.tmp 35)⟩,⟨none,some 37,.mov (.lit (.int .i64 0))⟩])
 (.block 2 (.loop (some [0,4,35,36,37]) (.seq (.ops [⟨none,some 38,.bin .lss (.tmp 37) (.tmp 36)⟩])
 (.seq (.cond (.tmp 38) .skip
 (.exit 2))
 (.seq (.block 3 (.seq (.ops [⟨none,some 39,.mov (.tmp 37)⟩,⟨none,some 40,.iaddr 6 (.tmp 35) (.tmp 37)⟩,⟨none,some 41,.loadN 6 (.tmp 40)⟩,⟨none,some 8,.new 68 [.str [],.str [],.bool false,.int .i64 0,.int .i64 0,.int .i64 0]⟩,⟨none,some 7,.mov (.tmp 39)⟩,⟨none,none,.store 6 (.tmp 8) (.tmp 41)⟩])
 (.seq (.ops [⟨none,some 42,.faddr 1 (.tmp 8)⟩,⟨none,some 43,.load1 (.tmp 42)⟩,⟨none,some 44,.bin .neq (.tmp 43) (.lit (.str []))⟩,⟨none,some 45,.mov (.tmp 44)⟩,⟨(some (45,true)),some 46,.mov (.tmp 4)⟩,⟨(some (45,true)),some 47,.faddr 1 (.tmp 8)⟩,⟨(some (45,true)),some 48,.load1 (.tmp 47)⟩,⟨(some (45,true)),some 49,.lkp .string (.int .i64 0) (.tmp 46) (.tmp 48) false⟩,⟨(some (45,true)),some 50,.bin .eql (.tmp 49) (.lit (.int .i64 0))⟩,⟨none,some 51,.pick (.tmp 45) (.tmp 50) (.lit (.bool false))⟩])
 (.cond (.tmp 51) (.seq (.ops [⟨none,some 52,.mov (.tmp 7)⟩,⟨none,some 2,.mov (.tmp 52)⟩,⟨none,some 3,.mov (.lit (.int .i64 7))⟩])
 .ret)
 .skip))))
 (.ops [⟨none,some 53,.bin .add (.tmp 37) (.lit (.int .i64 1))⟩,⟨none,some 37,.mov (.tmp 53)⟩])))))))
 (.seq (.seq (.ops [⟨none,some 54,.mov (.tmp 0)⟩,⟨none,some 55,.lenL (.tmp 54)⟩,⟨none,some 56,.mov (.lit (.int .i64 0))⟩])
 (.block 4 (.loop (some [0,54,55,56]) (.seq (.ops [⟨none,some 57,.bin .lss (.tmp 56) (.tmp 55)⟩])
 (.seq (.cond (.tmp 57) .skip
 (.exit 4))
 (.seq (.block 5 (.seq (.ops [⟨none,some 58,.mov (.tmp 56)⟩,⟨none,some 59,.iaddr 6 (.tmp 54) (.tmp 56)⟩,⟨none,some 60,.loadN 6 (.tmp 59)⟩,⟨none,some 10,.new 68 [.str [],.str [],.bool false,.int .i64 0,.int .i64 0,.int .i64 0]⟩,⟨none,some 9,.mov (.tmp 58)⟩,⟨none,none,.store 6 (.tmp 10) (.tmp 60)⟩])
 (.seq (.ops [⟨none,some 61,.mov (.tmp 0)⟩,⟨none,some 62,.loadN 6 (.tmp 10)⟩,⟨none,some 63,.call 69 [(.tmp 61),(.tmp 62)]⟩,⟨none,some 11,.mov (.tmp 63)⟩])
 (.seq (.ops [⟨none,some 64,.mov (.tmp 11)⟩,⟨none,some 65,.bin .neq (.tmp 64) (.lit (.int .i64 0))⟩])
 (.cond (.tmp 65) (.seq (.ops [⟨none,some 66,.mov (.tmp 9)⟩,⟨none,some 67,.mov (.tmp 11)⟩,⟨none,some 2,.mov (.tmp 66)⟩,⟨none,some 3,.mov (.tmp 67)⟩])
 .ret)
 .skip)))))
 (.ops [⟨none,some 68,.bin .add (.tmp 56) (.lit (.int .i64 1))⟩,⟨none,some 56,.mov (.tmp 68)⟩])))))))
 (.seq (.ops [⟨none,some 2,.mov (.lit (.int .i64 (-1)))⟩,⟨none,some 3,.mov (.lit (.int .i64 0))⟩])
 .ret)))))),
 [.tmp 2,.tmp 3],none⟩
theorem r46:Xag Tryz.prog cfg 46=some I46:=by kernel_rfl
noncomputable def I50:IF:=⟨41,(.seq (.ops [⟨none,some 3,.box 25 (.tmp 1)⟩,⟨none,some 4,.new 46 [.str [],.str [],.int .i64 0,.int .i64 0,.nilS,.nilS]⟩])
 (.seq (.ops [⟨none,some 7,.loadN 5 (.tmp 3)⟩,⟨none,some 8,.call 44 [(.tmp 7),(.lit (.str [112,80,114]))]⟩,⟨none,some 5,.new 25 [.str [],.str [],.str [],.nilS,.nilS]⟩,⟨none,none,.store 5 (.tmp 5) (.tmp 8)⟩])
 (.seq (.ops [⟨none,some 9,.loadN 5 (.tmp 5)⟩,⟨none,some 10,.call 42 [(.tmp 9),(.lit (.str [112,83,116,121,108,101]))]⟩,⟨none,some 11,.bld [.str [],.str [],.int .i64 0,.int .i64 0,.nilS,.nilS] [(1,1,(.tmp 10))]⟩,⟨none,some 6,.new 46 [.str [],.str [],.int .i64 0,.int .i64 0,.nilS,.nilS]⟩,⟨none,none,.store 6 (.tmp 6) (.tmp 11)⟩])
 (.seq (.ops [⟨none,some 13,.loadN 5 (.tmp 5)⟩,⟨none,some 14,.call 44 [(.tmp 13),(.lit (.str [110,117,109,80,114]))]⟩,⟨none,some 15,.call 42 [(.tmp 14),(.lit (.str [110,117,109,73,100]))]⟩,⟨none,some 16,.call 43 [(.tmp 15)]⟩,⟨none,some 12,.mov (.tmp 16)⟩,⟨none,some 17,.ext (.tmp 12) 0⟩,⟨none,some 18,.ext (.tmp 12) 1⟩,⟨none,some 19,.faddr 2 (.tmp 6)⟩,⟨none,none,.store 1 (.tmp 19) (.tmp 17)⟩])
 (.seq (.seq (.ops [⟨none,some 20,.faddr 2 (.tmp 6)⟩,⟨none,some 21,.load1 (.tmp 20)⟩,⟨none,some 22,.bin .gtr (.tmp 21) (.lit (.int .i64 0))⟩])
 (.cond (.tmp 22) (.ops [⟨none,some 24,.loadN 5 (.tmp 5)⟩,⟨none,some 25,.call 44 [(.tmp 24),(.lit (.str [110,117,109,80,114]))]⟩,⟨none,some 26,.call 42 [(.tmp 25),(.lit (.str [105,108,118,108]))]⟩,⟨none,some 27,.call 43 [(.tmp 26)]⟩,⟨none,some 23,.mov (.tmp 27)⟩,⟨none,some 28,.ext (.tmp 23) 0⟩,⟨none,some 29,.ext (.tmp 23) 1⟩,⟨none,some 30,.faddr 3 (.tmp 6)⟩,⟨none,none,.store 1 (.tmp 30) (.tmp 28)⟩])
 .skip))
 (.seq (.ops [⟨none,some 31,.mov (.tmp 0)⟩,⟨none,some 32,.faddr 4 (.tmp 3)⟩,⟨none,some 33,.load1 (.tmp 32)⟩,⟨none,some 34,.faddr 1 (.tmp 6)⟩,⟨none,some 35,.load1 (.tmp 34)⟩,⟨none,some 36,.bld [.int .i64 0,.int .i64 0,.str [],.str [],.str [],.bool false,.str [],.str [],.int .i64 0] []⟩,⟨none,some 37,.call 72 [(.tmp 31),(.tmp 33),(.tmp 35),(.tmp 36)]⟩,⟨none,some 38,.call 71 [(.tmp 37)]⟩,⟨none,some 39,.faddr 4 (.tmp 6)⟩,⟨none,none,.store 1 (.tmp 39) (.tmp 38)⟩])
 (.seq (.ops [⟨none,some 40,.loadN 6 (.tmp 6)⟩,⟨none,none,.store 6 (.tmp 4) (.tmp 40)⟩])
 .ret))))))),
 [.cellN 6 4],none⟩
theorem r50:Xag Tryz.prog cfg 50=some I50:=by kernel_rfl
noncomputable def I51:IF:=⟨57,(.seq (.ops [⟨none,some 2,.mov (.lit (.str []))⟩])
 (.seq (.ops [⟨none,some 3,.new 135 [.nilP,.nilS]⟩])
 (.seq (.seq (.ops [⟨none,some 4,.mov (.lit (.int .i64 0))⟩])
 (.block 0 (.loop (some [0,3,4]) (.seq (.seq (.ops [⟨none,some 9,.mov (.tmp 4)⟩,⟨none,some 10,.mov (.tmp 0)⟩,⟨none,some 11,.lenS (.tmp 10)⟩,⟨none,some 12,.bin .lss (.tmp 9) (.tmp 11)⟩])
 (.cond (.tmp 12) .skip
 (.exit 0)))
 (.block 1 (.seq (.seq (.ops [⟨none,some 13,.mov (.tmp 0)⟩,⟨none,some 14,.mov (.tmp 4)⟩,⟨none,some 15,.cut (.tmp 13) (some (.tmp 14)) none⟩,⟨none,some 5,.mov (.tmp 15)⟩])
 (.seq (.ops [⟨none,some 16,.mov (.tmp 5)⟩,⟨none,some 17,.lenS (.tmp 16)⟩,⟨none,some 18,.bin .geq (.tmp 17) (.lit (.int .i64 7))⟩,⟨none,some 19,.mov (.tmp 18)⟩,⟨(some (19,true)),some 20,.mov (.tmp 5)⟩,⟨(some (19,true)),some 21,.cut (.tmp 20) none (some (.lit (.int .i64 2)))⟩,⟨(some (19,true)),some 22,.bin .eql (.tmp 21) (.lit (.str [95,120]))⟩,⟨none,some 23,.pick (.tmp 19) (.tmp 22) (.lit (.bool false))⟩,⟨none,some 24,.mov (.tmp 23)⟩,⟨(some (24,true)),some 25,.mov (.tmp 5)⟩,⟨(some (24,true)),some 26,.ixs (.tmp 25) (.lit (.int .i64 6))⟩,⟨(some (24,true)),some 27,.bin .eql (.tmp 26) (.lit (.int .u8 (95)))⟩,⟨none,some 28,.pick (.tmp 24) (.tmp 27) (.lit (.bool false))⟩,⟨none,some 29,.mov (.tmp 28)⟩,⟨(some (29,true)),some 30,.mov (.tmp 5)⟩,⟨(some (29,true)),some 31,.cut (.tmp 30) (some (.lit (.int .i64 2))) (some (.lit (.int .i64 6)))⟩,⟨(some (29,true)),some 32,.call 66 [(.tmp 31),(.lit (.str [48,49,50,51,52,53,54,55,56,57,97,98,99,100,101,102,65,66,67,68,69,70]))]⟩,⟨(some (29,true)),some 33,.bin .eql (.tmp 32) (.lit (.str []))⟩,⟨none,some 34,.pick (.tmp 29) (.tmp 33) (.lit (.bool false))⟩])
 (.cond (.tmp 34) (.seq (.ops [⟨none,some 36,.mov (.tmp 5)⟩,⟨none,some 37,.cut (.tmp 36) (some (.lit (.int .i64 2))) (some (.lit (.int .i64 6)))⟩,⟨none,some 38,.call 73 [(.tmp 37),(.lit (.int .i64 16)),(.lit (.int .i64 32))]⟩,⟨none,some 35,.mov (.tmp 38)⟩,⟨none,some 39,.ext (.tmp 35) 0⟩,⟨none,some 40,.ext (.tmp 35) 1⟩,⟨none,some 6,.mov (.tmp 39)⟩,⟨none,some 7,.mov (.tmp 40)⟩])
 (.seq (.ops [⟨none,some 41,.mov (.tmp 6)⟩,⟨none,some 42,.conv .i32 (.tmp 41)⟩,⟨none,some 8,.mov (.tmp 42)⟩])
 (.seq (.seq (.ops [⟨none,some 43,.mov (.tmp 8)⟩,⟨none,some 44,.call 74 [(.tmp 43)]⟩,⟨none,some 45,.un .not (.tmp 44)⟩])
 (.cond (.tmp 45) (.ops [⟨none,some 8,.mov (.lit (.int .i32 (65533)))⟩])
 .skip))
 (.seq (.ops [⟨none,some 46,.mov (.tmp 8)⟩,⟨none,some 47,.call 75 [(.tmp 3),(.tmp 46)]⟩])
 (.seq (.ops [⟨none,some 48,.mov (.tmp 4)⟩,⟨none,some 49,.bin .add (.tmp 48) (.lit (.int .i64 7))⟩,⟨none,some 4,.mov (.tmp 49)⟩])
 (.exit 1))))))
 .skip)))
 (.seq (.ops [⟨none,some 50,.mov (.tmp 0)⟩,⟨none,some 51,.mov (.tmp 4)⟩,⟨none,some 52,.ixs (.tmp 50) (.tmp 51)⟩,⟨none,some 53,.call 76 [(.tmp 3),(.tmp 52)]⟩])
 (.ops [⟨none,some 54,.mov (.tmp 4)⟩,⟨none,some 55,.bin .add (.tmp 54) (.lit (.int .i64 1))⟩,⟨none,some 4,.mov (.tmp 55)⟩]))))))))
 (.seq (.ops [⟨none,some 56,.call 77 [(.tmp 3)]⟩,⟨none,some 2,.mov (.tmp 56)⟩])
 .ret)))),
 [.tmp 2],none⟩
theorem r51:Xag Tryz.prog cfg 51=some I51:=by kernel_rfl
noncomputable def I52:IF:=⟨40,(.seq (.ops [⟨none,some 3,.box 25 (.tmp 0)⟩,⟨none,some 6,.new 25 [.str [],.str [],.str [],.nilS,.nilS]⟩,⟨none,some 7,.mov (.lit (.bool false))⟩])
 (.seq (.seq (.ops [⟨none,some 8,.mov (.lit (.int .i64 0))⟩])
 (.block 0 (.loop (some [1,2,3,6,8]) (.seq (.seq (.ops [⟨none,some 9,.mov (.tmp 8)⟩,⟨none,some 10,.faddr 4 (.tmp 3)⟩,⟨none,some 11,.load1 (.tmp 10)⟩,⟨none,some 12,.lenL (.tmp 11)⟩,⟨none,some 13,.bin .lss (.tmp 9) (.tmp 12)⟩])
 (.cond (.tmp 13) .skip
 (.exit 0)))
 (.seq (.block 1 (.seq (.ops [⟨none,some 16,.faddr 4 (.tmp 3)⟩,⟨none,some 17,.load1 (.tmp 16)⟩,⟨none,some 18,.mov (.tmp 8)⟩,⟨none,some 19,.iaddr 5 (.tmp 17) (.tmp 18)⟩,⟨none,some 20,.faddr 0 (.tmp 19)⟩,⟨none,some 21,.load1 (.tmp 20)⟩,⟨none,some 22,.mov (.tmp 1)⟩,⟨none,some 23,.bin .eql (.tmp 21) (.tmp 22)⟩,⟨none,some 24,.mov (.tmp 23)⟩,⟨(some (24,true)),some 25,.faddr 4 (.tmp 3)⟩,⟨(some (24,true)),some 26,.load1 (.tmp 25)⟩,⟨(some (24,true)),some 27,.mov (.tmp 8)⟩,⟨(some (24,true)),some 28,.iaddr 5 (.tmp 26) (.tmp 27)⟩,⟨(some (24,true)),some 29,.faddr 1 (.tmp 28)⟩,⟨(some (24,true)),some 30,.load1 (.tmp 29)⟩,⟨(some (24,true)),some 31,.mov (.tmp 2)⟩,⟨(some (24,true)),some 32,.bin .eql (.tmp 30) (.tmp 31)⟩,⟨none,some 33,.pick (.tmp 24) (.tmp 32) (.lit (.bool false))⟩])
 (.cond (.tmp 33) (.seq (.ops [⟨none,some 34,.faddr 4 (.tmp 3)⟩,⟨none,some 35,.load1 (.tmp 34)⟩,⟨none,some 36,.mov (.tmp 8)⟩,⟨none,some 37,.iaddr 5 (.tmp 35) (.tmp 36)⟩,⟨none,some 38,.loadN 5 (.tmp 37)⟩,⟨none,none,.store 5 (.tmp 6) (.tmp 38)⟩,⟨none,some 7,.mov (.lit (.bool true))⟩])
 .ret)
 .skip)))
 (.ops [⟨none,some 14,.mov (.tmp 8)⟩,⟨none,some 15,.bin .add (.tmp 14) (.lit (.int .i64 1))⟩,⟨none,some 8,.mov (.tmp 15)⟩]))))))
 (.seq (.ops [⟨none,some 39,.bld [.str [],.str [],.str [],.nilS,.nilS] []⟩,⟨none,none,.store 5 (.tmp 6) (.tmp 39)⟩,⟨none,some 7,.mov (.lit (.bool false))⟩])
 .ret))),
 [.cellN 5 6,.tmp 7],none⟩
theorem r52:Xag Tryz.prog cfg 52=some I52:=by kernel_rfl
noncomputable def I53:IF:=⟨45,(.seq (.ops [⟨none,some 3,.box 25 (.tmp 1)⟩,⟨none,some 4,.new 46 [.str [],.str [],.int .i64 0,.int .i64 0,.nilS,.nilS]⟩])
 (.seq (.ops [⟨none,some 11,.loadN 5 (.tmp 3)⟩,⟨none,some 12,.call 29 [(.tmp 11),(.lit (.str [112,80,114]))]⟩,⟨none,some 10,.mov (.tmp 12)⟩,⟨none,some 13,.ext (.tmp 10) 0⟩,⟨none,some 14,.ext (.tmp 10) 1⟩,⟨none,some 5,.new 25 [.str [],.str [],.str [],.nilS,.nilS]⟩,⟨none,none,.store 5 (.tmp 5) (.tmp 13)⟩,⟨none,some 6,.mov (.tmp 14)⟩])
 (.seq (.ops [⟨none,some 15,.loadN 5 (.tmp 5)⟩,⟨none,some 16,.call 55 [(.tmp 15),(.lit (.str [112,83,116,121,108,101]))]⟩,⟨none,some 17,.bld [.str [],.str [],.int .i64 0,.int .i64 0,.nilS,.nilS] [(1,1,(.tmp 16))]⟩,⟨none,some 7,.new 46 [.str [],.str [],.int .i64 0,.int .i64 0,.nilS,.nilS]⟩,⟨none,none,.store 6 (.tmp 7) (.tmp 17)⟩])
 (.seq (.ops [⟨none,some 19,.loadN 5 (.tmp 5)⟩,⟨none,some 20,.call 29 [(.tmp 19),(.lit (.str [110,117,109,80,114]))]⟩,⟨none,some 18,.mov (.tmp 20)⟩,⟨none,some 21,.ext (.tmp 18) 0⟩,⟨none,some 22,.ext (.tmp 18) 1⟩,⟨none,some 8,.new 25 [.str [],.str [],.str [],.nilS,.nilS]⟩,⟨none,none,.store 5 (.tmp 8) (.tmp 21)⟩,⟨none,some 9,.mov (.tmp 22)⟩])
 (.seq (.ops [⟨none,some 23,.loadN 5 (.tmp 8)⟩,⟨none,some 24,.call 55 [(.tmp 23),(.lit (.str [110,117,109,73,100]))]⟩,⟨none,some 25,.call 78 [(.tmp 24)]⟩,⟨none,some 26,.mm true [(.lit (.int .i64 0)),(.tmp 25)]⟩,⟨none,some 27,.faddr 2 (.tmp 7)⟩,⟨none,none,.store 1 (.tmp 27) (.tmp 26)⟩])
 (.seq (.seq (.ops [⟨none,some 28,.faddr 2 (.tmp 7)⟩,⟨none,some 29,.load1 (.tmp 28)⟩,⟨none,some 30,.bin .gtr (.tmp 29) (.lit (.int .i64 0))⟩])
 (.cond (.tmp 30) (.ops [⟨none,some 31,.loadN 5 (.tmp 8)⟩,⟨none,some 32,.call 55 [(.tmp 31),(.lit (.str [105,108,118,108]))]⟩,⟨none,some 33,.call 78 [(.tmp 32)]⟩,⟨none,some 34,.mm true [(.lit (.int .i64 0)),(.tmp 33)]⟩,⟨none,some 35,.faddr 3 (.tmp 7)⟩,⟨none,none,.store 1 (.tmp 35) (.tmp 34)⟩])
 .skip))
 (.seq (.ops [⟨none,some 36,.mov (.tmp 0)⟩,⟨none,some 37,.loadN 5 (.tmp 3)⟩,⟨none,some 38,.faddr 1 (.tmp 7)⟩,⟨none,some 39,.load1 (.tmp 38)⟩,⟨none,some 40,.bld [.bool false,.str [],.str []] []⟩,⟨none,some 41,.call 80 [(.tmp 36),(.tmp 37),(.tmp 39),(.tmp 40)]⟩,⟨none,some 42,.call 79 [(.tmp 41)]⟩,⟨none,some 43,.faddr 4 (.tmp 7)⟩,⟨none,none,.store 1 (.tmp 43) (.tmp 42)⟩])
 (.seq (.ops [⟨none,some 44,.loadN 6 (.tmp 7)⟩,⟨none,none,.store 6 (.tmp 4) (.tmp 44)⟩])
 .ret)))))))),
 [.cellN 6 4],none⟩
theorem r53:Xag Tryz.prog cfg 53=some I53:=by kernel_rfl
noncomputable def I54:IF:=⟨35,(.seq (.ops [⟨none,some 2,.mov (.lit (.str []))⟩])
 (.seq (.ops [⟨none,some 3,.mov (.lit (.nilS))⟩])
 (.seq (.seq (.ops [⟨none,some 4,.mov (.lit (.int .i64 0))⟩])
 (.block 0 (.loop (some [0,3,4]) (.seq (.seq (.ops [⟨none,some 7,.mov (.tmp 4)⟩,⟨none,some 8,.mov (.tmp 0)⟩,⟨none,some 9,.lenS (.tmp 8)⟩,⟨none,some 10,.bin .lss (.tmp 7) (.tmp 9)⟩])
 (.cond (.tmp 10) .skip
 (.exit 0)))
 (.block 1 (.seq (.ops [⟨none,some 12,.mov (.tmp 0)⟩,⟨none,some 13,.mov (.tmp 4)⟩,⟨none,some 14,.cut (.tmp 12) (some (.tmp 13)) none⟩,⟨none,some 15,.call 81 [(.tmp 14)]⟩,⟨none,some 11,.mov (.tmp 15)⟩,⟨none,some 16,.ext (.tmp 11) 0⟩,⟨none,some 17,.ext (.tmp 11) 1⟩,⟨none,some 5,.mov (.tmp 16)⟩,⟨none,some 6,.mov (.tmp 17)⟩])
 (.seq (.seq (.ops [⟨none,some 18,.mov (.tmp 6)⟩])
 (.cond (.tmp 18) (.seq (.ops [⟨none,some 19,.mov (.tmp 3)⟩,⟨none,some 20,.mov (.tmp 5)⟩,⟨none,some 21,.call 82 [(.tmp 20)]⟩,⟨none,some 22,.app 5 1 (.tmp 19) (.tmp 21)⟩,⟨none,some 3,.mov (.tmp 22)⟩])
 (.seq (.ops [⟨none,some 23,.mov (.tmp 4)⟩,⟨none,some 24,.bin .add (.tmp 23) (.lit (.int .i64 7))⟩,⟨none,some 4,.mov (.tmp 24)⟩])
 (.exit 1)))
 .skip))
 (.seq (.ops [⟨none,some 25,.mov (.tmp 3)⟩,⟨none,some 26,.mov (.tmp 0)⟩,⟨none,some 27,.mov (.tmp 4)⟩,⟨none,some 28,.ixs (.tmp 26) (.tmp 27)⟩,⟨none,some 29,.bldS 5 1 1 [.int .u8 (0)] [(0,1,(.tmp 28))]⟩,⟨none,some 30,.app 5 1 (.tmp 25) (.tmp 29)⟩,⟨none,some 3,.mov (.tmp 30)⟩])
 (.ops [⟨none,some 31,.mov (.tmp 4)⟩,⟨none,some 32,.bin .add (.tmp 31) (.lit (.int .i64 1))⟩,⟨none,some 4,.mov (.tmp 32)⟩])))))))))
 (.seq (.ops [⟨none,some 33,.mov (.tmp 3)⟩,⟨none,some 34,.b2s (.tmp 33)⟩,⟨none,some 2,.mov (.tmp 34)⟩])
 .ret)))),
 [.tmp 2],none⟩
theorem r54:Xag Tryz.prog cfg 54=some I54:=by kernel_rfl
noncomputable def I55:IF:=⟨21,(.seq (.ops [⟨none,some 2,.box 25 (.tmp 0)⟩,⟨none,some 4,.mov (.lit (.str []))⟩])
 (.seq (.ops [⟨none,some 10,.loadN 5 (.tmp 2)⟩,⟨none,some 11,.mov (.tmp 1)⟩,⟨none,some 12,.call 29 [(.tmp 10),(.tmp 11)]⟩,⟨none,some 9,.mov (.tmp 12)⟩,⟨none,some 13,.ext (.tmp 9) 0⟩,⟨none,some 14,.ext (.tmp 9) 1⟩,⟨none,some 5,.new 25 [.str [],.str [],.str [],.nilS,.nilS]⟩,⟨none,none,.store 5 (.tmp 5) (.tmp 13)⟩,⟨none,some 6,.mov (.tmp 14)⟩])
 (.seq (.ops [⟨none,some 16,.loadN 5 (.tmp 5)⟩,⟨none,some 17,.call 83 [(.tmp 16),(.lit (.str [104,116,116,112,58,47,47,115,99,104,101,109,97,115,46,111,112,101,110,120,109,108,102,111,114,109,97,116,115,46,111,114,103,47,119,111,114,100,112,114,111,99,101,115,115,105,110,103,109,108,47,50,48,48,54,47,109,97,105,110])),(.lit (.str [118,97,108]))]⟩,⟨none,some 15,.mov (.tmp 17)⟩,⟨none,some 18,.ext (.tmp 15) 0⟩,⟨none,some 19,.ext (.tmp 15) 1⟩,⟨none,some 7,.mov (.tmp 18)⟩,⟨none,some 8,.mov (.tmp 19)⟩])
 (.seq (.ops [⟨none,some 20,.mov (.tmp 7)⟩,⟨none,some 4,.mov (.tmp 20)⟩])
 .ret)))),
 [.tmp 4],none⟩
theorem r55:Xag Tryz.prog cfg 55=some I55:=by kernel_rfl
noncomputable def I56:IF:=⟨143,(.seq (.ops [⟨none,some 2,.mov (.lit (.int .i64 0))⟩,⟨none,some 3,.mov (.lit (.int .i64 0))⟩])
 (.seq (.seq (.ops [⟨none,some 4,.mov (.lit (.int .i64 0))⟩])
 (.block 0 (.loop (some [0,4]) (.seq (.seq (.ops [⟨none,some 11,.mov (.tmp 4)⟩,⟨none,some 12,.mov (.tmp 0)⟩,⟨none,some 13,.lenL (.tmp 12)⟩,⟨none,some 14,.bin .lss (.tmp 11) (.tmp 13)⟩])
 (.cond (.tmp 14) .skip
 (.exit 0)))
 (.seq (.block 1 (.seq (.ops [⟨none,some 17,.mov (.tmp 0)⟩,⟨none,some 18,.mov (.tmp 4)⟩,⟨none,some 19,.iaddr 6 (.tmp 17) (.tmp 18)⟩,⟨none,some 20,.loadN 6 (.tmp 19)⟩,⟨none,some 5,.new 68 [.str [],.str [],.bool false,.int .i64 0,.int .i64 0,.int .i64 0]⟩,⟨none,none,.store 6 (.tmp 5) (.tmp 20)⟩])
 (.seq (.seq (.ops [⟨none,some 21,.faddr 0 (.tmp 5)⟩,⟨none,some 22,.load1 (.tmp 21)⟩,⟨none,some 23,.bin .eql (.tmp 22) (.lit (.str []))⟩,⟨none,some 24,.mov (.tmp 23)⟩,⟨(some (24,false)),some 25,.faddr 3 (.tmp 5)⟩,⟨(some (24,false)),some 26,.load1 (.tmp 25)⟩,⟨(some (24,false)),some 27,.bin .lss (.tmp 26) (.lit (.int .i64 0))⟩,⟨none,some 28,.pick (.tmp 24) (.lit (.bool true)) (.tmp 27)⟩,⟨none,some 29,.mov (.tmp 28)⟩,⟨(some (29,false)),some 30,.faddr 3 (.tmp 5)⟩,⟨(some (29,false)),some 31,.load1 (.tmp 30)⟩,⟨(some (29,false)),some 32,.bin .gtr (.tmp 31) (.lit (.int .i64 2))⟩,⟨none,some 33,.pick (.tmp 29) (.lit (.bool true)) (.tmp 32)⟩,⟨none,some 34,.mov (.tmp 33)⟩,⟨(some (34,false)),some 35,.faddr 4 (.tmp 5)⟩,⟨(some (34,false)),some 36,.load1 (.tmp 35)⟩,⟨(some (34,false)),some 37,.bin .lss (.tmp 36) (.lit (.int .i64 0))⟩,⟨none,some 38,.pick (.tmp 34) (.lit (.bool true)) (.tmp 37)⟩,⟨none,some 39,.mov (.tmp 38)⟩,⟨(some (39,false)),some 40,.faddr 4 (.tmp 5)⟩,⟨(some (39,false)),some 41,.load1 (.tmp 40)⟩,⟨(some (39,false)),some 42,.bin .gtr (.tmp 41) (.lit (.int .i64 2))⟩,⟨none,some 43,.pick (.tmp 39) (.lit (.bool true)) (.tmp 42)⟩,⟨none,some 44,.mov (.tmp 43)⟩,⟨(some (44,false)),some 45,.faddr 5 (.tmp 5)⟩,⟨(some (44,false)),some 46,.load1 (.tmp 45)⟩,⟨(some (44,false)),some 47,.bin .lss (.tmp 46) (.lit (.int .i64 0))⟩,⟨none,some 48,.pick (.tmp 44) (.lit (.bool true)) (.tmp 47)⟩,⟨none,some 49,.mov (.tmp 48)⟩,⟨(some (49,false)),some 50,.faddr 5 (.tmp 5)⟩,⟨(some (49,false)),some 51,.load1 (.tmp 50)⟩,⟨(some (49,false)),some 52,.bin .gtr (.tmp 51) (.lit (.int .i64 6))⟩,⟨none,some 53,.pick (.tmp 49) (.lit (.bool true)) (.tmp 52)⟩,⟨none,some 54,.mov (.tmp 53)⟩,⟨(some (54,false)),some 55,.faddr 2 (.tmp 5)⟩,⟨(some (54,false)),some 56,.load1 (.tmp 55)⟩,⟨(some (54,false)),some 57,.mov (.tmp 56)⟩,⟨(some (57,true)),some 58,.faddr 5 (.tmp 5)⟩,⟨(some (57,true)),some 59,.load1 (.tmp 58)⟩,⟨(some (57,true)),some 60,.bin .neq (.tmp 59) (.lit (.int .i64 0))⟩,⟨(some (54,false)),some 61,.pick (.tmp 57) (.tmp 60) (.lit (.bool false))⟩,⟨none,some 62,.pick (.tmp 54) (.lit (.bool true)) (.tmp 61)⟩])
 (.cond (.tmp 62) (.seq (.ops [⟨none,some 63,.mov (.tmp 4)⟩,⟨none,some 2,.mov (.tmp 63)⟩,⟨none,some 3,.mov (.lit (.int .i64 1))⟩])
 .ret)
 .skip))
 (.seq (.ops [⟨none,some 64,.mov (.tmp 0)⟩,⟨none,some 65,.faddr 0 (.tmp 5)⟩,⟨none,some 66,.load1 (.tmp 65)⟩,⟨none,some 67,.call 60 [(.tmp 64),(.tmp 66)]⟩,⟨none,some 68,.mov (.tmp 4)⟩,⟨none,some 69,.bin .lss (.tmp 67) (.tmp 68)⟩])
 (.cond (.tmp 69) (.seq (.ops [⟨none,some 70,.mov (.tmp 4)⟩,⟨none,some 2,.mov (.tmp 70)⟩,⟨none,some 3,.mov (.lit (.int .i64 8))⟩])
 .ret)
 .skip)))))
 (.ops [⟨none,some 15,.mov (.tmp 4)⟩,⟨none,some 16,.bin .add (.tmp 15) (.lit (.int .i64 1))⟩,⟨none,some 4,.mov (.tmp 16)⟩]))))))
 (.seq (.seq (.ops [⟨none,some 6,.mov (.lit (.int .i64 0))⟩])
 (.block 2 (.loop (some [0,6]) (.seq (.seq (.ops [⟨none,some 71,.mov (.tmp 6)⟩,⟨none,some 72,.mov (.tmp 0)⟩,⟨none,some 73,.lenL (.tmp 72)⟩,⟨none,some 74,.bin .lss (.tmp 71) (.tmp 73)⟩])
 (.cond (.tmp 74) .skip
 (.exit 2)))
 (.seq (.block 3 (.seq (.ops [⟨none,some 77,.mov (.tmp 0)⟩,⟨none,some 78,.mov (.tmp 6)⟩,⟨none,some 79,.iaddr 6 (.tmp 77) (.tmp 78)⟩,⟨none,some 80,.faddr 1 (.tmp 79)⟩,⟨none,some 81,.load1 (.tmp 80)⟩,⟨none,some 82,.bin .neq (.tmp 81) (.lit (.str []))⟩,⟨none,some 83,.mov (.tmp 82)⟩,⟨(some (83,true)),some 84,.mov (.tmp 0)⟩,⟨(some (83,true)),some 85,.mov (.tmp 0)⟩,⟨(some (83,true)),some 86,.mov (.tmp 6)⟩,⟨(some (83,true)),some 87,.iaddr 6 (.tmp 85) (.tmp 86)⟩,⟨(some (83,true)),some 88,.faddr 1 (.tmp 87)⟩,⟨(some (83,true)),some 89,.load1 (.tmp 88)⟩,⟨(some (83,true)),some 90,.call 60 [(.tmp 84),(.tmp 89)]⟩,⟨(some (83,true)),some 91,.bin .lss (.tmp 90) (.lit (.int .i64 0))⟩,⟨none,some 92,.pick (.tmp 83) (.tmp 91) (.lit (.bool false))⟩])
 (.cond (.tmp 92) (.seq (.ops [⟨none,some 93,.mov (.tmp 6)⟩,⟨none,some 2,.mov (.tmp 93)⟩,⟨none,some 3,.mov (.lit (.int .i64 7))⟩])
 .ret)
 .skip)))
 (.ops [⟨none,some 75,.mov (.tmp 6)⟩,⟨none,some 76,.bin .add (.tmp 75) (.lit (.int .i64 1))⟩,⟨none,some 6,.mov (.tmp 76)⟩]))))))
 (.seq (.seq (.ops [⟨none,some 7,.mov (.lit (.int .i64 0))⟩])
 (.block 4 (.loop (some [0,7]) (.seq (.seq (.ops [⟨none,some 94,.mov (.tmp 7)⟩,⟨none,some 95,.mov (.tmp 0)⟩,⟨none,some 96,.lenL (.tmp 95)⟩,⟨none,some 97,.bin .lss (.tmp 94) (.tmp 96)⟩])
 (.cond (.tmp 97) .skip
 (.exit 4)))
 (.seq (.block 5 (.seq (.ops [⟨none,some 100,.mov (.tmp 7)⟩,⟨none,some 8,.mov (.tmp 100)⟩])
 (.seq (.ops [⟨none,some 9,.mov (.lit (.int .i64 0))⟩])
 (.block 6 (.loop (some [0,7,8,9]) (.seq (.seq (.ops [⟨none,some 101,.mov (.tmp 0)⟩,⟨none,some 102,.mov (.tmp 8)⟩,⟨none,some 103,.iaddr 6 (.tmp 101) (.tmp 102)⟩,⟨none,some 104,.faddr 1 (.tmp 103)⟩,⟨none,some 105,.load1 (.tmp 104)⟩,⟨none,some 106,.bin .neq (.tmp 105) (.lit (.str []))⟩])
 (.cond (.tmp 106) .skip
 (.exit 6)))
 (.seq (.block 7 (.seq (.ops [⟨none,some 109,.mov (.tmp 0)⟩,⟨none,some 110,.mov (.tmp 0)⟩,⟨none,some 111,.mov (.tmp 8)⟩,⟨none,some 112,.iaddr 6 (.tmp 110) (.tmp 111)⟩,⟨none,some 113,.faddr 1 (.tmp 112)⟩,⟨none,some 114,.load1 (.tmp 113)⟩,⟨none,some 115,.call 60 [(.tmp 109),(.tmp 114)]⟩,⟨none,some 10,.mov (.tmp 115)⟩])
 (.seq (.seq (.draw [] [⟨⟨none,some 116,.mov (.tmp 8)⟩,none,true,[],[]⟩,⟨⟨none,some 117,.mov (.tmp 7)⟩,none,true,[],[]⟩,⟨⟨none,some 118,.bin .eql (.tmp 116) (.tmp 117)⟩,none,true,[],[]⟩,⟨⟨none,some 119,.mov (.tmp 118)⟩,none,true,[],[]⟩,⟨⟨(some (119,true)),some 120,.mov (.tmp 0)⟩,none,true,[],[]⟩,⟨⟨(some (119,true)),some 121,.mov (.tmp 10)⟩,none,true,[],[]⟩,⟨⟨(some (119,true)),some 122,.iaddr 6 (.tmp 120) (.tmp 121)⟩,none,true,[],[]⟩,⟨⟨(some (119,true)),some 123,.faddr 2 (.tmp 122)⟩,none,true,[],[]⟩,⟨⟨(some (119,true)),some 124,.load1 (.tmp 123)⟩,none,true,[],[]⟩,⟨⟨(some (119,true)),some 125,.mov (.tmp 0)⟩,none,true,[],[]⟩,⟨⟨(some (119,true)),some 126,.mov (.tmp 8)⟩,none,true,[],[]⟩,⟨⟨(some (119,true)),some 127,.iaddr 6 (.tmp 125) (.tmp 126)⟩,none,true,[],[]⟩,⟨⟨(some (119,true)),some 128,.faddr 2 (.tmp 127)⟩,none,true,[],[]⟩,⟨⟨(some (119,true)),some 129,.load1 (.tmp 128)⟩,none,true,[],[]⟩,⟨⟨(some (119,true)),some 130,.eqb true (.tmp 124) (.tmp 129)⟩,none,true,[],[]⟩,⟨⟨none,some 131,.pick (.tmp 119) (.tmp 130) (.lit (.bool false))⟩,none,true,[],[]⟩,⟨⟨none,some 132,.mov (.tmp 131)⟩,none,true,[],[]⟩,⟨⟨(some (132,false)),some 133,.mov (.tmp 10)⟩,none,true,[],[]⟩,⟨⟨(some (132,false)),some 134,.mov (.tmp 7)⟩,none,true,[],[]⟩,⟨⟨(some (132,false)),some 135,.bin .eql (.tmp 133) (.tmp 134)⟩,none,true,[],[]⟩,⟨⟨none,some 136,.pick (.tmp 132) (.lit (.bool true)) (.tmp 135)⟩,none,true,[],[]⟩])
 (.cond (.tmp 136) (.seq (.ops [⟨none,some 137,.mov (.tmp 7)⟩,⟨none,some 2,.mov (.tmp 137)⟩,⟨none,some 3,.mov (.lit (.int .i64 16))⟩])
 .ret)
 .skip))
 (.seq (.seq (.ops [⟨none,some 138,.mov (.tmp 9)⟩,⟨none,some 139,.mov (.tmp 0)⟩,⟨none,some 140,.lenL (.tmp 139)⟩,⟨none,some 141,.bin .gtr (.tmp 138) (.tmp 140)⟩])
 (.cond (.tmp 141) (.exit 6)
 .skip))
 (.ops [⟨none,some 142,.mov (.tmp 10)⟩,⟨none,some 8,.mov (.tmp 142)⟩])))))
 (.ops [⟨none,some 107,.mov (.tmp 9)⟩,⟨none,some 108,.bin .add (.tmp 107) (.lit (.int .i64 1))⟩,⟨none,some 9,.mov (.tmp 108)⟩]))))))))
 (.ops [⟨none,some 98,.mov (.tmp 7)⟩,⟨none,some 99,.bin .add (.tmp 98) (.lit (.int .i64 1))⟩,⟨none,some 7,.mov (.tmp 99)⟩]))))))
 (.seq (.ops [⟨none,some 2,.mov (.lit (.int .i64 (-1)))⟩,⟨none,some 3,.mov (.lit (.int .i64 0))⟩])
 .ret))))),
 [.tmp 2,.tmp 3],none⟩
theorem r56:Xag Tryz.prog cfg 56=some I56:=by kernel_rfl
noncomputable def I60:IF:=⟨20,(.seq (.ops [⟨none,some 4,.mov (.lit (.int .i64 0))⟩])
 (.seq (.seq (.ops [⟨none,some 5,.mov (.lit (.int .i64 0))⟩])
 (.block 0 (.loop (some [0,1,5]) (.seq (.seq (.ops [⟨none,some 6,.mov (.tmp 5)⟩,⟨none,some 7,.mov (.tmp 0)⟩,⟨none,some 8,.lenL (.tmp 7)⟩,⟨none,some 9,.bin .lss (.tmp 6) (.tmp 8)⟩])
 (.cond (.tmp 9) .skip
 (.exit 0)))
 (.seq (.block 1 (.seq (.ops [⟨none,some 12,.mov (.tmp 0)⟩,⟨none,some 13,.mov (.tmp 5)⟩,⟨none,some 14,.iaddr 6 (.tmp 12) (.tmp 13)⟩,⟨none,some 15,.faddr 0 (.tmp 14)⟩,⟨none,some 16,.load1 (.tmp 15)⟩,⟨none,some 17,.mov (.tmp 1)⟩,⟨none,some 18,.bin .eql (.tmp 16) (.tmp 17)⟩])
 (.cond (.tmp 18) (.seq (.ops [⟨none,some 19,.mov (.tmp 5)⟩,⟨none,some 4,.mov (.tmp 19)⟩])
 .ret)
 .skip)))
 (.ops [⟨none,some 10,.mov (.tmp 5)⟩,⟨none,some 11,.bin .add (.tmp 10) (.lit (.int .i64 1))⟩,⟨none,some 5,.mov (.tmp 11)⟩]))))))
 (.seq (.ops [⟨none,some 4,.mov (.lit (.int .i64 (-1)))⟩])
 .ret))),
 [.tmp 4],none⟩
theorem r60:Xag Tryz.prog cfg 60=some I60:=by kernel_rfl
noncomputable def I65:IF:=⟨30,(.seq (.ops [⟨none,some 3,.box 25 (.tmp 0)⟩,⟨none,some 6,.mov (.lit (.str []))⟩,⟨none,some 7,.mov (.lit (.bool false))⟩])
 (.seq (.seq (.ops [⟨none,some 10,.faddr 3 (.tmp 3)⟩,⟨none,some 11,.load1 (.tmp 10)⟩,⟨none,some 12,.lenL (.tmp 11)⟩,⟨none,some 13,.mov (.lit (.int .i64 0))⟩])
 (.block 0 (.loop (some [1,2,11,12,13]) (.seq (.ops [⟨none,some 14,.bin .lss (.tmp 13) (.tmp 12)⟩])
 (.seq (.cond (.tmp 14) .skip
 (.exit 0))
 (.seq (.block 1 (.seq (.ops [⟨none,some 15,.iaddr 3 (.tmp 11) (.tmp 13)⟩,⟨none,some 16,.loadN 3 (.tmp 15)⟩,⟨none,some 9,.new 66 [.str [],.str [],.str []]⟩,⟨none,none,.store 3 (.tmp 9) (.tmp 16)⟩])
 (.seq (.ops [⟨none,some 17,.faddr 0 (.tmp 9)⟩,⟨none,some 18,.load1 (.tmp 17)⟩,⟨none,some 19,.mov (.tmp 1)⟩,⟨none,some 20,.bin .eql (.tmp 18) (.tmp 19)⟩,⟨none,some 21,.mov (.tmp 20)⟩,⟨(some (21,true)),some 22,.faddr 1 (.tmp 9)⟩,⟨(some (21,true)),some 23,.load1 (.tmp 22)⟩,⟨(some (21,true)),some 24,.mov (.tmp 2)⟩,⟨(some (21,true)),some 25,.bin .eql (.tmp 23) (.tmp 24)⟩,⟨none,some 26,.pick (.tmp 21) (.tmp 25) (.lit (.bool false))⟩])
 (.cond (.tmp 26) (.seq (.ops [⟨none,some 27,.faddr 2 (.tmp 9)⟩,⟨none,some 28,.load1 (.tmp 27)⟩,⟨none,some 6,.mov (.tmp 28)⟩,⟨none,some 7,.mov (.lit (.bool true))⟩])
 .ret)
 .skip))))
 (.ops [⟨none,some 29,.bin .add (.tmp 13) (.lit (.int .i64 1))⟩,⟨none,some 13,.mov (.tmp 29)⟩])))))))
 (.seq (.ops [⟨none,some 6,.mov (.lit (.str []))⟩,⟨none,some 7,.mov (.lit (.bool false))⟩])
 .ret))),
 [.tmp 6,.tmp 7],none⟩
theorem r65:Xag Tryz.prog cfg 65=some I65:=by kernel_rfl
noncomputable def I68:IF:=⟨45,(.seq (.ops [⟨none,some 1,.box 68 (.tmp 0)⟩,⟨none,some 2,.mov (.lit (.bool false))⟩])
 (.seq (.ops [⟨none,some 3,.faddr 0 (.tmp 1)⟩,⟨none,some 4,.load1 (.tmp 3)⟩,⟨none,some 5,.bin .eql (.tmp 4) (.lit (.str []))⟩,⟨none,some 6,.mov (.tmp 5)⟩,⟨(some (6,false)),some 7,.faddr 3 (.tmp 1)⟩,⟨(some (6,false)),some 8,.load1 (.tmp 7)⟩,⟨(some (6,false)),some 9,.bin .lss (.tmp 8) (.lit (.int .i64 0))⟩,⟨none,some 10,.pick (.tmp 6) (.lit (.bool true)) (.tmp 9)⟩,⟨none,some 11,.mov (.tmp 10)⟩,⟨(some (11,false)),some 12,.faddr 3 (.tmp 1)⟩,⟨(some (11,false)),some 13,.load1 (.tmp 12)⟩,⟨(some (11,false)),some 14,.bin .gtr (.tmp 13) (.lit (.int .i64 2))⟩,⟨none,some 15,.pick (.tmp 11) (.lit (.bool true)) (.tmp 14)⟩,⟨none,some 16,.mov (.tmp 15)⟩,⟨(some (16,false)),some 17,.faddr 4 (.tmp 1)⟩,⟨(some (16,false)),some 18,.load1 (.tmp 17)⟩,⟨(some (16,false)),some 19,.bin .lss (.tmp 18) (.lit (.int .i64 0))⟩,⟨none,some 20,.pick (.tmp 16) (.lit (.bool true)) (.tmp 19)⟩,⟨none,some 21,.mov (.tmp 20)⟩,⟨(some (21,false)),some 22,.faddr 4 (.tmp 1)⟩,⟨(some (21,false)),some 23,.load1 (.tmp 22)⟩,⟨(some (21,false)),some 24,.bin .gtr (.tmp 23) (.lit (.int .i64 2))⟩,⟨none,some 25,.pick (.tmp 21) (.lit (.bool true)) (.tmp 24)⟩,⟨none,some 26,.mov (.tmp 25)⟩,⟨(some (26,false)),some 27,.faddr 5 (.tmp 1)⟩,⟨(some (26,false)),some 28,.load1 (.tmp 27)⟩,⟨(some (26,false)),some 29,.bin .lss (.tmp 28) (.lit (.int .i64 0))⟩,⟨none,some 30,.pick (.tmp 26) (.lit (.bool true)) (.tmp 29)⟩,⟨none,some 31,.mov (.tmp 30)⟩,⟨(some (31,false)),some 32,.faddr 5 (.tmp 1)⟩,⟨(some (31,false)),some 33,.load1 (.tmp 32)⟩,⟨(some (31,false)),some 34,.bin .gtr (.tmp 33) (.lit (.int .i64 6))⟩,⟨none,some 35,.pick (.tmp 31) (.lit (.bool true)) (.tmp 34)⟩,⟨none,some 36,.mov (.tmp 35)⟩,⟨(some (36,false)),some 37,.faddr 2 (.tmp 1)⟩,⟨(some (36,false)),some 38,.load1 (.tmp 37)⟩,⟨(some (36,false)),some 39,.mov (.tmp 38)⟩,⟨(some (39,true)),some 40,.faddr 5 (.tmp 1)⟩,⟨(some (39,true)),some 41,.load1 (.tmp 40)⟩,⟨(some (39,true)),some 42,.bin .gtr (.tmp 41) (.lit (.int .i64 0))⟩,⟨(some (36,false)),some 43,.pick (.tmp 39) (.tmp 42) (.lit (.bool false))⟩,⟨none,some 44,.pick (.tmp 36) (.lit (.bool true)) (.tmp 43)⟩,⟨none,some 2,.mov (.tmp 44)⟩])
 .ret)),
 [.tmp 2],none⟩
theorem r68:Xag Tryz.prog cfg 68=some I68:=by kernel_rfl
noncomputable def I69:IF:=⟨53,(.seq (.ops [⟨none,some 3,.box 68 (.tmp 1)⟩,⟨none,some 4,.mov (.lit (.int .i64 0))⟩])
 (.seq (.ops [⟨none,some 5,.mov (.tmp 3)⟩])
 (.seq (.seq (.ops [⟨none,some 7,.mov (.tmp 0)⟩,⟨none,some 8,.lenL (.tmp 7)⟩,⟨none,some 9,.mov (.lit (.int .i64 0))⟩])
 (.block 0 (.loop (some [0,3,5,8,9]) (.seq (.ops [⟨none,some 10,.bin .lss (.tmp 9) (.tmp 8)⟩])
 (.seq (.cond (.tmp 10) .skip
 (.exit 0))
 (.seq (.block 1 (.seq (.ops [⟨none,some 11,.mov (.tmp 0)⟩,⟨none,some 12,.mov (.tmp 5)⟩,⟨none,some 13,.nchk (.tmp 12)⟩,⟨none,some 14,.faddr 1 (.tmp 13)⟩,⟨none,some 15,.load1 (.tmp 14)⟩,⟨none,some 16,.call 102 [(.tmp 11),(.tmp 15)]⟩,⟨none,some 6,.mov (.tmp 16)⟩])
 (.seq (.seq (.ops [⟨none,some 17,.mov (.tmp 5)⟩,⟨none,some 18,.nchk (.tmp 17)⟩,⟨none,some 19,.faddr 1 (.tmp 18)⟩,⟨none,some 20,.load1 (.tmp 19)⟩,⟨none,some 21,.bin .eql (.tmp 20) (.lit (.str []))⟩,⟨none,some 22,.mov (.tmp 21)⟩,⟨(some (22,false)),some 23,.mov (.tmp 6)⟩,⟨(some (22,false)),some 24,.nilT false 0 (.tmp 23)⟩,⟨none,some 25,.pick (.tmp 22) (.lit (.bool true)) (.tmp 24)⟩])
 (.cond (.tmp 25) (.seq (.ops [⟨none,some 4,.mov (.lit (.int .i64 0))⟩])
 .ret)
 .skip))
 (.seq (.seq (.draw [] [⟨⟨none,some 26,.mov (.tmp 5)⟩,none,true,[],[]⟩,⟨⟨none,some 27,.nchk (.tmp 26)⟩,none,true,[],[]⟩,⟨⟨none,some 28,.faddr 0 (.tmp 27)⟩,none,true,[],[]⟩,⟨⟨none,some 29,.load1 (.tmp 28)⟩,none,true,[],[]⟩,⟨⟨none,some 30,.faddr 0 (.tmp 3)⟩,none,true,[],[]⟩,⟨⟨none,some 31,.load1 (.tmp 30)⟩,none,true,[],[]⟩,⟨⟨none,some 32,.bin .eql (.tmp 29) (.tmp 31)⟩,none,true,[],[]⟩,⟨⟨none,some 33,.mov (.tmp 32)⟩,none,true,[],[]⟩,⟨⟨(some (33,true)),some 34,.mov (.tmp 6)⟩,none,true,[],[]⟩,⟨⟨(some (33,true)),some 35,.nchk (.tmp 34)⟩,none,true,[],[]⟩,⟨⟨(some (33,true)),some 36,.faddr 2 (.tmp 35)⟩,none,true,[],[]⟩,⟨⟨(some (33,true)),some 37,.load1 (.tmp 36)⟩,none,true,[],[]⟩,⟨⟨(some (33,true)),some 38,.faddr 2 (.tmp 3)⟩,none,true,[],[]⟩,⟨⟨(some (33,true)),some 39,.load1 (.tmp 38)⟩,none,true,[],[]⟩,⟨⟨(some (33,true)),some 40,.eqb true (.tmp 37) (.tmp 39)⟩,none,true,[],[]⟩,⟨⟨none,some 41,.pick (.tmp 33) (.tmp 40) (.lit (.bool false))⟩,none,true,[],[]⟩,⟨⟨none,some 42,.mov (.tmp 41)⟩,none,true,[],[]⟩,⟨⟨(some (42,false)),some 43,.mov (.tmp 6)⟩,none,true,[],[]⟩,⟨⟨(some (42,false)),some 44,.nchk (.tmp 43)⟩,none,true,[],[]⟩,⟨⟨(some (42,false)),some 45,.faddr 0 (.tmp 44)⟩,none,true,[],[]⟩,⟨⟨(some (42,false)),some 46,.load1 (.tmp 45)⟩,none,true,[],[]⟩,⟨⟨(some (42,false)),some 47,.faddr 0 (.tmp 3)⟩,none,true,[],[]⟩,⟨⟨(some (42,false)),some 48,.load1 (.tmp 47)⟩,none,true,[],[]⟩,⟨⟨(some (42,false)),some 49,.bin .eql (.tmp 46) (.tmp 48)⟩,none,true,[],[]⟩,⟨⟨none,some 50,.pick (.tmp 42) (.lit (.bool true)) (.tmp 49)⟩,none,true,[],[]⟩])
 (.cond (.tmp 50) (.seq (.ops [⟨none,some 4,.mov (.lit (.int .i64 16))⟩])
 .ret)
 .skip))
 (.ops [⟨none,some 51,.mov (.tmp 6)⟩,⟨none,some 5,.mov (.tmp 51)⟩])))))
 (.ops [⟨none,some 52,.bin .add (.tmp 9) (.lit (.int .i64 1))⟩,⟨none,some 9,.mov (.tmp 52)⟩])))))))
 (.seq (.ops [⟨none,some 4,.mov (.lit (.int .i64 0))⟩])
 .ret)))),
 [.tmp 4],none⟩
theorem r69:Xag Tryz.prog cfg 69=some I69:=by kernel_rfl
noncomputable def I71:IF:=⟨74,(.seq (.ops [⟨none,some 2,.mov (.lit (.nilS))⟩])
 (.seq (.ops [⟨none,some 3,.mov (.lit (.nilS))⟩])
 (.seq (.seq (.ops [⟨none,some 7,.mov (.tmp 0)⟩,⟨none,some 8,.lenL (.tmp 7)⟩,⟨none,some 9,.mov (.lit (.int .i64 0))⟩])
 (.block 0 (.loop (some [3,7,8,9]) (.seq (.ops [⟨none,some 10,.bin .lss (.tmp 9) (.tmp 8)⟩])
 (.seq (.cond (.tmp 10) .skip
 (.exit 0))
 (.seq (.block 1 (.seq (.ops [⟨none,some 11,.iaddr 9 (.tmp 7) (.tmp 9)⟩,⟨none,some 12,.loadN 9 (.tmp 11)⟩,⟨none,some 5,.new 43 [.int .i64 0,.int .i64 0,.str [],.str [],.str [],.bool false,.str [],.str [],.int .i64 0]⟩,⟨none,none,.store 9 (.tmp 5) (.tmp 12)⟩])
 (.seq (.seq (.ops [⟨none,some 13,.mov (.tmp 3)⟩,⟨none,some 14,.lenL (.tmp 13)⟩,⟨none,some 15,.bin .sub (.tmp 14) (.lit (.int .i64 1))⟩,⟨none,some 6,.mov (.tmp 15)⟩])
 (.seq (.draw [] [⟨⟨none,some 16,.mov (.tmp 6)⟩,none,true,[],[]⟩,⟨⟨none,some 17,.bin .geq (.tmp 16) (.lit (.int .i64 0))⟩,none,true,[],[]⟩,⟨⟨none,some 18,.mov (.tmp 17)⟩,none,true,[],[]⟩,⟨⟨(some (18,true)),some 19,.faddr 0 (.tmp 5)⟩,none,true,[],[]⟩,⟨⟨(some (18,true)),some 20,.load1 (.tmp 19)⟩,none,true,[],[]⟩,⟨⟨(some (18,true)),some 21,.bin .eql (.tmp 20) (.lit (.int .i64 1))⟩,none,true,[],[]⟩,⟨⟨(some (18,true)),some 22,.mov (.tmp 21)⟩,none,true,[],[]⟩,⟨⟨(some (22,false)),some 23,.faddr 0 (.tmp 5)⟩,none,true,[],[]⟩,⟨⟨(some (22,false)),some 24,.load1 (.tmp 23)⟩,none,true,[],[]⟩,⟨⟨(some (22,false)),some 25,.bin .eql (.tmp 24) (.lit (.int .i64 2))⟩,none,true,[],[]⟩,⟨⟨(some (18,true)),some 26,.pick (.tmp 22) (.lit (.bool true)) (.tmp 25)⟩,none,true,[],[]⟩,⟨⟨none,some 27,.pick (.tmp 18) (.tmp 26) (.lit (.bool false))⟩,none,true,[],[]⟩,⟨⟨none,some 28,.mov (.tmp 27)⟩,none,true,[],[]⟩,⟨⟨(some (28,true)),some 29,.mov (.tmp 3)⟩,none,true,[],[]⟩,⟨⟨(some (28,true)),some 30,.mov (.tmp 6)⟩,none,true,[],[]⟩,⟨⟨(some (28,true)),some 31,.iaddr 9 (.tmp 29) (.tmp 30)⟩,none,true,[],[]⟩,⟨⟨(some (28,true)),some 32,.faddr 0 (.tmp 31)⟩,none,true,[],[]⟩,⟨⟨(some (28,true)),some 33,.load1 (.tmp 32)⟩,none,true,[],[]⟩,⟨⟨(some (28,true)),some 34,.faddr 0 (.tmp 5)⟩,none,true,[],[]⟩,⟨⟨(some (28,true)),some 35,.load1 (.tmp 34)⟩,none,true,[],[]⟩,⟨⟨(some (28,true)),some 36,.bin .eql (.tmp 33) (.tmp 35)⟩,none,true,[],[]⟩,⟨⟨none,some 37,.pick (.tmp 28) (.tmp 36) (.lit (.bool false))⟩,none,true,[],[]⟩,⟨⟨none,some 38,.mov (.tmp 37)⟩,none,true,[],[]⟩,⟨⟨(some (38,true)),some 39,.mov (.tmp 3)⟩,none,true,[],[]⟩,⟨⟨(some (38,true)),some 40,.mov (.tmp 6)⟩,none,true,[],[]⟩,⟨⟨(some (38,true)),some 41,.iaddr 9 (.tmp 39) (.tmp 40)⟩,none,true,[],[]⟩,⟨⟨(some (38,true)),some 42,.faddr 1 (.tmp 41)⟩,none,true,[],[]⟩,⟨⟨(some (38,true)),some 43,.load1 (.tmp 42)⟩,none,true,[],[]⟩,⟨⟨(some (38,true)),some 44,.faddr 1 (.tmp 5)⟩,none,true,[],[]⟩,⟨⟨(some (38,true)),some 45,.load1 (.tmp 44)⟩,none,true,[],[]⟩,⟨⟨(some (38,true)),some 46,.bin .eql (.tmp 43) (.tmp 45)⟩,none,true,[],[]⟩,⟨⟨none,some 47,.pick (.tmp 38) (.tmp 46) (.lit (.bool false))⟩,none,true,[],[]⟩,⟨⟨none,some 48,.mov (.tmp 47)⟩,none,true,[],[]⟩,⟨⟨(some (48,true)),some 49,.mov (.tmp 3)⟩,none,true,[],[]⟩,⟨⟨(some (48,true)),some 50,.mov (.tmp 6)⟩,none,true,[],[]⟩,⟨⟨(some (48,true)),some 51,.iaddr 9 (.tmp 49) (.tmp 50)⟩,none,true,[],[]⟩,⟨⟨(some (48,true)),some 52,.faddr 8 (.tmp 51)⟩,none,true,[],[]⟩,⟨⟨(some (48,true)),some 53,.load1 (.tmp 52)⟩,none,true,[],[]⟩,⟨⟨(some (48,true)),some 54,.faddr 8 (.tmp 5)⟩,none,true,[],[]⟩,⟨⟨(some (48,true)),some 55,.load1 (.tmp 54)⟩,none,true,[],[]⟩,⟨⟨(some (48,true)),some 56,.bin .eql (.tmp 53) (.tmp 55)⟩,none,true,[],[]⟩,⟨⟨none,some 57,.pick (.tmp 48) (.tmp 56) (.lit (.bool false))⟩,none,true,[],[]⟩])
 (.cond (.tmp 57) (.seq (.draw [] [⟨⟨none,some 58,.mov (.tmp 3)⟩,none,true,[],[]⟩,⟨⟨none,some 59,.mov (.tmp 6)⟩,none,true,[],[]⟩,⟨⟨none,some 60,.iaddr 9 (.tmp 58) (.tmp 59)⟩,none,true,[],[]⟩,⟨⟨none,some 61,.faddr 2 (.tmp 60)⟩,none,true,[],[]⟩,⟨⟨none,some 62,.load1 (.tmp 61)⟩,none,true,[],[]⟩,⟨⟨none,some 63,.faddr 2 (.tmp 5)⟩,none,true,[],[]⟩,⟨⟨none,some 64,.load1 (.tmp 63)⟩,none,true,[],[]⟩,⟨⟨none,some 65,.bin .add (.tmp 62) (.tmp 64)⟩,none,true,[],[]⟩,⟨⟨none,some 66,.iaddr 9 (.tmp 58) (.tmp 59)⟩,none,true,[],[]⟩,⟨⟨none,some 67,.faddr 2 (.tmp 66)⟩,none,true,[],[]⟩,⟨⟨none,none,.store 1 (.tmp 67) (.tmp 65)⟩,none,true,[],[]⟩])
 (.exit 1))
 .skip)))
 (.ops [⟨none,some 68,.mov (.tmp 3)⟩,⟨none,some 69,.loadN 9 (.tmp 5)⟩,⟨none,some 70,.bldS 43 9 1 [.int .i64 0,.int .i64 0,.str [],.str [],.str [],.bool false,.str [],.str [],.int .i64 0] [(0,9,(.tmp 69))]⟩,⟨none,some 71,.app 43 9 (.tmp 68) (.tmp 70)⟩,⟨none,some 3,.mov (.tmp 71)⟩]))))
 (.ops [⟨none,some 72,.bin .add (.tmp 9) (.lit (.int .i64 1))⟩,⟨none,some 9,.mov (.tmp 72)⟩])))))))
 (.seq (.ops [⟨none,some 73,.mov (.tmp 3)⟩,⟨none,some 2,.mov (.tmp 73)⟩])
 .ret)))),
 [.tmp 2],none⟩
theorem r71:Xag Tryz.prog cfg 71=some I71:=by kernel_rfl
noncomputable def I72:IF:=⟨77,(.seq (.ops [⟨none,some 7,.box 43 (.tmp 3)⟩,⟨none,some 8,.mov (.lit (.nilS))⟩])
 (.seq (.ops [⟨none,some 9,.mov (.lit (.nilS))⟩])
 (.seq (.seq (.ops [⟨none,some 14,.mov (.tmp 1)⟩,⟨none,some 15,.lenL (.tmp 14)⟩,⟨none,some 16,.mov (.lit (.int .i64 0))⟩])
 (.block 0 (.loop (some [0,2,7,9,14,15,16]) (.seq (.ops [⟨none,some 17,.bin .lss (.tmp 16) (.tmp 15)⟩])
 (.seq (.cond (.tmp 17) .skip
 (.exit 0))
 (.seq (.block 1 (.seq (.ops [⟨none,some 18,.iaddr 5 (.tmp 14) (.tmp 16)⟩,⟨none,some 19,.loadN 5 (.tmp 18)⟩,⟨none,some 11,.new 25 [.str [],.str [],.str [],.nilS,.nilS]⟩,⟨none,none,.store 5 (.tmp 11) (.tmp 19)⟩])
 (.seq (.seq (.ops [⟨none,some 20,.faddr 0 (.tmp 11)⟩,⟨none,some 21,.load1 (.tmp 20)⟩,⟨none,some 22,.bin .neq (.tmp 21) (.lit (.str [104,116,116,112,58,47,47,115,99,104,101,109,97,115,46,111,112,101,110,120,109,108,102,111,114,109,97,116,115,46,111,114,103,47,119,111,114,100,112,114,111,99,101,115,115,105,110,103,109,108,47,50,48,48,54,47,109,97,105,110]))⟩])
 (.cond (.tmp 22) (.exit 1)
 .skip))
 (.seq (.ops [⟨none,some 23,.faddr 1 (.tmp 11)⟩,⟨none,some 24,.load1 (.tmp 23)⟩])
 (.block 2 (.seq (.ops [⟨none,some 26,.bin .eql (.tmp 24) (.lit (.str [114]))⟩,⟨none,some 25,.mov (.tmp 26)⟩])
 (.cond (.tmp 25) (.seq (.ops [⟨none,some 27,.mov (.tmp 0)⟩,⟨none,some 28,.loadN 5 (.tmp 11)⟩,⟨none,some 29,.mov (.tmp 2)⟩,⟨none,some 30,.call 103 [(.tmp 27),(.tmp 28),(.tmp 29)]⟩,⟨none,some 31,.lenL (.tmp 30)⟩,⟨none,some 32,.mov (.lit (.int .i64 0))⟩])
 (.block 3 (.loop (some [0,2,7,9,14,15,16,30,31,32]) (.seq (.ops [⟨none,some 33,.bin .lss (.tmp 32) (.tmp 31)⟩])
 (.seq (.cond (.tmp 33) .skip
 (.exit 3))
 (.seq (.block 4 (.seq (.ops [⟨none,some 34,.iaddr 9 (.tmp 30) (.tmp 32)⟩,⟨none,some 35,.loadN 9 (.tmp 34)⟩,⟨none,some 13,.new 43 [.int .i64 0,.int .i64 0,.str [],.str [],.str [],.bool false,.str [],.str [],.int .i64 0]⟩,⟨none,none,.store 9 (.tmp 13) (.tmp 35)⟩])
 (.seq (.draw [] [⟨⟨none,some 36,.faddr 5 (.tmp 7)⟩,none,true,[],[]⟩,⟨⟨none,some 37,.load1 (.tmp 36)⟩,none,true,[],[]⟩,⟨⟨none,some 38,.faddr 6 (.tmp 7)⟩,none,true,[],[]⟩,⟨⟨none,some 39,.load1 (.tmp 38)⟩,none,true,[],[]⟩,⟨⟨none,some 40,.faddr 7 (.tmp 7)⟩,none,true,[],[]⟩,⟨⟨none,some 41,.load1 (.tmp 40)⟩,none,true,[],[]⟩,⟨⟨none,some 42,.faddr 8 (.tmp 7)⟩,none,true,[],[]⟩,⟨⟨none,some 43,.load1 (.tmp 42)⟩,none,true,[],[]⟩,⟨⟨none,some 44,.faddr 5 (.tmp 13)⟩,none,true,[],[]⟩,⟨⟨none,none,.store 1 (.tmp 44) (.tmp 37)⟩,none,false,[3,5,7],[]⟩,⟨⟨none,some 45,.faddr 6 (.tmp 13)⟩,none,true,[],[]⟩,⟨⟨none,none,.store 1 (.tmp 45) (.tmp 39)⟩,none,false,[5,7],[]⟩,⟨⟨none,some 46,.faddr 7 (.tmp 13)⟩,none,true,[],[]⟩,⟨⟨none,none,.store 1 (.tmp 46) (.tmp 41)⟩,none,false,[7],[]⟩,⟨⟨none,some 47,.faddr 8 (.tmp 13)⟩,none,true,[],[]⟩,⟨⟨none,none,.store 1 (.tmp 47) (.tmp 43)⟩,none,true,[],[]⟩])
 (.ops [⟨none,some 48,.mov (.tmp 9)⟩,⟨none,some 49,.loadN 9 (.tmp 13)⟩,⟨none,some 50,.bldS 43 9 1 [.int .i64 0,.int .i64 0,.str [],.str [],.str [],.bool false,.str [],.str [],.int .i64 0] [(0,9,(.tmp 49))]⟩,⟨none,some 51,.app 43 9 (.tmp 48) (.tmp 50)⟩,⟨none,some 9,.mov (.tmp 51)⟩]))))
 (.ops [⟨none,some 52,.bin .add (.tmp 32) (.lit (.int .i64 1))⟩,⟨none,some 32,.mov (.tmp 52)⟩])))))))
 (.seq (.seq (.ops [⟨none,some 54,.bin .eql (.tmp 24) (.lit (.str [115,109,97,114,116,84,97,103]))⟩,⟨none,some 53,.mov (.tmp 54)⟩])
 (.cond (.tmp 53) .skip
 (.ops [⟨none,some 55,.bin .eql (.tmp 24) (.lit (.str [105,110,115]))⟩,⟨none,some 53,.mov (.tmp 55)⟩])))
 (.cond (.tmp 53) (.ops [⟨none,some 56,.mov (.tmp 9)⟩,⟨none,some 57,.mov (.tmp 0)⟩,⟨none,some 58,.faddr 4 (.tmp 11)⟩,⟨none,some 59,.load1 (.tmp 58)⟩,⟨none,some 60,.mov (.tmp 2)⟩,⟨none,some 61,.loadN 9 (.tmp 7)⟩,⟨none,some 62,.call 72 [(.tmp 57),(.tmp 59),(.tmp 60),(.tmp 61)]⟩,⟨none,some 63,.app 43 9 (.tmp 56) (.tmp 62)⟩,⟨none,some 9,.mov (.tmp 63)⟩])
 (.seq (.ops [⟨none,some 65,.bin .eql (.tmp 24) (.lit (.str [104,121,112,101,114,108,105,110,107]))⟩,⟨none,some 64,.mov (.tmp 65)⟩])
 (.cond (.tmp 64) (.seq (.ops [⟨none,some 66,.faddr 5 (.tmp 7)⟩,⟨none,some 67,.load1 (.tmp 66)⟩,⟨none,some 68,.un .not (.tmp 67)⟩])
 (.cond (.tmp 68) (.ops [⟨none,some 69,.mov (.tmp 9)⟩,⟨none,some 70,.mov (.tmp 0)⟩,⟨none,some 71,.loadN 5 (.tmp 11)⟩,⟨none,some 72,.mov (.tmp 2)⟩,⟨none,some 73,.call 104 [(.tmp 70),(.tmp 71),(.tmp 72)]⟩,⟨none,some 74,.app 43 9 (.tmp 69) (.tmp 73)⟩,⟨none,some 9,.mov (.tmp 74)⟩])
 .skip))
 .skip)))))))))))
 (.ops [⟨none,some 75,.bin .add (.tmp 16) (.lit (.int .i64 1))⟩,⟨none,some 16,.mov (.tmp 75)⟩])))))))
 (.seq (.ops [⟨none,some 76,.mov (.tmp 9)⟩,⟨none,some 8,.mov (.tmp 76)⟩])
 .ret)))),
 [.tmp 8],none⟩
theorem r72:Xag Tryz.prog cfg 72=some I72:=by kernel_rfl
noncomputable def I73:IF:=⟨25,(.seq (.ops [⟨none,some 6,.mov (.lit (.int .i64 0))⟩,⟨none,some 7,.mov (.lit (.nilI))⟩])
 (.seq (.ops [⟨none,some 10,.mov (.tmp 0)⟩,⟨none,some 11,.mov (.tmp 1)⟩,⟨none,some 12,.mov (.tmp 2)⟩,⟨none,some 13,.call 105 [(.tmp 10),(.tmp 11),(.tmp 12)]⟩,⟨none,some 9,.mov (.tmp 13)⟩,⟨none,some 14,.ext (.tmp 9) 0⟩,⟨none,some 15,.ext (.tmp 9) 1⟩,⟨none,some 8,.mov (.tmp 14)⟩,⟨none,some 7,.mov (.tmp 15)⟩])
 (.seq (.seq (.ops [⟨none,some 16,.mov (.tmp 7)⟩,⟨none,some 17,.nilT true 4 (.tmp 16)⟩])
 (.cond (.tmp 17) (.seq (.ops [⟨none,some 18,.mov (.tmp 8)⟩,⟨none,some 19,.mov (.tmp 0)⟩,⟨none,some 20,.mov (.tmp 1)⟩,⟨none,some 21,.mov (.tmp 2)⟩,⟨none,some 22,.mov (.tmp 7)⟩,⟨none,some 23,.call 101 [(.lit (.str [80,97,114,115,101,73,110,116])),(.tmp 19),(.tmp 20),(.tmp 21),(.tmp 22)]⟩,⟨none,some 6,.mov (.tmp 18)⟩,⟨none,some 7,.mov (.tmp 23)⟩])
 .ret)
 .skip))
 (.seq (.ops [⟨none,some 24,.mov (.tmp 8)⟩,⟨none,some 6,.mov (.tmp 24)⟩,⟨none,some 7,.mov (.lit (.nilI))⟩])
 .ret)))),
 [.tmp 6,.tmp 7],none⟩
theorem r73:Xag Tryz.prog cfg 73=some I73:=by kernel_rfl
noncomputable def I74:IF:=⟨17,(.seq (.ops [⟨none,some 2,.mov (.lit (.bool false))⟩])
 (.seq (.block 0 (.seq (.ops [⟨none,some 4,.mov (.tmp 0)⟩,⟨none,some 5,.bin .leq (.lit (.int .i32 (0))) (.tmp 4)⟩,⟨none,some 6,.mov (.tmp 5)⟩,⟨(some (6,true)),some 7,.mov (.tmp 0)⟩,⟨(some (6,true)),some 8,.bin .lss (.tmp 7) (.lit (.int .i32 (55296)))⟩,⟨none,some 9,.pick (.tmp 6) (.tmp 8) (.lit (.bool false))⟩,⟨none,some 3,.mov (.tmp 9)⟩])
 (.cond (.tmp 3) (.seq (.ops [⟨none,some 2,.mov (.lit (.bool true))⟩])
 .ret)
 (.seq (.ops [⟨none,some 11,.mov (.tmp 0)⟩,⟨none,some 12,.bin .lss (.lit (.int .i32 (57343))) (.tmp 11)⟩,⟨none,some 13,.mov (.tmp 12)⟩,⟨(some (13,true)),some 14,.mov (.tmp 0)⟩,⟨(some (13,true)),some 15,.bin .leq (.tmp 14) (.lit (.int .i32 (1114111)))⟩,⟨none,some 16,.pick (.tmp 13) (.tmp 15) (.lit (.bool false))⟩,⟨none,some 10,.mov (.tmp 16)⟩])
 (.cond (.tmp 10) (.seq (.ops [⟨none,some 2,.mov (.lit (.bool true))⟩])
 .ret)
 .skip)))))
 (.seq (.ops [⟨none,some 2,.mov (.lit (.bool false))⟩])
 .ret))),
 [.tmp 2],none⟩
theorem r74:Xag Tryz.prog cfg 74=some I74:=by kernel_rfl
noncomputable def I75:IF:=⟨30,(.seq (.ops [⟨none,some 4,.mov (.lit (.int .i64 0))⟩,⟨none,some 5,.mov (.lit (.nilI))⟩])
 (.seq (.ops [⟨none,some 7,.mov (.tmp 0)⟩,⟨none,some 8,.call 106 [(.tmp 7)]⟩])
 (.seq (.ops [⟨none,some 9,.mov (.tmp 0)⟩,⟨none,some 10,.nchk (.tmp 9)⟩,⟨none,some 11,.faddr 1 (.tmp 10)⟩,⟨none,some 12,.load1 (.tmp 11)⟩,⟨none,some 13,.lenL (.tmp 12)⟩,⟨none,some 6,.mov (.tmp 13)⟩])
 (.seq (.ops [⟨none,some 14,.mov (.tmp 0)⟩,⟨none,some 15,.mov (.tmp 0)⟩,⟨none,some 16,.nchk (.tmp 15)⟩,⟨none,some 17,.faddr 1 (.tmp 16)⟩,⟨none,some 18,.load1 (.tmp 17)⟩,⟨none,some 19,.mov (.tmp 1)⟩,⟨none,some 20,.call 107 [(.tmp 18),(.tmp 19)]⟩,⟨none,some 21,.nchk (.tmp 14)⟩,⟨none,some 22,.faddr 1 (.tmp 21)⟩,⟨none,none,.store 1 (.tmp 22) (.tmp 20)⟩])
 (.seq (.ops [⟨none,some 23,.mov (.tmp 0)⟩,⟨none,some 24,.nchk (.tmp 23)⟩,⟨none,some 25,.faddr 1 (.tmp 24)⟩,⟨none,some 26,.load1 (.tmp 25)⟩,⟨none,some 27,.lenL (.tmp 26)⟩,⟨none,some 28,.mov (.tmp 6)⟩,⟨none,some 29,.bin .sub (.tmp 27) (.tmp 28)⟩,⟨none,some 4,.mov (.tmp 29)⟩,⟨none,some 5,.mov (.lit (.nilI))⟩])
 .ret))))),
 [.tmp 4,.tmp 5],none⟩
theorem r75:Xag Tryz.prog cfg 75=some I75:=by kernel_rfl
noncomputable def I76:IF:=⟨17,(.seq (.ops [⟨none,some 4,.mov (.lit (.nilI))⟩])
 (.seq (.ops [⟨none,some 5,.mov (.tmp 0)⟩,⟨none,some 6,.call 106 [(.tmp 5)]⟩])
 (.seq (.ops [⟨none,some 7,.mov (.tmp 0)⟩,⟨none,some 8,.mov (.tmp 0)⟩,⟨none,some 9,.nchk (.tmp 8)⟩,⟨none,some 10,.faddr 1 (.tmp 9)⟩,⟨none,some 11,.load1 (.tmp 10)⟩,⟨none,some 12,.mov (.tmp 1)⟩,⟨none,some 13,.bldS 5 1 1 [.int .u8 (0)] [(0,1,(.tmp 12))]⟩,⟨none,some 14,.app 5 1 (.tmp 11) (.tmp 13)⟩,⟨none,some 15,.nchk (.tmp 7)⟩,⟨none,some 16,.faddr 1 (.tmp 15)⟩,⟨none,none,.store 1 (.tmp 16) (.tmp 14)⟩])
 (.seq (.ops [⟨none,some 4,.mov (.lit (.nilI))⟩])
 .ret)))),
 [.tmp 4],none⟩
theorem r76:Xag Tryz.prog cfg 76=some I76:=by kernel_rfl
noncomputable def I77:IF:=⟨14,(.seq (.ops [⟨none,some 2,.mov (.lit (.str []))⟩])
 (.seq (.draw [] [⟨⟨none,some 3,.mov (.tmp 0)⟩,none,true,[],[]⟩,⟨⟨none,some 4,.nchk (.tmp 3)⟩,none,true,[],[]⟩,⟨⟨none,some 5,.faddr 1 (.tmp 4)⟩,none,true,[],[]⟩,⟨⟨none,some 6,.load1 (.tmp 5)⟩,none,true,[],[]⟩,⟨⟨none,some 7,.raw (Xlh Tryz.f77 5)⟩,none,false,[6,8,9],[5,6,7,8,9]⟩,⟨⟨none,some 8,.mov (.tmp 0)⟩,none,true,[],[]⟩,⟨⟨none,some 9,.nchk (.tmp 8)⟩,none,true,[],[]⟩,⟨⟨none,some 10,.faddr 1 (.tmp 9)⟩,none,true,[],[]⟩,⟨⟨none,some 11,.load1 (.tmp 10)⟩,none,true,[],[]⟩,⟨⟨none,some 12,.lenL (.tmp 11)⟩,none,true,[],[]⟩,⟨⟨none,some 13,.raw (Xlh Tryz.f77 11)⟩,none,true,[],[]⟩,⟨⟨none,some 2,.mov (.tmp 13)⟩,none,true,[],[]⟩])
 .ret)),
 [.tmp 2],none⟩
theorem r77:Xag Tryz.prog cfg 77=some I77:=by kernel_rfl
noncomputable def I78:IF:=⟨38,(.seq (.ops [⟨none,some 2,.mov (.lit (.int .i64 0))⟩])
 (.seq (.seq (.ops [⟨none,some 5,.mov (.tmp 0)⟩,⟨none,some 6,.lenS (.tmp 5)⟩,⟨none,some 7,.bin .lss (.tmp 6) (.lit (.int .i64 1))⟩,⟨none,some 8,.mov (.tmp 7)⟩,⟨(some (8,false)),some 9,.mov (.tmp 0)⟩,⟨(some (8,false)),some 10,.lenS (.tmp 9)⟩,⟨(some (8,false)),some 11,.bin .gtr (.tmp 10) (.lit (.int .i64 9))⟩,⟨none,some 12,.pick (.tmp 8) (.lit (.bool true)) (.tmp 11)⟩])
 (.cond (.tmp 12) (.seq (.ops [⟨none,some 2,.mov (.lit (.int .i64 (-1)))⟩])
 .ret)
 .skip))
 (.seq (.ops [⟨none,some 3,.mov (.lit (.int .i64 0))⟩])
 (.seq (.seq (.ops [⟨none,some 4,.mov (.lit (.int .i64 0))⟩])
 (.block 0 (.loop (some [0,3,4]) (.seq (.seq (.ops [⟨none,some 13,.mov (.tmp 4)⟩,⟨none,some 14,.mov (.tmp 0)⟩,⟨none,some 15,.lenS (.tmp 14)⟩,⟨none,some 16,.bin .lss (.tmp 13) (.tmp 15)⟩])
 (.cond (.tmp 16) .skip
 (.exit 0)))
 (.seq (.block 1 (.seq (.seq (.ops [⟨none,some 19,.mov (.tmp 0)⟩,⟨none,some 20,.mov (.tmp 4)⟩,⟨none,some 21,.ixs (.tmp 19) (.tmp 20)⟩,⟨none,some 22,.bin .lss (.tmp 21) (.lit (.int .u8 (48)))⟩,⟨none,some 23,.mov (.tmp 22)⟩,⟨(some (23,false)),some 24,.mov (.tmp 0)⟩,⟨(some (23,false)),some 25,.mov (.tmp 4)⟩,⟨(some (23,false)),some 26,.ixs (.tmp 24) (.tmp 25)⟩,⟨(some (23,false)),some 27,.bin .gtr (.tmp 26) (.lit (.int .u8 (57)))⟩,⟨none,some 28,.pick (.tmp 23) (.lit (.bool true)) (.tmp 27)⟩])
 (.cond (.tmp 28) (.seq (.ops [⟨none,some 2,.mov (.lit (.int .i64 (-1)))⟩])
 .ret)
 .skip))
 (.ops [⟨none,some 29,.mov (.tmp 3)⟩,⟨none,some 30,.bin .mul (.tmp 29) (.lit (.int .i64 10))⟩,⟨none,some 31,.mov (.tmp 0)⟩,⟨none,some 32,.mov (.tmp 4)⟩,⟨none,some 33,.ixs (.tmp 31) (.tmp 32)⟩,⟨none,some 34,.conv .i64 (.tmp 33)⟩,⟨none,some 35,.bin .add (.tmp 30) (.tmp 34)⟩,⟨none,some 36,.bin .sub (.tmp 35) (.lit (.int .i64 48))⟩,⟨none,some 3,.mov (.tmp 36)⟩])))
 (.ops [⟨none,some 17,.mov (.tmp 4)⟩,⟨none,some 18,.bin .add (.tmp 17) (.lit (.int .i64 1))⟩,⟨none,some 4,.mov (.tmp 18)⟩]))))))
 (.seq (.ops [⟨none,some 37,.mov (.tmp 3)⟩,⟨none,some 2,.mov (.tmp 37)⟩])
 .ret))))),
 [.tmp 2],none⟩
theorem r78:Xag Tryz.prog cfg 78=some I78:=by kernel_rfl
noncomputable def I79:IF:=⟨87,(.seq (.ops [⟨none,some 2,.mov (.lit (.nilS))⟩])
 (.seq (.ops [⟨none,some 3,.mov (.lit (.nilS))⟩])
 (.seq (.seq (.ops [⟨none,some 4,.mov (.lit (.int .i64 0))⟩])
 (.block 0 (.loop (some [0,3,4]) (.seq (.seq (.ops [⟨none,some 6,.mov (.tmp 4)⟩,⟨none,some 7,.mov (.tmp 0)⟩,⟨none,some 8,.lenL (.tmp 7)⟩,⟨none,some 9,.bin .lss (.tmp 6) (.tmp 8)⟩])
 (.cond (.tmp 9) .skip
 (.exit 0)))
 (.seq (.block 1 (.seq (.ops [⟨none,some 12,.mov (.tmp 3)⟩,⟨none,some 13,.lenL (.tmp 12)⟩,⟨none,some 14,.bin .sub (.tmp 13) (.lit (.int .i64 1))⟩,⟨none,some 5,.mov (.tmp 14)⟩])
 (.seq (.seq (.draw [] [⟨⟨none,some 15,.mov (.tmp 5)⟩,none,true,[],[]⟩,⟨⟨none,some 16,.bin .geq (.tmp 15) (.lit (.int .i64 0))⟩,none,true,[],[]⟩,⟨⟨none,some 17,.mov (.tmp 16)⟩,none,true,[],[]⟩,⟨⟨(some (17,true)),some 18,.mov (.tmp 3)⟩,none,true,[],[]⟩,⟨⟨(some (17,true)),some 19,.mov (.tmp 5)⟩,none,true,[],[]⟩,⟨⟨(some (17,true)),some 20,.iaddr 9 (.tmp 18) (.tmp 19)⟩,none,true,[],[]⟩,⟨⟨(some (17,true)),some 21,.faddr 0 (.tmp 20)⟩,none,true,[],[]⟩,⟨⟨(some (17,true)),some 22,.load1 (.tmp 21)⟩,none,true,[],[]⟩,⟨⟨(some (17,true)),some 23,.mov (.tmp 0)⟩,none,true,[],[]⟩,⟨⟨(some (17,true)),some 24,.mov (.tmp 4)⟩,none,true,[],[]⟩,⟨⟨(some (17,true)),some 25,.iaddr 9 (.tmp 23) (.tmp 24)⟩,none,true,[],[]⟩,⟨⟨(some (17,true)),some 26,.faddr 0 (.tmp 25)⟩,none,true,[],[]⟩,⟨⟨(some (17,true)),some 27,.load1 (.tmp 26)⟩,none,true,[],[]⟩,⟨⟨(some (17,true)),some 28,.bin .eql (.tmp 22) (.tmp 27)⟩,none,true,[],[]⟩,⟨⟨none,some 29,.pick (.tmp 17) (.tmp 28) (.lit (.bool false))⟩,none,true,[],[]⟩,⟨⟨none,some 30,.mov (.tmp 29)⟩,none,true,[],[]⟩,⟨⟨(some (30,true)),some 31,.mov (.tmp 0)⟩,none,true,[],[]⟩,⟨⟨(some (30,true)),some 32,.mov (.tmp 4)⟩,none,true,[],[]⟩,⟨⟨(some (30,true)),some 33,.iaddr 9 (.tmp 31) (.tmp 32)⟩,none,true,[],[]⟩,⟨⟨(some (30,true)),some 34,.faddr 0 (.tmp 33)⟩,none,true,[],[]⟩,⟨⟨(some (30,true)),some 35,.load1 (.tmp 34)⟩,none,true,[],[]⟩,⟨⟨(some (30,true)),some 36,.bin .leq (.tmp 35) (.lit (.int .i64 2))⟩,none,true,[],[]⟩,⟨⟨none,some 37,.pick (.tmp 30) (.tmp 36) (.lit (.bool false))⟩,none,true,[],[]⟩,⟨⟨none,some 38,.mov (.tmp 37)⟩,none,true,[],[]⟩,⟨⟨(some (38,true)),some 39,.mov (.tmp 3)⟩,none,true,[],[]⟩,⟨⟨(some (38,true)),some 40,.mov (.tmp 5)⟩,none,true,[],[]⟩,⟨⟨(some (38,true)),some 41,.iaddr 9 (.tmp 39) (.tmp 40)⟩,none,true,[],[]⟩,⟨⟨(some (38,true)),some 42,.faddr 1 (.tmp 41)⟩,none,true,[],[]⟩,⟨⟨(some (38,true)),some 43,.load1 (.tmp 42)⟩,none,true,[],[]⟩,⟨⟨(some (38,true)),some 44,.mov (.tmp 0)⟩,none,true,[],[]⟩,⟨⟨(some (38,true)),some 45,.mov (.tmp 4)⟩,none,true,[],[]⟩,⟨⟨(some (38,true)),some 46,.iaddr 9 (.tmp 44) (.tmp 45)⟩,none,true,[],[]⟩,⟨⟨(some (38,true)),some 47,.faddr 1 (.tmp 46)⟩,none,true,[],[]⟩,⟨⟨(some (38,true)),some 48,.load1 (.tmp 47)⟩,none,true,[],[]⟩,⟨⟨(some (38,true)),some 49,.bin .eql (.tmp 43) (.tmp 48)⟩,none,true,[],[]⟩,⟨⟨none,some 50,.pick (.tmp 38) (.tmp 49) (.lit (.bool false))⟩,none,true,[],[]⟩,⟨⟨none,some 51,.mov (.tmp 50)⟩,none,true,[],[]⟩,⟨⟨(some (51,true)),some 52,.mov (.tmp 3)⟩,none,true,[],[]⟩,⟨⟨(some (51,true)),some 53,.mov (.tmp 5)⟩,none,true,[],[]⟩,⟨⟨(some (51,true)),some 54,.iaddr 9 (.tmp 52) (.tmp 53)⟩,none,true,[],[]⟩,⟨⟨(some (51,true)),some 55,.faddr 8 (.tmp 54)⟩,none,true,[],[]⟩,⟨⟨(some (51,true)),some 56,.load1 (.tmp 55)⟩,none,true,[],[]⟩,⟨⟨(some (51,true)),some 57,.mov (.tmp 0)⟩,none,true,[],[]⟩,⟨⟨(some (51,true)),some 58,.mov (.tmp 4)⟩,none,true,[],[]⟩,⟨⟨(some (51,true)),some 59,.iaddr 9 (.tmp 57) (.tmp 58)⟩,none,true,[],[]⟩,⟨⟨(some (51,true)),some 60,.faddr 8 (.tmp 59)⟩,none,true,[],[]⟩,⟨⟨(some (51,true)),some 61,.load1 (.tmp 60)⟩,none,true,[],[]⟩,⟨⟨(some (51,true)),some 62,.bin .eql (.tmp 56) (.tmp 61)⟩,none,true,[],[]⟩,⟨⟨none,some 63,.pick (.tmp 51) (.tmp 62) (.lit (.bool false))⟩,none,true,[],[]⟩])
 (.cond (.tmp 63) (.seq (.draw [] [⟨⟨none,some 64,.mov (.tmp 3)⟩,none,true,[],[]⟩,⟨⟨none,some 65,.mov (.tmp 5)⟩,none,true,[],[]⟩,⟨⟨none,some 66,.mov (.tmp 3)⟩,none,true,[],[]⟩,⟨⟨none,some 67,.mov (.tmp 5)⟩,none,true,[],[]⟩,⟨⟨none,some 68,.iaddr 9 (.tmp 66) (.tmp 67)⟩,none,true,[],[]⟩,⟨⟨none,some 69,.faddr 2 (.tmp 68)⟩,none,true,[],[]⟩,⟨⟨none,some 70,.load1 (.tmp 69)⟩,none,true,[],[]⟩,⟨⟨none,some 71,.mov (.tmp 0)⟩,none,true,[],[]⟩,⟨⟨none,some 72,.mov (.tmp 4)⟩,none,true,[],[]⟩,⟨⟨none,some 73,.iaddr 9 (.tmp 71) (.tmp 72)⟩,none,true,[],[]⟩,⟨⟨none,some 74,.faddr 2 (.tmp 73)⟩,none,true,[],[]⟩,⟨⟨none,some 75,.load1 (.tmp 74)⟩,none,true,[],[]⟩,⟨⟨none,some 76,.bin .add (.tmp 70) (.tmp 75)⟩,none,true,[],[]⟩,⟨⟨none,some 77,.iaddr 9 (.tmp 64) (.tmp 65)⟩,none,true,[],[]⟩,⟨⟨none,some 78,.faddr 2 (.tmp 77)⟩,none,true,[],[]⟩,⟨⟨none,none,.store 1 (.tmp 78) (.tmp 76)⟩,none,true,[],[]⟩])
 (.exit 1))
 .skip))
 (.ops [⟨none,some 79,.mov (.tmp 3)⟩,⟨none,some 80,.mov (.tmp 0)⟩,⟨none,some 81,.mov (.tmp 4)⟩,⟨none,some 82,.iaddr 9 (.tmp 80) (.tmp 81)⟩,⟨none,some 83,.loadN 9 (.tmp 82)⟩,⟨none,some 84,.bldS 43 9 1 [.int .i64 0,.int .i64 0,.str [],.str [],.str [],.bool false,.str [],.str [],.int .i64 0] [(0,9,(.tmp 83))]⟩,⟨none,some 85,.app 43 9 (.tmp 79) (.tmp 84)⟩,⟨none,some 3,.mov (.tmp 85)⟩]))))
 (.ops [⟨none,some 10,.mov (.tmp 4)⟩,⟨none,some 11,.bin .add (.tmp 10) (.lit (.int .i64 1))⟩,⟨none,some 4,.mov (.tmp 11)⟩]))))))
 (.seq (.ops [⟨none,some 86,.mov (.tmp 3)⟩,⟨none,some 2,.mov (.tmp 86)⟩])
 .ret)))),
 [.tmp 2],none⟩
theorem r79:Xag Tryz.prog cfg 79=some I79:=by kernel_rfl
noncomputable def I80:IF:=⟨107,(.seq (.ops [⟨none,some 5,.box 25 (.tmp 1)⟩,⟨none,some 7,.box 145 (.tmp 3)⟩,⟨none,some 8,.mov (.lit (.nilS))⟩])
 (.seq (.ops [⟨none,some 9,.mov (.lit (.nilS))⟩])
 (.seq (.seq (.ops [⟨none,some 10,.mov (.lit (.int .i64 0))⟩])
 (.block 0 (.loop (some [0,2,5,7,9,10]) (.seq (.seq (.ops [⟨none,some 14,.mov (.tmp 10)⟩,⟨none,some 15,.faddr 4 (.tmp 5)⟩,⟨none,some 16,.load1 (.tmp 15)⟩,⟨none,some 17,.lenL (.tmp 16)⟩,⟨none,some 18,.bin .lss (.tmp 14) (.tmp 17)⟩])
 (.cond (.tmp 18) .skip
 (.exit 0)))
 (.seq (.block 1 (.seq (.ops [⟨none,some 21,.faddr 4 (.tmp 5)⟩,⟨none,some 22,.load1 (.tmp 21)⟩,⟨none,some 23,.mov (.tmp 10)⟩,⟨none,some 24,.iaddr 5 (.tmp 22) (.tmp 23)⟩,⟨none,some 25,.loadN 5 (.tmp 24)⟩,⟨none,some 11,.new 25 [.str [],.str [],.str [],.nilS,.nilS]⟩,⟨none,none,.store 5 (.tmp 11) (.tmp 25)⟩])
 (.seq (.seq (.ops [⟨none,some 26,.faddr 0 (.tmp 11)⟩,⟨none,some 27,.load1 (.tmp 26)⟩,⟨none,some 28,.bin .neq (.tmp 27) (.lit (.str [104,116,116,112,58,47,47,115,99,104,101,109,97,115,46,111,112,101,110,120,109,108,102,111,114,109,97,116,115,46,111,114,103,47,119,111,114,100,112,114,111,99,101,115,115,105,110,103,109,108,47,50,48,48,54,47,109,97,105,110]))⟩])
 (.cond (.tmp 28) (.exit 1)
 .skip))
 (.block 2 (.seq (.ops [⟨none,some 30,.faddr 1 (.tmp 11)⟩,⟨none,some 31,.load1 (.tmp 30)⟩,⟨none,some 32,.bin .eql (.tmp 31) (.lit (.str [114]))⟩,⟨none,some 29,.mov (.tmp 32)⟩])
 (.cond (.tmp 29) (.seq (.ops [⟨none,some 33,.mov (.tmp 0)⟩,⟨none,some 34,.loadN 5 (.tmp 11)⟩,⟨none,some 35,.mov (.tmp 2)⟩,⟨none,some 36,.call 108 [(.tmp 33),(.tmp 34),(.tmp 35)]⟩,⟨none,some 12,.mov (.tmp 36)⟩])
 (.seq (.seq (.ops [⟨none,some 13,.mov (.lit (.int .i64 0))⟩])
 (.block 3 (.loop (some [0,2,5,7,9,10,12,13]) (.seq (.seq (.ops [⟨none,some 37,.mov (.tmp 13)⟩,⟨none,some 38,.mov (.tmp 12)⟩,⟨none,some 39,.lenL (.tmp 38)⟩,⟨none,some 40,.bin .lss (.tmp 37) (.tmp 39)⟩])
 (.cond (.tmp 40) .skip
 (.exit 3)))
 (.seq (.block 4 (.seq (.draw [] [⟨⟨none,some 43,.mov (.tmp 12)⟩,none,true,[],[]⟩,⟨⟨none,some 44,.mov (.tmp 13)⟩,none,true,[],[]⟩,⟨⟨none,some 45,.mov (.tmp 12)⟩,none,true,[],[]⟩,⟨⟨none,some 46,.mov (.tmp 13)⟩,none,true,[],[]⟩,⟨⟨none,some 47,.mov (.tmp 12)⟩,none,true,[],[]⟩,⟨⟨none,some 48,.mov (.tmp 13)⟩,none,true,[],[]⟩,⟨⟨none,some 49,.faddr 0 (.tmp 7)⟩,none,true,[],[]⟩,⟨⟨none,some 50,.load1 (.tmp 49)⟩,none,true,[],[]⟩,⟨⟨none,some 51,.faddr 1 (.tmp 7)⟩,none,true,[],[]⟩,⟨⟨none,some 52,.load1 (.tmp 51)⟩,none,true,[],[]⟩,⟨⟨none,some 53,.faddr 2 (.tmp 7)⟩,none,true,[],[]⟩,⟨⟨none,some 54,.load1 (.tmp 53)⟩,none,true,[],[]⟩,⟨⟨none,some 55,.iaddr 9 (.tmp 43) (.tmp 44)⟩,none,true,[],[]⟩,⟨⟨none,some 56,.faddr 5 (.tmp 55)⟩,none,true,[],[]⟩,⟨⟨none,none,.store 1 (.tmp 56) (.tmp 50)⟩,none,false,[9,11],[]⟩,⟨⟨none,some 57,.iaddr 9 (.tmp 45) (.tmp 46)⟩,none,true,[],[]⟩,⟨⟨none,some 58,.faddr 6 (.tmp 57)⟩,none,true,[],[]⟩,⟨⟨none,none,.store 1 (.tmp 58) (.tmp 52)⟩,none,false,[11],[]⟩,⟨⟨none,some 59,.iaddr 9 (.tmp 47) (.tmp 48)⟩,none,true,[],[]⟩,⟨⟨none,some 60,.faddr 7 (.tmp 59)⟩,none,true,[],[]⟩,⟨⟨none,none,.store 1 (.tmp 60) (.tmp 54)⟩,none,true,[],[]⟩])
 (.seq (.ops [⟨none,some 61,.faddr 0 (.tmp 7)⟩,⟨none,some 62,.load1 (.tmp 61)⟩])
 (.cond (.tmp 62) (.ops [⟨none,some 63,.mov (.tmp 12)⟩,⟨none,some 64,.mov (.tmp 13)⟩,⟨none,some 65,.mov (.tmp 0)⟩,⟨none,some 66,.nchk (.tmp 65)⟩,⟨none,some 67,.faddr 2 (.tmp 66)⟩,⟨none,some 68,.load1 (.tmp 67)⟩,⟨none,some 69,.bin .add (.tmp 68) (.lit (.int .i64 1))⟩,⟨none,some 70,.iaddr 9 (.tmp 63) (.tmp 64)⟩,⟨none,some 71,.faddr 8 (.tmp 70)⟩,⟨none,none,.store 1 (.tmp 71) (.tmp 69)⟩])
 .skip))))
 (.ops [⟨none,some 41,.mov (.tmp 13)⟩,⟨none,some 42,.bin .add (.tmp 41) (.lit (.int .i64 1))⟩,⟨none,some 13,.mov (.tmp 42)⟩]))))))
 (.ops [⟨none,some 72,.mov (.tmp 9)⟩,⟨none,some 73,.mov (.tmp 12)⟩,⟨none,some 74,.app 43 9 (.tmp 72) (.tmp 73)⟩,⟨none,some 9,.mov (.tmp 74)⟩])))
 (.seq (.ops [⟨none,some 76,.faddr 1 (.tmp 11)⟩,⟨none,some 77,.load1 (.tmp 76)⟩,⟨none,some 78,.bin .eql (.tmp 77) (.lit (.str [115,109,97,114,116,84,97,103]))⟩,⟨none,some 79,.mov (.tmp 78)⟩,⟨(some (79,false)),some 80,.faddr 1 (.tmp 11)⟩,⟨(some (79,false)),some 81,.load1 (.tmp 80)⟩,⟨(some (79,false)),some 82,.bin .eql (.tmp 81) (.lit (.str [105,110,115]))⟩,⟨none,some 83,.pick (.tmp 79) (.lit (.bool true)) (.tmp 82)⟩,⟨none,some 75,.mov (.tmp 83)⟩])
 (.cond (.tmp 75) (.ops [⟨none,some 84,.mov (.tmp 9)⟩,⟨none,some 85,.mov (.tmp 0)⟩,⟨none,some 86,.loadN 5 (.tmp 11)⟩,⟨none,some 87,.mov (.tmp 2)⟩,⟨none,some 88,.loadN 3 (.tmp 7)⟩,⟨none,some 89,.call 80 [(.tmp 85),(.tmp 86),(.tmp 87),(.tmp 88)]⟩,⟨none,some 90,.app 43 9 (.tmp 84) (.tmp 89)⟩,⟨none,some 9,.mov (.tmp 90)⟩])
 (.seq (.ops [⟨none,some 92,.faddr 1 (.tmp 11)⟩,⟨none,some 93,.load1 (.tmp 92)⟩,⟨none,some 94,.bin .eql (.tmp 93) (.lit (.str [104,121,112,101,114,108,105,110,107]))⟩,⟨none,some 95,.mov (.tmp 94)⟩,⟨(some (95,true)),some 96,.faddr 0 (.tmp 7)⟩,⟨(some (95,true)),some 97,.load1 (.tmp 96)⟩,⟨(some (95,true)),some 98,.un .not (.tmp 97)⟩,⟨none,some 99,.pick (.tmp 95) (.tmp 98) (.lit (.bool false))⟩,⟨none,some 91,.mov (.tmp 99)⟩])
 (.cond (.tmp 91) (.ops [⟨none,some 100,.mov (.tmp 9)⟩,⟨none,some 101,.mov (.tmp 0)⟩,⟨none,some 102,.loadN 5 (.tmp 11)⟩,⟨none,some 103,.mov (.tmp 2)⟩,⟨none,some 104,.call 109 [(.tmp 101),(.tmp 102),(.tmp 103)]⟩,⟨none,some 105,.app 43 9 (.tmp 100) (.tmp 104)⟩,⟨none,some 9,.mov (.tmp 105)⟩])
 .skip))))))))))
 (.ops [⟨none,some 19,.mov (.tmp 10)⟩,⟨none,some 20,.bin .add (.tmp 19) (.lit (.int .i64 1))⟩,⟨none,some 10,.mov (.tmp 20)⟩]))))))
 (.seq (.ops [⟨none,some 106,.mov (.tmp 9)⟩,⟨none,some 8,.mov (.tmp 106)⟩])
 .ret)))),
 [.tmp 8],none⟩
theorem r80:Xag Tryz.prog cfg 80=some I80:=by kernel_rfl
noncomputable def I81:IF:=⟨41,(.seq (.ops [⟨none,some 2,.mov (.lit (.int .i32 (0)))⟩,⟨none,some 3,.mov (.lit (.bool false))⟩])
 (.seq (.seq (.ops [⟨none,some 7,.mov (.tmp 0)⟩,⟨none,some 8,.lenS (.tmp 7)⟩,⟨none,some 9,.bin .lss (.tmp 8) (.lit (.int .i64 7))⟩,⟨none,some 10,.mov (.tmp 9)⟩,⟨(some (10,false)),some 11,.mov (.tmp 0)⟩,⟨(some (10,false)),some 12,.ixs (.tmp 11) (.lit (.int .i64 0))⟩,⟨(some (10,false)),some 13,.bin .neq (.tmp 12) (.lit (.int .u8 (95)))⟩,⟨none,some 14,.pick (.tmp 10) (.lit (.bool true)) (.tmp 13)⟩,⟨none,some 15,.mov (.tmp 14)⟩,⟨(some (15,false)),some 16,.mov (.tmp 0)⟩,⟨(some (15,false)),some 17,.ixs (.tmp 16) (.lit (.int .i64 1))⟩,⟨(some (15,false)),some 18,.bin .neq (.tmp 17) (.lit (.int .u8 (120)))⟩,⟨none,some 19,.pick (.tmp 15) (.lit (.bool true)) (.tmp 18)⟩,⟨none,some 20,.mov (.tmp 19)⟩,⟨(some (20,false)),some 21,.mov (.tmp 0)⟩,⟨(some (20,false)),some 22,.ixs (.tmp 21) (.lit (.int .i64 6))⟩,⟨(some (20,false)),some 23,.bin .neq (.tmp 22) (.lit (.int .u8 (95)))⟩,⟨none,some 24,.pick (.tmp 20) (.lit (.bool true)) (.tmp 23)⟩])
 (.cond (.tmp 24) (.seq (.ops [⟨none,some 2,.mov (.lit (.int .i32 (0)))⟩,⟨none,some 3,.mov (.lit (.bool false))⟩])
 .ret)
 .skip))
 (.seq (.ops [⟨none,some 4,.mov (.lit (.int .i64 0))⟩])
 (.seq (.seq (.ops [⟨none,some 5,.mov (.lit (.int .i64 2))⟩])
 (.block 0 (.loop (some [0,4,5]) (.seq (.seq (.ops [⟨none,some 25,.mov (.tmp 5)⟩,⟨none,some 26,.bin .lss (.tmp 25) (.lit (.int .i64 6))⟩])
 (.cond (.tmp 26) .skip
 (.exit 0)))
 (.seq (.block 1 (.seq (.ops [⟨none,some 29,.mov (.tmp 0)⟩,⟨none,some 30,.mov (.tmp 5)⟩,⟨none,some 31,.ixs (.tmp 29) (.tmp 30)⟩,⟨none,some 32,.call 110 [(.tmp 31)]⟩,⟨none,some 6,.mov (.tmp 32)⟩])
 (.seq (.seq (.ops [⟨none,some 33,.mov (.tmp 6)⟩,⟨none,some 34,.bin .lss (.tmp 33) (.lit (.int .i64 0))⟩])
 (.cond (.tmp 34) (.seq (.ops [⟨none,some 2,.mov (.lit (.int .i32 (0)))⟩,⟨none,some 3,.mov (.lit (.bool false))⟩])
 .ret)
 .skip))
 (.ops [⟨none,some 35,.mov (.tmp 4)⟩,⟨none,some 36,.bin .mul (.tmp 35) (.lit (.int .i64 16))⟩,⟨none,some 37,.mov (.tmp 6)⟩,⟨none,some 38,.bin .add (.tmp 36) (.tmp 37)⟩,⟨none,some 4,.mov (.tmp 38)⟩]))))
 (.ops [⟨none,some 27,.mov (.tmp 5)⟩,⟨none,some 28,.bin .add (.tmp 27) (.lit (.int .i64 1))⟩,⟨none,some 5,.mov (.tmp 28)⟩]))))))
 (.seq (.ops [⟨none,some 39,.mov (.tmp 4)⟩,⟨none,some 40,.conv .i32 (.tmp 39)⟩,⟨none,some 2,.mov (.tmp 40)⟩,⟨none,some 3,.mov (.lit (.bool true))⟩])
 .ret))))),
 [.tmp 2,.tmp 3],none⟩
theorem r81:Xag Tryz.prog cfg 81=some I81:=by kernel_rfl
noncomputable def I82:IF:=⟨77,(.seq (.ops [⟨none,some 2,.mov (.lit (.str []))⟩])
 (.seq (.block 0 (.seq (.ops [⟨none,some 4,.mov (.tmp 0)⟩,⟨none,some 5,.bin .lss (.tmp 4) (.lit (.int .i32 (0)))⟩,⟨none,some 6,.mov (.tmp 5)⟩,⟨(some (6,false)),some 7,.mov (.tmp 0)⟩,⟨(some (6,false)),some 8,.bin .gtr (.tmp 7) (.lit (.int .i32 (1114111)))⟩,⟨none,some 9,.pick (.tmp 6) (.lit (.bool true)) (.tmp 8)⟩,⟨none,some 10,.mov (.tmp 9)⟩,⟨(some (10,false)),some 11,.mov (.tmp 0)⟩,⟨(some (10,false)),some 12,.bin .geq (.tmp 11) (.lit (.int .i32 (55296)))⟩,⟨(some (10,false)),some 13,.mov (.tmp 12)⟩,⟨(some (13,true)),some 14,.mov (.tmp 0)⟩,⟨(some (13,true)),some 15,.bin .leq (.tmp 14) (.lit (.int .i32 (57343)))⟩,⟨(some (10,false)),some 16,.pick (.tmp 13) (.tmp 15) (.lit (.bool false))⟩,⟨none,some 17,.pick (.tmp 10) (.lit (.bool true)) (.tmp 16)⟩,⟨none,some 3,.mov (.tmp 17)⟩])
 (.cond (.tmp 3) (.seq (.ops [⟨none,some 18,.call 82 [(.lit (.int .i32 (65533)))]⟩,⟨none,some 2,.mov (.tmp 18)⟩])
 .ret)
 (.seq (.ops [⟨none,some 20,.mov (.tmp 0)⟩,⟨none,some 21,.bin .lss (.tmp 20) (.lit (.int .i32 (128)))⟩,⟨none,some 19,.mov (.tmp 21)⟩])
 (.cond (.tmp 19) (.seq (.ops [⟨none,some 22,.mov (.tmp 0)⟩,⟨none,some 23,.conv .u8 (.tmp 22)⟩,⟨none,some 24,.bldS 5 1 1 [.int .u8 (0)] [(0,1,(.tmp 23))]⟩,⟨none,some 25,.b2s (.tmp 24)⟩,⟨none,some 2,.mov (.tmp 25)⟩])
 .ret)
 (.seq (.ops [⟨none,some 27,.mov (.tmp 0)⟩,⟨none,some 28,.bin .lss (.tmp 27) (.lit (.int .i32 (2048)))⟩,⟨none,some 26,.mov (.tmp 28)⟩])
 (.cond (.tmp 26) (.seq (.ops [⟨none,some 29,.mov (.tmp 0)⟩,⟨none,some 30,.bin .shr (.tmp 29) (.lit (.int .u64 (6)))⟩,⟨none,some 31,.bin .or (.lit (.int .i32 (192))) (.tmp 30)⟩,⟨none,some 32,.conv .u8 (.tmp 31)⟩,⟨none,some 33,.mov (.tmp 0)⟩,⟨none,some 34,.bin .and (.tmp 33) (.lit (.int .i32 (63)))⟩,⟨none,some 35,.bin .or (.lit (.int .i32 (128))) (.tmp 34)⟩,⟨none,some 36,.conv .u8 (.tmp 35)⟩,⟨none,some 37,.bldS 5 1 2 [.int .u8 (0),.int .u8 (0)] [(0,1,(.tmp 32)),(1,1,(.tmp 36))]⟩,⟨none,some 38,.b2s (.tmp 37)⟩,⟨none,some 2,.mov (.tmp 38)⟩])
 .ret)
 (.seq (.ops [⟨none,some 40,.mov (.tmp 0)⟩,⟨none,some 41,.bin .lss (.tmp 40) (.lit (.int .i32 (65536)))⟩,⟨none,some 39,.mov (.tmp 41)⟩])
 (.cond (.tmp 39) (.seq (.ops [⟨none,some 42,.mov (.tmp 0)⟩,⟨none,some 43,.bin .shr (.tmp 42) (.lit (.int .u64 (12)))⟩,⟨none,some 44,.bin .or (.lit (.int .i32 (224))) (.tmp 43)⟩,⟨none,some 45,.conv .u8 (.tmp 44)⟩,⟨none,some 46,.mov (.tmp 0)⟩,⟨none,some 47,.bin .shr (.tmp 46) (.lit (.int .u64 (6)))⟩,⟨none,some 48,.bin .and (.tmp 47) (.lit (.int .i32 (63)))⟩,⟨none,some 49,.bin .or (.lit (.int .i32 (128))) (.tmp 48)⟩,⟨none,some 50,.conv .u8 (.tmp 49)⟩,⟨none,some 51,.mov (.tmp 0)⟩,⟨none,some 52,.bin .and (.tmp 51) (.lit (.int .i32 (63)))⟩,⟨none,some 53,.bin .or (.lit (.int .i32 (128))) (.tmp 52)⟩,⟨none,some 54,.conv .u8 (.tmp 53)⟩,⟨none,some 55,.bldS 5 1 3 [.int .u8 (0),.int .u8 (0),.int .u8 (0)] [(0,1,(.tmp 45)),(1,1,(.tmp 50)),(2,1,(.tmp 54))]⟩,⟨none,some 56,.b2s (.tmp 55)⟩,⟨none,some 2,.mov (.tmp 56)⟩])
 .ret)
 .skip)))))))))
 (.seq (.ops [⟨none,some 57,.mov (.tmp 0)⟩,⟨none,some 58,.bin .shr (.tmp 57) (.lit (.int .u64 (18)))⟩,⟨none,some 59,.bin .or (.lit (.int .i32 (240))) (.tmp 58)⟩,⟨none,some 60,.conv .u8 (.tmp 59)⟩,⟨none,some 61,.mov (.tmp 0)⟩,⟨none,some 62,.bin .shr (.tmp 61) (.lit (.int .u64 (12)))⟩,⟨none,some 63,.bin .and (.tmp 62) (.lit (.int .i32 (63)))⟩,⟨none,some 64,.bin .or (.lit (.int .i32 (128))) (.tmp 63)⟩,⟨none,some 65,.conv .u8 (.tmp 64)⟩,⟨none,some 66,.mov (.tmp 0)⟩,⟨none,some 67,.bin .shr (.tmp 66) (.lit (.int .u64 (6)))⟩,⟨none,some 68,.bin .and (.tmp 67) (.lit (.int .i32 (63)))⟩,⟨none,some 69,.bin .or (.lit (.int .i32 (128))) (.tmp 68)⟩,⟨none,some 70,.conv .u8 (.tmp 69)⟩,⟨none,some 71,.mov (.tmp 0)⟩,⟨none,some 72,.bin .and (.tmp 71) (.lit (.int .i32 (63)))⟩,⟨none,some 73,.bin .or (.lit (.int .i32 (128))) (.tmp 72)⟩,⟨none,some 74,.conv .u8 (.tmp 73)⟩,⟨none,some 75,.bldS 5 1 4 [.int .u8 (0),.int .u8 (0),.int .u8 (0),.int .u8 (0)] [(0,1,(.tmp 60)),(1,1,(.tmp 65)),(2,1,(.tmp 70)),(3,1,(.tmp 74))]⟩,⟨none,some 76,.b2s (.tmp 75)⟩,⟨none,some 2,.mov (.tmp 76)⟩])
 .ret))),
 [.tmp 2],none⟩
theorem r82:Xag Tryz.prog cfg 82=some I82:=by kernel_rfl
end Go.Proofs.YtmhhddhbdbcmbaaGreatDoor.Ic
