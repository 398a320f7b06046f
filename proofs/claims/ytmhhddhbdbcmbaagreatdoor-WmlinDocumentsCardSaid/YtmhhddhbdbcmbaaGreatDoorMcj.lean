/- Parts of one proof. -/
import Derived.Test.YtmhhddhbdbcmbaaGreatDoorMci
set_option linter.all false
namespace Go.Proofs.YtmhhddhbdbcmbaaGreatDoor.Ic
open Go Go.Proofs Go.Proofs.YtmhhddhbdbcmbaaGreatDoor.Ev
set_option maxRecDepth 100000
noncomputable def I83:IF:=⟨40,(.seq (.ops [⟨none,some 3,.box 25 (.tmp 0)⟩,⟨none,some 6,.mov (.lit (.str []))⟩,⟨none,some 7,.mov (.lit (.bool false))⟩])
 (.seq (.seq (.ops [⟨none,some 8,.mov (.lit (.int .i64 0))⟩])
 (.block 0 (.loop (some [1,2,3,8]) (.seq (.seq (.ops [⟨none,some 9,.mov (.tmp 8)⟩,⟨none,some 10,.faddr 3 (.tmp 3)⟩,⟨none,some 11,.load1 (.tmp 10)⟩,⟨none,some 12,.lenL (.tmp 11)⟩,⟨none,some 13,.bin .lss (.tmp 9) (.tmp 12)⟩])
 (.cond (.tmp 13) .skip
 (.exit 0)))
 (.seq (.block 1 (.seq (.ops [⟨none,some 16,.faddr 3 (.tmp 3)⟩,⟨none,some 17,.load1 (.tmp 16)⟩,⟨none,some 18,.mov (.tmp 8)⟩,⟨none,some 19,.iaddr 3 (.tmp 17) (.tmp 18)⟩,⟨none,some 20,.faddr 0 (.tmp 19)⟩,⟨none,some 21,.load1 (.tmp 20)⟩,⟨none,some 22,.mov (.tmp 1)⟩,⟨none,some 23,.bin .eql (.tmp 21) (.tmp 22)⟩,⟨none,some 24,.mov (.tmp 23)⟩,⟨(some (24,true)),some 25,.faddr 3 (.tmp 3)⟩,⟨(some (24,true)),some 26,.load1 (.tmp 25)⟩,⟨(some (24,true)),some 27,.mov (.tmp 8)⟩,⟨(some (24,true)),some 28,.iaddr 3 (.tmp 26) (.tmp 27)⟩,⟨(some (24,true)),some 29,.faddr 1 (.tmp 28)⟩,⟨(some (24,true)),some 30,.load1 (.tmp 29)⟩,⟨(some (24,true)),some 31,.mov (.tmp 2)⟩,⟨(some (24,true)),some 32,.bin .eql (.tmp 30) (.tmp 31)⟩,⟨none,some 33,.pick (.tmp 24) (.tmp 32) (.lit (.bool false))⟩])
 (.cond (.tmp 33) (.seq (.ops [⟨none,some 34,.faddr 3 (.tmp 3)⟩,⟨none,some 35,.load1 (.tmp 34)⟩,⟨none,some 36,.mov (.tmp 8)⟩,⟨none,some 37,.iaddr 3 (.tmp 35) (.tmp 36)⟩,⟨none,some 38,.faddr 2 (.tmp 37)⟩,⟨none,some 39,.load1 (.tmp 38)⟩,⟨none,some 6,.mov (.tmp 39)⟩,⟨none,some 7,.mov (.lit (.bool true))⟩])
 .ret)
 .skip)))
 (.ops [⟨none,some 14,.mov (.tmp 8)⟩,⟨none,some 15,.bin .add (.tmp 14) (.lit (.int .i64 1))⟩,⟨none,some 8,.mov (.tmp 15)⟩]))))))
 (.seq (.ops [⟨none,some 6,.mov (.lit (.str []))⟩,⟨none,some 7,.mov (.lit (.bool false))⟩])
 .ret))),
 [.tmp 6,.tmp 7],none⟩
theorem r83:Xag Tryz.prog cfg 83=some I83:=by kernel_rfl
noncomputable def I102:IF:=⟨14,(.seq (.ops [⟨none,some 3,.box 9 (.tmp 1)⟩,⟨none,some 4,.mov (.lit (.nilP))⟩])
 (.seq (.ops [⟨none,some 6,.mov (.tmp 0)⟩,⟨none,some 7,.mkfn (.func 122) [(.tmp 3)]⟩,⟨none,some 8,.call 121 [(.tmp 6),(.tmp 7)]⟩,⟨none,some 5,.mov (.tmp 8)⟩])
 (.seq (.seq (.ops [⟨none,some 9,.mov (.tmp 5)⟩,⟨none,some 10,.bin .lss (.tmp 9) (.lit (.int .i64 0))⟩])
 (.cond (.tmp 10) (.seq (.ops [⟨none,some 4,.mov (.lit (.nilP))⟩])
 .ret)
 .skip))
 (.seq (.ops [⟨none,some 11,.mov (.tmp 0)⟩,⟨none,some 12,.mov (.tmp 5)⟩,⟨none,some 13,.iaddr 6 (.tmp 11) (.tmp 12)⟩,⟨none,some 4,.mov (.tmp 13)⟩])
 .ret)))),
 [.tmp 4],none⟩
theorem r102:Xag Tryz.prog cfg 102=some I102:=by kernel_rfl
noncomputable def Xon:IF:=⟨104,(.seq (.ops [⟨none,some 4,.box 25 (.tmp 1)⟩,⟨none,some 6,.mov (.lit (.nilS))⟩])
 (.seq (.ops [⟨none,some 18,.loadN 5 (.tmp 4)⟩,⟨none,some 19,.call 44 [(.tmp 18),(.lit (.str [114,80,114]))]⟩,⟨none,some 7,.new 25 [.str [],.str [],.str [],.nilS,.nilS]⟩,⟨none,none,.store 5 (.tmp 7) (.tmp 19)⟩])
 (.seq (.ops [⟨none,some 20,.loadN 5 (.tmp 7)⟩,⟨none,some 21,.call 42 [(.tmp 20),(.lit (.str [114,83,116,121,108,101]))]⟩,⟨none,some 8,.mov (.tmp 21)⟩])
 (.seq (.draw [.row [.int .i64 0,.int .i64 0,.str [],.str [],.str [],.bool false,.str [],.str [],.int .i64 0] 0 44] [⟨⟨none,some 22,.mov (.tmp 0)⟩,none,true,[],[]⟩,⟨⟨none,some 23,.nchk (.tmp 22)⟩,none,true,[],[]⟩,⟨⟨none,some 24,.faddr 1 (.tmp 23)⟩,none,true,[],[]⟩,⟨⟨none,some 25,.load1 (.tmp 24)⟩,none,true,[],[]⟩,⟨⟨none,some 26,.mov (.tmp 2)⟩,none,true,[],[]⟩,⟨⟨none,some 27,.mov (.tmp 8)⟩,none,true,[],[]⟩,⟨⟨none,some 28,.loadN 5 (.tmp 7)⟩,none,true,[],[]⟩,⟨⟨none,some 29,.call 45 [(.tmp 28),(.lit (.str [105]))]⟩,none,false,[1,3,8,12],[8,12]⟩,⟨⟨none,some 30,.loadN 5 (.tmp 7)⟩,none,true,[],[]⟩,⟨⟨none,some 31,.call 45 [(.tmp 30),(.lit (.str [98]))]⟩,none,false,[1,3,12],[12]⟩,⟨⟨none,some 32,.call 123 [(.tmp 25),(.tmp 26),(.tmp 27),(.tmp 29),(.tmp 31)]⟩,none,false,[12],[12]⟩,⟨⟨none,some 33,.bld [.int .i64 0,.int .i64 0,.str [],.str [],.str [],.bool false,.str [],.str [],.int .i64 0] [(0,1,(.lit (.int .i64 1))),(1,1,(.tmp 32))]⟩,none,true,[],[]⟩,⟨⟨none,some 9,.mov (.lit (.bad))⟩,(some (0,43,[.int .i64 0,.int .i64 0,.str [],.str [],.str [],.bool false,.str [],.str [],.int .i64 0],none)),true,[],[]⟩,⟨⟨none,none,.store 9 (.tmp 9) (.tmp 33)⟩,none,true,[],[]⟩])
 (.seq (.seq (.ops [⟨none,some 34,.mov (.tmp 8)⟩,⟨none,some 35,.bin .eql (.tmp 34) (.lit (.str [67,111,100,101,84,101,120,116]))⟩])
 (.cond (.tmp 35) (.ops [⟨none,some 36,.faddr 0 (.tmp 9)⟩,⟨none,none,.store 1 (.tmp 36) (.lit (.int .i64 2))⟩])
 .skip))
 (.seq (.ops [⟨none,some 10,.mov (.lit (.nilS))⟩])
 (.seq (.seq (.ops [⟨none,some 37,.faddr 4 (.tmp 4)⟩,⟨none,some 38,.load1 (.tmp 37)⟩,⟨none,some 39,.lenL (.tmp 38)⟩,⟨none,some 40,.mov (.lit (.int .i64 0))⟩])
 (.block 0 (.loop (some [0,9,10,38,39,40]) (.seq (.ops [⟨none,some 41,.bin .lss (.tmp 40) (.tmp 39)⟩])
 (.seq (.cond (.tmp 41) .skip
 (.exit 0))
 (.seq (.block 1 (.seq (.ops [⟨none,some 42,.iaddr 5 (.tmp 38) (.tmp 40)⟩,⟨none,some 43,.loadN 5 (.tmp 42)⟩,⟨none,some 12,.new 25 [.str [],.str [],.str [],.nilS,.nilS]⟩,⟨none,none,.store 5 (.tmp 12) (.tmp 43)⟩])
 (.seq (.ops [⟨none,some 44,.loadN 9 (.tmp 9)⟩,⟨none,some 13,.new 43 [.int .i64 0,.int .i64 0,.str [],.str [],.str [],.bool false,.str [],.str [],.int .i64 0]⟩,⟨none,none,.store 9 (.tmp 13) (.tmp 44)⟩])
 (.seq (.seq (.ops [⟨none,some 45,.faddr 0 (.tmp 12)⟩,⟨none,some 46,.load1 (.tmp 45)⟩,⟨none,some 47,.bin .neq (.tmp 46) (.lit (.str [104,116,116,112,58,47,47,115,99,104,101,109,97,115,46,111,112,101,110,120,109,108,102,111,114,109,97,116,115,46,111,114,103,47,119,111,114,100,112,114,111,99,101,115,115,105,110,103,109,108,47,50,48,48,54,47,109,97,105,110]))⟩])
 (.cond (.tmp 47) (.exit 1)
 .skip))
 (.seq (.seq (.ops [⟨none,some 48,.faddr 1 (.tmp 12)⟩,⟨none,some 49,.load1 (.tmp 48)⟩])
 (.block 2 (.seq (.ops [⟨none,some 51,.bin .eql (.tmp 49) (.lit (.str [116]))⟩,⟨none,some 50,.mov (.tmp 51)⟩])
 (.cond (.tmp 50) (.seq (.seq (.ops [⟨none,some 52,.faddr 4 (.tmp 12)⟩,⟨none,some 53,.load1 (.tmp 52)⟩,⟨none,some 54,.lenL (.tmp 53)⟩,⟨none,some 55,.mov (.lit (.int .i64 0))⟩])
 (.block 3 (.loop (some [0,9,10,13,38,39,40,53,54,55]) (.seq (.ops [⟨none,some 56,.bin .lss (.tmp 55) (.tmp 54)⟩])
 (.seq (.cond (.tmp 56) .skip
 (.exit 3))
 (.seq (.block 4 (.seq (.ops [⟨none,some 57,.iaddr 5 (.tmp 53) (.tmp 55)⟩,⟨none,some 58,.loadN 5 (.tmp 57)⟩,⟨none,some 15,.new 25 [.str [],.str [],.str [],.nilS,.nilS]⟩,⟨none,none,.store 5 (.tmp 15) (.tmp 58)⟩])
 (.seq (.ops [⟨none,some 59,.faddr 1 (.tmp 15)⟩,⟨none,some 60,.load1 (.tmp 59)⟩,⟨none,some 61,.bin .eql (.tmp 60) (.lit (.str []))⟩])
 (.cond (.tmp 61) (.ops [⟨none,some 62,.faddr 2 (.tmp 13)⟩,⟨none,some 63,.load1 (.tmp 62)⟩,⟨none,some 64,.faddr 2 (.tmp 15)⟩,⟨none,some 65,.load1 (.tmp 64)⟩,⟨none,some 66,.bin .add (.tmp 63) (.tmp 65)⟩,⟨none,some 67,.faddr 2 (.tmp 13)⟩,⟨none,none,.store 1 (.tmp 67) (.tmp 66)⟩])
 .skip))))
 (.ops [⟨none,some 68,.bin .add (.tmp 55) (.lit (.int .i64 1))⟩,⟨none,some 55,.mov (.tmp 68)⟩])))))))
 (.seq (.ops [⟨none,some 69,.faddr 2 (.tmp 13)⟩,⟨none,some 70,.load1 (.tmp 69)⟩,⟨none,some 71,.call 51 [(.tmp 70)]⟩,⟨none,some 72,.faddr 2 (.tmp 13)⟩,⟨none,none,.store 1 (.tmp 72) (.tmp 71)⟩])
 (.seq (.ops [⟨none,some 73,.faddr 2 (.tmp 13)⟩,⟨none,some 74,.load1 (.tmp 73)⟩,⟨none,some 75,.bin .eql (.tmp 74) (.lit (.str []))⟩])
 (.cond (.tmp 75) (.exit 1)
 .skip))))
 (.seq (.ops [⟨none,some 77,.bin .eql (.tmp 49) (.lit (.str [116,97,98]))⟩,⟨none,some 76,.mov (.tmp 77)⟩])
 (.cond (.tmp 76) (.ops [⟨none,some 78,.faddr 2 (.tmp 13)⟩,⟨none,none,.store 1 (.tmp 78) (.lit (.str [9]))⟩])
 (.seq (.seq (.ops [⟨none,some 80,.bin .eql (.tmp 49) (.lit (.str [98,114]))⟩,⟨none,some 79,.mov (.tmp 80)⟩])
 (.cond (.tmp 79) .skip
 (.ops [⟨none,some 81,.bin .eql (.tmp 49) (.lit (.str [99,114]))⟩,⟨none,some 79,.mov (.tmp 81)⟩])))
 (.cond (.tmp 79) (.ops [⟨none,some 82,.bld [.int .i64 0,.int .i64 0,.str [],.str [],.str [],.bool false,.str [],.str [],.int .i64 0] [(0,1,(.lit (.int .i64 3)))]⟩,⟨none,none,.store 9 (.tmp 13) (.tmp 82)⟩])
 (.seq (.ops [⟨none,some 84,.bin .eql (.tmp 49) (.lit (.str [100,114,97,119,105,110,103]))⟩,⟨none,some 83,.mov (.tmp 84)⟩])
 (.cond (.tmp 83) (.seq (.ops [⟨none,some 86,.loadN 5 (.tmp 12)⟩,⟨none,some 87,.call 124 [(.tmp 86),(.lit (.fn (.func 125) []))]⟩,⟨none,some 85,.mov (.tmp 87)⟩,⟨none,some 88,.ext (.tmp 85) 0⟩,⟨none,some 89,.ext (.tmp 85) 1⟩,⟨none,some 16,.new 25 [.str [],.str [],.str [],.nilS,.nilS]⟩,⟨none,none,.store 5 (.tmp 16) (.tmp 88)⟩,⟨none,some 17,.mov (.tmp 89)⟩])
 (.seq (.seq (.ops [⟨none,some 90,.mov (.tmp 17)⟩,⟨none,some 91,.un .not (.tmp 90)⟩])
 (.cond (.tmp 91) (.exit 1)
 .skip))
 (.ops [⟨none,some 92,.mov (.tmp 0)⟩,⟨none,some 93,.loadN 5 (.tmp 12)⟩,⟨none,some 94,.loadN 5 (.tmp 16)⟩,⟨none,some 95,.faddr 1 (.tmp 9)⟩,⟨none,some 96,.load1 (.tmp 95)⟩,⟨none,some 97,.call 126 [(.tmp 92),(.tmp 93),(.tmp 94),(.tmp 96)]⟩,⟨none,none,.store 9 (.tmp 13) (.tmp 97)⟩])))
 (.exit 1)))))))))))
 (.ops [⟨none,some 98,.mov (.tmp 10)⟩,⟨none,some 99,.loadN 9 (.tmp 13)⟩,⟨none,some 100,.bldS 43 9 1 [.int .i64 0,.int .i64 0,.str [],.str [],.str [],.bool false,.str [],.str [],.int .i64 0] [(0,9,(.tmp 99))]⟩,⟨none,some 101,.app 43 9 (.tmp 98) (.tmp 100)⟩,⟨none,some 10,.mov (.tmp 101)⟩]))))))
 (.ops [⟨none,some 102,.bin .add (.tmp 40) (.lit (.int .i64 1))⟩,⟨none,some 40,.mov (.tmp 102)⟩])))))))
 (.seq (.ops [⟨none,some 103,.mov (.tmp 10)⟩,⟨none,some 6,.mov (.tmp 103)⟩])
 .ret)))))))),
 [.tmp 6],none⟩
theorem r103:Xag Tryz.prog cfg 103=some Xon:=by kernel_rfl
noncomputable def I104:IF:=⟨53,(.seq (.ops [⟨none,some 4,.box 25 (.tmp 1)⟩,⟨none,some 6,.mov (.lit (.nilS))⟩])
 (.seq (.ops [⟨none,some 12,.loadN 5 (.tmp 4)⟩,⟨none,some 13,.call 65 [(.tmp 12),(.lit (.str [104,116,116,112,58,47,47,115,99,104,101,109,97,115,46,111,112,101,110,120,109,108,102,111,114,109,97,116,115,46,111,114,103,47,111,102,102,105,99,101,68,111,99,117,109,101,110,116,47,50,48,48,54,47,114,101,108,97,116,105,111,110,115,104,105,112,115])),(.lit (.str [105,100]))]⟩,⟨none,some 11,.mov (.tmp 13)⟩,⟨none,some 14,.ext (.tmp 11) 0⟩,⟨none,some 15,.ext (.tmp 11) 1⟩,⟨none,some 7,.mov (.tmp 14)⟩,⟨none,some 8,.mov (.tmp 15)⟩])
 (.seq (.seq (.ops [⟨none,some 16,.mov (.tmp 8)⟩,⟨none,some 17,.un .not (.tmp 16)⟩])
 (.cond (.tmp 17) (.seq (.ops [⟨none,some 18,.mov (.tmp 0)⟩,⟨none,some 19,.faddr 4 (.tmp 4)⟩,⟨none,some 20,.load1 (.tmp 19)⟩,⟨none,some 21,.mov (.tmp 2)⟩,⟨none,some 22,.bld [.int .i64 0,.int .i64 0,.str [],.str [],.str [],.bool false,.str [],.str [],.int .i64 0] []⟩,⟨none,some 23,.call 72 [(.tmp 18),(.tmp 20),(.tmp 21),(.tmp 22)]⟩,⟨none,some 6,.mov (.tmp 23)⟩])
 .ret)
 .skip))
 (.seq (.draw [.row [.int .i64 0,.int .i64 0,.str [],.str [],.str [],.bool false,.str [],.str [],.int .i64 0] 0 44] [⟨⟨none,some 24,.mov (.tmp 0)⟩,none,true,[],[]⟩,⟨⟨none,some 25,.mov (.tmp 7)⟩,none,true,[],[]⟩,⟨⟨none,some 26,.call 127 [(.tmp 24),(.tmp 25),(.lit (.str [104,116,116,112,58,47,47,115,99,104,101,109,97,115,46,111,112,101,110,120,109,108,102,111,114,109,97,116,115,46,111,114,103,47,111,102,102,105,99,101,68,111,99,117,109,101,110,116,47,50,48,48,54,47,114,101,108,97,116,105,111,110,115,104,105,112,115,47,104,121,112,101,114,108,105,110,107]))]⟩,none,false,[3,7,9,12],[3,6,7,8,9,10,12]⟩,⟨⟨none,some 27,.loadN 5 (.tmp 4)⟩,none,true,[],[]⟩,⟨⟨none,some 28,.call 41 [(.tmp 27),(.lit (.str [116,111,111,108,116,105,112]))]⟩,none,false,[7,9,12],[6,7,8,9,10,12]⟩,⟨⟨none,some 29,.call 51 [(.tmp 28)]⟩,none,false,[7,9,12],[6,7,8,9,10,12]⟩,⟨⟨none,some 30,.mov (.tmp 0)⟩,none,true,[],[]⟩,⟨⟨none,some 31,.nchk (.tmp 30)⟩,none,true,[],[]⟩,⟨⟨none,some 32,.faddr 2 (.tmp 31)⟩,none,true,[],[]⟩,⟨⟨none,some 33,.load1 (.tmp 32)⟩,none,true,[],[]⟩,⟨⟨none,some 34,.bin .add (.tmp 33) (.lit (.int .i64 1))⟩,none,true,[],[]⟩,⟨⟨none,some 35,.bld [.int .i64 0,.int .i64 0,.str [],.str [],.str [],.bool false,.str [],.str [],.int .i64 0] [(5,1,(.lit (.bool true))),(6,1,(.tmp 26)),(7,1,(.tmp 29)),(8,1,(.tmp 34))]⟩,none,true,[],[]⟩,⟨⟨none,some 9,.mov (.lit (.bad))⟩,(some (0,43,[.int .i64 0,.int .i64 0,.str [],.str [],.str [],.bool false,.str [],.str [],.int .i64 0],none)),true,[],[]⟩,⟨⟨none,none,.store 9 (.tmp 9) (.tmp 35)⟩,none,true,[],[]⟩])
 (.seq (.ops [⟨none,some 36,.mov (.tmp 0)⟩,⟨none,some 37,.faddr 4 (.tmp 4)⟩,⟨none,some 38,.load1 (.tmp 37)⟩,⟨none,some 39,.mov (.tmp 2)⟩,⟨none,some 40,.loadN 9 (.tmp 9)⟩,⟨none,some 41,.call 72 [(.tmp 36),(.tmp 38),(.tmp 39),(.tmp 40)]⟩,⟨none,some 10,.mov (.tmp 41)⟩])
 (.seq (.seq (.ops [⟨none,some 42,.mov (.tmp 10)⟩,⟨none,some 43,.lenL (.tmp 42)⟩,⟨none,some 44,.bin .gtr (.tmp 43) (.lit (.int .i64 0))⟩])
 (.cond (.tmp 44) (.ops [⟨none,some 45,.mov (.tmp 0)⟩,⟨none,some 46,.nchk (.tmp 45)⟩,⟨none,some 47,.faddr 2 (.tmp 46)⟩,⟨none,some 48,.load1 (.tmp 47)⟩,⟨none,some 49,.bin .add (.tmp 48) (.lit (.int .i64 1))⟩,⟨none,some 50,.nchk (.tmp 45)⟩,⟨none,some 51,.faddr 2 (.tmp 50)⟩,⟨none,none,.store 1 (.tmp 51) (.tmp 49)⟩])
 .skip))
 (.seq (.ops [⟨none,some 52,.mov (.tmp 10)⟩,⟨none,some 6,.mov (.tmp 52)⟩])
 .ret))))))),
 [.tmp 6],none⟩
theorem r104:Xag Tryz.prog cfg 104=some I104:=by kernel_rfl
noncomputable def I105:IF:=⟨73,(.seq (.ops [⟨none,some 6,.mov (.lit (.int .i64 0))⟩,⟨none,some 7,.mov (.lit (.nilI))⟩])
 (.seq (.seq (.ops [⟨none,some 12,.mov (.tmp 0)⟩,⟨none,some 13,.bin .eql (.tmp 12) (.lit (.str []))⟩])
 (.cond (.tmp 13) (.seq (.ops [⟨none,some 14,.mkif 174 (.lit (.int .i64 2))⟩,⟨none,some 6,.mov (.lit (.int .i64 0))⟩,⟨none,some 7,.mov (.tmp 14)⟩])
 .ret)
 .skip))
 (.seq (.ops [⟨none,some 8,.mov (.lit (.bool false))⟩])
 (.seq (.seq (.ops [⟨none,some 15,.mov (.tmp 0)⟩,⟨none,some 16,.ixs (.tmp 15) (.lit (.int .i64 0))⟩])
 (.block 0 (.seq (.ops [⟨none,some 18,.bin .eql (.tmp 16) (.lit (.int .u8 (43)))⟩,⟨none,some 17,.mov (.tmp 18)⟩])
 (.cond (.tmp 17) (.ops [⟨none,some 19,.mov (.tmp 0)⟩,⟨none,some 20,.cut (.tmp 19) (some (.lit (.int .i64 1))) none⟩,⟨none,some 0,.mov (.tmp 20)⟩])
 (.seq (.ops [⟨none,some 22,.bin .eql (.tmp 16) (.lit (.int .u8 (45)))⟩,⟨none,some 21,.mov (.tmp 22)⟩])
 (.cond (.tmp 21) (.seq (.ops [⟨none,some 23,.mov (.tmp 0)⟩,⟨none,some 24,.cut (.tmp 23) (some (.lit (.int .i64 1))) none⟩,⟨none,some 0,.mov (.tmp 24)⟩])
 (.ops [⟨none,some 8,.mov (.lit (.bool true))⟩]))
 .skip))))))
 (.seq (.ops [⟨none,some 9,.mov (.lit (.int .u64 (0)))⟩])
 (.seq (.ops [⟨none,some 26,.mov (.tmp 0)⟩,⟨none,some 27,.mov (.tmp 1)⟩,⟨none,some 28,.mov (.tmp 2)⟩,⟨none,some 29,.call 128 [(.tmp 26),(.tmp 27),(.tmp 28)]⟩,⟨none,some 25,.mov (.tmp 29)⟩,⟨none,some 30,.ext (.tmp 25) 0⟩,⟨none,some 31,.ext (.tmp 25) 1⟩,⟨none,some 9,.mov (.tmp 30)⟩,⟨none,some 7,.mov (.tmp 31)⟩])
 (.seq (.seq (.ops [⟨none,some 32,.mov (.tmp 7)⟩,⟨none,some 33,.nilT true 4 (.tmp 32)⟩,⟨none,some 34,.mov (.tmp 33)⟩,⟨(some (34,true)),some 35,.mov (.tmp 7)⟩,⟨(some (34,true)),some 36,.mkif 174 (.lit (.int .i64 1))⟩,⟨(some (34,true)),some 37,.raw (Xlh Tryz.f105 36)⟩,⟨none,some 38,.pick (.tmp 34) (.tmp 37) (.lit (.bool false))⟩])
 (.cond (.tmp 38) (.seq (.ops [⟨none,some 39,.mov (.tmp 7)⟩,⟨none,some 6,.mov (.lit (.int .i64 0))⟩,⟨none,some 7,.mov (.tmp 39)⟩])
 .ret)
 .skip))
 (.seq (.seq (.ops [⟨none,some 40,.mov (.tmp 2)⟩,⟨none,some 41,.bin .eql (.tmp 40) (.lit (.int .i64 0))⟩])
 (.cond (.tmp 41) (.ops [⟨none,some 2,.mov (.lit (.int .i64 64))⟩])
 .skip))
 (.seq (.ops [⟨none,some 42,.mov (.tmp 2)⟩,⟨none,some 43,.bin .sub (.tmp 42) (.lit (.int .i64 1))⟩,⟨none,some 44,.conv .u64 (.tmp 43)⟩,⟨none,some 45,.bin .shl (.lit (.int .u64 (1))) (.tmp 44)⟩,⟨none,some 10,.mov (.tmp 45)⟩])
 (.seq (.seq (.ops [⟨none,some 46,.mov (.tmp 8)⟩,⟨none,some 47,.un .not (.tmp 46)⟩,⟨none,some 48,.mov (.tmp 47)⟩,⟨(some (48,true)),some 49,.mov (.tmp 9)⟩,⟨(some (48,true)),some 50,.mov (.tmp 10)⟩,⟨(some (48,true)),some 51,.bin .geq (.tmp 49) (.tmp 50)⟩,⟨none,some 52,.pick (.tmp 48) (.tmp 51) (.lit (.bool false))⟩])
 (.cond (.tmp 52) (.seq (.ops [⟨none,some 53,.mov (.tmp 10)⟩,⟨none,some 54,.bin .sub (.tmp 53) (.lit (.int .u64 (1)))⟩,⟨none,some 55,.conv .i64 (.tmp 54)⟩,⟨none,some 56,.mkif 174 (.lit (.int .i64 1))⟩,⟨none,some 6,.mov (.tmp 55)⟩,⟨none,some 7,.mov (.tmp 56)⟩])
 .ret)
 .skip))
 (.seq (.seq (.ops [⟨none,some 57,.mov (.tmp 8)⟩,⟨none,some 58,.mov (.tmp 57)⟩,⟨(some (58,true)),some 59,.mov (.tmp 9)⟩,⟨(some (58,true)),some 60,.mov (.tmp 10)⟩,⟨(some (58,true)),some 61,.bin .gtr (.tmp 59) (.tmp 60)⟩,⟨none,some 62,.pick (.tmp 58) (.tmp 61) (.lit (.bool false))⟩])
 (.cond (.tmp 62) (.seq (.ops [⟨none,some 63,.mov (.tmp 10)⟩,⟨none,some 64,.conv .i64 (.tmp 63)⟩,⟨none,some 65,.un .neg (.tmp 64)⟩,⟨none,some 66,.mkif 174 (.lit (.int .i64 1))⟩,⟨none,some 6,.mov (.tmp 65)⟩,⟨none,some 7,.mov (.tmp 66)⟩])
 .ret)
 .skip))
 (.seq (.ops [⟨none,some 67,.mov (.tmp 9)⟩,⟨none,some 68,.conv .i64 (.tmp 67)⟩,⟨none,some 11,.mov (.tmp 68)⟩])
 (.seq (.seq (.ops [⟨none,some 69,.mov (.tmp 8)⟩])
 (.cond (.tmp 69) (.ops [⟨none,some 70,.mov (.tmp 11)⟩,⟨none,some 71,.un .neg (.tmp 70)⟩,⟨none,some 11,.mov (.tmp 71)⟩])
 .skip))
 (.seq (.ops [⟨none,some 72,.mov (.tmp 11)⟩,⟨none,some 6,.mov (.tmp 72)⟩,⟨none,some 7,.mov (.lit (.nilI))⟩])
 .ret)))))))))))))),
 [.tmp 6,.tmp 7],none⟩
theorem r105:Xag Tryz.prog cfg 105=some I105:=by kernel_rfl
noncomputable def I106:IF:=⟨20,(.seq (.ops [⟨none,some 2,.mov (.tmp 0)⟩,⟨none,some 3,.nchk (.tmp 2)⟩,⟨none,some 4,.faddr 0 (.tmp 3)⟩,⟨none,some 5,.load1 (.tmp 4)⟩,⟨none,some 6,.nilT false 0 (.tmp 5)⟩])
 (.cond (.tmp 6) (.ops [⟨none,some 7,.mov (.tmp 0)⟩,⟨none,some 8,.mov (.tmp 0)⟩,⟨none,some 9,.raw (Xlh Tryz.f106 7)⟩,⟨none,some 10,.mov (.tmp 9)⟩,⟨none,some 11,.raw (Xlh Tryz.f106 9)⟩,⟨none,some 12,.nchk (.tmp 7)⟩,⟨none,some 13,.faddr 0 (.tmp 12)⟩,⟨none,none,.store 1 (.tmp 13) (.tmp 11)⟩])
 (.seq (.ops [⟨none,some 14,.mov (.tmp 0)⟩,⟨none,some 15,.nchk (.tmp 14)⟩,⟨none,some 16,.faddr 0 (.tmp 15)⟩,⟨none,some 17,.load1 (.tmp 16)⟩,⟨none,some 18,.mov (.tmp 0)⟩,⟨none,some 19,.ptq true (.tmp 17) (.tmp 18)⟩])
 (.cond (.tmp 19) .bad
 .skip)))),
 [],none⟩
theorem r106:Xag Tryz.prog cfg 106=some I106:=by kernel_rfl
noncomputable def I107:IF:=⟨16,(.seq (.ops [⟨none,some 4,.mov (.lit (.nilS))⟩])
 (.seq (.seq (.ops [⟨none,some 5,.mov (.tmp 1)⟩,⟨none,some 6,.conv .u32 (.tmp 5)⟩,⟨none,some 7,.bin .leq (.tmp 6) (.lit (.int .u32 (127)))⟩])
 (.cond (.tmp 7) (.seq (.ops [⟨none,some 8,.mov (.tmp 0)⟩,⟨none,some 9,.mov (.tmp 1)⟩,⟨none,some 10,.conv .u8 (.tmp 9)⟩,⟨none,some 11,.bldS 5 1 1 [.int .u8 (0)] [(0,1,(.tmp 10))]⟩,⟨none,some 12,.app 5 1 (.tmp 8) (.tmp 11)⟩,⟨none,some 4,.mov (.tmp 12)⟩])
 .ret)
 .skip))
 (.seq (.ops [⟨none,some 13,.mov (.tmp 0)⟩,⟨none,some 14,.mov (.tmp 1)⟩,⟨none,some 15,.call 130 [(.tmp 13),(.tmp 14)]⟩,⟨none,some 4,.mov (.tmp 15)⟩])
 .ret))),
 [.tmp 4],none⟩
theorem r107:Xag Tryz.prog cfg 107=some I107:=by kernel_rfl
noncomputable def Xq5:IF:=⟨121,(.seq (.ops [⟨none,some 4,.box 25 (.tmp 1)⟩,⟨none,some 6,.mov (.lit (.nilS))⟩])
 (.seq (.ops [⟨none,some 20,.loadN 5 (.tmp 4)⟩,⟨none,some 21,.call 29 [(.tmp 20),(.lit (.str [114,80,114]))]⟩,⟨none,some 19,.mov (.tmp 21)⟩,⟨none,some 22,.ext (.tmp 19) 0⟩,⟨none,some 23,.ext (.tmp 19) 1⟩,⟨none,some 7,.new 25 [.str [],.str [],.str [],.nilS,.nilS]⟩,⟨none,none,.store 5 (.tmp 7) (.tmp 22)⟩,⟨none,some 8,.mov (.tmp 23)⟩])
 (.seq (.ops [⟨none,some 24,.loadN 5 (.tmp 7)⟩,⟨none,some 25,.call 55 [(.tmp 24),(.lit (.str [114,83,116,121,108,101]))]⟩,⟨none,some 9,.mov (.tmp 25)⟩])
 (.seq (.draw [] [⟨⟨none,some 26,.mov (.tmp 0)⟩,none,true,[],[]⟩,⟨⟨none,some 27,.nchk (.tmp 26)⟩,none,true,[],[]⟩,⟨⟨none,some 28,.faddr 1 (.tmp 27)⟩,none,true,[],[]⟩,⟨⟨none,some 29,.load1 (.tmp 28)⟩,none,true,[],[]⟩,⟨⟨none,some 30,.mov (.tmp 2)⟩,none,true,[],[]⟩,⟨⟨none,some 31,.mov (.tmp 9)⟩,none,true,[],[]⟩,⟨⟨none,some 32,.loadN 5 (.tmp 7)⟩,none,true,[],[]⟩,⟨⟨none,some 33,.call 132 [(.tmp 32),(.lit (.str [105]))]⟩,none,false,[1,3,8],[8]⟩,⟨⟨none,some 34,.loadN 5 (.tmp 7)⟩,none,true,[],[]⟩,⟨⟨none,some 35,.call 132 [(.tmp 34),(.lit (.str [98]))]⟩,none,false,[1,3],[]⟩,⟨⟨none,some 36,.call 131 [(.tmp 29),(.tmp 30),(.tmp 31),(.tmp 33),(.tmp 35)]⟩,none,true,[],[]⟩,⟨⟨none,some 10,.mov (.tmp 36)⟩,none,true,[],[]⟩])
 (.seq (.ops [⟨none,some 11,.mov (.lit (.int .i64 1))⟩])
 (.seq (.seq (.ops [⟨none,some 37,.mov (.tmp 9)⟩,⟨none,some 38,.bin .eql (.tmp 37) (.lit (.str [67,111,100,101,84,101,120,116]))⟩])
 (.cond (.tmp 38) (.ops [⟨none,some 11,.mov (.lit (.int .i64 2))⟩])
 .skip))
 (.seq (.ops [⟨none,some 12,.mov (.lit (.nilS))⟩])
 (.seq (.seq (.ops [⟨none,some 13,.mov (.lit (.int .i64 0))⟩])
 (.block 0 (.loop (some [0,4,10,11,12,13]) (.seq (.seq (.ops [⟨none,some 39,.mov (.tmp 13)⟩,⟨none,some 40,.faddr 4 (.tmp 4)⟩,⟨none,some 41,.load1 (.tmp 40)⟩,⟨none,some 42,.lenL (.tmp 41)⟩,⟨none,some 43,.bin .lss (.tmp 39) (.tmp 42)⟩])
 (.cond (.tmp 43) .skip
 (.exit 0)))
 (.seq (.block 1 (.seq (.ops [⟨none,some 46,.faddr 4 (.tmp 4)⟩,⟨none,some 47,.load1 (.tmp 46)⟩,⟨none,some 48,.mov (.tmp 13)⟩,⟨none,some 49,.iaddr 5 (.tmp 47) (.tmp 48)⟩,⟨none,some 50,.loadN 5 (.tmp 49)⟩,⟨none,some 14,.new 25 [.str [],.str [],.str [],.nilS,.nilS]⟩,⟨none,none,.store 5 (.tmp 14) (.tmp 50)⟩])
 (.seq (.seq (.ops [⟨none,some 51,.faddr 0 (.tmp 14)⟩,⟨none,some 52,.load1 (.tmp 51)⟩,⟨none,some 53,.bin .neq (.tmp 52) (.lit (.str [104,116,116,112,58,47,47,115,99,104,101,109,97,115,46,111,112,101,110,120,109,108,102,111,114,109,97,116,115,46,111,114,103,47,119,111,114,100,112,114,111,99,101,115,115,105,110,103,109,108,47,50,48,48,54,47,109,97,105,110]))⟩])
 (.cond (.tmp 53) (.exit 1)
 .skip))
 (.seq (.ops [⟨none,some 54,.faddr 1 (.tmp 14)⟩,⟨none,some 55,.load1 (.tmp 54)⟩])
 (.block 2 (.seq (.ops [⟨none,some 57,.bin .eql (.tmp 55) (.lit (.str [116]))⟩,⟨none,some 56,.mov (.tmp 57)⟩])
 (.cond (.tmp 56) (.seq (.ops [⟨none,some 15,.mov (.lit (.str []))⟩])
 (.seq (.seq (.ops [⟨none,some 16,.mov (.lit (.int .i64 0))⟩])
 (.block 3 (.loop (some [0,4,10,11,12,13,14,15,16]) (.seq (.seq (.ops [⟨none,some 58,.mov (.tmp 16)⟩,⟨none,some 59,.faddr 4 (.tmp 14)⟩,⟨none,some 60,.load1 (.tmp 59)⟩,⟨none,some 61,.lenL (.tmp 60)⟩,⟨none,some 62,.bin .lss (.tmp 58) (.tmp 61)⟩])
 (.cond (.tmp 62) .skip
 (.exit 3)))
 (.seq (.block 4 (.seq (.ops [⟨none,some 65,.faddr 4 (.tmp 14)⟩,⟨none,some 66,.load1 (.tmp 65)⟩,⟨none,some 67,.mov (.tmp 16)⟩,⟨none,some 68,.iaddr 5 (.tmp 66) (.tmp 67)⟩,⟨none,some 69,.faddr 1 (.tmp 68)⟩,⟨none,some 70,.load1 (.tmp 69)⟩,⟨none,some 71,.bin .eql (.tmp 70) (.lit (.str []))⟩])
 (.cond (.tmp 71) (.ops [⟨none,some 72,.mov (.tmp 15)⟩,⟨none,some 73,.faddr 4 (.tmp 14)⟩,⟨none,some 74,.load1 (.tmp 73)⟩,⟨none,some 75,.mov (.tmp 16)⟩,⟨none,some 76,.iaddr 5 (.tmp 74) (.tmp 75)⟩,⟨none,some 77,.faddr 2 (.tmp 76)⟩,⟨none,some 78,.load1 (.tmp 77)⟩,⟨none,some 79,.bin .add (.tmp 72) (.tmp 78)⟩,⟨none,some 15,.mov (.tmp 79)⟩])
 .skip)))
 (.ops [⟨none,some 63,.mov (.tmp 16)⟩,⟨none,some 64,.bin .add (.tmp 63) (.lit (.int .i64 1))⟩,⟨none,some 16,.mov (.tmp 64)⟩]))))))
 (.seq (.ops [⟨none,some 80,.mov (.tmp 15)⟩,⟨none,some 81,.bin .neq (.tmp 80) (.lit (.str []))⟩])
 (.cond (.tmp 81) (.ops [⟨none,some 82,.mov (.tmp 12)⟩,⟨none,some 83,.mov (.tmp 11)⟩,⟨none,some 84,.mov (.tmp 10)⟩,⟨none,some 85,.mov (.tmp 15)⟩,⟨none,some 86,.call 54 [(.tmp 85)]⟩,⟨none,some 87,.bld [.int .i64 0,.int .i64 0,.str [],.str [],.str [],.bool false,.str [],.str [],.int .i64 0] [(0,1,(.tmp 83)),(1,1,(.tmp 84)),(2,1,(.tmp 86))]⟩,⟨none,some 88,.bldS 43 9 1 [.int .i64 0,.int .i64 0,.str [],.str [],.str [],.bool false,.str [],.str [],.int .i64 0] [(0,9,(.tmp 87))]⟩,⟨none,some 89,.app 43 9 (.tmp 82) (.tmp 88)⟩,⟨none,some 12,.mov (.tmp 89)⟩])
 .skip))))
 (.seq (.ops [⟨none,some 91,.bin .eql (.tmp 55) (.lit (.str [116,97,98]))⟩,⟨none,some 90,.mov (.tmp 91)⟩])
 (.cond (.tmp 90) (.ops [⟨none,some 92,.mov (.tmp 12)⟩,⟨none,some 93,.mov (.tmp 11)⟩,⟨none,some 94,.mov (.tmp 10)⟩,⟨none,some 95,.bld [.int .i64 0,.int .i64 0,.str [],.str [],.str [],.bool false,.str [],.str [],.int .i64 0] [(0,1,(.tmp 93)),(1,1,(.tmp 94)),(2,1,(.lit (.str [9])))]⟩,⟨none,some 96,.bldS 43 9 1 [.int .i64 0,.int .i64 0,.str [],.str [],.str [],.bool false,.str [],.str [],.int .i64 0] [(0,9,(.tmp 95))]⟩,⟨none,some 97,.app 43 9 (.tmp 92) (.tmp 96)⟩,⟨none,some 12,.mov (.tmp 97)⟩])
 (.seq (.seq (.ops [⟨none,some 99,.bin .eql (.tmp 55) (.lit (.str [98,114]))⟩,⟨none,some 98,.mov (.tmp 99)⟩])
 (.cond (.tmp 98) .skip
 (.ops [⟨none,some 100,.bin .eql (.tmp 55) (.lit (.str [99,114]))⟩,⟨none,some 98,.mov (.tmp 100)⟩])))
 (.cond (.tmp 98) (.ops [⟨none,some 101,.mov (.tmp 12)⟩,⟨none,some 102,.bld [.int .i64 0,.int .i64 0,.str [],.str [],.str [],.bool false,.str [],.str [],.int .i64 0] [(0,1,(.lit (.int .i64 3)))]⟩,⟨none,some 103,.bldS 43 9 1 [.int .i64 0,.int .i64 0,.str [],.str [],.str [],.bool false,.str [],.str [],.int .i64 0] [(0,9,(.tmp 102))]⟩,⟨none,some 104,.app 43 9 (.tmp 101) (.tmp 103)⟩,⟨none,some 12,.mov (.tmp 104)⟩])
 (.seq (.ops [⟨none,some 106,.bin .eql (.tmp 55) (.lit (.str [100,114,97,119,105,110,103]))⟩,⟨none,some 105,.mov (.tmp 106)⟩])
 (.cond (.tmp 105) (.seq (.ops [⟨none,some 108,.mov (.tmp 0)⟩,⟨none,some 109,.loadN 5 (.tmp 14)⟩,⟨none,some 110,.call 133 [(.tmp 108),(.tmp 109)]⟩,⟨none,some 107,.mov (.tmp 110)⟩,⟨none,some 111,.ext (.tmp 107) 0⟩,⟨none,some 112,.ext (.tmp 107) 1⟩,⟨none,some 17,.new 43 [.int .i64 0,.int .i64 0,.str [],.str [],.str [],.bool false,.str [],.str [],.int .i64 0]⟩,⟨none,none,.store 9 (.tmp 17) (.tmp 111)⟩,⟨none,some 18,.mov (.tmp 112)⟩])
 (.seq (.ops [⟨none,some 113,.mov (.tmp 18)⟩])
 (.cond (.tmp 113) (.seq (.ops [⟨none,some 114,.mov (.tmp 10)⟩,⟨none,some 115,.faddr 1 (.tmp 17)⟩,⟨none,none,.store 1 (.tmp 115) (.tmp 114)⟩])
 (.ops [⟨none,some 116,.mov (.tmp 12)⟩,⟨none,some 117,.loadN 9 (.tmp 17)⟩,⟨none,some 118,.bldS 43 9 1 [.int .i64 0,.int .i64 0,.str [],.str [],.str [],.bool false,.str [],.str [],.int .i64 0] [(0,9,(.tmp 117))]⟩,⟨none,some 119,.app 43 9 (.tmp 116) (.tmp 118)⟩,⟨none,some 12,.mov (.tmp 119)⟩]))
 .skip)))
 .skip)))))))))))))
 (.ops [⟨none,some 44,.mov (.tmp 13)⟩,⟨none,some 45,.bin .add (.tmp 44) (.lit (.int .i64 1))⟩,⟨none,some 13,.mov (.tmp 45)⟩]))))))
 (.seq (.ops [⟨none,some 120,.mov (.tmp 12)⟩,⟨none,some 6,.mov (.tmp 120)⟩])
 .ret))))))))),
 [.tmp 6],none⟩
theorem r108:Xag Tryz.prog cfg 108=some Xq5:=by kernel_rfl
noncomputable def I109:IF:=⟨50,(.seq (.ops [⟨none,some 4,.box 25 (.tmp 1)⟩,⟨none,some 6,.mov (.lit (.nilS))⟩])
 (.seq (.ops [⟨none,some 13,.loadN 5 (.tmp 4)⟩,⟨none,some 14,.call 83 [(.tmp 13),(.lit (.str [104,116,116,112,58,47,47,115,99,104,101,109,97,115,46,111,112,101,110,120,109,108,102,111,114,109,97,116,115,46,111,114,103,47,111,102,102,105,99,101,68,111,99,117,109,101,110,116,47,50,48,48,54,47,114,101,108,97,116,105,111,110,115,104,105,112,115])),(.lit (.str [105,100]))]⟩,⟨none,some 12,.mov (.tmp 14)⟩,⟨none,some 15,.ext (.tmp 12) 0⟩,⟨none,some 16,.ext (.tmp 12) 1⟩,⟨none,some 7,.mov (.tmp 15)⟩,⟨none,some 8,.mov (.tmp 16)⟩])
 (.seq (.seq (.ops [⟨none,some 17,.mov (.tmp 8)⟩,⟨none,some 18,.un .not (.tmp 17)⟩])
 (.cond (.tmp 18) (.seq (.ops [⟨none,some 19,.mov (.tmp 0)⟩,⟨none,some 20,.loadN 5 (.tmp 4)⟩,⟨none,some 21,.mov (.tmp 2)⟩,⟨none,some 22,.bld [.bool false,.str [],.str []] []⟩,⟨none,some 23,.call 80 [(.tmp 19),(.tmp 20),(.tmp 21),(.tmp 22)]⟩,⟨none,some 6,.mov (.tmp 23)⟩])
 .ret)
 .skip))
 (.seq (.ops [⟨none,some 25,.loadN 5 (.tmp 4)⟩,⟨none,some 26,.call 83 [(.tmp 25),(.lit (.str [104,116,116,112,58,47,47,115,99,104,101,109,97,115,46,111,112,101,110,120,109,108,102,111,114,109,97,116,115,46,111,114,103,47,119,111,114,100,112,114,111,99,101,115,115,105,110,103,109,108,47,50,48,48,54,47,109,97,105,110])),(.lit (.str [116,111,111,108,116,105,112]))]⟩,⟨none,some 24,.mov (.tmp 26)⟩,⟨none,some 27,.ext (.tmp 24) 0⟩,⟨none,some 28,.ext (.tmp 24) 1⟩,⟨none,some 9,.mov (.tmp 27)⟩,⟨none,some 10,.mov (.tmp 28)⟩])
 (.seq (.draw [] [⟨⟨none,some 29,.mov (.tmp 0)⟩,none,true,[],[]⟩,⟨⟨none,some 30,.loadN 5 (.tmp 4)⟩,none,true,[],[]⟩,⟨⟨none,some 31,.mov (.tmp 2)⟩,none,true,[],[]⟩,⟨⟨none,some 32,.mov (.tmp 0)⟩,none,true,[],[]⟩,⟨⟨none,some 33,.mov (.tmp 7)⟩,none,true,[],[]⟩,⟨⟨none,some 34,.call 134 [(.tmp 32),(.tmp 33),(.lit (.str [104,116,116,112,58,47,47,115,99,104,101,109,97,115,46,111,112,101,110,120,109,108,102,111,114,109,97,116,115,46,111,114,103,47,111,102,102,105,99,101,68,111,99,117,109,101,110,116,47,50,48,48,54,47,114,101,108,97,116,105,111,110,115,104,105,112,115,47,104,121,112,101,114,108,105,110,107]))]⟩,none,false,[1],[6]⟩,⟨⟨none,some 35,.mov (.tmp 9)⟩,none,true,[],[]⟩,⟨⟨none,some 36,.call 54 [(.tmp 35)]⟩,none,false,[1],[]⟩,⟨⟨none,some 37,.bld [.bool false,.str [],.str []] [(0,1,(.lit (.bool true))),(1,1,(.tmp 34)),(2,1,(.tmp 36))]⟩,none,true,[],[]⟩,⟨⟨none,some 38,.call 80 [(.tmp 29),(.tmp 30),(.tmp 31),(.tmp 37)]⟩,none,true,[],[]⟩,⟨⟨none,some 11,.mov (.tmp 38)⟩,none,true,[],[]⟩])
 (.seq (.seq (.ops [⟨none,some 39,.mov (.tmp 11)⟩,⟨none,some 40,.lenL (.tmp 39)⟩,⟨none,some 41,.bin .gtr (.tmp 40) (.lit (.int .i64 0))⟩])
 (.cond (.tmp 41) (.ops [⟨none,some 42,.mov (.tmp 0)⟩,⟨none,some 43,.nchk (.tmp 42)⟩,⟨none,some 44,.faddr 2 (.tmp 43)⟩,⟨none,some 45,.load1 (.tmp 44)⟩,⟨none,some 46,.bin .add (.tmp 45) (.lit (.int .i64 1))⟩,⟨none,some 47,.nchk (.tmp 42)⟩,⟨none,some 48,.faddr 2 (.tmp 47)⟩,⟨none,none,.store 1 (.tmp 48) (.tmp 46)⟩])
 .skip))
 (.seq (.ops [⟨none,some 49,.mov (.tmp 11)⟩,⟨none,some 6,.mov (.tmp 49)⟩])
 .ret))))))),
 [.tmp 6],none⟩
theorem r109:Xag Tryz.prog cfg 109=some I109:=by kernel_rfl
noncomputable def I110:IF:=⟨35,(.seq (.ops [⟨none,some 2,.mov (.lit (.int .i64 0))⟩])
 (.seq (.block 0 (.seq (.ops [⟨none,some 4,.mov (.tmp 0)⟩,⟨none,some 5,.bin .geq (.tmp 4) (.lit (.int .u8 (48)))⟩,⟨none,some 6,.mov (.tmp 5)⟩,⟨(some (6,true)),some 7,.mov (.tmp 0)⟩,⟨(some (6,true)),some 8,.bin .leq (.tmp 7) (.lit (.int .u8 (57)))⟩,⟨none,some 9,.pick (.tmp 6) (.tmp 8) (.lit (.bool false))⟩,⟨none,some 3,.mov (.tmp 9)⟩])
 (.cond (.tmp 3) (.seq (.ops [⟨none,some 10,.mov (.tmp 0)⟩,⟨none,some 11,.bin .sub (.tmp 10) (.lit (.int .u8 (48)))⟩,⟨none,some 12,.conv .i64 (.tmp 11)⟩,⟨none,some 2,.mov (.tmp 12)⟩])
 .ret)
 (.seq (.ops [⟨none,some 14,.mov (.tmp 0)⟩,⟨none,some 15,.bin .geq (.tmp 14) (.lit (.int .u8 (97)))⟩,⟨none,some 16,.mov (.tmp 15)⟩,⟨(some (16,true)),some 17,.mov (.tmp 0)⟩,⟨(some (16,true)),some 18,.bin .leq (.tmp 17) (.lit (.int .u8 (102)))⟩,⟨none,some 19,.pick (.tmp 16) (.tmp 18) (.lit (.bool false))⟩,⟨none,some 13,.mov (.tmp 19)⟩])
 (.cond (.tmp 13) (.seq (.ops [⟨none,some 20,.mov (.tmp 0)⟩,⟨none,some 21,.bin .sub (.tmp 20) (.lit (.int .u8 (97)))⟩,⟨none,some 22,.conv .i64 (.tmp 21)⟩,⟨none,some 23,.bin .add (.tmp 22) (.lit (.int .i64 10))⟩,⟨none,some 2,.mov (.tmp 23)⟩])
 .ret)
 (.seq (.ops [⟨none,some 25,.mov (.tmp 0)⟩,⟨none,some 26,.bin .geq (.tmp 25) (.lit (.int .u8 (65)))⟩,⟨none,some 27,.mov (.tmp 26)⟩,⟨(some (27,true)),some 28,.mov (.tmp 0)⟩,⟨(some (27,true)),some 29,.bin .leq (.tmp 28) (.lit (.int .u8 (70)))⟩,⟨none,some 30,.pick (.tmp 27) (.tmp 29) (.lit (.bool false))⟩,⟨none,some 24,.mov (.tmp 30)⟩])
 (.cond (.tmp 24) (.seq (.ops [⟨none,some 31,.mov (.tmp 0)⟩,⟨none,some 32,.bin .sub (.tmp 31) (.lit (.int .u8 (65)))⟩,⟨none,some 33,.conv .i64 (.tmp 32)⟩,⟨none,some 34,.bin .add (.tmp 33) (.lit (.int .i64 10))⟩,⟨none,some 2,.mov (.tmp 34)⟩])
 .ret)
 .skip)))))))
 (.seq (.ops [⟨none,some 2,.mov (.lit (.int .i64 (-1)))⟩])
 .ret))),
 [.tmp 2],none⟩
theorem r110:Xag Tryz.prog cfg 110=some I110:=by kernel_rfl
noncomputable def I121:IF:=⟨19,(.seq (.ops [⟨none,some 4,.mov (.lit (.int .i64 0))⟩])
 (.seq (.seq (.ops [⟨none,some 6,.mov (.tmp 0)⟩,⟨none,some 7,.lenL (.tmp 6)⟩,⟨none,some 8,.mov (.lit (.int .i64 0))⟩])
 (.block 0 (.loop (some [0,1,7,8]) (.seq (.ops [⟨none,some 9,.bin .lss (.tmp 8) (.tmp 7)⟩])
 (.seq (.cond (.tmp 9) .skip
 (.exit 0))
 (.seq (.block 1 (.seq (.ops [⟨none,some 10,.mov (.tmp 8)⟩,⟨none,some 5,.mov (.tmp 10)⟩])
 (.seq (.ops [⟨none,some 11,.mov (.tmp 1)⟩,⟨none,some 12,.mov (.tmp 0)⟩,⟨none,some 13,.mov (.tmp 5)⟩,⟨none,some 14,.iaddr 6 (.tmp 12) (.tmp 13)⟩,⟨none,some 15,.loadN 6 (.tmp 14)⟩,⟨none,some 16,.callv (.tmp 11) [(.tmp 15)]⟩])
 (.cond (.tmp 16) (.seq (.ops [⟨none,some 17,.mov (.tmp 5)⟩,⟨none,some 4,.mov (.tmp 17)⟩])
 .ret)
 .skip))))
 (.ops [⟨none,some 18,.bin .add (.tmp 8) (.lit (.int .i64 1))⟩,⟨none,some 8,.mov (.tmp 18)⟩])))))))
 (.seq (.ops [⟨none,some 4,.mov (.lit (.int .i64 (-1)))⟩])
 .ret))),
 [.tmp 4],none⟩
theorem r121:Xag Tryz.prog cfg 121=some I121:=by kernel_rfl
noncomputable def I122:IF:=⟨8,(.seq (.ops [⟨none,some 2,.box 68 (.tmp 0)⟩,⟨none,some 3,.mov (.lit (.bool false))⟩])
 (.seq (.ops [⟨none,some 4,.faddr 0 (.tmp 2)⟩,⟨none,some 5,.load1 (.tmp 4)⟩,⟨none,some 6,.load1 (.tmp 1)⟩,⟨none,some 7,.bin .eql (.tmp 5) (.tmp 6)⟩,⟨none,some 3,.mov (.tmp 7)⟩])
 .ret)),
 [.tmp 3],none⟩
theorem r122:Xag Tryz.prog cfg 122=some I122:=by kernel_rfl
noncomputable def I123:IF:=⟨36,(.seq (.ops [⟨none,some 10,.mov (.lit (.int .i64 0))⟩])
 (.seq (.seq (.ops [⟨none,some 15,.mov (.tmp 0)⟩,⟨none,some 16,.call 46 [(.tmp 15)]⟩,⟨none,some 14,.mov (.tmp 16)⟩,⟨none,some 17,.ext (.tmp 14) 0⟩,⟨none,some 18,.ext (.tmp 14) 1⟩,⟨none,some 11,.mov (.tmp 17)⟩,⟨none,some 12,.mov (.tmp 18)⟩])
 (.seq (.ops [⟨none,some 19,.mov (.tmp 12)⟩,⟨none,some 20,.bin .neq (.tmp 19) (.lit (.int .i64 0))⟩])
 (.cond (.tmp 20) (.seq (.ops [⟨none,some 10,.mov (.lit (.int .i64 0))⟩])
 .ret)
 .skip)))
 (.seq (.ops [⟨none,some 13,.mov (.lit (.int .i64 0))⟩])
 (.seq (.seq (.ops [⟨none,some 21,.mov (.tmp 0)⟩,⟨none,some 22,.mov (.tmp 1)⟩,⟨none,some 23,.mov (.tmp 2)⟩,⟨none,some 24,.mov (.tmp 3)⟩,⟨none,some 25,.call 141 [(.tmp 21),(.tmp 22),(.tmp 23),(.tmp 24),(.lit (.fn (.func 142) []))]⟩])
 (.cond (.tmp 25) (.ops [⟨none,some 26,.mov (.tmp 13)⟩,⟨none,some 27,.bin .or (.tmp 26) (.lit (.int .i64 1))⟩,⟨none,some 13,.mov (.tmp 27)⟩])
 .skip))
 (.seq (.seq (.ops [⟨none,some 28,.mov (.tmp 0)⟩,⟨none,some 29,.mov (.tmp 1)⟩,⟨none,some 30,.mov (.tmp 2)⟩,⟨none,some 31,.mov (.tmp 4)⟩,⟨none,some 32,.call 141 [(.tmp 28),(.tmp 29),(.tmp 30),(.tmp 31),(.lit (.fn (.func 143) []))]⟩])
 (.cond (.tmp 32) (.ops [⟨none,some 33,.mov (.tmp 13)⟩,⟨none,some 34,.bin .or (.tmp 33) (.lit (.int .i64 2))⟩,⟨none,some 13,.mov (.tmp 34)⟩])
 .skip))
 (.seq (.ops [⟨none,some 35,.mov (.tmp 13)⟩,⟨none,some 10,.mov (.tmp 35)⟩])
 .ret)))))),
 [.tmp 10],none⟩
theorem r123:Xag Tryz.prog cfg 123=some I123:=by kernel_rfl
noncomputable def Xym:IF:=⟨31,(.seq (.ops [⟨none,some 2,.box 25 (.tmp 0)⟩,⟨none,some 4,.new 25 [.str [],.str [],.str [],.nilS,.nilS]⟩,⟨none,some 5,.mov (.lit (.bool false))⟩])
 (.seq (.seq (.ops [⟨none,some 10,.faddr 4 (.tmp 2)⟩,⟨none,some 11,.load1 (.tmp 10)⟩,⟨none,some 12,.lenL (.tmp 11)⟩,⟨none,some 13,.mov (.lit (.int .i64 0))⟩])
 (.block 0 (.loop (some [1,4,11,12,13]) (.seq (.ops [⟨none,some 14,.bin .lss (.tmp 13) (.tmp 12)⟩])
 (.seq (.cond (.tmp 14) .skip
 (.exit 0))
 (.seq (.block 1 (.seq (.ops [⟨none,some 15,.iaddr 5 (.tmp 11) (.tmp 13)⟩,⟨none,some 16,.loadN 5 (.tmp 15)⟩,⟨none,some 7,.new 25 [.str [],.str [],.str [],.nilS,.nilS]⟩,⟨none,none,.store 5 (.tmp 7) (.tmp 16)⟩])
 (.seq (.seq (.ops [⟨none,some 17,.mov (.tmp 1)⟩,⟨none,some 18,.loadN 5 (.tmp 7)⟩,⟨none,some 19,.callv (.tmp 17) [(.tmp 18)]⟩])
 (.cond (.tmp 19) (.seq (.ops [⟨none,some 20,.loadN 5 (.tmp 7)⟩,⟨none,none,.store 5 (.tmp 4) (.tmp 20)⟩,⟨none,some 5,.mov (.lit (.bool true))⟩])
 .ret)
 .skip))
 (.seq (.ops [⟨none,some 22,.loadN 5 (.tmp 7)⟩,⟨none,some 23,.mov (.tmp 1)⟩,⟨none,some 24,.call 124 [(.tmp 22),(.tmp 23)]⟩,⟨none,some 21,.mov (.tmp 24)⟩,⟨none,some 25,.ext (.tmp 21) 0⟩,⟨none,some 26,.ext (.tmp 21) 1⟩,⟨none,some 8,.new 25 [.str [],.str [],.str [],.nilS,.nilS]⟩,⟨none,none,.store 5 (.tmp 8) (.tmp 25)⟩,⟨none,some 9,.mov (.tmp 26)⟩])
 (.seq (.ops [⟨none,some 27,.mov (.tmp 9)⟩])
 (.cond (.tmp 27) (.seq (.ops [⟨none,some 28,.loadN 5 (.tmp 8)⟩,⟨none,none,.store 5 (.tmp 4) (.tmp 28)⟩,⟨none,some 5,.mov (.lit (.bool true))⟩])
 .ret)
 .skip))))))
 (.ops [⟨none,some 29,.bin .add (.tmp 13) (.lit (.int .i64 1))⟩,⟨none,some 13,.mov (.tmp 29)⟩])))))))
 (.seq (.ops [⟨none,some 30,.bld [.str [],.str [],.str [],.nilS,.nilS] []⟩,⟨none,none,.store 5 (.tmp 4) (.tmp 30)⟩,⟨none,some 5,.mov (.lit (.bool false))⟩])
 .ret))),
 [.cellN 5 4,.tmp 5],none⟩
theorem r124:Xag Tryz.prog cfg 124=some Xym:=by kernel_rfl
noncomputable def I125:IF:=⟨21,(.seq (.ops [⟨none,some 1,.box 25 (.tmp 0)⟩,⟨none,some 2,.mov (.lit (.bool false))⟩])
 (.seq (.ops [⟨none,some 6,.loadN 5 (.tmp 1)⟩,⟨none,some 7,.call 65 [(.tmp 6),(.lit (.str [104,116,116,112,58,47,47,115,99,104,101,109,97,115,46,111,112,101,110,120,109,108,102,111,114,109,97,116,115,46,111,114,103,47,111,102,102,105,99,101,68,111,99,117,109,101,110,116,47,50,48,48,54,47,114,101,108,97,116,105,111,110,115,104,105,112,115])),(.lit (.str [108,105,110,107]))]⟩,⟨none,some 5,.mov (.tmp 7)⟩,⟨none,some 8,.ext (.tmp 5) 0⟩,⟨none,some 9,.ext (.tmp 5) 1⟩,⟨none,some 3,.mov (.tmp 8)⟩,⟨none,some 4,.mov (.tmp 9)⟩])
 (.seq (.ops [⟨none,some 10,.faddr 0 (.tmp 1)⟩,⟨none,some 11,.load1 (.tmp 10)⟩,⟨none,some 12,.bin .eql (.tmp 11) (.lit (.str [104,116,116,112,58,47,47,115,99,104,101,109,97,115,46,111,112,101,110,120,109,108,102,111,114,109,97,116,115,46,111,114,103,47,100,114,97,119,105,110,103,109,108,47,50,48,48,54,47,109,97,105,110]))⟩,⟨none,some 13,.mov (.tmp 12)⟩,⟨(some (13,true)),some 14,.faddr 1 (.tmp 1)⟩,⟨(some (13,true)),some 15,.load1 (.tmp 14)⟩,⟨(some (13,true)),some 16,.bin .eql (.tmp 15) (.lit (.str [98,108,105,112]))⟩,⟨none,some 17,.pick (.tmp 13) (.tmp 16) (.lit (.bool false))⟩,⟨none,some 18,.mov (.tmp 17)⟩,⟨(some (18,true)),some 19,.mov (.tmp 4)⟩,⟨none,some 20,.pick (.tmp 18) (.tmp 19) (.lit (.bool false))⟩,⟨none,some 2,.mov (.tmp 20)⟩])
 .ret))),
 [.tmp 2],none⟩
theorem r125:Xag Tryz.prog cfg 125=some I125:=by kernel_rfl
noncomputable def I126:IF:=⟨46,(.seq (.ops [⟨none,some 5,.box 25 (.tmp 1)⟩,⟨none,some 6,.box 25 (.tmp 2)⟩,⟨none,some 8,.new 43 [.int .i64 0,.int .i64 0,.str [],.str [],.str [],.bool false,.str [],.str [],.int .i64 0]⟩])
 (.seq (.ops [⟨none,some 18,.loadN 5 (.tmp 6)⟩,⟨none,some 19,.call 65 [(.tmp 18),(.lit (.str [104,116,116,112,58,47,47,115,99,104,101,109,97,115,46,111,112,101,110,120,109,108,102,111,114,109,97,116,115,46,111,114,103,47,111,102,102,105,99,101,68,111,99,117,109,101,110,116,47,50,48,48,54,47,114,101,108,97,116,105,111,110,115,104,105,112,115])),(.lit (.str [108,105,110,107]))]⟩,⟨none,some 17,.mov (.tmp 19)⟩,⟨none,some 20,.ext (.tmp 17) 0⟩,⟨none,some 21,.ext (.tmp 17) 1⟩,⟨none,some 9,.mov (.tmp 20)⟩,⟨none,some 10,.mov (.tmp 21)⟩])
 (.seq (.ops [⟨none,some 23,.loadN 5 (.tmp 5)⟩,⟨none,some 24,.call 124 [(.tmp 23),(.lit (.fn (.func 144) []))]⟩,⟨none,some 22,.mov (.tmp 24)⟩,⟨none,some 25,.ext (.tmp 22) 0⟩,⟨none,some 26,.ext (.tmp 22) 1⟩,⟨none,some 11,.new 25 [.str [],.str [],.str [],.nilS,.nilS]⟩,⟨none,none,.store 5 (.tmp 11) (.tmp 25)⟩,⟨none,some 12,.mov (.tmp 26)⟩])
 (.seq (.ops [⟨none,some 28,.loadN 5 (.tmp 11)⟩,⟨none,some 29,.call 65 [(.tmp 28),(.lit (.str [])),(.lit (.str [100,101,115,99,114]))]⟩,⟨none,some 27,.mov (.tmp 29)⟩,⟨none,some 30,.ext (.tmp 27) 0⟩,⟨none,some 31,.ext (.tmp 27) 1⟩,⟨none,some 13,.mov (.tmp 30)⟩,⟨none,some 14,.mov (.tmp 31)⟩])
 (.seq (.ops [⟨none,some 33,.loadN 5 (.tmp 11)⟩,⟨none,some 34,.call 65 [(.tmp 33),(.lit (.str [])),(.lit (.str [116,105,116,108,101]))]⟩,⟨none,some 32,.mov (.tmp 34)⟩,⟨none,some 35,.ext (.tmp 32) 0⟩,⟨none,some 36,.ext (.tmp 32) 1⟩,⟨none,some 15,.mov (.tmp 35)⟩,⟨none,some 16,.mov (.tmp 36)⟩])
 (.seq (.ops [⟨none,some 37,.mov (.tmp 3)⟩,⟨none,some 38,.mov (.tmp 13)⟩,⟨none,some 39,.call 51 [(.tmp 38)]⟩,⟨none,some 40,.mov (.tmp 0)⟩,⟨none,some 41,.mov (.tmp 9)⟩,⟨none,some 42,.call 127 [(.tmp 40),(.tmp 41),(.lit (.str [104,116,116,112,58,47,47,115,99,104,101,109,97,115,46,111,112,101,110,120,109,108,102,111,114,109,97,116,115,46,111,114,103,47,111,102,102,105,99,101,68,111,99,117,109,101,110,116,47,50,48,48,54,47,114,101,108,97,116,105,111,110,115,104,105,112,115,47,105,109,97,103,101]))]⟩,⟨none,some 43,.mov (.tmp 15)⟩,⟨none,some 44,.call 51 [(.tmp 43)]⟩,⟨none,some 45,.bld [.int .i64 0,.int .i64 0,.str [],.str [],.str [],.bool false,.str [],.str [],.int .i64 0] [(0,1,(.lit (.int .i64 4))),(1,1,(.tmp 37)),(2,1,(.tmp 39)),(3,1,(.tmp 42)),(4,1,(.tmp 44))]⟩,⟨none,none,.store 9 (.tmp 8) (.tmp 45)⟩])
 .ret)))))),
 [.cellN 9 8],none⟩
theorem r126:Xag Tryz.prog cfg 126=some I126:=by kernel_rfl
noncomputable def I127:IF:=⟨47,(.seq (.ops [⟨none,some 4,.box 9 (.tmp 1)⟩,⟨none,some 6,.mov (.lit (.str []))⟩])
 (.seq (.ops [⟨none,some 8,.mov (.tmp 0)⟩,⟨none,some 9,.nchk (.tmp 8)⟩,⟨none,some 10,.faddr 0 (.tmp 9)⟩,⟨none,some 11,.load1 (.tmp 10)⟩,⟨none,some 12,.mkfn (.func 146) [(.tmp 4)]⟩,⟨none,some 13,.call 145 [(.tmp 11),(.tmp 12)]⟩,⟨none,some 7,.mov (.tmp 13)⟩])
 (.seq (.ops [⟨none,some 14,.mov (.tmp 7)⟩,⟨none,some 15,.bin .geq (.tmp 14) (.lit (.int .i64 0))⟩,⟨none,some 16,.mov (.tmp 15)⟩,⟨(some (16,true)),some 17,.mov (.tmp 0)⟩,⟨(some (16,true)),some 18,.nchk (.tmp 17)⟩,⟨(some (16,true)),some 19,.faddr 0 (.tmp 18)⟩,⟨(some (16,true)),some 20,.load1 (.tmp 19)⟩,⟨(some (16,true)),some 21,.mov (.tmp 7)⟩,⟨(some (16,true)),some 22,.iaddr 4 (.tmp 20) (.tmp 21)⟩,⟨(some (16,true)),some 23,.faddr 1 (.tmp 22)⟩,⟨(some (16,true)),some 24,.load1 (.tmp 23)⟩,⟨(some (16,true)),some 25,.mov (.tmp 2)⟩,⟨(some (16,true)),some 26,.bin .eql (.tmp 24) (.tmp 25)⟩,⟨none,some 27,.pick (.tmp 16) (.tmp 26) (.lit (.bool false))⟩,⟨none,some 28,.mov (.tmp 27)⟩,⟨(some (28,true)),some 29,.mov (.tmp 0)⟩,⟨(some (28,true)),some 30,.nchk (.tmp 29)⟩,⟨(some (28,true)),some 31,.faddr 0 (.tmp 30)⟩,⟨(some (28,true)),some 32,.load1 (.tmp 31)⟩,⟨(some (28,true)),some 33,.mov (.tmp 7)⟩,⟨(some (28,true)),some 34,.iaddr 4 (.tmp 32) (.tmp 33)⟩,⟨(some (28,true)),some 35,.faddr 3 (.tmp 34)⟩,⟨(some (28,true)),some 36,.load1 (.tmp 35)⟩,⟨none,some 37,.pick (.tmp 28) (.tmp 36) (.lit (.bool false))⟩,⟨none,some 38,.call 27 [(.tmp 37),(.lit (.int .i64 15))]⟩])
 (.seq (.ops [⟨none,some 39,.mov (.tmp 0)⟩,⟨none,some 40,.nchk (.tmp 39)⟩,⟨none,some 41,.faddr 0 (.tmp 40)⟩,⟨none,some 42,.load1 (.tmp 41)⟩,⟨none,some 43,.mov (.tmp 7)⟩,⟨none,some 44,.iaddr 4 (.tmp 42) (.tmp 43)⟩,⟨none,some 45,.faddr 2 (.tmp 44)⟩,⟨none,some 46,.load1 (.tmp 45)⟩,⟨none,some 6,.mov (.tmp 46)⟩])
 .ret)))),
 [.tmp 6],none⟩
theorem r127:Xag Tryz.prog cfg 127=some I127:=by kernel_rfl
noncomputable def I128:IF:=⟨172,(.seq (.ops [⟨none,some 6,.mov (.lit (.int .u64 (0)))⟩,⟨none,some 7,.mov (.lit (.nilI))⟩])
 (.seq (.seq (.ops [⟨none,some 18,.mov (.tmp 0)⟩,⟨none,some 19,.bin .eql (.tmp 18) (.lit (.str []))⟩])
 (.cond (.tmp 19) (.seq (.ops [⟨none,some 20,.mkif 174 (.lit (.int .i64 2))⟩,⟨none,some 6,.mov (.lit (.int .u64 (0)))⟩,⟨none,some 7,.mov (.tmp 20)⟩])
 .ret)
 .skip))
 (.seq (.ops [⟨none,some 21,.mov (.tmp 1)⟩,⟨none,some 22,.bin .eql (.tmp 21) (.lit (.int .i64 0))⟩,⟨none,some 8,.mov (.tmp 22)⟩])
 (.seq (.ops [⟨none,some 23,.mov (.tmp 0)⟩,⟨none,some 9,.mov (.tmp 23)⟩])
 (.seq (.block 0 (.seq (.ops [⟨none,some 26,.mov (.tmp 1)⟩,⟨none,some 27,.bin .leq (.lit (.int .i64 2)) (.tmp 26)⟩,⟨none,some 28,.mov (.tmp 27)⟩,⟨(some (28,true)),some 29,.mov (.tmp 1)⟩,⟨(some (28,true)),some 30,.bin .leq (.tmp 29) (.lit (.int .i64 36))⟩,⟨none,some 31,.pick (.tmp 28) (.tmp 30) (.lit (.bool false))⟩,⟨none,some 25,.mov (.tmp 31)⟩])
 (.cond (.tmp 25) .skip
 (.seq (.ops [⟨none,some 33,.mov (.tmp 1)⟩,⟨none,some 34,.bin .eql (.tmp 33) (.lit (.int .i64 0))⟩,⟨none,some 32,.mov (.tmp 34)⟩])
 (.cond (.tmp 32) (.seq (.ops [⟨none,some 1,.mov (.lit (.int .i64 10))⟩])
 (.seq (.ops [⟨none,some 35,.mov (.tmp 0)⟩,⟨none,some 36,.ixs (.tmp 35) (.lit (.int .i64 0))⟩,⟨none,some 37,.bin .eql (.tmp 36) (.lit (.int .u8 (48)))⟩])
 (.cond (.tmp 37) (.block 1 (.seq (.ops [⟨none,some 41,.mov (.tmp 0)⟩,⟨none,some 42,.lenS (.tmp 41)⟩,⟨none,some 43,.bin .geq (.tmp 42) (.lit (.int .i64 3))⟩,⟨none,some 44,.mov (.tmp 43)⟩,⟨(some (44,true)),some 45,.mov (.tmp 0)⟩,⟨(some (44,true)),some 46,.ixs (.tmp 45) (.lit (.int .i64 1))⟩,⟨(some (44,true)),some 47,.call 147 [(.tmp 46)]⟩,⟨(some (44,true)),some 48,.bin .eql (.tmp 47) (.lit (.int .u8 (98)))⟩,⟨none,some 49,.pick (.tmp 44) (.tmp 48) (.lit (.bool false))⟩,⟨none,some 40,.mov (.tmp 49)⟩])
 (.cond (.tmp 40) (.seq (.ops [⟨none,some 1,.mov (.lit (.int .i64 2))⟩])
 (.ops [⟨none,some 50,.mov (.tmp 0)⟩,⟨none,some 51,.cut (.tmp 50) (some (.lit (.int .i64 2))) none⟩,⟨none,some 0,.mov (.tmp 51)⟩]))
 (.seq (.ops [⟨none,some 53,.mov (.tmp 0)⟩,⟨none,some 54,.lenS (.tmp 53)⟩,⟨none,some 55,.bin .geq (.tmp 54) (.lit (.int .i64 3))⟩,⟨none,some 56,.mov (.tmp 55)⟩,⟨(some (56,true)),some 57,.mov (.tmp 0)⟩,⟨(some (56,true)),some 58,.ixs (.tmp 57) (.lit (.int .i64 1))⟩,⟨(some (56,true)),some 59,.call 147 [(.tmp 58)]⟩,⟨(some (56,true)),some 60,.bin .eql (.tmp 59) (.lit (.int .u8 (111)))⟩,⟨none,some 61,.pick (.tmp 56) (.tmp 60) (.lit (.bool false))⟩,⟨none,some 52,.mov (.tmp 61)⟩])
 (.cond (.tmp 52) (.seq (.ops [⟨none,some 1,.mov (.lit (.int .i64 8))⟩])
 (.ops [⟨none,some 62,.mov (.tmp 0)⟩,⟨none,some 63,.cut (.tmp 62) (some (.lit (.int .i64 2))) none⟩,⟨none,some 0,.mov (.tmp 63)⟩]))
 (.seq (.ops [⟨none,some 65,.mov (.tmp 0)⟩,⟨none,some 66,.lenS (.tmp 65)⟩,⟨none,some 67,.bin .geq (.tmp 66) (.lit (.int .i64 3))⟩,⟨none,some 68,.mov (.tmp 67)⟩,⟨(some (68,true)),some 69,.mov (.tmp 0)⟩,⟨(some (68,true)),some 70,.ixs (.tmp 69) (.lit (.int .i64 1))⟩,⟨(some (68,true)),some 71,.call 147 [(.tmp 70)]⟩,⟨(some (68,true)),some 72,.bin .eql (.tmp 71) (.lit (.int .u8 (120)))⟩,⟨none,some 73,.pick (.tmp 68) (.tmp 72) (.lit (.bool false))⟩,⟨none,some 64,.mov (.tmp 73)⟩])
 (.cond (.tmp 64) (.seq (.ops [⟨none,some 1,.mov (.lit (.int .i64 16))⟩])
 (.ops [⟨none,some 74,.mov (.tmp 0)⟩,⟨none,some 75,.cut (.tmp 74) (some (.lit (.int .i64 2))) none⟩,⟨none,some 0,.mov (.tmp 75)⟩]))
 (.seq (.ops [⟨none,some 1,.mov (.lit (.int .i64 8))⟩])
 (.ops [⟨none,some 38,.mov (.tmp 0)⟩,⟨none,some 39,.cut (.tmp 38) (some (.lit (.int .i64 1))) none⟩,⟨none,some 0,.mov (.tmp 39)⟩])))))))))
 .skip)))
 (.seq (.ops [⟨none,some 24,.mkif 174 (.lit (.int .i64 3))⟩,⟨none,some 6,.mov (.lit (.int .u64 (0)))⟩,⟨none,some 7,.mov (.tmp 24)⟩])
 .ret))))))
 (.seq (.seq (.ops [⟨none,some 76,.mov (.tmp 2)⟩,⟨none,some 77,.bin .eql (.tmp 76) (.lit (.int .i64 0))⟩])
 (.cond (.tmp 77) (.ops [⟨none,some 2,.mov (.lit (.int .i64 64))⟩])
 (.seq (.ops [⟨none,some 78,.mov (.tmp 2)⟩,⟨none,some 79,.bin .lss (.tmp 78) (.lit (.int .i64 0))⟩,⟨none,some 80,.mov (.tmp 79)⟩,⟨(some (80,false)),some 81,.mov (.tmp 2)⟩,⟨(some (80,false)),some 82,.bin .gtr (.tmp 81) (.lit (.int .i64 64))⟩,⟨none,some 83,.pick (.tmp 80) (.lit (.bool true)) (.tmp 82)⟩])
 (.cond (.tmp 83) (.seq (.ops [⟨none,some 84,.mkif 174 (.lit (.int .i64 4))⟩,⟨none,some 6,.mov (.lit (.int .u64 (0)))⟩,⟨none,some 7,.mov (.tmp 84)⟩])
 .ret)
 .skip))))
 (.seq (.ops [⟨none,some 10,.mov (.lit (.int .u64 (0)))⟩])
 (.seq (.seq (.ops [⟨none,some 85,.mov (.tmp 1)⟩])
 (.block 2 (.seq (.ops [⟨none,some 91,.bin .eql (.tmp 85) (.lit (.int .i64 10))⟩,⟨none,some 90,.mov (.tmp 91)⟩])
 (.cond (.tmp 90) (.ops [⟨none,some 10,.mov (.lit (.int .u64 (1844674407370955162)))⟩])
 (.seq (.ops [⟨none,some 93,.bin .eql (.tmp 85) (.lit (.int .i64 16))⟩,⟨none,some 92,.mov (.tmp 93)⟩])
 (.cond (.tmp 92) (.ops [⟨none,some 10,.mov (.lit (.int .u64 (1152921504606846976)))⟩])
 (.ops [⟨none,some 86,.mov (.tmp 1)⟩,⟨none,some 87,.conv .u64 (.tmp 86)⟩,⟨none,some 88,.bin .quo (.lit (.int .u64 (18446744073709551615))) (.tmp 87)⟩,⟨none,some 89,.bin .add (.tmp 88) (.lit (.int .u64 (1)))⟩,⟨none,some 10,.mov (.tmp 89)⟩])))))))
 (.seq (.ops [⟨none,some 94,.mov (.tmp 2)⟩,⟨none,some 95,.conv .u64 (.tmp 94)⟩,⟨none,some 96,.bin .shl (.lit (.int .u64 (1))) (.tmp 95)⟩,⟨none,some 97,.bin .sub (.tmp 96) (.lit (.int .u64 (1)))⟩,⟨none,some 11,.mov (.tmp 97)⟩])
 (.seq (.ops [⟨none,some 12,.mov (.lit (.bool false))⟩])
 (.seq (.ops [⟨none,some 13,.mov (.lit (.int .u64 (0)))⟩])
 (.seq (.seq (.ops [⟨none,some 98,.mov (.tmp 0)⟩,⟨none,some 99,.s2b 5 (.tmp 98)⟩,⟨none,some 100,.lenL (.tmp 99)⟩,⟨none,some 101,.mov (.lit (.int .i64 0))⟩])
 (.block 3 (.loop (some [1,8,9,10,11,12,13,99,100,101]) (.seq (.ops [⟨none,some 102,.bin .lss (.tmp 101) (.tmp 100)⟩])
 (.seq (.cond (.tmp 102) .skip
 (.exit 3))
 (.seq (.block 4 (.seq (.ops [⟨none,some 103,.iaddr 1 (.tmp 99) (.tmp 101)⟩,⟨none,some 104,.load1 (.tmp 103)⟩,⟨none,some 15,.mov (.tmp 104)⟩])
 (.seq (.ops [⟨none,some 16,.mov (.lit (.int .u8 (0)))⟩])
 (.seq (.block 5 (.seq (.ops [⟨none,some 107,.mov (.tmp 15)⟩,⟨none,some 108,.bin .eql (.tmp 107) (.lit (.int .u8 (95)))⟩,⟨none,some 109,.mov (.tmp 108)⟩,⟨(some (109,true)),some 110,.mov (.tmp 8)⟩,⟨none,some 111,.pick (.tmp 109) (.tmp 110) (.lit (.bool false))⟩,⟨none,some 106,.mov (.tmp 111)⟩])
 (.cond (.tmp 106) (.seq (.ops [⟨none,some 12,.mov (.lit (.bool true))⟩])
 (.exit 4))
 (.seq (.ops [⟨none,some 113,.mov (.tmp 15)⟩,⟨none,some 114,.bin .leq (.lit (.int .u8 (48))) (.tmp 113)⟩,⟨none,some 115,.mov (.tmp 114)⟩,⟨(some (115,true)),some 116,.mov (.tmp 15)⟩,⟨(some (115,true)),some 117,.bin .leq (.tmp 116) (.lit (.int .u8 (57)))⟩,⟨none,some 118,.pick (.tmp 115) (.tmp 117) (.lit (.bool false))⟩,⟨none,some 112,.mov (.tmp 118)⟩])
 (.cond (.tmp 112) (.ops [⟨none,some 119,.mov (.tmp 15)⟩,⟨none,some 120,.bin .sub (.tmp 119) (.lit (.int .u8 (48)))⟩,⟨none,some 16,.mov (.tmp 120)⟩])
 (.seq (.ops [⟨none,some 122,.mov (.tmp 15)⟩,⟨none,some 123,.call 147 [(.tmp 122)]⟩,⟨none,some 124,.bin .leq (.lit (.int .u8 (97))) (.tmp 123)⟩,⟨none,some 125,.mov (.tmp 124)⟩,⟨(some (125,true)),some 126,.mov (.tmp 15)⟩,⟨(some (125,true)),some 127,.call 147 [(.tmp 126)]⟩,⟨(some (125,true)),some 128,.bin .leq (.tmp 127) (.lit (.int .u8 (122)))⟩,⟨none,some 129,.pick (.tmp 125) (.tmp 128) (.lit (.bool false))⟩,⟨none,some 121,.mov (.tmp 129)⟩])
 (.cond (.tmp 121) (.ops [⟨none,some 130,.mov (.tmp 15)⟩,⟨none,some 131,.call 147 [(.tmp 130)]⟩,⟨none,some 132,.bin .sub (.tmp 131) (.lit (.int .u8 (97)))⟩,⟨none,some 133,.bin .add (.tmp 132) (.lit (.int .u8 (10)))⟩,⟨none,some 16,.mov (.tmp 133)⟩])
 (.seq (.ops [⟨none,some 105,.mkif 174 (.lit (.int .i64 2))⟩,⟨none,some 6,.mov (.lit (.int .u64 (0)))⟩,⟨none,some 7,.mov (.tmp 105)⟩])
 .ret))))))))
 (.seq (.seq (.ops [⟨none,some 134,.mov (.tmp 16)⟩,⟨none,some 135,.mov (.tmp 1)⟩,⟨none,some 136,.conv .u8 (.tmp 135)⟩,⟨none,some 137,.bin .geq (.tmp 134) (.tmp 136)⟩])
 (.cond (.tmp 137) (.seq (.ops [⟨none,some 138,.mkif 174 (.lit (.int .i64 2))⟩,⟨none,some 6,.mov (.lit (.int .u64 (0)))⟩,⟨none,some 7,.mov (.tmp 138)⟩])
 .ret)
 .skip))
 (.seq (.seq (.ops [⟨none,some 139,.mov (.tmp 13)⟩,⟨none,some 140,.mov (.tmp 10)⟩,⟨none,some 141,.bin .geq (.tmp 139) (.tmp 140)⟩])
 (.cond (.tmp 141) (.seq (.ops [⟨none,some 142,.mov (.tmp 11)⟩,⟨none,some 143,.mkif 174 (.lit (.int .i64 1))⟩,⟨none,some 6,.mov (.tmp 142)⟩,⟨none,some 7,.mov (.tmp 143)⟩])
 .ret)
 .skip))
 (.seq (.ops [⟨none,some 144,.mov (.tmp 13)⟩,⟨none,some 145,.mov (.tmp 1)⟩,⟨none,some 146,.conv .u64 (.tmp 145)⟩,⟨none,some 147,.bin .mul (.tmp 144) (.tmp 146)⟩,⟨none,some 13,.mov (.tmp 147)⟩])
 (.seq (.ops [⟨none,some 148,.mov (.tmp 13)⟩,⟨none,some 149,.mov (.tmp 16)⟩,⟨none,some 150,.conv .u64 (.tmp 149)⟩,⟨none,some 151,.bin .add (.tmp 148) (.tmp 150)⟩,⟨none,some 17,.mov (.tmp 151)⟩])
 (.seq (.seq (.ops [⟨none,some 152,.mov (.tmp 17)⟩,⟨none,some 153,.mov (.tmp 13)⟩,⟨none,some 154,.bin .lss (.tmp 152) (.tmp 153)⟩,⟨none,some 155,.mov (.tmp 154)⟩,⟨(some (155,false)),some 156,.mov (.tmp 17)⟩,⟨(some (155,false)),some 157,.mov (.tmp 11)⟩,⟨(some (155,false)),some 158,.bin .gtr (.tmp 156) (.tmp 157)⟩,⟨none,some 159,.pick (.tmp 155) (.lit (.bool true)) (.tmp 158)⟩])
 (.cond (.tmp 159) (.seq (.ops [⟨none,some 160,.mov (.tmp 11)⟩,⟨none,some 161,.mkif 174 (.lit (.int .i64 1))⟩,⟨none,some 6,.mov (.tmp 160)⟩,⟨none,some 7,.mov (.tmp 161)⟩])
 .ret)
 .skip))
 (.ops [⟨none,some 162,.mov (.tmp 17)⟩,⟨none,some 13,.mov (.tmp 162)⟩]))))))))))
 (.ops [⟨none,some 163,.bin .add (.tmp 101) (.lit (.int .i64 1))⟩,⟨none,some 101,.mov (.tmp 163)⟩])))))))
 (.seq (.seq (.ops [⟨none,some 164,.mov (.tmp 12)⟩,⟨none,some 165,.mov (.tmp 164)⟩,⟨(some (165,true)),some 166,.mov (.tmp 9)⟩,⟨(some (165,true)),some 167,.call 148 [(.tmp 166)]⟩,⟨(some (165,true)),some 168,.un .not (.tmp 167)⟩,⟨none,some 169,.pick (.tmp 165) (.tmp 168) (.lit (.bool false))⟩])
 (.cond (.tmp 169) (.seq (.ops [⟨none,some 170,.mkif 174 (.lit (.int .i64 2))⟩,⟨none,some 6,.mov (.lit (.int .u64 (0)))⟩,⟨none,some 7,.mov (.tmp 170)⟩])
 .ret)
 .skip))
 (.seq (.ops [⟨none,some 171,.mov (.tmp 13)⟩,⟨none,some 6,.mov (.tmp 171)⟩,⟨none,some 7,.mov (.lit (.nilI))⟩])
 .ret)))))))))))))),
 [.tmp 6,.tmp 7],none⟩
theorem r128:Xag Tryz.prog cfg 128=some I128:=by kernel_rfl
noncomputable def I130:IF:=⟨78,(.seq (.ops [⟨none,some 4,.mov (.lit (.nilS))⟩])
 (.seq (.ops [⟨none,some 6,.mov (.tmp 1)⟩,⟨none,some 7,.conv .u32 (.tmp 6)⟩,⟨none,some 5,.mov (.tmp 7)⟩])
 (.block 0 (.seq (.ops [⟨none,some 12,.mov (.tmp 5)⟩,⟨none,some 13,.bin .leq (.tmp 12) (.lit (.int .u32 (2047)))⟩,⟨none,some 11,.mov (.tmp 13)⟩])
 (.cond (.tmp 11) (.seq (.ops [⟨none,some 14,.mov (.tmp 0)⟩,⟨none,some 15,.mov (.tmp 1)⟩,⟨none,some 16,.bin .shr (.tmp 15) (.lit (.int .u64 (6)))⟩,⟨none,some 17,.conv .u8 (.tmp 16)⟩,⟨none,some 18,.bin .or (.lit (.int .u8 (192))) (.tmp 17)⟩,⟨none,some 19,.mov (.tmp 1)⟩,⟨none,some 20,.conv .u8 (.tmp 19)⟩,⟨none,some 21,.bin .and (.tmp 20) (.lit (.int .u8 (63)))⟩,⟨none,some 22,.bin .or (.lit (.int .u8 (128))) (.tmp 21)⟩,⟨none,some 23,.bldS 5 1 2 [.int .u8 (0),.int .u8 (0)] [(0,1,(.tmp 18)),(1,1,(.tmp 22))]⟩,⟨none,some 24,.app 5 1 (.tmp 14) (.tmp 23)⟩,⟨none,some 4,.mov (.tmp 24)⟩])
 .ret)
 (.seq (.seq (.ops [⟨none,some 26,.mov (.tmp 5)⟩,⟨none,some 27,.bin .lss (.tmp 26) (.lit (.int .u32 (55296)))⟩,⟨none,some 25,.mov (.tmp 27)⟩])
 (.cond (.tmp 25) .skip
 (.ops [⟨none,some 28,.mov (.tmp 5)⟩,⟨none,some 29,.bin .lss (.lit (.int .u32 (57343))) (.tmp 28)⟩,⟨none,some 30,.mov (.tmp 29)⟩,⟨(some (30,true)),some 31,.mov (.tmp 5)⟩,⟨(some (30,true)),some 32,.bin .leq (.tmp 31) (.lit (.int .u32 (65535)))⟩,⟨none,some 33,.pick (.tmp 30) (.tmp 32) (.lit (.bool false))⟩,⟨none,some 25,.mov (.tmp 33)⟩])))
 (.cond (.tmp 25) (.seq (.ops [⟨none,some 34,.mov (.tmp 0)⟩,⟨none,some 35,.mov (.tmp 1)⟩,⟨none,some 36,.bin .shr (.tmp 35) (.lit (.int .u64 (12)))⟩,⟨none,some 37,.conv .u8 (.tmp 36)⟩,⟨none,some 38,.bin .or (.lit (.int .u8 (224))) (.tmp 37)⟩,⟨none,some 39,.mov (.tmp 1)⟩,⟨none,some 40,.bin .shr (.tmp 39) (.lit (.int .u64 (6)))⟩,⟨none,some 41,.conv .u8 (.tmp 40)⟩,⟨none,some 42,.bin .and (.tmp 41) (.lit (.int .u8 (63)))⟩,⟨none,some 43,.bin .or (.lit (.int .u8 (128))) (.tmp 42)⟩,⟨none,some 44,.mov (.tmp 1)⟩,⟨none,some 45,.conv .u8 (.tmp 44)⟩,⟨none,some 46,.bin .and (.tmp 45) (.lit (.int .u8 (63)))⟩,⟨none,some 47,.bin .or (.lit (.int .u8 (128))) (.tmp 46)⟩,⟨none,some 48,.bldS 5 1 3 [.int .u8 (0),.int .u8 (0),.int .u8 (0)] [(0,1,(.tmp 38)),(1,1,(.tmp 43)),(2,1,(.tmp 47))]⟩,⟨none,some 49,.app 5 1 (.tmp 34) (.tmp 48)⟩,⟨none,some 4,.mov (.tmp 49)⟩])
 .ret)
 (.seq (.ops [⟨none,some 51,.mov (.tmp 5)⟩,⟨none,some 52,.bin .gtr (.tmp 51) (.lit (.int .u32 (65535)))⟩,⟨none,some 53,.mov (.tmp 52)⟩,⟨(some (53,true)),some 54,.mov (.tmp 5)⟩,⟨(some (53,true)),some 55,.bin .leq (.tmp 54) (.lit (.int .u32 (1114111)))⟩,⟨none,some 56,.pick (.tmp 53) (.tmp 55) (.lit (.bool false))⟩,⟨none,some 50,.mov (.tmp 56)⟩])
 (.cond (.tmp 50) (.seq (.ops [⟨none,some 57,.mov (.tmp 0)⟩,⟨none,some 58,.mov (.tmp 1)⟩,⟨none,some 59,.bin .shr (.tmp 58) (.lit (.int .u64 (18)))⟩,⟨none,some 60,.conv .u8 (.tmp 59)⟩,⟨none,some 61,.bin .or (.lit (.int .u8 (240))) (.tmp 60)⟩,⟨none,some 62,.mov (.tmp 1)⟩,⟨none,some 63,.bin .shr (.tmp 62) (.lit (.int .u64 (12)))⟩,⟨none,some 64,.conv .u8 (.tmp 63)⟩,⟨none,some 65,.bin .and (.tmp 64) (.lit (.int .u8 (63)))⟩,⟨none,some 66,.bin .or (.lit (.int .u8 (128))) (.tmp 65)⟩,⟨none,some 67,.mov (.tmp 1)⟩,⟨none,some 68,.bin .shr (.tmp 67) (.lit (.int .u64 (6)))⟩,⟨none,some 69,.conv .u8 (.tmp 68)⟩,⟨none,some 70,.bin .and (.tmp 69) (.lit (.int .u8 (63)))⟩,⟨none,some 71,.bin .or (.lit (.int .u8 (128))) (.tmp 70)⟩,⟨none,some 72,.mov (.tmp 1)⟩,⟨none,some 73,.conv .u8 (.tmp 72)⟩,⟨none,some 74,.bin .and (.tmp 73) (.lit (.int .u8 (63)))⟩,⟨none,some 75,.bin .or (.lit (.int .u8 (128))) (.tmp 74)⟩,⟨none,some 76,.bldS 5 1 4 [.int .u8 (0),.int .u8 (0),.int .u8 (0),.int .u8 (0)] [(0,1,(.tmp 61)),(1,1,(.tmp 66)),(2,1,(.tmp 71)),(3,1,(.tmp 75))]⟩,⟨none,some 77,.app 5 1 (.tmp 57) (.tmp 76)⟩,⟨none,some 4,.mov (.tmp 77)⟩])
 .ret)
 (.seq (.ops [⟨none,some 8,.mov (.tmp 0)⟩,⟨none,some 9,.bldS 5 1 3 [.int .u8 (0),.int .u8 (0),.int .u8 (0)] [(0,1,(.lit (.int .u8 (239)))),(1,1,(.lit (.int .u8 (191)))),(2,1,(.lit (.int .u8 (189))))]⟩,⟨none,some 10,.app 5 1 (.tmp 8) (.tmp 9)⟩,⟨none,some 4,.mov (.tmp 10)⟩])
 .ret)))))))))),
 [.tmp 4],none⟩
theorem r130:Xag Tryz.prog cfg 130=some I130:=by kernel_rfl
noncomputable def I131:IF:=⟨50,(.seq (.ops [⟨none,some 10,.mov (.lit (.int .i64 0))⟩])
 (.seq (.ops [⟨none,some 19,.mov (.tmp 0)⟩,⟨none,some 20,.call 56 [(.tmp 19)]⟩,⟨none,some 18,.mov (.tmp 20)⟩,⟨none,some 21,.ext (.tmp 18) 0⟩,⟨none,some 22,.ext (.tmp 18) 1⟩,⟨none,some 11,.mov (.tmp 21)⟩,⟨none,some 12,.mov (.tmp 22)⟩])
 (.seq (.seq (.ops [⟨none,some 23,.mov (.tmp 12)⟩,⟨none,some 24,.bin .neq (.tmp 23) (.lit (.int .i64 0))⟩])
 (.cond (.tmp 24) (.seq (.ops [⟨none,some 10,.mov (.lit (.int .i64 0))⟩])
 .ret)
 .skip))
 (.seq (.ops [⟨none,some 26,.mov (.tmp 0)⟩,⟨none,some 27,.mov (.tmp 1)⟩,⟨none,some 28,.call 149 [(.tmp 26),(.tmp 27),(.lit (.bool false))]⟩,⟨none,some 25,.mov (.tmp 28)⟩,⟨none,some 29,.ext (.tmp 25) 0⟩,⟨none,some 30,.ext (.tmp 25) 1⟩,⟨none,some 13,.mov (.tmp 29)⟩,⟨none,some 14,.mov (.tmp 30)⟩])
 (.seq (.ops [⟨none,some 32,.mov (.tmp 0)⟩,⟨none,some 33,.mov (.tmp 2)⟩,⟨none,some 34,.call 149 [(.tmp 32),(.tmp 33),(.lit (.bool true))]⟩,⟨none,some 31,.mov (.tmp 34)⟩,⟨none,some 35,.ext (.tmp 31) 0⟩,⟨none,some 36,.ext (.tmp 31) 1⟩,⟨none,some 15,.mov (.tmp 35)⟩,⟨none,some 16,.mov (.tmp 36)⟩])
 (.seq (.ops [⟨none,some 17,.mov (.lit (.int .i64 0))⟩])
 (.seq (.seq (.ops [⟨none,some 37,.mov (.tmp 3)⟩,⟨none,some 38,.mov (.tmp 13)⟩,⟨none,some 39,.mov (.tmp 15)⟩,⟨none,some 40,.call 150 [(.tmp 37),(.tmp 38),(.tmp 39)]⟩])
 (.cond (.tmp 40) (.ops [⟨none,some 41,.mov (.tmp 17)⟩,⟨none,some 42,.bin .add (.tmp 41) (.lit (.int .i64 1))⟩,⟨none,some 17,.mov (.tmp 42)⟩])
 .skip))
 (.seq (.seq (.ops [⟨none,some 43,.mov (.tmp 4)⟩,⟨none,some 44,.mov (.tmp 14)⟩,⟨none,some 45,.mov (.tmp 16)⟩,⟨none,some 46,.call 150 [(.tmp 43),(.tmp 44),(.tmp 45)]⟩])
 (.cond (.tmp 46) (.ops [⟨none,some 47,.mov (.tmp 17)⟩,⟨none,some 48,.bin .add (.tmp 47) (.lit (.int .i64 2))⟩,⟨none,some 17,.mov (.tmp 48)⟩])
 .skip))
 (.seq (.ops [⟨none,some 49,.mov (.tmp 17)⟩,⟨none,some 10,.mov (.tmp 49)⟩])
 .ret))))))))),
 [.tmp 10],none⟩
theorem r131:Xag Tryz.prog cfg 131=some I131:=by kernel_rfl
noncomputable def I132:IF:=⟨32,(.seq (.ops [⟨none,some 2,.box 25 (.tmp 0)⟩,⟨none,some 4,.mov (.lit (.int .i64 0))⟩])
 (.seq (.ops [⟨none,some 10,.loadN 5 (.tmp 2)⟩,⟨none,some 11,.mov (.tmp 1)⟩,⟨none,some 12,.call 29 [(.tmp 10),(.tmp 11)]⟩,⟨none,some 9,.mov (.tmp 12)⟩,⟨none,some 13,.ext (.tmp 9) 0⟩,⟨none,some 14,.ext (.tmp 9) 1⟩,⟨none,some 5,.new 25 [.str [],.str [],.str [],.nilS,.nilS]⟩,⟨none,none,.store 5 (.tmp 5) (.tmp 13)⟩,⟨none,some 6,.mov (.tmp 14)⟩])
 (.seq (.seq (.ops [⟨none,some 15,.mov (.tmp 6)⟩,⟨none,some 16,.un .not (.tmp 15)⟩])
 (.cond (.tmp 16) (.seq (.ops [⟨none,some 4,.mov (.lit (.int .i64 0))⟩])
 .ret)
 .skip))
 (.seq (.ops [⟨none,some 18,.loadN 5 (.tmp 5)⟩,⟨none,some 19,.call 83 [(.tmp 18),(.lit (.str [104,116,116,112,58,47,47,115,99,104,101,109,97,115,46,111,112,101,110,120,109,108,102,111,114,109,97,116,115,46,111,114,103,47,119,111,114,100,112,114,111,99,101,115,115,105,110,103,109,108,47,50,48,48,54,47,109,97,105,110])),(.lit (.str [118,97,108]))]⟩,⟨none,some 17,.mov (.tmp 19)⟩,⟨none,some 20,.ext (.tmp 17) 0⟩,⟨none,some 21,.ext (.tmp 17) 1⟩,⟨none,some 7,.mov (.tmp 20)⟩,⟨none,some 8,.mov (.tmp 21)⟩])
 (.seq (.seq (.ops [⟨none,some 22,.mov (.tmp 7)⟩,⟨none,some 23,.bin .eql (.tmp 22) (.lit (.str [48]))⟩,⟨none,some 24,.mov (.tmp 23)⟩,⟨(some (24,false)),some 25,.mov (.tmp 7)⟩,⟨(some (24,false)),some 26,.bin .eql (.tmp 25) (.lit (.str [102,97,108,115,101]))⟩,⟨none,some 27,.pick (.tmp 24) (.lit (.bool true)) (.tmp 26)⟩,⟨none,some 28,.mov (.tmp 27)⟩,⟨(some (28,false)),some 29,.mov (.tmp 7)⟩,⟨(some (28,false)),some 30,.bin .eql (.tmp 29) (.lit (.str [111,102,102]))⟩,⟨none,some 31,.pick (.tmp 28) (.lit (.bool true)) (.tmp 30)⟩])
 (.cond (.tmp 31) (.seq (.ops [⟨none,some 4,.mov (.lit (.int .i64 2))⟩])
 .ret)
 .skip))
 (.seq (.ops [⟨none,some 4,.mov (.lit (.int .i64 1))⟩])
 .ret)))))),
 [.tmp 4],none⟩
theorem r132:Xag Tryz.prog cfg 132=some I132:=by kernel_rfl
noncomputable def I133:IF:=⟨56,(.seq (.ops [⟨none,some 3,.box 25 (.tmp 1)⟩,⟨none,some 4,.new 43 [.int .i64 0,.int .i64 0,.str [],.str [],.str [],.bool false,.str [],.str [],.int .i64 0]⟩,⟨none,some 5,.mov (.lit (.bool false))⟩])
 (.seq (.ops [⟨none,some 18,.loadN 5 (.tmp 3)⟩,⟨none,some 19,.call 151 [(.tmp 18),(.lit (.str [104,116,116,112,58,47,47,115,99,104,101,109,97,115,46,111,112,101,110,120,109,108,102,111,114,109,97,116,115,46,111,114,103,47,100,114,97,119,105,110,103,109,108,47,50,48,48,54,47,109,97,105,110])),(.lit (.str [98,108,105,112])),(.lit (.bool true))]⟩,⟨none,some 17,.mov (.tmp 19)⟩,⟨none,some 20,.ext (.tmp 17) 0⟩,⟨none,some 21,.ext (.tmp 17) 1⟩,⟨none,some 6,.new 25 [.str [],.str [],.str [],.nilS,.nilS]⟩,⟨none,none,.store 5 (.tmp 6) (.tmp 20)⟩,⟨none,some 7,.mov (.tmp 21)⟩])
 (.seq (.seq (.ops [⟨none,some 22,.mov (.tmp 7)⟩,⟨none,some 23,.un .not (.tmp 22)⟩])
 (.cond (.tmp 23) (.seq (.ops [⟨none,some 24,.bld [.int .i64 0,.int .i64 0,.str [],.str [],.str [],.bool false,.str [],.str [],.int .i64 0] []⟩,⟨none,none,.store 9 (.tmp 4) (.tmp 24)⟩,⟨none,some 5,.mov (.lit (.bool false))⟩])
 .ret)
 .skip))
 (.seq (.ops [⟨none,some 26,.loadN 5 (.tmp 6)⟩,⟨none,some 27,.call 83 [(.tmp 26),(.lit (.str [104,116,116,112,58,47,47,115,99,104,101,109,97,115,46,111,112,101,110,120,109,108,102,111,114,109,97,116,115,46,111,114,103,47,111,102,102,105,99,101,68,111,99,117,109,101,110,116,47,50,48,48,54,47,114,101,108,97,116,105,111,110,115,104,105,112,115])),(.lit (.str [108,105,110,107]))]⟩,⟨none,some 25,.mov (.tmp 27)⟩,⟨none,some 28,.ext (.tmp 25) 0⟩,⟨none,some 29,.ext (.tmp 25) 1⟩,⟨none,some 8,.mov (.tmp 28)⟩,⟨none,some 9,.mov (.tmp 29)⟩])
 (.seq (.ops [⟨none,some 30,.mov (.tmp 0)⟩,⟨none,some 31,.mov (.tmp 8)⟩,⟨none,some 32,.call 134 [(.tmp 30),(.tmp 31),(.lit (.str [104,116,116,112,58,47,47,115,99,104,101,109,97,115,46,111,112,101,110,120,109,108,102,111,114,109,97,116,115,46,111,114,103,47,111,102,102,105,99,101,68,111,99,117,109,101,110,116,47,50,48,48,54,47,114,101,108,97,116,105,111,110,115,104,105,112,115,47,105,109,97,103,101]))]⟩,⟨none,some 33,.bld [.int .i64 0,.int .i64 0,.str [],.str [],.str [],.bool false,.str [],.str [],.int .i64 0] [(0,1,(.lit (.int .i64 4))),(3,1,(.tmp 32))]⟩,⟨none,some 10,.new 43 [.int .i64 0,.int .i64 0,.str [],.str [],.str [],.bool false,.str [],.str [],.int .i64 0]⟩,⟨none,none,.store 9 (.tmp 10) (.tmp 33)⟩])
 (.seq (.ops [⟨none,some 35,.loadN 5 (.tmp 3)⟩,⟨none,some 36,.call 151 [(.tmp 35),(.lit (.str [104,116,116,112,58,47,47,115,99,104,101,109,97,115,46,111,112,101,110,120,109,108,102,111,114,109,97,116,115,46,111,114,103,47,100,114,97,119,105,110,103,109,108,47,50,48,48,54,47,119,111,114,100,112,114,111,99,101,115,115,105,110,103,68,114,97,119,105,110,103])),(.lit (.str [100,111,99,80,114])),(.lit (.bool false))]⟩,⟨none,some 34,.mov (.tmp 36)⟩,⟨none,some 37,.ext (.tmp 34) 0⟩,⟨none,some 38,.ext (.tmp 34) 1⟩,⟨none,some 11,.new 25 [.str [],.str [],.str [],.nilS,.nilS]⟩,⟨none,none,.store 5 (.tmp 11) (.tmp 37)⟩,⟨none,some 12,.mov (.tmp 38)⟩])
 (.seq (.ops [⟨none,some 40,.loadN 5 (.tmp 11)⟩,⟨none,some 41,.call 83 [(.tmp 40),(.lit (.str [])),(.lit (.str [100,101,115,99,114]))]⟩,⟨none,some 39,.mov (.tmp 41)⟩,⟨none,some 42,.ext (.tmp 39) 0⟩,⟨none,some 43,.ext (.tmp 39) 1⟩,⟨none,some 13,.mov (.tmp 42)⟩,⟨none,some 14,.mov (.tmp 43)⟩])
 (.seq (.ops [⟨none,some 45,.loadN 5 (.tmp 11)⟩,⟨none,some 46,.call 83 [(.tmp 45),(.lit (.str [])),(.lit (.str [116,105,116,108,101]))]⟩,⟨none,some 44,.mov (.tmp 46)⟩,⟨none,some 47,.ext (.tmp 44) 0⟩,⟨none,some 48,.ext (.tmp 44) 1⟩,⟨none,some 15,.mov (.tmp 47)⟩,⟨none,some 16,.mov (.tmp 48)⟩])
 (.seq (.ops [⟨none,some 49,.mov (.tmp 13)⟩,⟨none,some 50,.call 54 [(.tmp 49)]⟩,⟨none,some 51,.mov (.tmp 15)⟩,⟨none,some 52,.call 54 [(.tmp 51)]⟩,⟨none,some 53,.faddr 2 (.tmp 10)⟩,⟨none,none,.store 1 (.tmp 53) (.tmp 50)⟩,⟨none,some 54,.faddr 4 (.tmp 10)⟩,⟨none,none,.store 1 (.tmp 54) (.tmp 52)⟩])
 (.seq (.ops [⟨none,some 55,.loadN 9 (.tmp 10)⟩,⟨none,none,.store 9 (.tmp 4) (.tmp 55)⟩,⟨none,some 5,.mov (.lit (.bool true))⟩])
 .ret)))))))))),
 [.cellN 9 4,.tmp 5],none⟩
theorem r133:Xag Tryz.prog cfg 133=some I133:=by kernel_rfl
noncomputable def Xrc:IF:=⟨53,(.seq (.ops [⟨none,some 6,.mov (.lit (.str []))⟩])
 (.seq (.seq (.ops [⟨none,some 7,.mov (.lit (.int .i64 0))⟩])
 (.block 0 (.loop (some [0,1,2,7]) (.seq (.seq (.ops [⟨none,some 9,.mov (.tmp 7)⟩,⟨none,some 10,.mov (.tmp 0)⟩,⟨none,some 11,.nchk (.tmp 10)⟩,⟨none,some 12,.faddr 0 (.tmp 11)⟩,⟨none,some 13,.load1 (.tmp 12)⟩,⟨none,some 14,.lenL (.tmp 13)⟩,⟨none,some 15,.bin .lss (.tmp 9) (.tmp 14)⟩])
 (.cond (.tmp 15) .skip
 (.exit 0)))
 (.seq (.block 1 (.seq (.ops [⟨none,some 18,.mov (.tmp 0)⟩,⟨none,some 19,.nchk (.tmp 18)⟩,⟨none,some 20,.faddr 0 (.tmp 19)⟩,⟨none,some 21,.load1 (.tmp 20)⟩,⟨none,some 22,.mov (.tmp 7)⟩,⟨none,some 23,.iaddr 4 (.tmp 21) (.tmp 22)⟩,⟨none,some 24,.loadN 4 (.tmp 23)⟩,⟨none,some 8,.new 170 [.str [],.str [],.str [],.bool false]⟩,⟨none,none,.store 4 (.tmp 8) (.tmp 24)⟩])
 (.seq (.seq (.ops [⟨none,some 25,.faddr 0 (.tmp 8)⟩,⟨none,some 26,.load1 (.tmp 25)⟩,⟨none,some 27,.mov (.tmp 1)⟩,⟨none,some 28,.bin .eql (.tmp 26) (.tmp 27)⟩,⟨none,some 29,.mov (.tmp 28)⟩,⟨(some (29,true)),some 30,.faddr 1 (.tmp 8)⟩,⟨(some (29,true)),some 31,.load1 (.tmp 30)⟩,⟨(some (29,true)),some 32,.mov (.tmp 2)⟩,⟨(some (29,true)),some 33,.bin .eql (.tmp 31) (.tmp 32)⟩,⟨none,some 34,.pick (.tmp 29) (.tmp 33) (.lit (.bool false))⟩,⟨none,some 35,.mov (.tmp 34)⟩,⟨(some (35,true)),some 36,.faddr 3 (.tmp 8)⟩,⟨(some (35,true)),some 37,.load1 (.tmp 36)⟩,⟨none,some 38,.pick (.tmp 35) (.tmp 37) (.lit (.bool false))⟩])
 (.cond (.tmp 38) (.seq (.ops [⟨none,some 39,.faddr 2 (.tmp 8)⟩,⟨none,some 40,.load1 (.tmp 39)⟩,⟨none,some 6,.mov (.tmp 40)⟩])
 .ret)
 .skip))
 (.seq (.ops [⟨none,some 41,.faddr 0 (.tmp 8)⟩,⟨none,some 42,.load1 (.tmp 41)⟩,⟨none,some 43,.mov (.tmp 1)⟩,⟨none,some 44,.bin .eql (.tmp 42) (.tmp 43)⟩])
 (.cond (.tmp 44) (.exit 0)
 .skip)))))
 (.ops [⟨none,some 16,.mov (.tmp 7)⟩,⟨none,some 17,.bin .add (.tmp 16) (.lit (.int .i64 1))⟩,⟨none,some 7,.mov (.tmp 17)⟩]))))))
 (.seq (.seq (.ops [⟨none,some 45,.mov (.tmp 0)⟩,⟨none,some 46,.nchk (.tmp 45)⟩,⟨none,some 47,.faddr 3 (.tmp 46)⟩,⟨none,some 48,.load1 (.tmp 47)⟩,⟨none,some 49,.bin .eql (.tmp 48) (.lit (.int .i64 0))⟩])
 (.cond (.tmp 49) (.ops [⟨none,some 50,.mov (.tmp 0)⟩,⟨none,some 51,.nchk (.tmp 50)⟩,⟨none,some 52,.faddr 3 (.tmp 51)⟩,⟨none,none,.store 1 (.tmp 52) (.lit (.int .i64 15))⟩])
 .skip))
 (.seq (.ops [⟨none,some 6,.mov (.lit (.str []))⟩])
 .ret)))),
 [.tmp 6],none⟩
theorem r134:Xag Tryz.prog cfg 134=some Xrc:=by kernel_rfl
noncomputable def I141:IF:=⟨34,(.seq (.ops [⟨none,some 10,.mov (.lit (.bool false))⟩])
 (.seq (.ops [⟨none,some 13,.mov (.tmp 0)⟩,⟨none,some 14,.mov (.tmp 1)⟩,⟨none,some 15,.mov (.tmp 4)⟩,⟨none,some 16,.call 156 [(.tmp 13),(.tmp 14),(.lit (.bool false)),(.tmp 15)]⟩,⟨none,some 17,.bin .eql (.tmp 16) (.lit (.int .i64 1))⟩,⟨none,some 18,.mov (.tmp 0)⟩,⟨none,some 19,.mov (.tmp 2)⟩,⟨none,some 20,.mov (.tmp 4)⟩,⟨none,some 21,.call 156 [(.tmp 18),(.tmp 19),(.lit (.bool true)),(.tmp 20)]⟩,⟨none,some 22,.bin .eql (.tmp 21) (.lit (.int .i64 1))⟩,⟨none,some 11,.mov (.tmp 17)⟩,⟨none,some 12,.mov (.tmp 22)⟩])
 (.seq (.ops [⟨none,some 23,.mov (.tmp 3)⟩,⟨none,some 24,.bin .eql (.tmp 23) (.lit (.int .i64 1))⟩,⟨none,some 25,.mov (.tmp 24)⟩,⟨(some (25,false)),some 26,.mov (.tmp 3)⟩,⟨(some (25,false)),some 27,.bin .eql (.tmp 26) (.lit (.int .i64 0))⟩,⟨(some (25,false)),some 28,.mov (.tmp 27)⟩,⟨(some (28,true)),some 29,.mov (.tmp 11)⟩,⟨(some (28,true)),some 30,.mov (.tmp 12)⟩,⟨(some (28,true)),some 31,.eqb true (.tmp 29) (.tmp 30)⟩,⟨(some (25,false)),some 32,.pick (.tmp 28) (.tmp 31) (.lit (.bool false))⟩,⟨none,some 33,.pick (.tmp 25) (.lit (.bool true)) (.tmp 32)⟩,⟨none,some 10,.mov (.tmp 33)⟩])
 .ret))),
 [.tmp 10],none⟩
theorem r141:Xag Tryz.prog cfg 141=some I141:=by kernel_rfl
noncomputable def I142:IF:=⟨5,(.seq (.ops [⟨none,some 1,.box 68 (.tmp 0)⟩,⟨none,some 2,.mov (.lit (.int .i64 0))⟩])
 (.seq (.ops [⟨none,some 3,.faddr 3 (.tmp 1)⟩,⟨none,some 4,.load1 (.tmp 3)⟩,⟨none,some 2,.mov (.tmp 4)⟩])
 .ret)),
 [.tmp 2],none⟩
theorem r142:Xag Tryz.prog cfg 142=some I142:=by kernel_rfl
noncomputable def I143:IF:=⟨5,(.seq (.ops [⟨none,some 1,.box 68 (.tmp 0)⟩,⟨none,some 2,.mov (.lit (.int .i64 0))⟩])
 (.seq (.ops [⟨none,some 3,.faddr 4 (.tmp 1)⟩,⟨none,some 4,.load1 (.tmp 3)⟩,⟨none,some 2,.mov (.tmp 4)⟩])
 .ret)),
 [.tmp 2],none⟩
theorem r143:Xag Tryz.prog cfg 143=some I143:=by kernel_rfl
noncomputable def I144:IF:=⟨11,(.seq (.ops [⟨none,some 1,.box 25 (.tmp 0)⟩,⟨none,some 2,.mov (.lit (.bool false))⟩])
 (.seq (.ops [⟨none,some 3,.faddr 0 (.tmp 1)⟩,⟨none,some 4,.load1 (.tmp 3)⟩,⟨none,some 5,.bin .eql (.tmp 4) (.lit (.str [104,116,116,112,58,47,47,115,99,104,101,109,97,115,46,111,112,101,110,120,109,108,102,111,114,109,97,116,115,46,111,114,103,47,100,114,97,119,105,110,103,109,108,47,50,48,48,54,47,119,111,114,100,112,114,111,99,101,115,115,105,110,103,68,114,97,119,105,110,103]))⟩,⟨none,some 6,.mov (.tmp 5)⟩,⟨(some (6,true)),some 7,.faddr 1 (.tmp 1)⟩,⟨(some (6,true)),some 8,.load1 (.tmp 7)⟩,⟨(some (6,true)),some 9,.bin .eql (.tmp 8) (.lit (.str [100,111,99,80,114]))⟩,⟨none,some 10,.pick (.tmp 6) (.tmp 9) (.lit (.bool false))⟩,⟨none,some 2,.mov (.tmp 10)⟩])
 .ret)),
 [.tmp 2],none⟩
theorem r144:Xag Tryz.prog cfg 144=some I144:=by kernel_rfl
noncomputable def I145:IF:=⟨19,(.seq (.ops [⟨none,some 4,.mov (.lit (.int .i64 0))⟩])
 (.seq (.seq (.ops [⟨none,some 6,.mov (.tmp 0)⟩,⟨none,some 7,.lenL (.tmp 6)⟩,⟨none,some 8,.mov (.lit (.int .i64 0))⟩])
 (.block 0 (.loop (some [0,1,7,8]) (.seq (.ops [⟨none,some 9,.bin .lss (.tmp 8) (.tmp 7)⟩])
 (.seq (.cond (.tmp 9) .skip
 (.exit 0))
 (.seq (.block 1 (.seq (.ops [⟨none,some 10,.mov (.tmp 8)⟩,⟨none,some 5,.mov (.tmp 10)⟩])
 (.seq (.ops [⟨none,some 11,.mov (.tmp 1)⟩,⟨none,some 12,.mov (.tmp 0)⟩,⟨none,some 13,.mov (.tmp 5)⟩,⟨none,some 14,.iaddr 4 (.tmp 12) (.tmp 13)⟩,⟨none,some 15,.loadN 4 (.tmp 14)⟩,⟨none,some 16,.callv (.tmp 11) [(.tmp 15)]⟩])
 (.cond (.tmp 16) (.seq (.ops [⟨none,some 17,.mov (.tmp 5)⟩,⟨none,some 4,.mov (.tmp 17)⟩])
 .ret)
 .skip))))
 (.ops [⟨none,some 18,.bin .add (.tmp 8) (.lit (.int .i64 1))⟩,⟨none,some 8,.mov (.tmp 18)⟩])))))))
 (.seq (.ops [⟨none,some 4,.mov (.lit (.int .i64 (-1)))⟩])
 .ret))),
 [.tmp 4],none⟩
theorem r145:Xag Tryz.prog cfg 145=some I145:=by kernel_rfl
noncomputable def I146:IF:=⟨8,(.seq (.ops [⟨none,some 2,.box 170 (.tmp 0)⟩,⟨none,some 3,.mov (.lit (.bool false))⟩])
 (.seq (.ops [⟨none,some 4,.faddr 0 (.tmp 2)⟩,⟨none,some 5,.load1 (.tmp 4)⟩,⟨none,some 6,.load1 (.tmp 1)⟩,⟨none,some 7,.bin .eql (.tmp 5) (.tmp 6)⟩,⟨none,some 3,.mov (.tmp 7)⟩])
 .ret)),
 [.tmp 3],none⟩
theorem r146:Xag Tryz.prog cfg 146=some I146:=by kernel_rfl
noncomputable def I147:IF:=⟨5,(.seq (.ops [⟨none,some 2,.mov (.lit (.int .u8 (0)))⟩])
 (.seq (.ops [⟨none,some 3,.mov (.tmp 0)⟩,⟨none,some 4,.bin .or (.tmp 3) (.lit (.int .u8 (32)))⟩,⟨none,some 2,.mov (.tmp 4)⟩])
 .ret)),
 [.tmp 2],none⟩
theorem r147:Xag Tryz.prog cfg 147=some I147:=by kernel_rfl
noncomputable def Xtx:IF:=⟨58,(.seq (.ops [⟨none,some 6,.mov (.lit (.int .i64 0))⟩,⟨none,some 7,.mov (.lit (.int .i64 0))⟩])
 (.seq (.ops [⟨none,some 11,.mov (.tmp 0)⟩,⟨none,some 12,.mov (.tmp 1)⟩,⟨none,some 13,.call 60 [(.tmp 11),(.tmp 12)]⟩,⟨none,some 8,.mov (.tmp 13)⟩])
 (.seq (.seq (.ops [⟨none,some 14,.mov (.tmp 1)⟩,⟨none,some 15,.bin .eql (.tmp 14) (.lit (.str []))⟩,⟨none,some 16,.mov (.tmp 15)⟩,⟨(some (16,false)),some 17,.mov (.tmp 8)⟩,⟨(some (16,false)),some 18,.bin .lss (.tmp 17) (.lit (.int .i64 0))⟩,⟨none,some 19,.pick (.tmp 16) (.lit (.bool true)) (.tmp 18)⟩,⟨none,some 20,.mov (.tmp 19)⟩,⟨(some (20,false)),some 21,.mov (.tmp 0)⟩,⟨(some (20,false)),some 22,.mov (.tmp 8)⟩,⟨(some (20,false)),some 23,.iaddr 6 (.tmp 21) (.tmp 22)⟩,⟨(some (20,false)),some 24,.faddr 2 (.tmp 23)⟩,⟨(some (20,false)),some 25,.load1 (.tmp 24)⟩,⟨(some (20,false)),some 26,.mov (.tmp 2)⟩,⟨(some (20,false)),some 27,.eqb true (.tmp 25) (.tmp 26)⟩,⟨none,some 28,.pick (.tmp 20) (.lit (.bool true)) (.tmp 27)⟩])
 (.cond (.tmp 28) (.seq (.ops [⟨none,some 6,.mov (.lit (.int .i64 0))⟩,⟨none,some 7,.mov (.lit (.int .i64 0))⟩])
 .ret)
 .skip))
 (.seq (.ops [⟨none,some 9,.mov (.lit (.int .i64 0))⟩,⟨none,some 10,.mov (.lit (.int .i64 0))⟩])
 (.block 0 (.loop (some [0,8,9,10]) (.block 1 (.seq (.seq (.ops [⟨none,some 29,.mov (.tmp 9)⟩,⟨none,some 30,.bin .eql (.tmp 29) (.lit (.int .i64 0))⟩])
 (.cond (.tmp 30) (.ops [⟨none,some 31,.mov (.tmp 0)⟩,⟨none,some 32,.mov (.tmp 8)⟩,⟨none,some 33,.iaddr 6 (.tmp 31) (.tmp 32)⟩,⟨none,some 34,.faddr 3 (.tmp 33)⟩,⟨none,some 35,.load1 (.tmp 34)⟩,⟨none,some 9,.mov (.tmp 35)⟩])
 .skip))
 (.seq (.seq (.ops [⟨none,some 36,.mov (.tmp 10)⟩,⟨none,some 37,.bin .eql (.tmp 36) (.lit (.int .i64 0))⟩])
 (.cond (.tmp 37) (.ops [⟨none,some 38,.mov (.tmp 0)⟩,⟨none,some 39,.mov (.tmp 8)⟩,⟨none,some 40,.iaddr 6 (.tmp 38) (.tmp 39)⟩,⟨none,some 41,.faddr 4 (.tmp 40)⟩,⟨none,some 42,.load1 (.tmp 41)⟩,⟨none,some 10,.mov (.tmp 42)⟩])
 .skip))
 (.seq (.seq (.ops [⟨none,some 43,.mov (.tmp 0)⟩,⟨none,some 44,.mov (.tmp 8)⟩,⟨none,some 45,.iaddr 6 (.tmp 43) (.tmp 44)⟩,⟨none,some 46,.faddr 1 (.tmp 45)⟩,⟨none,some 47,.load1 (.tmp 46)⟩,⟨none,some 48,.bin .eql (.tmp 47) (.lit (.str []))⟩])
 (.cond (.tmp 48) (.seq (.ops [⟨none,some 49,.mov (.tmp 9)⟩,⟨none,some 50,.mov (.tmp 10)⟩,⟨none,some 6,.mov (.tmp 49)⟩,⟨none,some 7,.mov (.tmp 50)⟩])
 .ret)
 .skip))
 (.ops [⟨none,some 51,.mov (.tmp 0)⟩,⟨none,some 52,.mov (.tmp 0)⟩,⟨none,some 53,.mov (.tmp 8)⟩,⟨none,some 54,.iaddr 6 (.tmp 52) (.tmp 53)⟩,⟨none,some 55,.faddr 1 (.tmp 54)⟩,⟨none,some 56,.load1 (.tmp 55)⟩,⟨none,some 57,.call 60 [(.tmp 51),(.tmp 56)]⟩,⟨none,some 8,.mov (.tmp 57)⟩]))))))))))),
 [.tmp 6,.tmp 7],none⟩
theorem r149:Xag Tryz.prog cfg 149=some Xtx:=by kernel_rfl
noncomputable def I150:IF:=⟨20,(.seq (.ops [⟨none,some 6,.mov (.lit (.bool false))⟩])
 (.seq (.ops [⟨none,some 7,.mov (.tmp 0)⟩,⟨none,some 8,.bin .eql (.tmp 7) (.lit (.int .i64 1))⟩,⟨none,some 9,.mov (.tmp 8)⟩,⟨(some (9,false)),some 10,.mov (.tmp 0)⟩,⟨(some (9,false)),some 11,.bin .eql (.tmp 10) (.lit (.int .i64 0))⟩,⟨(some (9,false)),some 12,.mov (.tmp 11)⟩,⟨(some (12,true)),some 13,.mov (.tmp 1)⟩,⟨(some (12,true)),some 14,.bin .eql (.tmp 13) (.lit (.int .i64 1))⟩,⟨(some (12,true)),some 15,.mov (.tmp 2)⟩,⟨(some (12,true)),some 16,.bin .eql (.tmp 15) (.lit (.int .i64 1))⟩,⟨(some (12,true)),some 17,.eqb true (.tmp 14) (.tmp 16)⟩,⟨(some (9,false)),some 18,.pick (.tmp 12) (.tmp 17) (.lit (.bool false))⟩,⟨none,some 19,.pick (.tmp 9) (.lit (.bool true)) (.tmp 18)⟩,⟨none,some 6,.mov (.tmp 19)⟩])
 .ret)),
 [.tmp 6],none⟩
theorem r150:Xag Tryz.prog cfg 150=some I150:=by kernel_rfl
noncomputable def Xra:IF:=⟨62,(.seq (.ops [⟨none,some 4,.box 25 (.tmp 0)⟩,⟨none,some 8,.new 25 [.str [],.str [],.str [],.nilS,.nilS]⟩,⟨none,some 9,.mov (.lit (.bool false))⟩])
 (.seq (.seq (.ops [⟨none,some 10,.mov (.lit (.int .i64 0))⟩])
 (.block 0 (.loop (some [1,2,3,4,8,10]) (.seq (.seq (.ops [⟨none,some 16,.mov (.tmp 10)⟩,⟨none,some 17,.faddr 4 (.tmp 4)⟩,⟨none,some 18,.load1 (.tmp 17)⟩,⟨none,some 19,.lenL (.tmp 18)⟩,⟨none,some 20,.bin .lss (.tmp 16) (.tmp 19)⟩])
 (.cond (.tmp 20) .skip
 (.exit 0)))
 (.seq (.block 1 (.seq (.ops [⟨none,some 23,.faddr 4 (.tmp 4)⟩,⟨none,some 24,.load1 (.tmp 23)⟩,⟨none,some 25,.mov (.tmp 10)⟩,⟨none,some 26,.iaddr 5 (.tmp 24) (.tmp 25)⟩,⟨none,some 27,.loadN 5 (.tmp 26)⟩,⟨none,some 11,.new 25 [.str [],.str [],.str [],.nilS,.nilS]⟩,⟨none,none,.store 5 (.tmp 11) (.tmp 27)⟩])
 (.seq (.ops [⟨none,some 29,.loadN 5 (.tmp 11)⟩,⟨none,some 30,.call 83 [(.tmp 29),(.lit (.str [104,116,116,112,58,47,47,115,99,104,101,109,97,115,46,111,112,101,110,120,109,108,102,111,114,109,97,116,115,46,111,114,103,47,111,102,102,105,99,101,68,111,99,117,109,101,110,116,47,50,48,48,54,47,114,101,108,97,116,105,111,110,115,104,105,112,115])),(.lit (.str [108,105,110,107]))]⟩,⟨none,some 28,.mov (.tmp 30)⟩,⟨none,some 31,.ext (.tmp 28) 0⟩,⟨none,some 32,.ext (.tmp 28) 1⟩,⟨none,some 12,.mov (.tmp 31)⟩,⟨none,some 13,.mov (.tmp 32)⟩])
 (.seq (.seq (.ops [⟨none,some 33,.faddr 0 (.tmp 11)⟩,⟨none,some 34,.load1 (.tmp 33)⟩,⟨none,some 35,.mov (.tmp 1)⟩,⟨none,some 36,.bin .eql (.tmp 34) (.tmp 35)⟩,⟨none,some 37,.mov (.tmp 36)⟩,⟨(some (37,true)),some 38,.faddr 1 (.tmp 11)⟩,⟨(some (37,true)),some 39,.load1 (.tmp 38)⟩,⟨(some (37,true)),some 40,.mov (.tmp 2)⟩,⟨(some (37,true)),some 41,.bin .eql (.tmp 39) (.tmp 40)⟩,⟨none,some 42,.pick (.tmp 37) (.tmp 41) (.lit (.bool false))⟩,⟨none,some 43,.mov (.tmp 42)⟩,⟨(some (43,true)),some 44,.mov (.tmp 3)⟩,⟨(some (43,true)),some 45,.un .not (.tmp 44)⟩,⟨(some (43,true)),some 46,.mov (.tmp 45)⟩,⟨(some (46,false)),some 47,.mov (.tmp 13)⟩,⟨(some (43,true)),some 48,.pick (.tmp 46) (.lit (.bool true)) (.tmp 47)⟩,⟨none,some 49,.pick (.tmp 43) (.tmp 48) (.lit (.bool false))⟩])
 (.cond (.tmp 49) (.seq (.ops [⟨none,some 50,.loadN 5 (.tmp 11)⟩,⟨none,none,.store 5 (.tmp 8) (.tmp 50)⟩,⟨none,some 9,.mov (.lit (.bool true))⟩])
 .ret)
 .skip))
 (.seq (.ops [⟨none,some 52,.loadN 5 (.tmp 11)⟩,⟨none,some 53,.mov (.tmp 1)⟩,⟨none,some 54,.mov (.tmp 2)⟩,⟨none,some 55,.mov (.tmp 3)⟩,⟨none,some 56,.call 151 [(.tmp 52),(.tmp 53),(.tmp 54),(.tmp 55)]⟩,⟨none,some 51,.mov (.tmp 56)⟩,⟨none,some 57,.ext (.tmp 51) 0⟩,⟨none,some 58,.ext (.tmp 51) 1⟩,⟨none,some 14,.new 25 [.str [],.str [],.str [],.nilS,.nilS]⟩,⟨none,none,.store 5 (.tmp 14) (.tmp 57)⟩,⟨none,some 15,.mov (.tmp 58)⟩])
 (.seq (.ops [⟨none,some 59,.mov (.tmp 15)⟩])
 (.cond (.tmp 59) (.seq (.ops [⟨none,some 60,.loadN 5 (.tmp 14)⟩,⟨none,none,.store 5 (.tmp 8) (.tmp 60)⟩,⟨none,some 9,.mov (.lit (.bool true))⟩])
 .ret)
 .skip)))))))
 (.ops [⟨none,some 21,.mov (.tmp 10)⟩,⟨none,some 22,.bin .add (.tmp 21) (.lit (.int .i64 1))⟩,⟨none,some 10,.mov (.tmp 22)⟩]))))))
 (.seq (.ops [⟨none,some 61,.bld [.str [],.str [],.str [],.nilS,.nilS] []⟩,⟨none,none,.store 5 (.tmp 8) (.tmp 61)⟩,⟨none,some 9,.mov (.lit (.bool false))⟩])
 .ret))),
 [.cellN 5 8,.tmp 9],none⟩
theorem r151:Xag Tryz.prog cfg 151=some Xra:=by kernel_rfl
noncomputable def Xv4:IF:=⟨54,(.seq (.ops [⟨none,some 8,.mov (.lit (.int .i64 0))⟩])
 (.seq (.ops [⟨none,some 11,.mov (.tmp 0)⟩,⟨none,some 12,.mov (.tmp 1)⟩,⟨none,some 13,.call 102 [(.tmp 11),(.tmp 12)]⟩,⟨none,some 9,.mov (.tmp 13)⟩])
 (.seq (.seq (.ops [⟨none,some 14,.mov (.tmp 1)⟩,⟨none,some 15,.bin .eql (.tmp 14) (.lit (.str []))⟩,⟨none,some 16,.mov (.tmp 15)⟩,⟨(some (16,false)),some 17,.mov (.tmp 9)⟩,⟨(some (16,false)),some 18,.nilT false 0 (.tmp 17)⟩,⟨none,some 19,.pick (.tmp 16) (.lit (.bool true)) (.tmp 18)⟩,⟨none,some 20,.mov (.tmp 19)⟩,⟨(some (20,false)),some 21,.mov (.tmp 9)⟩,⟨(some (20,false)),some 22,.nchk (.tmp 21)⟩,⟨(some (20,false)),some 23,.faddr 2 (.tmp 22)⟩,⟨(some (20,false)),some 24,.load1 (.tmp 23)⟩,⟨(some (20,false)),some 25,.mov (.tmp 2)⟩,⟨(some (20,false)),some 26,.eqb true (.tmp 24) (.tmp 25)⟩,⟨none,some 27,.pick (.tmp 20) (.lit (.bool true)) (.tmp 26)⟩])
 (.cond (.tmp 27) (.seq (.ops [⟨none,some 8,.mov (.lit (.int .i64 0))⟩])
 .ret)
 .skip))
 (.seq (.seq (.ops [⟨none,some 28,.mov (.tmp 0)⟩,⟨none,some 29,.lenL (.tmp 28)⟩,⟨none,some 30,.mov (.lit (.int .i64 0))⟩])
 (.block 0 (.loop (some [0,3,9,29,30]) (.seq (.ops [⟨none,some 31,.bin .lss (.tmp 30) (.tmp 29)⟩])
 (.seq (.cond (.tmp 31) .skip
 (.exit 0))
 (.seq (.block 1 (.seq (.seq (.ops [⟨none,some 32,.mov (.tmp 3)⟩,⟨none,some 33,.mov (.tmp 9)⟩,⟨none,some 34,.nchk (.tmp 33)⟩,⟨none,some 35,.loadN 6 (.tmp 34)⟩,⟨none,some 36,.callv (.tmp 32) [(.tmp 35)]⟩,⟨none,some 10,.mov (.tmp 36)⟩])
 (.seq (.ops [⟨none,some 37,.mov (.tmp 10)⟩,⟨none,some 38,.bin .neq (.tmp 37) (.lit (.int .i64 0))⟩,⟨none,some 39,.mov (.tmp 38)⟩,⟨(some (39,false)),some 40,.mov (.tmp 9)⟩,⟨(some (39,false)),some 41,.nchk (.tmp 40)⟩,⟨(some (39,false)),some 42,.faddr 1 (.tmp 41)⟩,⟨(some (39,false)),some 43,.load1 (.tmp 42)⟩,⟨(some (39,false)),some 44,.bin .eql (.tmp 43) (.lit (.str []))⟩,⟨none,some 45,.pick (.tmp 39) (.lit (.bool true)) (.tmp 44)⟩])
 (.cond (.tmp 45) (.seq (.ops [⟨none,some 46,.mov (.tmp 10)⟩,⟨none,some 8,.mov (.tmp 46)⟩])
 .ret)
 .skip)))
 (.ops [⟨none,some 47,.mov (.tmp 0)⟩,⟨none,some 48,.mov (.tmp 9)⟩,⟨none,some 49,.nchk (.tmp 48)⟩,⟨none,some 50,.faddr 1 (.tmp 49)⟩,⟨none,some 51,.load1 (.tmp 50)⟩,⟨none,some 52,.call 102 [(.tmp 47),(.tmp 51)]⟩,⟨none,some 9,.mov (.tmp 52)⟩])))
 (.ops [⟨none,some 53,.bin .add (.tmp 30) (.lit (.int .i64 1))⟩,⟨none,some 30,.mov (.tmp 53)⟩])))))))
 (.seq (.ops [⟨none,some 8,.mov (.lit (.int .i64 0))⟩])
 .ret))))),
 [.tmp 8],none⟩
theorem r156:Xag Tryz.prog cfg 156=some Xv4:=by kernel_rfl
end Go.Proofs.YtmhhddhbdbcmbaaGreatDoor.Ic
