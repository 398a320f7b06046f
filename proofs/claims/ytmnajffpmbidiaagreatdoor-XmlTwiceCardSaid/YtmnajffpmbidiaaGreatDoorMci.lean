/- Parts of one proof. -/
import Derived.Test.YtmnajffpmbidiaaGreatDoorMcg
import Derived.Test.YtmnajffpmbidiaaGreatDoorMch
import Derived.Test.YtmnajffpmbidiaaGreatDoorProg
set_option linter.all false
namespace Go.Proofs.YtmnajffpmbidiaaGreatDoor.Ic
open Go Go.Proofs Go.Proofs.YtmnajffpmbidiaaGreatDoor.Ev
set_option maxRecDepth 100000
def live : FuncId → Nat → Option (List Tmp)
  | 4, 6 => some [0, 5, 6, 7]
  | 5, 5 => some [0, 3, 4, 5]
  | 5, 12 => some [0, 6, 7, 8]
  | 6, 4 => some [0, 1, 2, 3, 9]
  | 9, 7 => some [0, 1, 5, 6, 7, 8, 9]
  | 9, 15 => some [1, 5, 6, 7, 8, 11]
  | 15, 4 => some [2, 3, 5]
  | 15, 9 => some [2, 3, 6]
  | 18, 2 => some [0, 3]
  | 19, 2 => some [0, 6]
  | 20, 2 => some [0, 3]
  | 21, 2 => some [0, 5, 6]
  | 22, 2 => some [0, 3]
  | 23, 5 => some [1, 2, 5]
  | 23, 11 => some [1, 2, 6]
  | 24, 2 => some [1, 2, 6, 11, 12, 13]
  | 25, 2 => some [1, 2, 3, 6, 8]
  | 26, 2 => some [1, 2, 11, 12, 13]
  | 27, 2 => some [1, 2, 3, 8]
  | 37, 0 => some [0, 1]
  | 38, 7 => some [0, 1, 2, 6, 7, 8, 9]
  | 39, 3 => some [0, 3, 4]
  | 40, 0 => some [0, 1]
  | 43, 4 => some [0, 1, 5]
  | 44, 15 => some [0, 6, 7, 8]
  | 51, 4 => some [0, 1, 12, 13]
  | 52, 4 => some [1, 2, 15, 16, 17]
  | 54, 13 => some [0, 1, 2, 10, 11, 52, 53]
  | 54, 21 => some [0, 2, 10, 11, 77, 78]
  | 57, 3 => some [0, 3]
  | 60, 2 => some [0, 3]
  | 65, 10 => some [0, 2, 3, 4, 5]
  | 66, 2 => some [0, 1, 2, 21, 22, 23]
  | 66, 8 => some [1, 2, 10, 38]
  | 66, 12 => some [1, 2, 10, 47, 48, 49]
  | 66, 23 => some [10, 15, 98, 99, 100]
  | 66, 33 => some [10, 15, 146, 147, 148]
  | 67, 4 => some [0, 1, 2, 7, 8, 9]
  | 68, 2 => some [0, 3]
  | 74, 2 => some [0, 3]
  | 75, 2 => some [0, 1, 2, 7]
  | 75, 5 => some [0, 1, 2, 7, 8]
  | 75, 12 => some [0, 1, 9, 10]
  | 76, 4 => some [0, 1, 2, 7]
  | 77, 3 => some [0, 1, 2, 7, 8]
  | 77, 11 => some [0, 7, 10]
  | 77, 14 => some [0, 7, 10, 11]
  | 78, 3 => some [0, 1, 2, 7, 8]
  | 79, 2 => some [0]
  | 79, 10 => some [0]
  | 80, 6 => some [0, 1, 5]
  | 86, 7 => some [0, 3, 4]
  | 88, 3 => some [0, 16, 17]
  | 97, 2 => some [0, 1, 5]
  | 98, 3 => some [0, 3]
  | 99, 3 => some [3, 4]
  | 100, 7 => some [0, 3, 4]
  | 101, 3 => some [0, 3, 4]
  | 101, 14 => some [0, 5, 6, 7]
  | 103, 2 => some [2, 4]
  | 107, 15 => some [0, 1, 5, 6, 7, 8, 9, 10]
  | 109, 3 => some [0, 1, 5, 6]
  | 114, 2 => some [0, 1, 7, 8]
  | 115, 2 => some [0, 1, 7, 8]
  | 122, 5 => some [0, 1, 5, 6, 7, 8, 9]
  | 122, 11 => some [0, 1, 5, 6, 7, 8, 10]
  | 124, 1 => some [0, 1]
  | 125, 1 => some [0, 1]
  | 126, 2 => some [0, 2, 4]
  | 127, 1 => some [0, 1]
  | 128, 1 => some [0, 1]
  | 129, 1 => some [0, 1]
  | 130, 1 => some [0, 1]
  | 133, 3 => some [0, 4, 5]
  | 133, 8 => some [4, 6, 7, 8]
  | 136, 10 => some [0, 4, 5, 6]
  | 137, 36 => some [1, 8, 9, 10, 11, 12, 13, 99, 100, 101]
  | 142, 38 => some [175]
  | 145, 10 => some [0, 3, 4, 5]
  | 154, 1 => some [0, 1, 4]
  | 155, 11 => some [0, 1, 3, 4, 10, 11, 12, 13, 14, 15, 16]
  | 155, 18 => some [0, 1, 3, 4, 10, 11, 12, 13, 17]
  | _, _ => none
def keep : FuncId → Bool
  | _ => false
def libs : FuncId → Option (List AV → Mem → Option (AV × Mem))
  | 17 => some trueLib
  | 32 => some replLib
  | 58 => some foldLib
  | 82 => some idxLib
  | 87 => some idxByteLib
  | _ => none
def cfg (m : Int) : Cfg := ⟨fun k => if k = 5 then some [.int .i64 m] else if k = 0 then some firstRow else if k = 1 then some accRow else none, libs, live, keep⟩
noncomputable def I2 : IF := ⟨1, (.ops [⟨none, (some 0), .raw (opAt Tryz.f2 0)⟩]),
  [], none⟩
theorem r2 {m : Int} : resolveF Tryz.prog (cfg m) 2 = some I2 := by kernel_rfl
noncomputable def I3 : IF := ⟨42, (.seq (.ops [⟨none, (some 2), .mov (.lit (.bool false))⟩])
  (.seq (.seq (.ops [⟨none, (some 8), .mov (.tmp 0)⟩, ⟨none, (some 9), .lenL (.tmp 8)⟩, ⟨none, (some 10), .bin .gtr (.tmp 9) (.lit (.int .i64 (3000)))⟩])
  (.cond (.tmp 10) (.seq (.ops [⟨none, (some 2), .mov (.lit (.bool true))⟩])
  .ret)
  .skip))
  (.seq (.ops [⟨none, (some 11), .mov (.tmp 0)⟩, ⟨none, (some 12), .call 12 [(.tmp 11)]⟩, ⟨none, (some 3), .mov (.tmp 12)⟩])
  (.seq (.ops [⟨none, (some 14), .mov (.tmp 3)⟩, ⟨none, (some 15), .mov (.tmp 0)⟩, ⟨none, (some 16), .lenL (.tmp 15)⟩, ⟨none, (some 17), .cutS 1 (.tmp 14) none (some (.tmp 16))⟩, ⟨none, (some 18), .call 13 [(.tmp 17)]⟩, ⟨none, (some 13), .mov (.tmp 18)⟩, ⟨none, (some 19), .ext (.tmp 13) 0⟩, ⟨none, (some 20), .ext (.tmp 13) 1⟩, ⟨none, (some 4), .new 27 [.str [], .str [], .str [], .nilS, .nilS]⟩, ⟨none, none, .store 5 (.tmp 4) (.tmp 19)⟩, ⟨none, (some 5), .mov (.tmp 20)⟩])
  (.seq (.ops [⟨none, (some 22), .mov (.tmp 0)⟩, ⟨none, (some 23), .call 14 [(.tmp 22)]⟩, ⟨none, (some 21), .mov (.tmp 23)⟩, ⟨none, (some 24), .ext (.tmp 21) 0⟩, ⟨none, (some 25), .ext (.tmp 21) 1⟩, ⟨none, (some 6), .new 27 [.str [], .str [], .str [], .nilS, .nilS]⟩, ⟨none, none, .store 5 (.tmp 6) (.tmp 24)⟩, ⟨none, (some 7), .mov (.tmp 25)⟩])
  (.seq (.ops [⟨none, (some 26), .loadN 5 (.tmp 4)⟩, ⟨none, (some 27), .loadN 5 (.tmp 6)⟩, ⟨none, (some 28), .call 15 [(.tmp 26), (.tmp 27)]⟩, ⟨none, (some 29), .mov (.tmp 28)⟩, ⟨(some (29, true)), (some 30), .mov (.tmp 5)⟩, ⟨(some (29, true)), (some 31), .mov (.tmp 7)⟩, ⟨(some (29, true)), (some 32), .bin .eql (.tmp 30) (.tmp 31)⟩, ⟨none, (some 33), .pick (.tmp 29) (.tmp 32) (.lit (.bool false))⟩, ⟨none, (some 34), .mov (.tmp 33)⟩, ⟨(some (34, true)), (some 35), .mov (.tmp 3)⟩, ⟨(some (34, true)), (some 36), .mov (.tmp 0)⟩, ⟨(some (34, true)), (some 37), .call 16 [(.tmp 35), (.tmp 36)]⟩, ⟨none, (some 38), .pick (.tmp 34) (.tmp 37) (.lit (.bool false))⟩, ⟨none, (some 39), .mov (.tmp 38)⟩, ⟨(some (39, true)), (some 40), .call 17 []⟩, ⟨none, (some 41), .pick (.tmp 39) (.tmp 40) (.lit (.bool false))⟩, ⟨none, (some 2), .mov (.tmp 41)⟩])
  .ret)))))),
  [.tmp 2], none⟩
theorem r3 {m : Int} : resolveF Tryz.prog (cfg m) 3 = some I3 := by kernel_rfl
noncomputable def I4 : IF := ⟨138, (.seq (.ops [⟨none, (some 4), .mov (.lit (.bool false))⟩])
  (.seq (.seq (.ops [⟨none, (some 12), .mov (.tmp 0)⟩, ⟨none, (some 13), .lenS (.tmp 12)⟩, ⟨none, (some 14), .bin .gtr (.tmp 13) (.lit (.int .i64 (500)))⟩, ⟨none, (some 15), .mov (.tmp 14)⟩, ⟨(some (15, false)), (some 16), .mov (.tmp 0)⟩, ⟨(some (15, false)), (some 17), .call 18 [(.tmp 16)]⟩, ⟨(some (15, false)), (some 18), .un .not (.tmp 17)⟩, ⟨none, (some 19), .pick (.tmp 15) (.lit (.bool true)) (.tmp 18)⟩])
  (.cond (.tmp 19) (.seq (.ops [⟨none, (some 20), .mov (.tmp 0)⟩, ⟨none, (some 21), .call 19 [(.tmp 20)]⟩, ⟨none, (some 22), .un .not (.tmp 21)⟩, ⟨none, (some 23), .mov (.tmp 22)⟩, ⟨(some (23, true)), (some 24), .call 17 []⟩, ⟨none, (some 25), .pick (.tmp 23) (.tmp 24) (.lit (.bool false))⟩, ⟨none, (some 26), .mov (.tmp 25)⟩, ⟨(some (26, false)), (some 27), .mov (.tmp 0)⟩, ⟨(some (26, false)), (some 28), .lenS (.tmp 27)⟩, ⟨(some (26, false)), (some 29), .bin .gtr (.tmp 28) (.lit (.int .i64 (500)))⟩, ⟨none, (some 30), .pick (.tmp 26) (.lit (.bool true)) (.tmp 29)⟩, ⟨none, (some 4), .mov (.tmp 30)⟩])
  .ret)
  .skip))
  (.seq (.ops [⟨none, (some 5), .mov (.lit (.str []))⟩])
  (.seq (.ops [⟨none, (some 31), .mov (.tmp 1)⟩, ⟨none, (some 32), .bin .and (.tmp 31) (.lit (.int .i64 (1023)))⟩, ⟨none, (some 33), .mov (.tmp 0)⟩, ⟨none, (some 34), .lenS (.tmp 33)⟩, ⟨none, (some 35), .bin .add (.tmp 34) (.lit (.int .i64 (1)))⟩, ⟨none, (some 36), .bin .rem (.tmp 32) (.tmp 35)⟩, ⟨none, (some 6), .mov (.tmp 36)⟩])
  (.seq (.seq (.ops [⟨none, (some 7), .mov (.lit (.int .i64 (0)))⟩])
  (.block 0 (.loop (some [0, 5, 6, 7]) (.seq (.seq (.ops [⟨none, (some 37), .mov (.tmp 7)⟩, ⟨none, (some 38), .mov (.tmp 0)⟩, ⟨none, (some 39), .lenS (.tmp 38)⟩, ⟨none, (some 40), .bin .lss (.tmp 37) (.tmp 39)⟩])
  (.cond (.tmp 40) .skip
  (.exit 0)))
  (.seq (.block 1 (.seq (.seq (.ops [⟨none, (some 43), .mov (.tmp 7)⟩, ⟨none, (some 44), .mov (.tmp 6)⟩, ⟨none, (some 45), .bin .eql (.tmp 43) (.tmp 44)⟩, ⟨none, (some 46), .mov (.tmp 45)⟩, ⟨(some (46, true)), (some 47), .mov (.tmp 0)⟩, ⟨(some (46, true)), (some 48), .mov (.tmp 7)⟩, ⟨(some (46, true)), (some 49), .ixs (.tmp 47) (.tmp 48)⟩, ⟨(some (46, true)), (some 50), .bin .lss (.tmp 49) (.lit (.int .u8 (128)))⟩, ⟨(some (46, true)), (some 51), .mov (.tmp 50)⟩, ⟨(some (51, false)), (some 52), .mov (.tmp 0)⟩, ⟨(some (51, false)), (some 53), .mov (.tmp 7)⟩, ⟨(some (51, false)), (some 54), .ixs (.tmp 52) (.tmp 53)⟩, ⟨(some (51, false)), (some 55), .bin .geq (.tmp 54) (.lit (.int .u8 (192)))⟩, ⟨(some (46, true)), (some 56), .pick (.tmp 51) (.lit (.bool true)) (.tmp 55)⟩, ⟨none, (some 57), .pick (.tmp 46) (.tmp 56) (.lit (.bool false))⟩])
  (.cond (.tmp 57) (.ops [⟨none, (some 58), .mov (.tmp 5)⟩, ⟨none, (some 59), .bin .add (.tmp 58) (.lit (.str [60, 33, 45, 45, 32, 120, 32, 45, 32, 45, 32, 45, 45, 62, 60, 33, 45, 45, 121, 45, 45, 62, 60, 63, 122, 63, 62, 60, 33, 91, 67, 68, 65, 84, 65, 91, 93, 93, 62]))⟩, ⟨none, (some 5), .mov (.tmp 59)⟩])
  .skip))
  (.seq (.ops [⟨none, (some 60), .mov (.tmp 0)⟩, ⟨none, (some 61), .mov (.tmp 7)⟩, ⟨none, (some 62), .ixs (.tmp 60) (.tmp 61)⟩])
  (.block 2 (.seq (.ops [⟨none, (some 71), .bin .eql (.tmp 62) (.lit (.int .u8 (38)))⟩, ⟨none, (some 70), .mov (.tmp 71)⟩])
  (.cond (.tmp 70) (.ops [⟨none, (some 72), .mov (.tmp 5)⟩, ⟨none, (some 73), .bin .add (.tmp 72) (.lit (.str [38, 97, 109, 112, 59]))⟩, ⟨none, (some 5), .mov (.tmp 73)⟩])
  (.seq (.ops [⟨none, (some 75), .bin .eql (.tmp 62) (.lit (.int .u8 (60)))⟩, ⟨none, (some 74), .mov (.tmp 75)⟩])
  (.cond (.tmp 74) (.ops [⟨none, (some 76), .mov (.tmp 5)⟩, ⟨none, (some 77), .bin .add (.tmp 76) (.lit (.str [38, 108, 116, 59]))⟩, ⟨none, (some 5), .mov (.tmp 77)⟩])
  (.seq (.ops [⟨none, (some 79), .bin .eql (.tmp 62) (.lit (.int .u8 (62)))⟩, ⟨none, (some 78), .mov (.tmp 79)⟩])
  (.cond (.tmp 78) (.ops [⟨none, (some 80), .mov (.tmp 5)⟩, ⟨none, (some 81), .bin .add (.tmp 80) (.lit (.str [38, 103, 116, 59]))⟩, ⟨none, (some 5), .mov (.tmp 81)⟩])
  (.seq (.ops [⟨none, (some 83), .bin .eql (.tmp 62) (.lit (.int .u8 (13)))⟩, ⟨none, (some 82), .mov (.tmp 83)⟩])
  (.cond (.tmp 82) (.ops [⟨none, (some 84), .mov (.tmp 5)⟩, ⟨none, (some 85), .bin .add (.tmp 84) (.lit (.str [38, 35, 120, 68, 59]))⟩, ⟨none, (some 5), .mov (.tmp 85)⟩])
  (.ops [⟨none, (some 63), .mov (.tmp 5)⟩, ⟨none, (some 64), .mov (.tmp 0)⟩, ⟨none, (some 65), .mov (.tmp 7)⟩, ⟨none, (some 66), .ixs (.tmp 64) (.tmp 65)⟩, ⟨none, (some 67), .bldS 5 1 1 [.int .u8 (0)] [(0, 1, (.tmp 66))]⟩, ⟨none, (some 68), .b2s (.tmp 67)⟩, ⟨none, (some 69), .bin .add (.tmp 63) (.tmp 68)⟩, ⟨none, (some 5), .mov (.tmp 69)⟩])))))))))))))
  (.ops [⟨none, (some 41), .mov (.tmp 7)⟩, ⟨none, (some 42), .bin .add (.tmp 41) (.lit (.int .i64 (1)))⟩, ⟨none, (some 7), .mov (.tmp 42)⟩]))))))
  (.seq (.ops [⟨none, (some 86), .mov (.tmp 5)⟩, ⟨none, (some 87), .bin .add (.lit (.str [60, 97, 62])) (.tmp 86)⟩, ⟨none, (some 88), .bin .add (.tmp 87) (.lit (.str [60, 47, 97, 62]))⟩, ⟨none, (some 5), .mov (.tmp 88)⟩])
  (.seq (.ops [⟨none, (some 90), .mov (.tmp 5)⟩, ⟨none, (some 91), .s2b 5 (.tmp 90)⟩, ⟨none, (some 92), .call 13 [(.tmp 91)]⟩, ⟨none, (some 89), .mov (.tmp 92)⟩, ⟨none, (some 93), .ext (.tmp 89) 0⟩, ⟨none, (some 94), .ext (.tmp 89) 1⟩, ⟨none, (some 8), .new 27 [.str [], .str [], .str [], .nilS, .nilS]⟩, ⟨none, none, .store 5 (.tmp 8) (.tmp 93)⟩, ⟨none, (some 9), .mov (.tmp 94)⟩])
  (.seq (.ops [⟨none, (some 96), .mov (.tmp 5)⟩, ⟨none, (some 97), .s2b 5 (.tmp 96)⟩, ⟨none, (some 98), .call 14 [(.tmp 97)]⟩, ⟨none, (some 95), .mov (.tmp 98)⟩, ⟨none, (some 99), .ext (.tmp 95) 0⟩, ⟨none, (some 100), .ext (.tmp 95) 1⟩, ⟨none, (some 10), .new 27 [.str [], .str [], .str [], .nilS, .nilS]⟩, ⟨none, none, .store 5 (.tmp 10) (.tmp 99)⟩, ⟨none, (some 11), .mov (.tmp 100)⟩])
  (.seq (.seq (.ops [⟨none, (some 101), .mov (.tmp 9)⟩, ⟨none, (some 102), .mov (.tmp 11)⟩, ⟨none, (some 103), .bin .neq (.tmp 101) (.tmp 102)⟩, ⟨none, (some 104), .mov (.tmp 103)⟩, ⟨(some (104, false)), (some 105), .loadN 5 (.tmp 8)⟩, ⟨(some (104, false)), (some 106), .loadN 5 (.tmp 10)⟩, ⟨(some (104, false)), (some 107), .call 15 [(.tmp 105), (.tmp 106)]⟩, ⟨(some (104, false)), (some 108), .un .not (.tmp 107)⟩, ⟨none, (some 109), .pick (.tmp 104) (.lit (.bool true)) (.tmp 108)⟩])
  (.cond (.tmp 109) (.seq (.ops [⟨none, (some 4), .mov (.lit (.bool false))⟩])
  .ret)
  .skip))
  (.seq (.seq (.ops [⟨none, (some 110), .mov (.tmp 11)⟩, ⟨none, (some 111), .bin .neq (.tmp 110) (.lit (.int .i64 (0)))⟩])
  (.cond (.tmp 111) (.seq (.ops [⟨none, (some 112), .call 17 []⟩, ⟨none, (some 4), .mov (.tmp 112)⟩])
  .ret)
  .skip))
  (.seq (.seq (.ops [⟨none, (some 113), .mov (.tmp 0)⟩, ⟨none, (some 114), .bin .eql (.tmp 113) (.lit (.str []))⟩])
  (.cond (.tmp 114) (.seq (.ops [⟨none, (some 115), .faddr 4 (.tmp 8)⟩, ⟨none, (some 116), .load1 (.tmp 115)⟩, ⟨none, (some 117), .lenL (.tmp 116)⟩, ⟨none, (some 118), .bin .eql (.tmp 117) (.lit (.int .i64 (0)))⟩, ⟨none, (some 119), .mov (.tmp 118)⟩, ⟨(some (119, true)), (some 120), .call 17 []⟩, ⟨none, (some 121), .pick (.tmp 119) (.tmp 120) (.lit (.bool false))⟩, ⟨none, (some 4), .mov (.tmp 121)⟩])
  .ret)
  .skip))
  (.seq (.ops [⟨none, (some 122), .faddr 4 (.tmp 8)⟩, ⟨none, (some 123), .load1 (.tmp 122)⟩, ⟨none, (some 124), .lenL (.tmp 123)⟩, ⟨none, (some 125), .bin .eql (.tmp 124) (.lit (.int .i64 (1)))⟩, ⟨none, (some 126), .mov (.tmp 125)⟩, ⟨(some (126, true)), (some 127), .faddr 4 (.tmp 8)⟩, ⟨(some (126, true)), (some 128), .load1 (.tmp 127)⟩, ⟨(some (126, true)), (some 129), .iaddr 5 (.tmp 128) (.lit (.int .i64 (0)))⟩, ⟨(some (126, true)), (some 130), .faddr 2 (.tmp 129)⟩, ⟨(some (126, true)), (some 131), .load1 (.tmp 130)⟩, ⟨(some (126, true)), (some 132), .mov (.tmp 0)⟩, ⟨(some (126, true)), (some 133), .bin .eql (.tmp 131) (.tmp 132)⟩, ⟨none, (some 134), .pick (.tmp 126) (.tmp 133) (.lit (.bool false))⟩, ⟨none, (some 135), .mov (.tmp 134)⟩, ⟨(some (135, true)), (some 136), .call 17 []⟩, ⟨none, (some 137), .pick (.tmp 135) (.tmp 136) (.lit (.bool false))⟩, ⟨none, (some 4), .mov (.tmp 137)⟩])
  .ret)))))))))))),
  [.tmp 4], none⟩
theorem r4 {m : Int} : resolveF Tryz.prog (cfg m) 4 = some I4 := by kernel_rfl
noncomputable def I5 : IF := ⟨78, (.seq (.ops [⟨none, (some 2), .mov (.lit (.bool false))⟩])
  (.seq (.seq (.ops [⟨none, (some 9), .mov (.tmp 0)⟩, ⟨none, (some 10), .bin .lss (.tmp 9) (.lit (.int .i64 (1)))⟩, ⟨none, (some 11), .mov (.tmp 10)⟩, ⟨(some (11, false)), (some 12), .mov (.tmp 0)⟩, ⟨(some (11, false)), (some 13), .bin .gtr (.tmp 12) (.lit (.int .i64 (300)))⟩, ⟨none, (some 14), .pick (.tmp 11) (.lit (.bool true)) (.tmp 13)⟩])
  (.cond (.tmp 14) (.seq (.ops [⟨none, (some 15), .call 17 []⟩, ⟨none, (some 2), .mov (.tmp 15)⟩])
  .ret)
  .skip))
  (.seq (.ops [⟨none, (some 3), .mov (.lit (.str []))⟩, ⟨none, (some 4), .mov (.lit (.str []))⟩])
  (.seq (.seq (.ops [⟨none, (some 5), .mov (.lit (.int .i64 (0)))⟩])
  (.block 0 (.loop (some [0, 3, 4, 5]) (.seq (.seq (.ops [⟨none, (some 16), .mov (.tmp 5)⟩, ⟨none, (some 17), .mov (.tmp 0)⟩, ⟨none, (some 18), .bin .lss (.tmp 16) (.tmp 17)⟩])
  (.cond (.tmp 18) .skip
  (.exit 0)))
  (.seq (.block 1 (.ops [⟨none, (some 21), .mov (.tmp 3)⟩, ⟨none, (some 22), .bin .add (.tmp 21) (.lit (.str [60, 97, 62]))⟩, ⟨none, (some 23), .mov (.tmp 4)⟩, ⟨none, (some 24), .bin .add (.tmp 23) (.lit (.str [60, 47, 97, 62]))⟩, ⟨none, (some 3), .mov (.tmp 22)⟩, ⟨none, (some 4), .mov (.tmp 24)⟩]))
  (.ops [⟨none, (some 19), .mov (.tmp 5)⟩, ⟨none, (some 20), .bin .add (.tmp 19) (.lit (.int .i64 (1)))⟩, ⟨none, (some 5), .mov (.tmp 20)⟩]))))))
  (.seq (.ops [⟨none, (some 26), .mov (.tmp 3)⟩, ⟨none, (some 27), .mov (.tmp 4)⟩, ⟨none, (some 28), .bin .add (.tmp 26) (.tmp 27)⟩, ⟨none, (some 29), .s2b 5 (.tmp 28)⟩, ⟨none, (some 30), .call 13 [(.tmp 29)]⟩, ⟨none, (some 25), .mov (.tmp 30)⟩, ⟨none, (some 31), .ext (.tmp 25) 0⟩, ⟨none, (some 32), .ext (.tmp 25) 1⟩, ⟨none, (some 6), .new 27 [.str [], .str [], .str [], .nilS, .nilS]⟩, ⟨none, none, .store 5 (.tmp 6) (.tmp 31)⟩, ⟨none, (some 7), .mov (.tmp 32)⟩])
  (.seq (.seq (.ops [⟨none, (some 33), .mov (.tmp 0)⟩, ⟨none, (some 34), .bin .gtr (.tmp 33) (.lit (.int .i64 (257)))⟩])
  (.cond (.tmp 34) (.seq (.ops [⟨none, (some 35), .mov (.tmp 7)⟩, ⟨none, (some 36), .bin .eql (.tmp 35) (.lit (.int .i64 (6)))⟩, ⟨none, (some 37), .mov (.tmp 36)⟩, ⟨(some (37, true)), (some 38), .faddr 1 (.tmp 6)⟩, ⟨(some (37, true)), (some 39), .load1 (.tmp 38)⟩, ⟨(some (37, true)), (some 40), .bin .eql (.tmp 39) (.lit (.str []))⟩, ⟨none, (some 41), .pick (.tmp 37) (.tmp 40) (.lit (.bool false))⟩, ⟨none, (some 42), .mov (.tmp 41)⟩, ⟨(some (42, true)), (some 43), .call 17 []⟩, ⟨none, (some 44), .pick (.tmp 42) (.tmp 43) (.lit (.bool false))⟩, ⟨none, (some 2), .mov (.tmp 44)⟩])
  .ret)
  .skip))
  (.seq (.seq (.ops [⟨none, (some 8), .mov (.lit (.int .i64 (1)))⟩])
  (.block 2 (.loop (some [0, 6, 7, 8]) (.seq (.seq (.ops [⟨none, (some 45), .mov (.tmp 8)⟩, ⟨none, (some 46), .mov (.tmp 0)⟩, ⟨none, (some 47), .bin .lss (.tmp 45) (.tmp 46)⟩])
  (.cond (.tmp 47) .skip
  (.exit 2)))
  (.seq (.block 3 (.seq (.seq (.ops [⟨none, (some 50), .mov (.tmp 7)⟩, ⟨none, (some 51), .bin .neq (.tmp 50) (.lit (.int .i64 (0)))⟩, ⟨none, (some 52), .mov (.tmp 51)⟩, ⟨(some (52, false)), (some 53), .faddr 4 (.tmp 6)⟩, ⟨(some (52, false)), (some 54), .load1 (.tmp 53)⟩, ⟨(some (52, false)), (some 55), .lenL (.tmp 54)⟩, ⟨(some (52, false)), (some 56), .bin .neq (.tmp 55) (.lit (.int .i64 (1)))⟩, ⟨none, (some 57), .pick (.tmp 52) (.lit (.bool true)) (.tmp 56)⟩])
  (.cond (.tmp 57) (.seq (.ops [⟨none, (some 2), .mov (.lit (.bool false))⟩])
  .ret)
  .skip))
  (.ops [⟨none, (some 58), .faddr 4 (.tmp 6)⟩, ⟨none, (some 59), .load1 (.tmp 58)⟩, ⟨none, (some 60), .iaddr 5 (.tmp 59) (.lit (.int .i64 (0)))⟩, ⟨none, (some 61), .loadN 5 (.tmp 60)⟩, ⟨none, none, .store 5 (.tmp 6) (.tmp 61)⟩])))
  (.ops [⟨none, (some 48), .mov (.tmp 8)⟩, ⟨none, (some 49), .bin .add (.tmp 48) (.lit (.int .i64 (1)))⟩, ⟨none, (some 8), .mov (.tmp 49)⟩]))))))
  (.seq (.ops [⟨none, (some 62), .mov (.tmp 7)⟩, ⟨none, (some 63), .bin .eql (.tmp 62) (.lit (.int .i64 (0)))⟩, ⟨none, (some 64), .mov (.tmp 63)⟩, ⟨(some (64, true)), (some 65), .faddr 1 (.tmp 6)⟩, ⟨(some (64, true)), (some 66), .load1 (.tmp 65)⟩, ⟨(some (64, true)), (some 67), .bin .eql (.tmp 66) (.lit (.str [97]))⟩, ⟨none, (some 68), .pick (.tmp 64) (.tmp 67) (.lit (.bool false))⟩, ⟨none, (some 69), .mov (.tmp 68)⟩, ⟨(some (69, true)), (some 70), .faddr 4 (.tmp 6)⟩, ⟨(some (69, true)), (some 71), .load1 (.tmp 70)⟩, ⟨(some (69, true)), (some 72), .lenL (.tmp 71)⟩, ⟨(some (69, true)), (some 73), .bin .eql (.tmp 72) (.lit (.int .i64 (0)))⟩, ⟨none, (some 74), .pick (.tmp 69) (.tmp 73) (.lit (.bool false))⟩, ⟨none, (some 75), .mov (.tmp 74)⟩, ⟨(some (75, true)), (some 76), .call 17 []⟩, ⟨none, (some 77), .pick (.tmp 75) (.tmp 76) (.lit (.bool false))⟩, ⟨none, (some 2), .mov (.tmp 77)⟩])
  .ret)))))))),
  [.tmp 2], none⟩
theorem r5 {m : Int} : resolveF Tryz.prog (cfg m) 5 = some I5 := by kernel_rfl
noncomputable def I6 : IF := ⟨155, (.seq (.ops [⟨none, (some 8), .mov (.lit (.bool false))⟩])
  (.seq (.seq (.ops [⟨none, (some 15), .mov (.tmp 0)⟩, ⟨none, (some 16), .lenS (.tmp 15)⟩, ⟨none, (some 17), .mov (.tmp 1)⟩, ⟨none, (some 18), .lenS (.tmp 17)⟩, ⟨none, (some 19), .bin .add (.tmp 16) (.tmp 18)⟩, ⟨none, (some 20), .bin .gtr (.tmp 19) (.lit (.int .i64 (200)))⟩])
  (.cond (.tmp 20) (.seq (.ops [⟨none, (some 8), .mov (.lit (.bool true))⟩])
  .ret)
  .skip))
  (.seq (.seq (.ops [⟨none, (some 9), .mov (.lit (.int .i64 (0)))⟩])
  (.block 0 (.loop (some [0, 1, 2, 3, 9]) (.seq (.seq (.ops [⟨none, (some 21), .mov (.tmp 9)⟩, ⟨none, (some 22), .mov (.tmp 0)⟩, ⟨none, (some 23), .mov (.tmp 1)⟩, ⟨none, (some 24), .bin .add (.tmp 22) (.tmp 23)⟩, ⟨none, (some 25), .lenS (.tmp 24)⟩, ⟨none, (some 26), .bin .lss (.tmp 21) (.tmp 25)⟩])
  (.cond (.tmp 26) .skip
  (.exit 0)))
  (.seq (.block 1 (.seq (.ops [⟨none, (some 29), .mov (.tmp 0)⟩, ⟨none, (some 30), .mov (.tmp 1)⟩, ⟨none, (some 31), .bin .add (.tmp 29) (.tmp 30)⟩, ⟨none, (some 32), .mov (.tmp 9)⟩, ⟨none, (some 33), .ixs (.tmp 31) (.tmp 32)⟩, ⟨none, (some 10), .mov (.tmp 33)⟩])
  (.seq (.ops [⟨none, (some 34), .mov (.tmp 10)⟩, ⟨none, (some 35), .bin .leq (.tmp 34) (.lit (.int .u8 (32)))⟩, ⟨none, (some 36), .mov (.tmp 35)⟩, ⟨(some (36, false)), (some 37), .mov (.tmp 10)⟩, ⟨(some (36, false)), (some 38), .bin .gtr (.tmp 37) (.lit (.int .u8 (126)))⟩, ⟨none, (some 39), .pick (.tmp 36) (.lit (.bool true)) (.tmp 38)⟩, ⟨none, (some 40), .mov (.tmp 39)⟩, ⟨(some (40, false)), (some 41), .mov (.tmp 10)⟩, ⟨(some (40, false)), (some 42), .bin .eql (.tmp 41) (.lit (.int .u8 (34)))⟩, ⟨none, (some 43), .pick (.tmp 40) (.lit (.bool true)) (.tmp 42)⟩, ⟨none, (some 44), .mov (.tmp 43)⟩, ⟨(some (44, false)), (some 45), .mov (.tmp 10)⟩, ⟨(some (44, false)), (some 46), .bin .eql (.tmp 45) (.lit (.int .u8 (60)))⟩, ⟨none, (some 47), .pick (.tmp 44) (.lit (.bool true)) (.tmp 46)⟩, ⟨none, (some 48), .mov (.tmp 47)⟩, ⟨(some (48, false)), (some 49), .mov (.tmp 10)⟩, ⟨(some (48, false)), (some 50), .bin .eql (.tmp 49) (.lit (.int .u8 (38)))⟩, ⟨none, (some 51), .pick (.tmp 48) (.lit (.bool true)) (.tmp 50)⟩])
  (.cond (.tmp 51) (.seq (.ops [⟨none, (some 52), .call 17 []⟩, ⟨none, (some 8), .mov (.tmp 52)⟩])
  .ret)
  .skip))))
  (.ops [⟨none, (some 27), .mov (.tmp 9)⟩, ⟨none, (some 28), .bin .add (.tmp 27) (.lit (.int .i64 (1)))⟩, ⟨none, (some 9), .mov (.tmp 28)⟩]))))))
  (.seq (.ops [⟨none, (some 11), .mov (.lit (.str [60, 114]))⟩])
  (.seq (.seq (.ops [⟨none, (some 53), .mov (.tmp 2)⟩])
  (.cond (.tmp 53) (.ops [⟨none, (some 54), .mov (.tmp 11)⟩, ⟨none, (some 55), .bin .add (.tmp 54) (.lit (.str [32, 120, 109, 108, 110, 115, 58, 112, 61, 34]))⟩, ⟨none, (some 56), .mov (.tmp 0)⟩, ⟨none, (some 57), .bin .add (.tmp 55) (.tmp 56)⟩, ⟨none, (some 58), .bin .add (.tmp 57) (.lit (.str [34]))⟩, ⟨none, (some 11), .mov (.tmp 58)⟩])
  .skip))
  (.seq (.ops [⟨none, (some 59), .mov (.tmp 11)⟩, ⟨none, (some 60), .bin .add (.tmp 59) (.lit (.str [62, 60, 112, 58, 97]))⟩, ⟨none, (some 11), .mov (.tmp 60)⟩])
  (.seq (.seq (.ops [⟨none, (some 61), .mov (.tmp 3)⟩])
  (.cond (.tmp 61) (.ops [⟨none, (some 62), .mov (.tmp 11)⟩, ⟨none, (some 63), .bin .add (.tmp 62) (.lit (.str [32, 120, 109, 108, 110, 115, 58, 112, 61, 34]))⟩, ⟨none, (some 64), .mov (.tmp 1)⟩, ⟨none, (some 65), .bin .add (.tmp 63) (.tmp 64)⟩, ⟨none, (some 66), .bin .add (.tmp 65) (.lit (.str [34]))⟩, ⟨none, (some 11), .mov (.tmp 66)⟩])
  .skip))
  (.seq (.ops [⟨none, (some 67), .mov (.tmp 11)⟩, ⟨none, (some 68), .bin .add (.tmp 67) (.lit (.str [32, 112, 58, 120, 61, 34, 49, 34, 47, 62, 60, 47, 114, 62]))⟩, ⟨none, (some 11), .mov (.tmp 68)⟩])
  (.seq (.ops [⟨none, (some 70), .mov (.tmp 11)⟩, ⟨none, (some 71), .s2b 5 (.tmp 70)⟩, ⟨none, (some 72), .call 13 [(.tmp 71)]⟩, ⟨none, (some 69), .mov (.tmp 72)⟩, ⟨none, (some 73), .ext (.tmp 69) 0⟩, ⟨none, (some 74), .ext (.tmp 69) 1⟩, ⟨none, (some 12), .new 27 [.str [], .str [], .str [], .nilS, .nilS]⟩, ⟨none, none, .store 5 (.tmp 12) (.tmp 73)⟩, ⟨none, (some 13), .mov (.tmp 74)⟩])
  (.seq (.block 2 (.seq (.seq (.ops [⟨none, (some 76), .mov (.tmp 2)⟩, ⟨none, (some 77), .mov (.tmp 76)⟩, ⟨(some (77, true)), (some 78), .mov (.tmp 0)⟩, ⟨(some (77, true)), (some 79), .bin .eql (.tmp 78) (.lit (.str []))⟩, ⟨none, (some 80), .pick (.tmp 77) (.tmp 79) (.lit (.bool false))⟩, ⟨none, (some 75), .mov (.tmp 80)⟩])
  (.cond (.tmp 75) .skip
  (.ops [⟨none, (some 81), .mov (.tmp 3)⟩, ⟨none, (some 82), .mov (.tmp 81)⟩, ⟨(some (82, true)), (some 83), .mov (.tmp 1)⟩, ⟨(some (82, true)), (some 84), .bin .eql (.tmp 83) (.lit (.str []))⟩, ⟨none, (some 85), .pick (.tmp 82) (.tmp 84) (.lit (.bool false))⟩, ⟨none, (some 86), .mov (.tmp 85)⟩, ⟨(some (86, true)), (some 87), .mov (.tmp 2)⟩, ⟨(some (86, true)), (some 88), .un .not (.tmp 87)⟩, ⟨(some (86, true)), (some 89), .mov (.tmp 88)⟩, ⟨(some (89, false)), (some 90), .mov (.tmp 0)⟩, ⟨(some (89, false)), (some 91), .bin .neq (.tmp 90) (.lit (.str []))⟩, ⟨(some (86, true)), (some 92), .pick (.tmp 89) (.lit (.bool true)) (.tmp 91)⟩, ⟨none, (some 93), .pick (.tmp 86) (.tmp 92) (.lit (.bool false))⟩, ⟨none, (some 75), .mov (.tmp 93)⟩])))
  (.cond (.tmp 75) (.seq (.ops [⟨none, (some 94), .mov (.tmp 13)⟩, ⟨none, (some 95), .bin .eql (.tmp 94) (.lit (.int .i64 (10)))⟩, ⟨none, (some 96), .mov (.tmp 95)⟩, ⟨(some (96, true)), (some 97), .call 17 []⟩, ⟨none, (some 98), .pick (.tmp 96) (.tmp 97) (.lit (.bool false))⟩, ⟨none, (some 8), .mov (.tmp 98)⟩])
  .ret)
  (.seq (.ops [⟨none, (some 100), .mov (.tmp 2)⟩, ⟨none, (some 101), .un .not (.tmp 100)⟩, ⟨none, (some 102), .mov (.tmp 101)⟩, ⟨(some (102, true)), (some 103), .mov (.tmp 3)⟩, ⟨(some (102, true)), (some 104), .un .not (.tmp 103)⟩, ⟨none, (some 105), .pick (.tmp 102) (.tmp 104) (.lit (.bool false))⟩, ⟨none, (some 99), .mov (.tmp 105)⟩])
  (.cond (.tmp 99) (.seq (.ops [⟨none, (some 106), .mov (.tmp 13)⟩, ⟨none, (some 107), .bin .eql (.tmp 106) (.lit (.int .i64 (12)))⟩, ⟨none, (some 108), .mov (.tmp 107)⟩, ⟨(some (108, true)), (some 109), .call 17 []⟩, ⟨none, (some 110), .pick (.tmp 108) (.tmp 109) (.lit (.bool false))⟩, ⟨none, (some 8), .mov (.tmp 110)⟩])
  .ret)
  .skip)))))
  (.seq (.ops [⟨none, (some 111), .mov (.tmp 0)⟩, ⟨none, (some 14), .mov (.tmp 111)⟩])
  (.seq (.seq (.ops [⟨none, (some 112), .mov (.tmp 3)⟩])
  (.cond (.tmp 112) (.ops [⟨none, (some 113), .mov (.tmp 1)⟩, ⟨none, (some 14), .mov (.tmp 113)⟩])
  .skip))
  (.seq (.ops [⟨none, (some 114), .mov (.tmp 13)⟩, ⟨none, (some 115), .bin .eql (.tmp 114) (.lit (.int .i64 (0)))⟩, ⟨none, (some 116), .mov (.tmp 115)⟩, ⟨(some (116, true)), (some 117), .faddr 4 (.tmp 12)⟩, ⟨(some (116, true)), (some 118), .load1 (.tmp 117)⟩, ⟨(some (116, true)), (some 119), .lenL (.tmp 118)⟩, ⟨(some (116, true)), (some 120), .bin .eql (.tmp 119) (.lit (.int .i64 (1)))⟩, ⟨none, (some 121), .pick (.tmp 116) (.tmp 120) (.lit (.bool false))⟩, ⟨none, (some 122), .mov (.tmp 121)⟩, ⟨(some (122, true)), (some 123), .faddr 4 (.tmp 12)⟩, ⟨(some (122, true)), (some 124), .load1 (.tmp 123)⟩, ⟨(some (122, true)), (some 125), .iaddr 5 (.tmp 124) (.lit (.int .i64 (0)))⟩, ⟨(some (122, true)), (some 126), .faddr 0 (.tmp 125)⟩, ⟨(some (122, true)), (some 127), .load1 (.tmp 126)⟩, ⟨(some (122, true)), (some 128), .mov (.tmp 14)⟩, ⟨(some (122, true)), (some 129), .bin .eql (.tmp 127) (.tmp 128)⟩, ⟨none, (some 130), .pick (.tmp 122) (.tmp 129) (.lit (.bool false))⟩, ⟨none, (some 131), .mov (.tmp 130)⟩, ⟨(some (131, true)), (some 132), .faddr 4 (.tmp 12)⟩, ⟨(some (131, true)), (some 133), .load1 (.tmp 132)⟩, ⟨(some (131, true)), (some 134), .iaddr 5 (.tmp 133) (.lit (.int .i64 (0)))⟩, ⟨(some (131, true)), (some 135), .faddr 3 (.tmp 134)⟩, ⟨(some (131, true)), (some 136), .load1 (.tmp 135)⟩, ⟨(some (131, true)), (some 137), .lenL (.tmp 136)⟩, ⟨(some (131, true)), (some 138), .bin .eql (.tmp 137) (.lit (.int .i64 (1)))⟩, ⟨none, (some 139), .pick (.tmp 131) (.tmp 138) (.lit (.bool false))⟩, ⟨none, (some 140), .mov (.tmp 139)⟩, ⟨(some (140, true)), (some 141), .faddr 4 (.tmp 12)⟩, ⟨(some (140, true)), (some 142), .load1 (.tmp 141)⟩, ⟨(some (140, true)), (some 143), .iaddr 5 (.tmp 142) (.lit (.int .i64 (0)))⟩, ⟨(some (140, true)), (some 144), .faddr 3 (.tmp 143)⟩, ⟨(some (140, true)), (some 145), .load1 (.tmp 144)⟩, ⟨(some (140, true)), (some 146), .iaddr 3 (.tmp 145) (.lit (.int .i64 (0)))⟩, ⟨(some (140, true)), (some 147), .faddr 0 (.tmp 146)⟩, ⟨(some (140, true)), (some 148), .load1 (.tmp 147)⟩, ⟨(some (140, true)), (some 149), .mov (.tmp 14)⟩, ⟨(some (140, true)), (some 150), .bin .eql (.tmp 148) (.tmp 149)⟩, ⟨none, (some 151), .pick (.tmp 140) (.tmp 150) (.lit (.bool false))⟩, ⟨none, (some 152), .mov (.tmp 151)⟩, ⟨(some (152, true)), (some 153), .call 17 []⟩, ⟨none, (some 154), .pick (.tmp 152) (.tmp 153) (.lit (.bool false))⟩, ⟨none, (some 8), .mov (.tmp 154)⟩])
  .ret))))))))))))),
  [.tmp 8], none⟩
theorem r6 {m : Int} : resolveF Tryz.prog (cfg m) 6 = some I6 := by kernel_rfl
noncomputable def I7 : IF := ⟨106, (.seq (.ops [⟨none, (some 6), .mov (.lit (.bool false))⟩])
  (.seq (.seq (.ops [⟨none, (some 10), .mov (.tmp 0)⟩, ⟨none, (some 11), .call 20 [(.tmp 10)]⟩, ⟨none, (some 12), .un .not (.tmp 11)⟩, ⟨none, (some 13), .mov (.tmp 12)⟩, ⟨(some (13, false)), (some 14), .mov (.tmp 1)⟩, ⟨(some (13, false)), (some 15), .call 20 [(.tmp 14)]⟩, ⟨(some (13, false)), (some 16), .un .not (.tmp 15)⟩, ⟨none, (some 17), .pick (.tmp 13) (.lit (.bool true)) (.tmp 16)⟩])
  (.cond (.tmp 17) (.seq (.ops [⟨none, (some 18), .call 17 []⟩, ⟨none, (some 6), .mov (.tmp 18)⟩])
  .ret)
  .skip))
  (.seq (.ops [⟨none, (some 19), .mov (.tmp 0)⟩, ⟨none, (some 20), .bin .add (.lit (.str [60, 101, 32])) (.tmp 19)⟩, ⟨none, (some 21), .bin .add (.tmp 20) (.lit (.str [61, 39, 49, 39, 32]))⟩, ⟨none, (some 22), .mov (.tmp 1)⟩, ⟨none, (some 23), .bin .add (.tmp 21) (.tmp 22)⟩, ⟨none, (some 24), .bin .add (.tmp 23) (.lit (.str [61, 39, 50, 39, 47, 62]))⟩, ⟨none, (some 7), .mov (.tmp 24)⟩])
  (.seq (.seq (.ops [⟨none, (some 25), .mov (.tmp 2)⟩, ⟨none, (some 26), .bin .and (.tmp 25) (.lit (.int .i64 (3)))⟩])
  (.block 0 (.seq (.ops [⟨none, (some 28), .bin .eql (.tmp 26) (.lit (.int .i64 (1)))⟩, ⟨none, (some 27), .mov (.tmp 28)⟩])
  (.cond (.tmp 27) (.ops [⟨none, (some 29), .mov (.tmp 0)⟩, ⟨none, (some 30), .bin .add (.lit (.str [60, 101, 32, 120, 109, 108, 110, 115, 58, 112, 61, 39, 117, 39, 32, 120, 109, 108, 110, 115, 58, 113, 61, 39, 117, 39, 32, 112, 58])) (.tmp 29)⟩, ⟨none, (some 31), .bin .add (.tmp 30) (.lit (.str [61, 39, 49, 39, 32, 113, 58]))⟩, ⟨none, (some 32), .mov (.tmp 1)⟩, ⟨none, (some 33), .bin .add (.tmp 31) (.tmp 32)⟩, ⟨none, (some 34), .bin .add (.tmp 33) (.lit (.str [61, 39, 50, 39, 47, 62]))⟩, ⟨none, (some 7), .mov (.tmp 34)⟩])
  (.seq (.ops [⟨none, (some 36), .bin .eql (.tmp 26) (.lit (.int .i64 (2)))⟩, ⟨none, (some 35), .mov (.tmp 36)⟩])
  (.cond (.tmp 35) (.ops [⟨none, (some 37), .mov (.tmp 0)⟩, ⟨none, (some 38), .bin .add (.lit (.str [60, 101, 32, 120, 109, 108, 110, 115, 58, 112, 61, 39, 117, 39, 32, 120, 109, 108, 110, 115, 58, 113, 61, 39, 118, 39, 32, 112, 58])) (.tmp 37)⟩, ⟨none, (some 39), .bin .add (.tmp 38) (.lit (.str [61, 39, 49, 39, 32, 113, 58]))⟩, ⟨none, (some 40), .mov (.tmp 1)⟩, ⟨none, (some 41), .bin .add (.tmp 39) (.tmp 40)⟩, ⟨none, (some 42), .bin .add (.tmp 41) (.lit (.str [61, 39, 50, 39, 47, 62]))⟩, ⟨none, (some 7), .mov (.tmp 42)⟩])
  (.seq (.ops [⟨none, (some 44), .bin .eql (.tmp 26) (.lit (.int .i64 (3)))⟩, ⟨none, (some 43), .mov (.tmp 44)⟩])
  (.cond (.tmp 43) (.ops [⟨none, (some 45), .mov (.tmp 0)⟩, ⟨none, (some 46), .bin .add (.lit (.str [60, 101, 32, 120, 109, 108, 110, 115, 61, 39, 117, 39, 32])) (.tmp 45)⟩, ⟨none, (some 47), .bin .add (.tmp 46) (.lit (.str [61, 39, 49, 39, 32]))⟩, ⟨none, (some 48), .mov (.tmp 1)⟩, ⟨none, (some 49), .bin .add (.tmp 47) (.tmp 48)⟩, ⟨none, (some 50), .bin .add (.tmp 49) (.lit (.str [61, 39, 50, 39, 47, 62]))⟩, ⟨none, (some 7), .mov (.tmp 50)⟩])
  .skip))))))))
  (.seq (.ops [⟨none, (some 52), .mov (.tmp 7)⟩, ⟨none, (some 53), .s2b 5 (.tmp 52)⟩, ⟨none, (some 54), .call 13 [(.tmp 53)]⟩, ⟨none, (some 51), .mov (.tmp 54)⟩, ⟨none, (some 55), .ext (.tmp 51) 0⟩, ⟨none, (some 56), .ext (.tmp 51) 1⟩, ⟨none, (some 8), .new 27 [.str [], .str [], .str [], .nilS, .nilS]⟩, ⟨none, none, .store 5 (.tmp 8) (.tmp 55)⟩, ⟨none, (some 9), .mov (.tmp 56)⟩])
  (.seq (.seq (.ops [⟨none, (some 57), .mov (.tmp 0)⟩, ⟨none, (some 58), .bin .eql (.tmp 57) (.lit (.str [120, 109, 108, 110, 115]))⟩, ⟨none, (some 59), .mov (.tmp 58)⟩, ⟨(some (59, false)), (some 60), .mov (.tmp 1)⟩, ⟨(some (59, false)), (some 61), .bin .eql (.tmp 60) (.lit (.str [120, 109, 108, 110, 115]))⟩, ⟨none, (some 62), .pick (.tmp 59) (.lit (.bool true)) (.tmp 61)⟩])
  (.cond (.tmp 62) (.seq (.ops [⟨none, (some 63), .call 17 []⟩, ⟨none, (some 6), .mov (.tmp 63)⟩])
  .ret)
  .skip))
  (.seq (.seq (.ops [⟨none, (some 64), .mov (.tmp 0)⟩, ⟨none, (some 65), .mov (.tmp 1)⟩, ⟨none, (some 66), .bin .eql (.tmp 64) (.tmp 65)⟩, ⟨none, (some 67), .mov (.tmp 66)⟩, ⟨(some (67, true)), (some 68), .mov (.tmp 2)⟩, ⟨(some (67, true)), (some 69), .bin .and (.tmp 68) (.lit (.int .i64 (3)))⟩, ⟨(some (67, true)), (some 70), .bin .neq (.tmp 69) (.lit (.int .i64 (2)))⟩, ⟨none, (some 71), .pick (.tmp 67) (.tmp 70) (.lit (.bool false))⟩])
  (.cond (.tmp 71) (.seq (.ops [⟨none, (some 72), .mov (.tmp 9)⟩, ⟨none, (some 73), .bin .eql (.tmp 72) (.lit (.int .i64 (8)))⟩, ⟨none, (some 74), .mov (.tmp 73)⟩, ⟨(some (74, true)), (some 75), .call 17 []⟩, ⟨none, (some 76), .pick (.tmp 74) (.tmp 75) (.lit (.bool false))⟩, ⟨none, (some 6), .mov (.tmp 76)⟩])
  .ret)
  .skip))
  (.seq (.ops [⟨none, (some 77), .mov (.tmp 9)⟩, ⟨none, (some 78), .bin .eql (.tmp 77) (.lit (.int .i64 (0)))⟩, ⟨none, (some 79), .mov (.tmp 78)⟩, ⟨(some (79, true)), (some 80), .faddr 3 (.tmp 8)⟩, ⟨(some (79, true)), (some 81), .load1 (.tmp 80)⟩, ⟨(some (79, true)), (some 82), .lenL (.tmp 81)⟩, ⟨(some (79, true)), (some 83), .bin .eql (.tmp 82) (.lit (.int .i64 (2)))⟩, ⟨none, (some 84), .pick (.tmp 79) (.tmp 83) (.lit (.bool false))⟩, ⟨none, (some 85), .mov (.tmp 84)⟩, ⟨(some (85, true)), (some 86), .faddr 3 (.tmp 8)⟩, ⟨(some (85, true)), (some 87), .load1 (.tmp 86)⟩, ⟨(some (85, true)), (some 88), .iaddr 3 (.tmp 87) (.lit (.int .i64 (0)))⟩, ⟨(some (85, true)), (some 89), .faddr 1 (.tmp 88)⟩, ⟨(some (85, true)), (some 90), .load1 (.tmp 89)⟩, ⟨(some (85, true)), (some 91), .mov (.tmp 0)⟩, ⟨(some (85, true)), (some 92), .bin .eql (.tmp 90) (.tmp 91)⟩, ⟨none, (some 93), .pick (.tmp 85) (.tmp 92) (.lit (.bool false))⟩, ⟨none, (some 94), .mov (.tmp 93)⟩, ⟨(some (94, true)), (some 95), .faddr 3 (.tmp 8)⟩, ⟨(some (94, true)), (some 96), .load1 (.tmp 95)⟩, ⟨(some (94, true)), (some 97), .iaddr 3 (.tmp 96) (.lit (.int .i64 (1)))⟩, ⟨(some (94, true)), (some 98), .faddr 1 (.tmp 97)⟩, ⟨(some (94, true)), (some 99), .load1 (.tmp 98)⟩, ⟨(some (94, true)), (some 100), .mov (.tmp 1)⟩, ⟨(some (94, true)), (some 101), .bin .eql (.tmp 99) (.tmp 100)⟩, ⟨none, (some 102), .pick (.tmp 94) (.tmp 101) (.lit (.bool false))⟩, ⟨none, (some 103), .mov (.tmp 102)⟩, ⟨(some (103, true)), (some 104), .call 17 []⟩, ⟨none, (some 105), .pick (.tmp 103) (.tmp 104) (.lit (.bool false))⟩, ⟨none, (some 6), .mov (.tmp 105)⟩])
  .ret)))))))),
  [.tmp 6], none⟩
theorem r7 {m : Int} : resolveF Tryz.prog (cfg m) 7 = some I7 := by kernel_rfl
noncomputable def I8 : IF := ⟨69, (.seq (.ops [⟨none, (some 6), .mov (.lit (.bool false))⟩])
  (.seq (.seq (.ops [⟨none, (some 9), .mov (.tmp 0)⟩, ⟨none, (some 10), .call 20 [(.tmp 9)]⟩, ⟨none, (some 11), .un .not (.tmp 10)⟩, ⟨none, (some 12), .mov (.tmp 11)⟩, ⟨(some (12, false)), (some 13), .mov (.tmp 1)⟩, ⟨(some (12, false)), (some 14), .call 20 [(.tmp 13)]⟩, ⟨(some (12, false)), (some 15), .un .not (.tmp 14)⟩, ⟨none, (some 16), .pick (.tmp 12) (.lit (.bool true)) (.tmp 15)⟩])
  (.cond (.tmp 16) (.seq (.ops [⟨none, (some 17), .call 17 []⟩, ⟨none, (some 6), .mov (.tmp 17)⟩])
  .ret)
  .skip))
  (.seq (.ops [⟨none, (some 19), .mov (.tmp 0)⟩, ⟨none, (some 20), .bin .add (.lit (.str [60])) (.tmp 19)⟩, ⟨none, (some 21), .bin .add (.tmp 20) (.lit (.str [62, 60, 47]))⟩, ⟨none, (some 22), .mov (.tmp 1)⟩, ⟨none, (some 23), .bin .add (.tmp 21) (.tmp 22)⟩, ⟨none, (some 24), .bin .add (.tmp 23) (.lit (.str [32, 62]))⟩, ⟨none, (some 25), .s2b 5 (.tmp 24)⟩, ⟨none, (some 26), .call 13 [(.tmp 25)]⟩, ⟨none, (some 18), .mov (.tmp 26)⟩, ⟨none, (some 27), .ext (.tmp 18) 0⟩, ⟨none, (some 28), .ext (.tmp 18) 1⟩, ⟨none, (some 7), .new 27 [.str [], .str [], .str [], .nilS, .nilS]⟩, ⟨none, none, .store 5 (.tmp 7) (.tmp 27)⟩, ⟨none, (some 8), .mov (.tmp 28)⟩])
  (.seq (.seq (.ops [⟨none, (some 29), .mov (.tmp 2)⟩])
  (.cond (.tmp 29) (.seq (.ops [⟨none, (some 31), .mov (.tmp 0)⟩, ⟨none, (some 32), .bin .add (.lit (.str [60])) (.tmp 31)⟩, ⟨none, (some 33), .bin .add (.tmp 32) (.lit (.str [32, 47, 62]))⟩, ⟨none, (some 34), .s2b 5 (.tmp 33)⟩, ⟨none, (some 35), .call 13 [(.tmp 34)]⟩, ⟨none, (some 30), .mov (.tmp 35)⟩, ⟨none, (some 36), .ext (.tmp 30) 0⟩, ⟨none, (some 37), .ext (.tmp 30) 1⟩, ⟨none, none, .store 5 (.tmp 7) (.tmp 36)⟩, ⟨none, (some 8), .mov (.tmp 37)⟩])
  (.ops [⟨none, (some 38), .mov (.tmp 0)⟩, ⟨none, (some 1), .mov (.tmp 38)⟩]))
  .skip))
  (.seq (.seq (.ops [⟨none, (some 39), .mov (.tmp 0)⟩, ⟨none, (some 40), .mov (.tmp 1)⟩, ⟨none, (some 41), .bin .neq (.tmp 39) (.tmp 40)⟩])
  (.cond (.tmp 41) (.seq (.ops [⟨none, (some 42), .mov (.tmp 8)⟩, ⟨none, (some 43), .bin .eql (.tmp 42) (.lit (.int .i64 (10)))⟩, ⟨none, (some 44), .mov (.tmp 43)⟩, ⟨(some (44, true)), (some 45), .faddr 1 (.tmp 7)⟩, ⟨(some (44, true)), (some 46), .load1 (.tmp 45)⟩, ⟨(some (44, true)), (some 47), .bin .eql (.tmp 46) (.lit (.str []))⟩, ⟨none, (some 48), .pick (.tmp 44) (.tmp 47) (.lit (.bool false))⟩, ⟨none, (some 49), .mov (.tmp 48)⟩, ⟨(some (49, true)), (some 50), .call 17 []⟩, ⟨none, (some 51), .pick (.tmp 49) (.tmp 50) (.lit (.bool false))⟩, ⟨none, (some 6), .mov (.tmp 51)⟩])
  .ret)
  .skip))
  (.seq (.ops [⟨none, (some 52), .mov (.tmp 8)⟩, ⟨none, (some 53), .bin .eql (.tmp 52) (.lit (.int .i64 (0)))⟩, ⟨none, (some 54), .mov (.tmp 53)⟩, ⟨(some (54, true)), (some 55), .faddr 1 (.tmp 7)⟩, ⟨(some (54, true)), (some 56), .load1 (.tmp 55)⟩, ⟨(some (54, true)), (some 57), .mov (.tmp 0)⟩, ⟨(some (54, true)), (some 58), .bin .eql (.tmp 56) (.tmp 57)⟩, ⟨none, (some 59), .pick (.tmp 54) (.tmp 58) (.lit (.bool false))⟩, ⟨none, (some 60), .mov (.tmp 59)⟩, ⟨(some (60, true)), (some 61), .faddr 4 (.tmp 7)⟩, ⟨(some (60, true)), (some 62), .load1 (.tmp 61)⟩, ⟨(some (60, true)), (some 63), .lenL (.tmp 62)⟩, ⟨(some (60, true)), (some 64), .bin .eql (.tmp 63) (.lit (.int .i64 (0)))⟩, ⟨none, (some 65), .pick (.tmp 60) (.tmp 64) (.lit (.bool false))⟩, ⟨none, (some 66), .mov (.tmp 65)⟩, ⟨(some (66, true)), (some 67), .call 17 []⟩, ⟨none, (some 68), .pick (.tmp 66) (.tmp 67) (.lit (.bool false))⟩, ⟨none, (some 6), .mov (.tmp 68)⟩])
  .ret)))))),
  [.tmp 6], none⟩
theorem r8 {m : Int} : resolveF Tryz.prog (cfg m) 8 = some I8 := by kernel_rfl
noncomputable def I9 : IF := ⟨118, (.seq (.ops [⟨none, (some 4), .mov (.lit (.bool false))⟩])
  (.seq (.seq (.ops [⟨none, (some 15), .mov (.tmp 0)⟩, ⟨none, (some 16), .lenL (.tmp 15)⟩, ⟨none, (some 17), .bin .gtr (.tmp 16) (.lit (.int .i64 (20)))⟩, ⟨none, (some 18), .mov (.tmp 17)⟩, ⟨(some (18, false)), (some 19), .mov (.tmp 1)⟩, ⟨(some (18, false)), (some 20), .lenL (.tmp 19)⟩, ⟨(some (18, false)), (some 21), .bin .gtr (.tmp 20) (.lit (.int .i64 (20)))⟩, ⟨none, (some 22), .pick (.tmp 18) (.lit (.bool true)) (.tmp 21)⟩])
  (.cond (.tmp 22) (.seq (.ops [⟨none, (some 4), .mov (.lit (.bool true))⟩])
  .ret)
  .skip))
  (.seq (.ops [⟨none, (some 23), .bldS 9 1 10 [.str [], .str [], .str [], .str [], .str [], .str [], .str [], .str [], .str [], .str []] [(0, 1, (.lit (.str [32]))), (1, 1, (.lit (.str [10]))), (2, 1, (.lit (.str [60, 33, 45, 45, 32, 97, 45, 98, 32, 45, 45, 62]))), (3, 1, (.lit (.str [60, 63, 112, 32, 113, 63, 62]))), (4, 1, (.lit (.str [60, 63, 112, 63, 62]))), (5, 1, (.lit (.str [60, 33, 45, 45, 45, 45, 62]))), (6, 1, (.lit (.str [120]))), (7, 1, (.lit (.str [38, 97, 109, 112, 59]))), (8, 1, (.lit (.str [60, 33, 68, 79, 67, 84, 89, 80, 69, 32, 97, 62]))), (9, 1, (.lit (.str [60, 33, 91, 67, 68, 65, 84, 65, 91, 93, 93, 62])))]⟩, ⟨none, (some 5), .mov (.tmp 23)⟩])
  (.seq (.ops [⟨none, (some 6), .mov (.lit (.str []))⟩])
  (.seq (.ops [⟨none, (some 7), .mov (.lit (.int .i64 (0)))⟩, ⟨none, (some 8), .mov (.lit (.int .i64 (0)))⟩])
  (.seq (.seq (.ops [⟨none, (some 9), .mov (.lit (.int .i64 (0)))⟩])
  (.block 0 (.loop (some [0, 1, 5, 6, 7, 8, 9]) (.seq (.seq (.ops [⟨none, (some 24), .mov (.tmp 9)⟩, ⟨none, (some 25), .mov (.tmp 0)⟩, ⟨none, (some 26), .lenL (.tmp 25)⟩, ⟨none, (some 27), .bin .lss (.tmp 24) (.tmp 26)⟩])
  (.cond (.tmp 27) .skip
  (.exit 0)))
  (.seq (.block 1 (.seq (.ops [⟨none, (some 30), .mov (.tmp 0)⟩, ⟨none, (some 31), .mov (.tmp 9)⟩, ⟨none, (some 32), .iaddr 1 (.tmp 30) (.tmp 31)⟩, ⟨none, (some 33), .load1 (.tmp 32)⟩, ⟨none, (some 34), .bin .and (.tmp 33) (.lit (.int .i64 (1023)))⟩, ⟨none, (some 35), .mov (.tmp 5)⟩, ⟨none, (some 36), .lenL (.tmp 35)⟩, ⟨none, (some 37), .bin .rem (.tmp 34) (.tmp 36)⟩, ⟨none, (some 10), .mov (.tmp 37)⟩])
  (.seq (.ops [⟨none, (some 38), .mov (.tmp 6)⟩, ⟨none, (some 39), .mov (.tmp 5)⟩, ⟨none, (some 40), .mov (.tmp 10)⟩, ⟨none, (some 41), .iaddr 1 (.tmp 39) (.tmp 40)⟩, ⟨none, (some 42), .load1 (.tmp 41)⟩, ⟨none, (some 43), .bin .add (.tmp 38) (.tmp 42)⟩, ⟨none, (some 6), .mov (.tmp 43)⟩])
  (.seq (.ops [⟨none, (some 44), .mov (.tmp 10)⟩, ⟨none, (some 45), .bin .geq (.tmp 44) (.lit (.int .i64 (6)))⟩, ⟨none, (some 46), .mov (.tmp 45)⟩, ⟨(some (46, true)), (some 47), .mov (.tmp 7)⟩, ⟨(some (46, true)), (some 48), .bin .eql (.tmp 47) (.lit (.int .i64 (0)))⟩, ⟨none, (some 49), .pick (.tmp 46) (.tmp 48) (.lit (.bool false))⟩])
  (.cond (.tmp 49) (.ops [⟨none, (some 50), .mov (.tmp 10)⟩, ⟨none, (some 7), .mov (.tmp 50)⟩])
  .skip)))))
  (.ops [⟨none, (some 28), .mov (.tmp 9)⟩, ⟨none, (some 29), .bin .add (.tmp 28) (.lit (.int .i64 (1)))⟩, ⟨none, (some 9), .mov (.tmp 29)⟩]))))))
  (.seq (.ops [⟨none, (some 51), .mov (.tmp 6)⟩, ⟨none, (some 52), .bin .add (.tmp 51) (.lit (.str [60, 97, 62, 60, 98, 47, 62, 60, 47, 97, 62]))⟩, ⟨none, (some 6), .mov (.tmp 52)⟩])
  (.seq (.seq (.ops [⟨none, (some 11), .mov (.lit (.int .i64 (0)))⟩])
  (.block 2 (.loop (some [1, 5, 6, 7, 8, 11]) (.seq (.seq (.ops [⟨none, (some 53), .mov (.tmp 11)⟩, ⟨none, (some 54), .mov (.tmp 1)⟩, ⟨none, (some 55), .lenL (.tmp 54)⟩, ⟨none, (some 56), .bin .lss (.tmp 53) (.tmp 55)⟩])
  (.cond (.tmp 56) .skip
  (.exit 2)))
  (.seq (.block 3 (.seq (.ops [⟨none, (some 59), .mov (.tmp 1)⟩, ⟨none, (some 60), .mov (.tmp 11)⟩, ⟨none, (some 61), .iaddr 1 (.tmp 59) (.tmp 60)⟩, ⟨none, (some 62), .load1 (.tmp 61)⟩, ⟨none, (some 63), .bin .and (.tmp 62) (.lit (.int .i64 (1023)))⟩, ⟨none, (some 64), .mov (.tmp 5)⟩, ⟨none, (some 65), .lenL (.tmp 64)⟩, ⟨none, (some 66), .bin .rem (.tmp 63) (.tmp 65)⟩, ⟨none, (some 12), .mov (.tmp 66)⟩])
  (.seq (.ops [⟨none, (some 67), .mov (.tmp 6)⟩, ⟨none, (some 68), .mov (.tmp 5)⟩, ⟨none, (some 69), .mov (.tmp 12)⟩, ⟨none, (some 70), .iaddr 1 (.tmp 68) (.tmp 69)⟩, ⟨none, (some 71), .load1 (.tmp 70)⟩, ⟨none, (some 72), .bin .add (.tmp 67) (.tmp 71)⟩, ⟨none, (some 6), .mov (.tmp 72)⟩])
  (.ops [⟨none, (some 73), .mov (.tmp 8)⟩, ⟨none, (some 74), .mov (.tmp 12)⟩, ⟨none, (some 75), .mm true [(.tmp 73), (.tmp 74)]⟩, ⟨none, (some 8), .mov (.tmp 75)⟩]))))
  (.ops [⟨none, (some 57), .mov (.tmp 11)⟩, ⟨none, (some 58), .bin .add (.tmp 57) (.lit (.int .i64 (1)))⟩, ⟨none, (some 11), .mov (.tmp 58)⟩]))))))
  (.seq (.ops [⟨none, (some 77), .mov (.tmp 6)⟩, ⟨none, (some 78), .s2b 5 (.tmp 77)⟩, ⟨none, (some 79), .call 13 [(.tmp 78)]⟩, ⟨none, (some 76), .mov (.tmp 79)⟩, ⟨none, (some 80), .ext (.tmp 76) 0⟩, ⟨none, (some 81), .ext (.tmp 76) 1⟩, ⟨none, (some 13), .new 27 [.str [], .str [], .str [], .nilS, .nilS]⟩, ⟨none, none, .store 5 (.tmp 13) (.tmp 80)⟩, ⟨none, (some 14), .mov (.tmp 81)⟩])
  (.seq (.block 4 (.seq (.ops [⟨none, (some 83), .mov (.tmp 7)⟩, ⟨none, (some 84), .bin .eql (.tmp 83) (.lit (.int .i64 (8)))⟩, ⟨none, (some 82), .mov (.tmp 84)⟩])
  (.cond (.tmp 82) (.seq (.ops [⟨none, (some 85), .mov (.tmp 14)⟩, ⟨none, (some 86), .bin .eql (.tmp 85) (.lit (.int .i64 (13)))⟩, ⟨none, (some 87), .mov (.tmp 86)⟩, ⟨(some (87, true)), (some 88), .call 17 []⟩, ⟨none, (some 89), .pick (.tmp 87) (.tmp 88) (.lit (.bool false))⟩, ⟨none, (some 4), .mov (.tmp 89)⟩])
  .ret)
  (.seq (.ops [⟨none, (some 91), .mov (.tmp 7)⟩, ⟨none, (some 92), .bin .gtr (.tmp 91) (.lit (.int .i64 (0)))⟩, ⟨none, (some 93), .mov (.tmp 92)⟩, ⟨(some (93, false)), (some 94), .mov (.tmp 8)⟩, ⟨(some (93, false)), (some 95), .bin .geq (.tmp 94) (.lit (.int .i64 (6)))⟩, ⟨none, (some 96), .pick (.tmp 93) (.lit (.bool true)) (.tmp 95)⟩, ⟨none, (some 90), .mov (.tmp 96)⟩])
  (.cond (.tmp 90) (.seq (.ops [⟨none, (some 97), .mov (.tmp 14)⟩, ⟨none, (some 98), .bin .eql (.tmp 97) (.lit (.int .i64 (10)))⟩, ⟨none, (some 99), .mov (.tmp 98)⟩, ⟨(some (99, true)), (some 100), .call 17 []⟩, ⟨none, (some 101), .pick (.tmp 99) (.tmp 100) (.lit (.bool false))⟩, ⟨none, (some 4), .mov (.tmp 101)⟩])
  .ret)
  .skip)))))
  (.seq (.ops [⟨none, (some 102), .mov (.tmp 14)⟩, ⟨none, (some 103), .bin .eql (.tmp 102) (.lit (.int .i64 (0)))⟩, ⟨none, (some 104), .mov (.tmp 103)⟩, ⟨(some (104, true)), (some 105), .faddr 1 (.tmp 13)⟩, ⟨(some (104, true)), (some 106), .load1 (.tmp 105)⟩, ⟨(some (104, true)), (some 107), .bin .eql (.tmp 106) (.lit (.str [97]))⟩, ⟨none, (some 108), .pick (.tmp 104) (.tmp 107) (.lit (.bool false))⟩, ⟨none, (some 109), .mov (.tmp 108)⟩, ⟨(some (109, true)), (some 110), .faddr 4 (.tmp 13)⟩, ⟨(some (109, true)), (some 111), .load1 (.tmp 110)⟩, ⟨(some (109, true)), (some 112), .lenL (.tmp 111)⟩, ⟨(some (109, true)), (some 113), .bin .eql (.tmp 112) (.lit (.int .i64 (1)))⟩, ⟨none, (some 114), .pick (.tmp 109) (.tmp 113) (.lit (.bool false))⟩, ⟨none, (some 115), .mov (.tmp 114)⟩, ⟨(some (115, true)), (some 116), .call 17 []⟩, ⟨none, (some 117), .pick (.tmp 115) (.tmp 116) (.lit (.bool false))⟩, ⟨none, (some 4), .mov (.tmp 117)⟩])
  .ret))))))))))),
  [.tmp 4], none⟩
theorem r9 {m : Int} : resolveF Tryz.prog (cfg m) 9 = some I9 := by kernel_rfl
noncomputable def I13 : IF := ⟨51, (.seq (.ops [⟨none, (some 2), .new 27 [.str [], .str [], .str [], .nilS, .nilS]⟩, ⟨none, (some 3), .new 28 [.int .i64 (0)]⟩])
  (.seq (.ops [⟨none, (some 6), .mkfn (.func 29) [(.tmp 2), (.tmp 3)]⟩, ⟨none, none, .raw (opAt Tryz.f13 3)⟩])
  (.seq (.ops [⟨none, (some 7), .mov (.tmp 0)⟩, ⟨none, (some 8), .b2s (.tmp 7)⟩, ⟨none, (some 9), .call 30 [(.tmp 8), (.lit (.str [239, 187, 191]))]⟩, ⟨none, (some 4), .mov (.tmp 9)⟩])
  (.seq (.ops [⟨none, (some 10), .mov (.tmp 4)⟩, ⟨none, (some 11), .call 19 [(.tmp 10)]⟩, ⟨none, (some 12), .call 31 [(.tmp 11), (.lit (.int .i64 (9)))]⟩])
  (.seq (.ops [⟨none, (some 13), .mov (.tmp 4)⟩, ⟨none, (some 14), .call 32 [(.tmp 13), (.lit (.str [13, 10])), (.lit (.str [10]))]⟩, ⟨none, (some 15), .call 32 [(.tmp 14), (.lit (.str [13])), (.lit (.str [10]))]⟩, ⟨none, (some 16), .bld [.str [], .int .i64 (0), .int .i64 (0)] [(0, 1, (.tmp 15))]⟩, ⟨none, (some 17), .box 61 (.tmp 16)⟩, ⟨none, (some 5), .mov (.tmp 17)⟩])
  (.seq (.seq (.ops [⟨none, (some 18), .mov (.tmp 5)⟩, ⟨none, (some 19), .nchk (.tmp 18)⟩, ⟨none, (some 20), .faddr 0 (.tmp 19)⟩, ⟨none, (some 21), .load1 (.tmp 20)⟩, ⟨none, (some 22), .call 33 [(.tmp 21), (.lit (.str [60, 63, 120, 109, 108]))]⟩, ⟨none, (some 23), .mov (.tmp 22)⟩, ⟨(some (23, true)), (some 24), .mov (.tmp 5)⟩, ⟨(some (23, true)), (some 25), .call 35 [(.tmp 24), (.lit (.int .i64 (5)))]⟩, ⟨(some (23, true)), (some 26), .call 34 [(.tmp 25)]⟩, ⟨(some (23, true)), (some 27), .un .not (.tmp 26)⟩, ⟨none, (some 28), .pick (.tmp 23) (.tmp 27) (.lit (.bool false))⟩])
  (.cond (.tmp 28) (.ops [⟨none, (some 29), .mov (.tmp 5)⟩, ⟨none, (some 30), .call 36 [(.tmp 29), (.lit (.bool true))]⟩])
  .skip))
  (.seq (.ops [⟨none, (some 31), .mov (.tmp 5)⟩, ⟨none, (some 32), .call 37 [(.tmp 31), (.lit (.bool true))]⟩])
  (.seq (.ops [⟨none, (some 33), .mov (.tmp 5)⟩, ⟨none, (some 34), .mkm⟩, ⟨none, none, .upd .string (.tmp 34) (.lit (.str [120, 109, 108])) (.lit (.str [104, 116, 116, 112, 58, 47, 47, 119, 119, 119, 46, 119, 51, 46, 111, 114, 103, 47, 88, 77, 76, 47, 49, 57, 57, 56, 47, 110, 97, 109, 101, 115, 112, 97, 99, 101]))⟩, ⟨none, (some 35), .mov (.tmp 34)⟩, ⟨none, (some 36), .call 38 [(.tmp 33), (.tmp 35), (.lit (.int .i64 (0)))]⟩, ⟨none, none, .store 5 (.tmp 2) (.tmp 36)⟩])
  (.seq (.ops [⟨none, (some 37), .mov (.tmp 5)⟩, ⟨none, (some 38), .call 37 [(.tmp 37), (.lit (.bool false))]⟩])
  (.seq (.draw [] [⟨⟨none, (some 39), .mov (.tmp 5)⟩, none, true, [], []⟩, ⟨⟨none, (some 40), .nchk (.tmp 39)⟩, none, true, [], []⟩, ⟨⟨none, (some 41), .faddr 1 (.tmp 40)⟩, none, true, [], []⟩, ⟨⟨none, (some 42), .load1 (.tmp 41)⟩, none, true, [], []⟩, ⟨⟨none, (some 43), .mov (.tmp 5)⟩, none, true, [], []⟩, ⟨⟨none, (some 44), .nchk (.tmp 43)⟩, none, true, [], []⟩, ⟨⟨none, (some 45), .faddr 0 (.tmp 44)⟩, none, true, [], []⟩, ⟨⟨none, (some 46), .load1 (.tmp 45)⟩, none, true, [], []⟩, ⟨⟨none, (some 47), .lenS (.tmp 46)⟩, none, true, [], []⟩, ⟨⟨none, (some 48), .bin .eql (.tmp 42) (.tmp 47)⟩, none, true, [], []⟩, ⟨⟨none, (some 49), .call 31 [(.tmp 48), (.lit (.int .i64 (10)))]⟩, none, true, [], []⟩])
  (.seq (.ops [⟨none, (some 50), .loadN 5 (.tmp 2)⟩, ⟨none, none, .store 5 (.tmp 2) (.tmp 50)⟩, ⟨none, none, .store 1 (.tmp 3) (.lit (.int .i64 (0)))⟩])
  .ret))))))))))),
  [.cellN 5 2, .cell1 3], none⟩
theorem r13 {m : Int} : resolveF Tryz.prog (cfg m) 13 = some I13 := by kernel_rfl
noncomputable def I19 : IF := ⟨16, (.seq (.ops [⟨none, (some 2), .mov (.lit (.bool false))⟩])
  (.seq (.seq (.ops [⟨none, (some 5), .mov (.tmp 0)⟩, ⟨none, (some 6), .rngS (.tmp 5)⟩])
  (.block 0 (.loop (some [0, 6]) (.seq (.ops [⟨none, (some 7), .nxt (.tmp 6) true⟩, ⟨none, (some 8), .ext (.tmp 7) 0⟩])
  (.seq (.cond (.tmp 8) .skip
  (.exit 0))
  (.block 1 (.seq (.ops [⟨none, (some 9), .ext (.tmp 7) 2⟩, ⟨none, (some 4), .mov (.tmp 9)⟩])
  (.seq (.ops [⟨none, (some 10), .mov (.tmp 4)⟩, ⟨none, (some 11), .call 46 [(.tmp 10)]⟩, ⟨none, (some 12), .un .not (.tmp 11)⟩])
  (.cond (.tmp 12) (.seq (.ops [⟨none, (some 2), .mov (.lit (.bool false))⟩])
  .ret)
  .skip)))))))))
  (.seq (.ops [⟨none, (some 13), .mov (.tmp 0)⟩, ⟨none, (some 14), .s2b 5 (.tmp 13)⟩, ⟨none, (some 15), .call 47 [(.tmp 14)]⟩, ⟨none, (some 2), .mov (.tmp 15)⟩])
  .ret))),
  [.tmp 2], none⟩
theorem r19 {m : Int} : resolveF Tryz.prog (cfg m) 19 = some I19 := by kernel_rfl
noncomputable def I20 : IF := ⟨28, (.seq (.ops [⟨none, (some 2), .mov (.lit (.bool false))⟩])
  (.seq (.seq (.ops [⟨none, (some 3), .mov (.lit (.int .i64 (0)))⟩])
  (.block 0 (.loop (some [0, 3]) (.seq (.seq (.ops [⟨none, (some 4), .mov (.tmp 3)⟩, ⟨none, (some 5), .mov (.tmp 0)⟩, ⟨none, (some 6), .lenS (.tmp 5)⟩, ⟨none, (some 7), .bin .lss (.tmp 4) (.tmp 6)⟩])
  (.cond (.tmp 7) .skip
  (.exit 0)))
  (.seq (.block 1 (.seq (.ops [⟨none, (some 10), .mov (.tmp 0)⟩, ⟨none, (some 11), .mov (.tmp 3)⟩, ⟨none, (some 12), .ixs (.tmp 10) (.tmp 11)⟩, ⟨none, (some 13), .bin .lss (.tmp 12) (.lit (.int .u8 (97)))⟩, ⟨none, (some 14), .mov (.tmp 13)⟩, ⟨(some (14, false)), (some 15), .mov (.tmp 0)⟩, ⟨(some (14, false)), (some 16), .mov (.tmp 3)⟩, ⟨(some (14, false)), (some 17), .ixs (.tmp 15) (.tmp 16)⟩, ⟨(some (14, false)), (some 18), .bin .gtr (.tmp 17) (.lit (.int .u8 (122)))⟩, ⟨none, (some 19), .pick (.tmp 14) (.lit (.bool true)) (.tmp 18)⟩])
  (.cond (.tmp 19) (.seq (.ops [⟨none, (some 2), .mov (.lit (.bool false))⟩])
  .ret)
  .skip)))
  (.ops [⟨none, (some 8), .mov (.tmp 3)⟩, ⟨none, (some 9), .bin .add (.tmp 8) (.lit (.int .i64 (1)))⟩, ⟨none, (some 3), .mov (.tmp 9)⟩]))))))
  (.seq (.ops [⟨none, (some 20), .mov (.tmp 0)⟩, ⟨none, (some 21), .lenS (.tmp 20)⟩, ⟨none, (some 22), .bin .gtr (.tmp 21) (.lit (.int .i64 (0)))⟩, ⟨none, (some 23), .mov (.tmp 22)⟩, ⟨(some (23, true)), (some 24), .mov (.tmp 0)⟩, ⟨(some (23, true)), (some 25), .lenS (.tmp 24)⟩, ⟨(some (23, true)), (some 26), .bin .lss (.tmp 25) (.lit (.int .i64 (50)))⟩, ⟨none, (some 27), .pick (.tmp 23) (.tmp 26) (.lit (.bool false))⟩, ⟨none, (some 2), .mov (.tmp 27)⟩])
  .ret))),
  [.tmp 2], none⟩
theorem r20 {m : Int} : resolveF Tryz.prog (cfg m) 20 = some I20 := by kernel_rfl
noncomputable def I21 : IF := ⟨22, (.seq (.ops [⟨none, (some 2), .mov (.lit (.bool false))⟩])
  (.seq (.seq (.ops [⟨none, (some 4), .mov (.tmp 0)⟩, ⟨none, (some 5), .lenS (.tmp 4)⟩, ⟨none, (some 6), .mov (.lit (.int .i64 (0)))⟩])
  (.block 0 (.loop (some [0, 5, 6]) (.seq (.ops [⟨none, (some 7), .bin .lss (.tmp 6) (.tmp 5)⟩])
  (.seq (.cond (.tmp 7) .skip
  (.exit 0))
  (.seq (.block 1 (.seq (.ops [⟨none, (some 8), .mov (.tmp 6)⟩, ⟨none, (some 3), .mov (.tmp 8)⟩])
  (.seq (.ops [⟨none, (some 9), .mov (.tmp 0)⟩, ⟨none, (some 10), .mov (.tmp 3)⟩, ⟨none, (some 11), .ixs (.tmp 9) (.tmp 10)⟩, ⟨none, (some 12), .call 34 [(.tmp 11)]⟩, ⟨none, (some 13), .un .not (.tmp 12)⟩])
  (.cond (.tmp 13) (.seq (.ops [⟨none, (some 2), .mov (.lit (.bool false))⟩])
  .ret)
  .skip))))
  (.ops [⟨none, (some 14), .bin .add (.tmp 6) (.lit (.int .i64 (1)))⟩, ⟨none, (some 6), .mov (.tmp 14)⟩])))))))
  (.seq (.ops [⟨none, (some 15), .mov (.tmp 0)⟩, ⟨none, (some 16), .bin .neq (.tmp 15) (.lit (.str []))⟩, ⟨none, (some 17), .mov (.tmp 16)⟩, ⟨(some (17, true)), (some 18), .mov (.tmp 0)⟩, ⟨(some (17, true)), (some 19), .ixs (.tmp 18) (.lit (.int .i64 (0)))⟩, ⟨(some (17, true)), (some 20), .call 48 [(.tmp 19)]⟩, ⟨none, (some 21), .pick (.tmp 17) (.tmp 20) (.lit (.bool false))⟩, ⟨none, (some 2), .mov (.tmp 21)⟩])
  .ret))),
  [.tmp 2], none⟩
theorem r21 {m : Int} : resolveF Tryz.prog (cfg m) 21 = some I21 := by kernel_rfl
noncomputable def I29 : IF := ⟨14, (.seq (.ops [⟨none, (some 5), .raw (opAt Tryz.f29 0)⟩])
  (.block 0 (.seq (.ops [⟨none, (some 7), .nilT false 4 (.tmp 5)⟩])
  (.cond (.tmp 7) (.ops [⟨none, (some 2), .mov (.tmp 5)⟩])
  (.seq (.ops [⟨none, (some 8), .asrt 55 (.lit (.agg [.int .i64 (0)])) (.tmp 5) true⟩, ⟨none, (some 9), .ext (.tmp 8) 1⟩, ⟨none, (some 10), .ext (.tmp 8) 0⟩])
  (.cond (.tmp 9) (.seq (.ops [⟨none, (some 3), .new 55 [.int .i64 (0)]⟩, ⟨none, none, .store 1 (.tmp 3) (.tmp 10)⟩])
  (.draw [] [⟨⟨none, (some 11), .bld [.str [], .str [], .str [], .nilS, .nilS] []⟩, none, true, [], []⟩, ⟨⟨none, (some 12), .faddr 0 (.tmp 3)⟩, none, true, [], []⟩, ⟨⟨none, (some 13), .load1 (.tmp 12)⟩, none, true, [], []⟩, ⟨⟨none, none, .store 5 (.tmp 0) (.tmp 11)⟩, none, false, [2], []⟩, ⟨⟨none, none, .store 1 (.tmp 1) (.tmp 13)⟩, none, true, [], []⟩]))
  (.seq (.ops [⟨none, (some 4), .mov (.tmp 5)⟩])
  (.ops [⟨none, (some 6), .mov (.tmp 4)⟩, ⟨none, none, .pan (.tmp 6)⟩])))))))),
  [], (some ((some 5), (.block 0 (.seq (.ops [⟨none, (some 7), .nilT false 4 (.tmp 5)⟩])
  (.cond (.tmp 7) (.ops [⟨none, (some 2), .mov (.tmp 5)⟩])
  (.seq (.ops [⟨none, (some 8), .asrt 55 (.lit (.agg [.int .i64 (0)])) (.tmp 5) true⟩, ⟨none, (some 9), .ext (.tmp 8) 1⟩, ⟨none, (some 10), .ext (.tmp 8) 0⟩])
  (.cond (.tmp 9) (.seq (.ops [⟨none, (some 3), .new 55 [.int .i64 (0)]⟩, ⟨none, none, .store 1 (.tmp 3) (.tmp 10)⟩])
  (.draw [] [⟨⟨none, (some 11), .bld [.str [], .str [], .str [], .nilS, .nilS] []⟩, none, true, [], []⟩, ⟨⟨none, (some 12), .faddr 0 (.tmp 3)⟩, none, true, [], []⟩, ⟨⟨none, (some 13), .load1 (.tmp 12)⟩, none, true, [], []⟩, ⟨⟨none, none, .store 5 (.tmp 0) (.tmp 11)⟩, none, false, [2], []⟩, ⟨⟨none, none, .store 1 (.tmp 1) (.tmp 13)⟩, none, true, [], []⟩]))
  (.seq (.ops [⟨none, (some 4), .mov (.tmp 5)⟩])
  (.ops [⟨none, (some 6), .mov (.tmp 4)⟩, ⟨none, none, .pan (.tmp 6)⟩])))))))))⟩
theorem r29 {m : Int} : resolveF Tryz.prog (cfg m) 29 = some I29 := by kernel_rfl
noncomputable def I30 : IF := ⟨8, (.seq (.ops [⟨none, (some 4), .mov (.lit (.str []))⟩])
  (.seq (.ops [⟨none, (some 5), .mov (.tmp 0)⟩, ⟨none, (some 6), .mov (.tmp 1)⟩, ⟨none, (some 7), .call 53 [(.tmp 5), (.tmp 6)]⟩, ⟨none, (some 4), .mov (.tmp 7)⟩])
  .ret)),
  [.tmp 4], none⟩
theorem r30 {m : Int} : resolveF Tryz.prog (cfg m) 30 = some I30 := by kernel_rfl
noncomputable def I31 : IF := ⟨9, (.seq (.ops [⟨none, (some 4), .mov (.tmp 0)⟩, ⟨none, (some 5), .un .not (.tmp 4)⟩])
  (.cond (.tmp 5) (.ops [⟨none, (some 6), .mov (.tmp 1)⟩, ⟨none, (some 7), .bld [.int .i64 (0)] [(0, 1, (.tmp 6))]⟩, ⟨none, (some 8), .mkif 55 (.tmp 7)⟩, ⟨none, none, .pan (.tmp 8)⟩])
  .skip)),
  [], none⟩
theorem r31 {m : Int} : resolveF Tryz.prog (cfg m) 31 = some I31 := by kernel_rfl
noncomputable def I33 : IF := ⟨8, (.seq (.ops [⟨none, (some 4), .mov (.lit (.bool false))⟩])
  (.seq (.ops [⟨none, (some 5), .mov (.tmp 0)⟩, ⟨none, (some 6), .mov (.tmp 1)⟩, ⟨none, (some 7), .call 55 [(.tmp 5), (.tmp 6)]⟩, ⟨none, (some 4), .mov (.tmp 7)⟩])
  .ret)),
  [.tmp 4], none⟩
theorem r33 {m : Int} : resolveF Tryz.prog (cfg m) 33 = some I33 := by kernel_rfl
noncomputable def I34 : IF := ⟨21, (.seq (.ops [⟨none, (some 2), .mov (.lit (.bool false))⟩])
  (.seq (.ops [⟨none, (some 3), .mov (.tmp 0)⟩, ⟨none, (some 4), .call 48 [(.tmp 3)]⟩, ⟨none, (some 5), .mov (.tmp 4)⟩, ⟨(some (5, false)), (some 6), .mov (.tmp 0)⟩, ⟨(some (5, false)), (some 7), .bin .geq (.tmp 6) (.lit (.int .u8 (48)))⟩, ⟨(some (5, false)), (some 8), .mov (.tmp 7)⟩, ⟨(some (8, true)), (some 9), .mov (.tmp 0)⟩, ⟨(some (8, true)), (some 10), .bin .leq (.tmp 9) (.lit (.int .u8 (57)))⟩, ⟨(some (5, false)), (some 11), .pick (.tmp 8) (.tmp 10) (.lit (.bool false))⟩, ⟨none, (some 12), .pick (.tmp 5) (.lit (.bool true)) (.tmp 11)⟩, ⟨none, (some 13), .mov (.tmp 12)⟩, ⟨(some (13, false)), (some 14), .mov (.tmp 0)⟩, ⟨(some (13, false)), (some 15), .bin .eql (.tmp 14) (.lit (.int .u8 (46)))⟩, ⟨none, (some 16), .pick (.tmp 13) (.lit (.bool true)) (.tmp 15)⟩, ⟨none, (some 17), .mov (.tmp 16)⟩, ⟨(some (17, false)), (some 18), .mov (.tmp 0)⟩, ⟨(some (17, false)), (some 19), .bin .eql (.tmp 18) (.lit (.int .u8 (45)))⟩, ⟨none, (some 20), .pick (.tmp 17) (.lit (.bool true)) (.tmp 19)⟩, ⟨none, (some 2), .mov (.tmp 20)⟩])
  .ret)),
  [.tmp 2], none⟩
theorem r34 {m : Int} : resolveF Tryz.prog (cfg m) 34 = some I34 := by kernel_rfl
noncomputable def I35 : IF := ⟨28, (.seq (.ops [⟨none, (some 4), .mov (.lit (.int .u8 (0)))⟩])
  (.seq (.seq (.draw [] [⟨⟨none, (some 5), .mov (.tmp 0)⟩, none, true, [], []⟩, ⟨⟨none, (some 6), .nchk (.tmp 5)⟩, none, true, [], []⟩, ⟨⟨none, (some 7), .faddr 1 (.tmp 6)⟩, none, true, [], []⟩, ⟨⟨none, (some 8), .load1 (.tmp 7)⟩, none, true, [], []⟩, ⟨⟨none, (some 9), .mov (.tmp 1)⟩, none, true, [], []⟩, ⟨⟨none, (some 10), .bin .add (.tmp 8) (.tmp 9)⟩, none, true, [], []⟩, ⟨⟨none, (some 11), .mov (.tmp 0)⟩, none, true, [], []⟩, ⟨⟨none, (some 12), .nchk (.tmp 11)⟩, none, true, [], []⟩, ⟨⟨none, (some 13), .faddr 0 (.tmp 12)⟩, none, true, [], []⟩, ⟨⟨none, (some 14), .load1 (.tmp 13)⟩, none, true, [], []⟩, ⟨⟨none, (some 15), .lenS (.tmp 14)⟩, none, true, [], []⟩, ⟨⟨none, (some 16), .bin .geq (.tmp 10) (.tmp 15)⟩, none, true, [], []⟩])
  (.cond (.tmp 16) (.seq (.ops [⟨none, (some 4), .mov (.lit (.int .u8 (0)))⟩])
  .ret)
  .skip))
  (.seq (.draw [] [⟨⟨none, (some 17), .mov (.tmp 0)⟩, none, true, [], []⟩, ⟨⟨none, (some 18), .nchk (.tmp 17)⟩, none, true, [], []⟩, ⟨⟨none, (some 19), .faddr 0 (.tmp 18)⟩, none, true, [], []⟩, ⟨⟨none, (some 20), .load1 (.tmp 19)⟩, none, true, [], []⟩, ⟨⟨none, (some 21), .mov (.tmp 0)⟩, none, true, [], []⟩, ⟨⟨none, (some 22), .nchk (.tmp 21)⟩, none, true, [], []⟩, ⟨⟨none, (some 23), .faddr 1 (.tmp 22)⟩, none, true, [], []⟩, ⟨⟨none, (some 24), .load1 (.tmp 23)⟩, none, true, [], []⟩, ⟨⟨none, (some 25), .mov (.tmp 1)⟩, none, true, [], []⟩, ⟨⟨none, (some 26), .bin .add (.tmp 24) (.tmp 25)⟩, none, true, [], []⟩, ⟨⟨none, (some 27), .ixs (.tmp 20) (.tmp 26)⟩, none, true, [], []⟩, ⟨⟨none, (some 4), .mov (.tmp 27)⟩, none, true, [], []⟩])
  .ret))),
  [.tmp 4], none⟩
theorem r35 {m : Int} : resolveF Tryz.prog (cfg m) 35 = some I35 := by kernel_rfl
noncomputable def I37 : IF := ⟨24, (.block 0 (.loop (some [0, 1]) (.block 1 (.block 2 (.seq (.ops [⟨none, (some 5), .mov (.tmp 0)⟩, ⟨none, (some 6), .call 60 [(.tmp 5)]⟩, ⟨none, (some 4), .mov (.tmp 6)⟩])
  (.cond (.tmp 4) .skip
  (.seq (.ops [⟨none, (some 8), .mov (.tmp 0)⟩, ⟨none, (some 9), .call 62 [(.tmp 8), (.lit (.str [60, 33, 45, 45]))]⟩, ⟨none, (some 7), .mov (.tmp 9)⟩])
  (.cond (.tmp 7) (.ops [⟨none, (some 10), .mov (.tmp 0)⟩, ⟨none, (some 11), .call 63 [(.tmp 10)]⟩])
  (.seq (.ops [⟨none, (some 13), .mov (.tmp 0)⟩, ⟨none, (some 14), .call 62 [(.tmp 13), (.lit (.str [60, 63]))]⟩, ⟨none, (some 12), .mov (.tmp 14)⟩])
  (.cond (.tmp 12) (.ops [⟨none, (some 15), .mov (.tmp 0)⟩, ⟨none, (some 16), .call 36 [(.tmp 15), (.lit (.bool false))]⟩])
  (.seq (.ops [⟨none, (some 18), .mov (.tmp 1)⟩, ⟨none, (some 19), .mov (.tmp 18)⟩, ⟨(some (19, true)), (some 20), .mov (.tmp 0)⟩, ⟨(some (19, true)), (some 21), .call 62 [(.tmp 20), (.lit (.str [60, 33, 68, 79, 67, 84, 89, 80, 69]))]⟩, ⟨none, (some 22), .pick (.tmp 19) (.tmp 21) (.lit (.bool false))⟩, ⟨none, (some 17), .mov (.tmp 22)⟩])
  (.cond (.tmp 17) (.ops [⟨none, (some 23), .call 31 [(.lit (.bool false)), (.lit (.int .i64 (13)))]⟩])
  .ret)))))))))))),
  [], none⟩
theorem r37 {m : Int} : resolveF Tryz.prog (cfg m) 37 = some I37 := by kernel_rfl
noncomputable def I38 : IF := ⟨126, (.seq (.ops [⟨none, (some 6), .new 27 [.str [], .str [], .str [], .nilS, .nilS]⟩])
  (.seq (.ops [⟨none, (some 16), .mov (.tmp 0)⟩, ⟨none, (some 17), .call 62 [(.tmp 16), (.lit (.str [60]))]⟩, ⟨none, (some 18), .mov (.tmp 17)⟩, ⟨(some (18, true)), (some 19), .mov (.tmp 0)⟩, ⟨(some (18, true)), (some 20), .call 35 [(.tmp 19), (.lit (.int .i64 (1)))]⟩, ⟨(some (18, true)), (some 21), .call 48 [(.tmp 20)]⟩, ⟨none, (some 22), .pick (.tmp 18) (.tmp 21) (.lit (.bool false))⟩, ⟨none, (some 23), .call 31 [(.tmp 22), (.lit (.int .i64 (10)))]⟩])
  (.seq (.ops [⟨none, (some 24), .mov (.tmp 0)⟩, ⟨none, (some 25), .nchk (.tmp 24)⟩, ⟨none, (some 26), .faddr 2 (.tmp 25)⟩, ⟨none, (some 27), .load1 (.tmp 26)⟩, ⟨none, (some 28), .bin .lss (.tmp 27) (.lit (.int .i64 (16384)))⟩, ⟨none, (some 29), .mov (.tmp 28)⟩, ⟨(some (29, true)), (some 30), .mov (.tmp 2)⟩, ⟨(some (29, true)), (some 31), .bin .leq (.tmp 30) (.lit (.int .i64 (256)))⟩, ⟨none, (some 32), .pick (.tmp 29) (.tmp 31) (.lit (.bool false))⟩, ⟨none, (some 33), .call 31 [(.tmp 32), (.lit (.int .i64 (6)))]⟩])
  (.seq (.ops [⟨none, (some 34), .mov (.tmp 0)⟩, ⟨none, (some 35), .nchk (.tmp 34)⟩, ⟨none, (some 36), .faddr 2 (.tmp 35)⟩, ⟨none, (some 37), .load1 (.tmp 36)⟩, ⟨none, (some 38), .bin .add (.tmp 37) (.lit (.int .i64 (1)))⟩, ⟨none, (some 39), .nchk (.tmp 34)⟩, ⟨none, (some 40), .faddr 2 (.tmp 39)⟩, ⟨none, none, .store 1 (.tmp 40) (.tmp 38)⟩])
  (.seq (.ops [⟨none, (some 41), .mov (.tmp 0)⟩, ⟨none, (some 42), .call 56 [(.tmp 41), (.lit (.str [60]))]⟩])
  (.seq (.ops [⟨none, (some 44), .mov (.tmp 0)⟩, ⟨none, (some 45), .call 64 [(.tmp 44)]⟩, ⟨none, (some 43), .mov (.tmp 45)⟩, ⟨none, (some 46), .ext (.tmp 43) 0⟩, ⟨none, (some 47), .ext (.tmp 43) 1⟩, ⟨none, (some 7), .mov (.tmp 46)⟩, ⟨none, (some 8), .mov (.tmp 47)⟩])
  (.seq (.ops [⟨none, (some 9), .mov (.lit (.nilS))⟩])
  (.seq (.block 0 (.loop (some [0, 1, 2, 6, 7, 8, 9]) (.seq (.seq (.draw [] [⟨⟨none, (some 48), .mov (.tmp 0)⟩, none, true, [], []⟩, ⟨⟨none, (some 49), .call 60 [(.tmp 48)]⟩, none, true, [], []⟩, ⟨⟨none, (some 50), .mov (.tmp 49)⟩, none, true, [], []⟩, ⟨⟨(some (50, true)), (some 51), .mov (.tmp 0)⟩, none, true, [], []⟩, ⟨⟨(some (50, true)), (some 52), .nchk (.tmp 51)⟩, none, true, [], []⟩, ⟨⟨(some (50, true)), (some 53), .faddr 1 (.tmp 52)⟩, none, true, [], []⟩, ⟨⟨(some (50, true)), (some 54), .load1 (.tmp 53)⟩, none, true, [], []⟩, ⟨⟨(some (50, true)), (some 55), .mov (.tmp 0)⟩, none, true, [], []⟩, ⟨⟨(some (50, true)), (some 56), .nchk (.tmp 55)⟩, none, true, [], []⟩, ⟨⟨(some (50, true)), (some 57), .faddr 0 (.tmp 56)⟩, none, true, [], []⟩, ⟨⟨(some (50, true)), (some 58), .load1 (.tmp 57)⟩, none, true, [], []⟩, ⟨⟨(some (50, true)), (some 59), .lenS (.tmp 58)⟩, none, true, [], []⟩, ⟨⟨(some (50, true)), (some 60), .bin .lss (.tmp 54) (.tmp 59)⟩, none, true, [], []⟩, ⟨⟨none, (some 61), .pick (.tmp 50) (.tmp 60) (.lit (.bool false))⟩, none, true, [], []⟩, ⟨⟨none, (some 62), .mov (.tmp 61)⟩, none, true, [], []⟩, ⟨⟨(some (62, true)), (some 63), .mov (.tmp 0)⟩, none, true, [], []⟩, ⟨⟨(some (62, true)), (some 64), .nchk (.tmp 63)⟩, none, true, [], []⟩, ⟨⟨(some (62, true)), (some 65), .faddr 0 (.tmp 64)⟩, none, true, [], []⟩, ⟨⟨(some (62, true)), (some 66), .load1 (.tmp 65)⟩, none, true, [], []⟩, ⟨⟨(some (62, true)), (some 67), .mov (.tmp 0)⟩, none, true, [], []⟩, ⟨⟨(some (62, true)), (some 68), .nchk (.tmp 67)⟩, none, true, [], []⟩, ⟨⟨(some (62, true)), (some 69), .faddr 1 (.tmp 68)⟩, none, true, [], []⟩, ⟨⟨(some (62, true)), (some 70), .load1 (.tmp 69)⟩, none, true, [], []⟩, ⟨⟨(some (62, true)), (some 71), .ixs (.tmp 66) (.tmp 70)⟩, none, true, [], []⟩, ⟨⟨(some (62, true)), (some 72), .call 48 [(.tmp 71)]⟩, none, true, [], []⟩, ⟨⟨none, (some 73), .pick (.tmp 62) (.tmp 72) (.lit (.bool false))⟩, none, true, [], []⟩])
  (.cond (.tmp 73) .skip
  (.exit 0)))
  (.block 1 (.ops [⟨none, (some 74), .mov (.tmp 9)⟩, ⟨none, (some 75), .mov (.tmp 0)⟩, ⟨none, (some 76), .call 65 [(.tmp 75)]⟩, ⟨none, (some 77), .bldS 87 3 1 [.str [], .str [], .str []] [(0, 3, (.tmp 76))]⟩, ⟨none, (some 78), .app 87 3 (.tmp 74) (.tmp 77)⟩, ⟨none, (some 9), .mov (.tmp 78)⟩])))))
  (.seq (.ops [⟨none, (some 79), .mov (.tmp 0)⟩, ⟨none, (some 80), .call 59 [(.tmp 79), (.lit (.str [47, 62]))]⟩, ⟨none, (some 10), .mov (.tmp 80)⟩])
  (.seq (.seq (.ops [⟨none, (some 81), .mov (.tmp 10)⟩, ⟨none, (some 82), .un .not (.tmp 81)⟩])
  (.cond (.tmp 82) (.ops [⟨none, (some 83), .mov (.tmp 0)⟩, ⟨none, (some 84), .call 56 [(.tmp 83), (.lit (.str [62]))]⟩])
  .skip))
  (.seq (.ops [⟨none, (some 86), .mov (.tmp 1)⟩, ⟨none, (some 87), .mov (.tmp 7)⟩, ⟨none, (some 88), .mov (.tmp 9)⟩, ⟨none, (some 89), .call 66 [(.tmp 86), (.tmp 87), (.tmp 88)]⟩, ⟨none, (some 85), .mov (.tmp 89)⟩, ⟨none, (some 90), .ext (.tmp 85) 0⟩, ⟨none, (some 91), .ext (.tmp 85) 1⟩, ⟨none, (some 11), .mov (.tmp 90)⟩, ⟨none, (some 12), .mov (.tmp 91)⟩])
  (.seq (.ops [⟨none, (some 92), .mov (.tmp 11)⟩, ⟨none, (some 93), .mov (.tmp 7)⟩, ⟨none, (some 94), .lkp .string (.str []) (.tmp 92) (.tmp 93) false⟩, ⟨none, (some 95), .mov (.tmp 8)⟩, ⟨none, (some 96), .mov (.tmp 12)⟩, ⟨none, (some 97), .bld [.str [], .str [], .str [], .nilS, .nilS] [(0, 1, (.tmp 94)), (1, 1, (.tmp 95)), (3, 1, (.tmp 96))]⟩, ⟨none, (some 13), .new 27 [.str [], .str [], .str [], .nilS, .nilS]⟩, ⟨none, none, .store 5 (.tmp 13) (.tmp 97)⟩])
  (.seq (.seq (.ops [⟨none, (some 98), .mov (.tmp 10)⟩, ⟨none, (some 99), .un .not (.tmp 98)⟩])
  (.cond (.tmp 99) (.seq (.ops [⟨none, (some 100), .mov (.tmp 0)⟩, ⟨none, (some 101), .mov (.tmp 11)⟩, ⟨none, (some 102), .mov (.tmp 2)⟩, ⟨none, (some 103), .call 67 [(.tmp 100), (.tmp 101), (.tmp 102)]⟩, ⟨none, (some 104), .faddr 4 (.tmp 13)⟩, ⟨none, none, .store 1 (.tmp 104) (.tmp 103)⟩])
  (.seq (.ops [⟨none, (some 105), .mov (.tmp 0)⟩, ⟨none, (some 106), .call 56 [(.tmp 105), (.lit (.str [60, 47]))]⟩])
  (.seq (.ops [⟨none, (some 108), .mov (.tmp 0)⟩, ⟨none, (some 109), .call 64 [(.tmp 108)]⟩, ⟨none, (some 107), .mov (.tmp 109)⟩, ⟨none, (some 110), .ext (.tmp 107) 0⟩, ⟨none, (some 111), .ext (.tmp 107) 1⟩, ⟨none, (some 14), .mov (.tmp 110)⟩, ⟨none, (some 15), .mov (.tmp 111)⟩])
  (.seq (.ops [⟨none, (some 112), .mov (.tmp 14)⟩, ⟨none, (some 113), .mov (.tmp 7)⟩, ⟨none, (some 114), .bin .eql (.tmp 112) (.tmp 113)⟩, ⟨none, (some 115), .mov (.tmp 114)⟩, ⟨(some (115, true)), (some 116), .mov (.tmp 15)⟩, ⟨(some (115, true)), (some 117), .mov (.tmp 8)⟩, ⟨(some (115, true)), (some 118), .bin .eql (.tmp 116) (.tmp 117)⟩, ⟨none, (some 119), .pick (.tmp 115) (.tmp 118) (.lit (.bool false))⟩, ⟨none, (some 120), .call 31 [(.tmp 119), (.lit (.int .i64 (10)))]⟩])
  (.seq (.ops [⟨none, (some 121), .mov (.tmp 0)⟩, ⟨none, (some 122), .call 60 [(.tmp 121)]⟩])
  (.ops [⟨none, (some 123), .mov (.tmp 0)⟩, ⟨none, (some 124), .call 56 [(.tmp 123), (.lit (.str [62]))]⟩]))))))
  .skip))
  (.seq (.ops [⟨none, (some 125), .loadN 5 (.tmp 13)⟩, ⟨none, none, .store 5 (.tmp 6) (.tmp 125)⟩])
  .ret)))))))))))))),
  [.cellN 5 6], none⟩
theorem r38 {m : Int} : resolveF Tryz.prog (cfg m) 38 = some I38 := by kernel_rfl
noncomputable def I46 : IF := ⟨37, (.seq (.ops [⟨none, (some 2), .mov (.lit (.bool false))⟩])
  (.seq (.ops [⟨none, (some 3), .mov (.tmp 0)⟩, ⟨none, (some 4), .bin .eql (.tmp 3) (.lit (.int .i32 (9)))⟩, ⟨none, (some 5), .mov (.tmp 4)⟩, ⟨(some (5, false)), (some 6), .mov (.tmp 0)⟩, ⟨(some (5, false)), (some 7), .bin .eql (.tmp 6) (.lit (.int .i32 (10)))⟩, ⟨none, (some 8), .pick (.tmp 5) (.lit (.bool true)) (.tmp 7)⟩, ⟨none, (some 9), .mov (.tmp 8)⟩, ⟨(some (9, false)), (some 10), .mov (.tmp 0)⟩, ⟨(some (9, false)), (some 11), .bin .eql (.tmp 10) (.lit (.int .i32 (13)))⟩, ⟨none, (some 12), .pick (.tmp 9) (.lit (.bool true)) (.tmp 11)⟩, ⟨none, (some 13), .mov (.tmp 12)⟩, ⟨(some (13, false)), (some 14), .mov (.tmp 0)⟩, ⟨(some (13, false)), (some 15), .bin .geq (.tmp 14) (.lit (.int .i32 (32)))⟩, ⟨(some (13, false)), (some 16), .mov (.tmp 15)⟩, ⟨(some (16, true)), (some 17), .mov (.tmp 0)⟩, ⟨(some (16, true)), (some 18), .bin .leq (.tmp 17) (.lit (.int .i32 (55295)))⟩, ⟨(some (13, false)), (some 19), .pick (.tmp 16) (.tmp 18) (.lit (.bool false))⟩, ⟨none, (some 20), .pick (.tmp 13) (.lit (.bool true)) (.tmp 19)⟩, ⟨none, (some 21), .mov (.tmp 20)⟩, ⟨(some (21, false)), (some 22), .mov (.tmp 0)⟩, ⟨(some (21, false)), (some 23), .bin .geq (.tmp 22) (.lit (.int .i32 (57344)))⟩, ⟨(some (21, false)), (some 24), .mov (.tmp 23)⟩, ⟨(some (24, true)), (some 25), .mov (.tmp 0)⟩, ⟨(some (24, true)), (some 26), .bin .leq (.tmp 25) (.lit (.int .i32 (65533)))⟩, ⟨(some (21, false)), (some 27), .pick (.tmp 24) (.tmp 26) (.lit (.bool false))⟩, ⟨none, (some 28), .pick (.tmp 21) (.lit (.bool true)) (.tmp 27)⟩, ⟨none, (some 29), .mov (.tmp 28)⟩, ⟨(some (29, false)), (some 30), .mov (.tmp 0)⟩, ⟨(some (29, false)), (some 31), .bin .geq (.tmp 30) (.lit (.int .i32 (65536)))⟩, ⟨(some (29, false)), (some 32), .mov (.tmp 31)⟩, ⟨(some (32, true)), (some 33), .mov (.tmp 0)⟩, ⟨(some (32, true)), (some 34), .bin .leq (.tmp 33) (.lit (.int .i32 (1114111)))⟩, ⟨(some (29, false)), (some 35), .pick (.tmp 32) (.tmp 34) (.lit (.bool false))⟩, ⟨none, (some 36), .pick (.tmp 29) (.lit (.bool true)) (.tmp 35)⟩, ⟨none, (some 2), .mov (.tmp 36)⟩])
  .ret)),
  [.tmp 2], none⟩
theorem r46 {m : Int} : resolveF Tryz.prog (cfg m) 46 = some I46 := by kernel_rfl
noncomputable def I47 : IF := ⟨5, (.seq (.ops [⟨none, (some 2), .mov (.lit (.bool false))⟩])
  (.seq (.ops [⟨none, (some 3), .mov (.tmp 0)⟩, ⟨none, (some 4), .call 79 [(.tmp 3)]⟩, ⟨none, (some 2), .mov (.tmp 4)⟩])
  .ret)),
  [.tmp 2], none⟩
theorem r47 {m : Int} : resolveF Tryz.prog (cfg m) 47 = some I47 := by kernel_rfl
noncomputable def I48 : IF := ⟨25, (.seq (.ops [⟨none, (some 2), .mov (.lit (.bool false))⟩])
  (.seq (.ops [⟨none, (some 3), .mov (.tmp 0)⟩, ⟨none, (some 4), .bin .geq (.tmp 3) (.lit (.int .u8 (97)))⟩, ⟨none, (some 5), .mov (.tmp 4)⟩, ⟨(some (5, true)), (some 6), .mov (.tmp 0)⟩, ⟨(some (5, true)), (some 7), .bin .leq (.tmp 6) (.lit (.int .u8 (122)))⟩, ⟨none, (some 8), .pick (.tmp 5) (.tmp 7) (.lit (.bool false))⟩, ⟨none, (some 9), .mov (.tmp 8)⟩, ⟨(some (9, false)), (some 10), .mov (.tmp 0)⟩, ⟨(some (9, false)), (some 11), .bin .geq (.tmp 10) (.lit (.int .u8 (65)))⟩, ⟨(some (9, false)), (some 12), .mov (.tmp 11)⟩, ⟨(some (12, true)), (some 13), .mov (.tmp 0)⟩, ⟨(some (12, true)), (some 14), .bin .leq (.tmp 13) (.lit (.int .u8 (90)))⟩, ⟨(some (9, false)), (some 15), .pick (.tmp 12) (.tmp 14) (.lit (.bool false))⟩, ⟨none, (some 16), .pick (.tmp 9) (.lit (.bool true)) (.tmp 15)⟩, ⟨none, (some 17), .mov (.tmp 16)⟩, ⟨(some (17, false)), (some 18), .mov (.tmp 0)⟩, ⟨(some (17, false)), (some 19), .bin .eql (.tmp 18) (.lit (.int .u8 (95)))⟩, ⟨none, (some 20), .pick (.tmp 17) (.lit (.bool true)) (.tmp 19)⟩, ⟨none, (some 21), .mov (.tmp 20)⟩, ⟨(some (21, false)), (some 22), .mov (.tmp 0)⟩, ⟨(some (21, false)), (some 23), .bin .geq (.tmp 22) (.lit (.int .u8 (128)))⟩, ⟨none, (some 24), .pick (.tmp 21) (.lit (.bool true)) (.tmp 23)⟩, ⟨none, (some 2), .mov (.tmp 24)⟩])
  .ret)),
  [.tmp 2], none⟩
theorem r48 {m : Int} : resolveF Tryz.prog (cfg m) 48 = some I48 := by kernel_rfl
noncomputable def I49 : IF := ⟨21, (.seq (.ops [⟨none, (some 2), .mov (.lit (.bool false))⟩])
  (.seq (.ops [⟨none, (some 3), .mov (.tmp 0)⟩, ⟨none, (some 4), .call 50 [(.tmp 3)]⟩, ⟨none, (some 5), .mov (.tmp 4)⟩, ⟨(some (5, false)), (some 6), .mov (.tmp 0)⟩, ⟨(some (5, false)), (some 7), .bin .geq (.tmp 6) (.lit (.int .u8 (48)))⟩, ⟨(some (5, false)), (some 8), .mov (.tmp 7)⟩, ⟨(some (8, true)), (some 9), .mov (.tmp 0)⟩, ⟨(some (8, true)), (some 10), .bin .leq (.tmp 9) (.lit (.int .u8 (57)))⟩, ⟨(some (5, false)), (some 11), .pick (.tmp 8) (.tmp 10) (.lit (.bool false))⟩, ⟨none, (some 12), .pick (.tmp 5) (.lit (.bool true)) (.tmp 11)⟩, ⟨none, (some 13), .mov (.tmp 12)⟩, ⟨(some (13, false)), (some 14), .mov (.tmp 0)⟩, ⟨(some (13, false)), (some 15), .bin .eql (.tmp 14) (.lit (.int .u8 (46)))⟩, ⟨none, (some 16), .pick (.tmp 13) (.lit (.bool true)) (.tmp 15)⟩, ⟨none, (some 17), .mov (.tmp 16)⟩, ⟨(some (17, false)), (some 18), .mov (.tmp 0)⟩, ⟨(some (17, false)), (some 19), .bin .eql (.tmp 18) (.lit (.int .u8 (45)))⟩, ⟨none, (some 20), .pick (.tmp 17) (.lit (.bool true)) (.tmp 19)⟩, ⟨none, (some 2), .mov (.tmp 20)⟩])
  .ret)),
  [.tmp 2], none⟩
theorem r49 {m : Int} : resolveF Tryz.prog (cfg m) 49 = some I49 := by kernel_rfl
noncomputable def I51 : IF := ⟨26, (.seq (.ops [⟨none, (some 4), .mov (.lit (.bool false))⟩])
  (.seq (.seq (.ops [⟨none, (some 6), .mov (.tmp 0)⟩, ⟨none, (some 7), .lenL (.tmp 6)⟩, ⟨none, (some 8), .mov (.tmp 1)⟩, ⟨none, (some 9), .lenL (.tmp 8)⟩, ⟨none, (some 10), .bin .neq (.tmp 7) (.tmp 9)⟩])
  (.cond (.tmp 10) (.seq (.ops [⟨none, (some 4), .mov (.lit (.bool false))⟩])
  .ret)
  .skip))
  (.seq (.seq (.ops [⟨none, (some 11), .mov (.tmp 0)⟩, ⟨none, (some 12), .lenL (.tmp 11)⟩, ⟨none, (some 13), .mov (.lit (.int .i64 (0)))⟩])
  (.block 0 (.loop (some [0, 1, 12, 13]) (.seq (.ops [⟨none, (some 14), .bin .lss (.tmp 13) (.tmp 12)⟩])
  (.seq (.cond (.tmp 14) .skip
  (.exit 0))
  (.seq (.block 1 (.seq (.ops [⟨none, (some 15), .mov (.tmp 13)⟩, ⟨none, (some 5), .mov (.tmp 15)⟩])
  (.seq (.draw [] [⟨⟨none, (some 16), .mov (.tmp 0)⟩, none, true, [], []⟩, ⟨⟨none, (some 17), .mov (.tmp 5)⟩, none, true, [], []⟩, ⟨⟨none, (some 18), .iaddr 3 (.tmp 16) (.tmp 17)⟩, none, true, [], []⟩, ⟨⟨none, (some 19), .loadN 3 (.tmp 18)⟩, none, true, [], []⟩, ⟨⟨none, (some 20), .mov (.tmp 1)⟩, none, true, [], []⟩, ⟨⟨none, (some 21), .mov (.tmp 5)⟩, none, true, [], []⟩, ⟨⟨none, (some 22), .iaddr 3 (.tmp 20) (.tmp 21)⟩, none, true, [], []⟩, ⟨⟨none, (some 23), .loadN 3 (.tmp 22)⟩, none, true, [], []⟩, ⟨⟨none, (some 24), .eqS true [(0, 2), (1, 2), (2, 2)] (.tmp 19) (.tmp 23)⟩, none, true, [], []⟩])
  (.cond (.tmp 24) (.seq (.ops [⟨none, (some 4), .mov (.lit (.bool false))⟩])
  .ret)
  .skip))))
  (.ops [⟨none, (some 25), .bin .add (.tmp 13) (.lit (.int .i64 (1)))⟩, ⟨none, (some 13), .mov (.tmp 25)⟩])))))))
  (.seq (.ops [⟨none, (some 4), .mov (.lit (.bool true))⟩])
  .ret)))),
  [.tmp 4], none⟩
theorem r51 {m : Int} : resolveF Tryz.prog (cfg m) 51 = some I51 := by kernel_rfl
noncomputable def I53 : IF := ⟨13, (.seq (.ops [⟨none, (some 4), .mov (.lit (.str []))⟩])
  (.seq (.seq (.ops [⟨none, (some 5), .mov (.tmp 0)⟩, ⟨none, (some 6), .mov (.tmp 1)⟩, ⟨none, (some 7), .call 55 [(.tmp 5), (.tmp 6)]⟩])
  (.cond (.tmp 7) (.seq (.ops [⟨none, (some 8), .mov (.tmp 0)⟩, ⟨none, (some 9), .mov (.tmp 1)⟩, ⟨none, (some 10), .lenS (.tmp 9)⟩, ⟨none, (some 11), .cut (.tmp 8) (some (.tmp 10)) none⟩, ⟨none, (some 4), .mov (.tmp 11)⟩])
  .ret)
  .skip))
  (.seq (.ops [⟨none, (some 12), .mov (.tmp 0)⟩, ⟨none, (some 4), .mov (.tmp 12)⟩])
  .ret))),
  [.tmp 4], none⟩
theorem r53 {m : Int} : resolveF Tryz.prog (cfg m) 53 = some I53 := by kernel_rfl
noncomputable def I55 : IF := ⟨18, (.seq (.ops [⟨none, (some 4), .mov (.lit (.bool false))⟩])
  (.seq (.ops [⟨none, (some 5), .mov (.tmp 0)⟩, ⟨none, (some 6), .lenS (.tmp 5)⟩, ⟨none, (some 7), .mov (.tmp 1)⟩, ⟨none, (some 8), .lenS (.tmp 7)⟩, ⟨none, (some 9), .bin .geq (.tmp 6) (.tmp 8)⟩, ⟨none, (some 10), .mov (.tmp 9)⟩, ⟨(some (10, true)), (some 11), .mov (.tmp 0)⟩, ⟨(some (10, true)), (some 12), .mov (.tmp 1)⟩, ⟨(some (10, true)), (some 13), .lenS (.tmp 12)⟩, ⟨(some (10, true)), (some 14), .cut (.tmp 11) none (some (.tmp 13))⟩, ⟨(some (10, true)), (some 15), .mov (.tmp 1)⟩, ⟨(some (10, true)), (some 16), .bin .eql (.tmp 14) (.tmp 15)⟩, ⟨none, (some 17), .pick (.tmp 10) (.tmp 16) (.lit (.bool false))⟩, ⟨none, (some 4), .mov (.tmp 17)⟩])
  .ret)),
  [.tmp 4], none⟩
theorem r55 {m : Int} : resolveF Tryz.prog (cfg m) 55 = some I55 := by kernel_rfl
noncomputable def I56 : IF := ⟨8, (.ops [⟨none, (some 4), .mov (.tmp 0)⟩, ⟨none, (some 5), .mov (.tmp 1)⟩, ⟨none, (some 6), .call 59 [(.tmp 4), (.tmp 5)]⟩, ⟨none, (some 7), .call 31 [(.tmp 6), (.lit (.int .i64 (10)))]⟩]),
  [], none⟩
theorem r56 {m : Int} : resolveF Tryz.prog (cfg m) 56 = some I56 := by kernel_rfl
noncomputable def I57 : IF := ⟨70, (.seq (.ops [⟨none, (some 2), .mov (.lit (.str []))⟩])
  (.seq (.ops [⟨none, (some 4), .mov (.tmp 0)⟩, ⟨none, (some 5), .nchk (.tmp 4)⟩, ⟨none, (some 6), .faddr 1 (.tmp 5)⟩, ⟨none, (some 7), .load1 (.tmp 6)⟩, ⟨none, (some 3), .mov (.tmp 7)⟩])
  (.seq (.draw [] [⟨⟨none, (some 8), .mov (.tmp 0)⟩, none, true, [], []⟩, ⟨⟨none, (some 9), .nchk (.tmp 8)⟩, none, true, [], []⟩, ⟨⟨none, (some 10), .faddr 1 (.tmp 9)⟩, none, true, [], []⟩, ⟨⟨none, (some 11), .load1 (.tmp 10)⟩, none, true, [], []⟩, ⟨⟨none, (some 12), .mov (.tmp 0)⟩, none, true, [], []⟩, ⟨⟨none, (some 13), .nchk (.tmp 12)⟩, none, true, [], []⟩, ⟨⟨none, (some 14), .faddr 0 (.tmp 13)⟩, none, true, [], []⟩, ⟨⟨none, (some 15), .load1 (.tmp 14)⟩, none, true, [], []⟩, ⟨⟨none, (some 16), .lenS (.tmp 15)⟩, none, true, [], []⟩, ⟨⟨none, (some 17), .bin .lss (.tmp 11) (.tmp 16)⟩, none, true, [], []⟩, ⟨⟨none, (some 18), .mov (.tmp 17)⟩, none, true, [], []⟩, ⟨⟨(some (18, true)), (some 19), .mov (.tmp 0)⟩, none, true, [], []⟩, ⟨⟨(some (18, true)), (some 20), .nchk (.tmp 19)⟩, none, true, [], []⟩, ⟨⟨(some (18, true)), (some 21), .faddr 0 (.tmp 20)⟩, none, true, [], []⟩, ⟨⟨(some (18, true)), (some 22), .load1 (.tmp 21)⟩, none, true, [], []⟩, ⟨⟨(some (18, true)), (some 23), .mov (.tmp 0)⟩, none, true, [], []⟩, ⟨⟨(some (18, true)), (some 24), .nchk (.tmp 23)⟩, none, true, [], []⟩, ⟨⟨(some (18, true)), (some 25), .faddr 1 (.tmp 24)⟩, none, true, [], []⟩, ⟨⟨(some (18, true)), (some 26), .load1 (.tmp 25)⟩, none, true, [], []⟩, ⟨⟨(some (18, true)), (some 27), .ixs (.tmp 22) (.tmp 26)⟩, none, true, [], []⟩, ⟨⟨(some (18, true)), (some 28), .call 48 [(.tmp 27)]⟩, none, true, [], []⟩, ⟨⟨none, (some 29), .pick (.tmp 18) (.tmp 28) (.lit (.bool false))⟩, none, true, [], []⟩, ⟨⟨none, (some 30), .call 31 [(.tmp 29), (.lit (.int .i64 (10)))]⟩, none, true, [], []⟩])
  (.seq (.block 0 (.loop (some [0, 3]) (.seq (.seq (.draw [] [⟨⟨none, (some 31), .mov (.tmp 0)⟩, none, true, [], []⟩, ⟨⟨none, (some 32), .nchk (.tmp 31)⟩, none, true, [], []⟩, ⟨⟨none, (some 33), .faddr 1 (.tmp 32)⟩, none, true, [], []⟩, ⟨⟨none, (some 34), .load1 (.tmp 33)⟩, none, true, [], []⟩, ⟨⟨none, (some 35), .mov (.tmp 0)⟩, none, true, [], []⟩, ⟨⟨none, (some 36), .nchk (.tmp 35)⟩, none, true, [], []⟩, ⟨⟨none, (some 37), .faddr 0 (.tmp 36)⟩, none, true, [], []⟩, ⟨⟨none, (some 38), .load1 (.tmp 37)⟩, none, true, [], []⟩, ⟨⟨none, (some 39), .lenS (.tmp 38)⟩, none, true, [], []⟩, ⟨⟨none, (some 40), .bin .lss (.tmp 34) (.tmp 39)⟩, none, true, [], []⟩, ⟨⟨none, (some 41), .mov (.tmp 40)⟩, none, true, [], []⟩, ⟨⟨(some (41, true)), (some 42), .mov (.tmp 0)⟩, none, true, [], []⟩, ⟨⟨(some (41, true)), (some 43), .nchk (.tmp 42)⟩, none, true, [], []⟩, ⟨⟨(some (41, true)), (some 44), .faddr 0 (.tmp 43)⟩, none, true, [], []⟩, ⟨⟨(some (41, true)), (some 45), .load1 (.tmp 44)⟩, none, true, [], []⟩, ⟨⟨(some (41, true)), (some 46), .mov (.tmp 0)⟩, none, true, [], []⟩, ⟨⟨(some (41, true)), (some 47), .nchk (.tmp 46)⟩, none, true, [], []⟩, ⟨⟨(some (41, true)), (some 48), .faddr 1 (.tmp 47)⟩, none, true, [], []⟩, ⟨⟨(some (41, true)), (some 49), .load1 (.tmp 48)⟩, none, true, [], []⟩, ⟨⟨(some (41, true)), (some 50), .ixs (.tmp 45) (.tmp 49)⟩, none, true, [], []⟩, ⟨⟨(some (41, true)), (some 51), .call 34 [(.tmp 50)]⟩, none, true, [], []⟩, ⟨⟨none, (some 52), .pick (.tmp 41) (.tmp 51) (.lit (.bool false))⟩, none, true, [], []⟩])
  (.cond (.tmp 52) .skip
  (.exit 0)))
  (.block 1 (.ops [⟨none, (some 53), .mov (.tmp 0)⟩, ⟨none, (some 54), .nchk (.tmp 53)⟩, ⟨none, (some 55), .faddr 1 (.tmp 54)⟩, ⟨none, (some 56), .load1 (.tmp 55)⟩, ⟨none, (some 57), .bin .add (.tmp 56) (.lit (.int .i64 (1)))⟩, ⟨none, (some 58), .nchk (.tmp 53)⟩, ⟨none, (some 59), .faddr 1 (.tmp 58)⟩, ⟨none, none, .store 1 (.tmp 59) (.tmp 57)⟩])))))
  (.seq (.draw [] [⟨⟨none, (some 60), .mov (.tmp 0)⟩, none, true, [], []⟩, ⟨⟨none, (some 61), .nchk (.tmp 60)⟩, none, true, [], []⟩, ⟨⟨none, (some 62), .faddr 0 (.tmp 61)⟩, none, true, [], []⟩, ⟨⟨none, (some 63), .load1 (.tmp 62)⟩, none, true, [], []⟩, ⟨⟨none, (some 64), .mov (.tmp 3)⟩, none, true, [], []⟩, ⟨⟨none, (some 65), .mov (.tmp 0)⟩, none, true, [], []⟩, ⟨⟨none, (some 66), .nchk (.tmp 65)⟩, none, true, [], []⟩, ⟨⟨none, (some 67), .faddr 1 (.tmp 66)⟩, none, true, [], []⟩, ⟨⟨none, (some 68), .load1 (.tmp 67)⟩, none, true, [], []⟩, ⟨⟨none, (some 69), .cut (.tmp 63) (some (.tmp 64)) (some (.tmp 68))⟩, none, true, [], []⟩, ⟨⟨none, (some 2), .mov (.tmp 69)⟩, none, true, [], []⟩])
  .ret))))),
  [.tmp 2], none⟩
theorem r57 {m : Int} : resolveF Tryz.prog (cfg m) 57 = some I57 := by kernel_rfl
noncomputable def I59 : IF := ⟨20, (.seq (.ops [⟨none, (some 4), .mov (.lit (.bool false))⟩])
  (.seq (.ops [⟨none, (some 6), .mov (.tmp 0)⟩, ⟨none, (some 7), .mov (.tmp 1)⟩, ⟨none, (some 8), .call 62 [(.tmp 6), (.tmp 7)]⟩, ⟨none, (some 5), .mov (.tmp 8)⟩])
  (.seq (.seq (.ops [⟨none, (some 9), .mov (.tmp 5)⟩])
  (.cond (.tmp 9) (.ops [⟨none, (some 10), .mov (.tmp 0)⟩, ⟨none, (some 11), .nchk (.tmp 10)⟩, ⟨none, (some 12), .faddr 1 (.tmp 11)⟩, ⟨none, (some 13), .load1 (.tmp 12)⟩, ⟨none, (some 14), .mov (.tmp 1)⟩, ⟨none, (some 15), .lenS (.tmp 14)⟩, ⟨none, (some 16), .bin .add (.tmp 13) (.tmp 15)⟩, ⟨none, (some 17), .nchk (.tmp 10)⟩, ⟨none, (some 18), .faddr 1 (.tmp 17)⟩, ⟨none, none, .store 1 (.tmp 18) (.tmp 16)⟩])
  .skip))
  (.seq (.ops [⟨none, (some 19), .mov (.tmp 5)⟩, ⟨none, (some 4), .mov (.tmp 19)⟩])
  .ret)))),
  [.tmp 4], none⟩
theorem r59 {m : Int} : resolveF Tryz.prog (cfg m) 59 = some I59 := by kernel_rfl
noncomputable def I60 : IF := ⟨44, (.seq (.ops [⟨none, (some 2), .mov (.lit (.bool false))⟩])
  (.seq (.ops [⟨none, (some 4), .mov (.tmp 0)⟩, ⟨none, (some 5), .nchk (.tmp 4)⟩, ⟨none, (some 6), .faddr 1 (.tmp 5)⟩, ⟨none, (some 7), .load1 (.tmp 6)⟩, ⟨none, (some 3), .mov (.tmp 7)⟩])
  (.seq (.block 0 (.loop (some [0, 3]) (.seq (.seq (.draw [] [⟨⟨none, (some 8), .mov (.tmp 0)⟩, none, true, [], []⟩, ⟨⟨none, (some 9), .nchk (.tmp 8)⟩, none, true, [], []⟩, ⟨⟨none, (some 10), .faddr 1 (.tmp 9)⟩, none, true, [], []⟩, ⟨⟨none, (some 11), .load1 (.tmp 10)⟩, none, true, [], []⟩, ⟨⟨none, (some 12), .mov (.tmp 0)⟩, none, true, [], []⟩, ⟨⟨none, (some 13), .nchk (.tmp 12)⟩, none, true, [], []⟩, ⟨⟨none, (some 14), .faddr 0 (.tmp 13)⟩, none, true, [], []⟩, ⟨⟨none, (some 15), .load1 (.tmp 14)⟩, none, true, [], []⟩, ⟨⟨none, (some 16), .lenS (.tmp 15)⟩, none, true, [], []⟩, ⟨⟨none, (some 17), .bin .lss (.tmp 11) (.tmp 16)⟩, none, true, [], []⟩, ⟨⟨none, (some 18), .mov (.tmp 17)⟩, none, true, [], []⟩, ⟨⟨(some (18, true)), (some 19), .mov (.tmp 0)⟩, none, true, [], []⟩, ⟨⟨(some (18, true)), (some 20), .nchk (.tmp 19)⟩, none, true, [], []⟩, ⟨⟨(some (18, true)), (some 21), .faddr 0 (.tmp 20)⟩, none, true, [], []⟩, ⟨⟨(some (18, true)), (some 22), .load1 (.tmp 21)⟩, none, true, [], []⟩, ⟨⟨(some (18, true)), (some 23), .mov (.tmp 0)⟩, none, true, [], []⟩, ⟨⟨(some (18, true)), (some 24), .nchk (.tmp 23)⟩, none, true, [], []⟩, ⟨⟨(some (18, true)), (some 25), .faddr 1 (.tmp 24)⟩, none, true, [], []⟩, ⟨⟨(some (18, true)), (some 26), .load1 (.tmp 25)⟩, none, true, [], []⟩, ⟨⟨(some (18, true)), (some 27), .ixs (.tmp 22) (.tmp 26)⟩, none, true, [], []⟩, ⟨⟨(some (18, true)), (some 28), .call 87 [(.lit (.str [32, 9, 10])), (.tmp 27)]⟩, none, true, [], []⟩, ⟨⟨(some (18, true)), (some 29), .bin .geq (.tmp 28) (.lit (.int .i64 (0)))⟩, none, true, [], []⟩, ⟨⟨none, (some 30), .pick (.tmp 18) (.tmp 29) (.lit (.bool false))⟩, none, true, [], []⟩])
  (.cond (.tmp 30) .skip
  (.exit 0)))
  (.block 1 (.ops [⟨none, (some 31), .mov (.tmp 0)⟩, ⟨none, (some 32), .nchk (.tmp 31)⟩, ⟨none, (some 33), .faddr 1 (.tmp 32)⟩, ⟨none, (some 34), .load1 (.tmp 33)⟩, ⟨none, (some 35), .bin .add (.tmp 34) (.lit (.int .i64 (1)))⟩, ⟨none, (some 36), .nchk (.tmp 31)⟩, ⟨none, (some 37), .faddr 1 (.tmp 36)⟩, ⟨none, none, .store 1 (.tmp 37) (.tmp 35)⟩])))))
  (.seq (.ops [⟨none, (some 38), .mov (.tmp 0)⟩, ⟨none, (some 39), .nchk (.tmp 38)⟩, ⟨none, (some 40), .faddr 1 (.tmp 39)⟩, ⟨none, (some 41), .load1 (.tmp 40)⟩, ⟨none, (some 42), .mov (.tmp 3)⟩, ⟨none, (some 43), .bin .gtr (.tmp 41) (.tmp 42)⟩, ⟨none, (some 2), .mov (.tmp 43)⟩])
  .ret)))),
  [.tmp 2], none⟩
theorem r60 {m : Int} : resolveF Tryz.prog (cfg m) 60 = some I60 := by kernel_rfl
noncomputable def I62 : IF := ⟨16, (.seq (.ops [⟨none, (some 4), .mov (.lit (.bool false))⟩])
  (.seq (.draw [] [⟨⟨none, (some 5), .mov (.tmp 0)⟩, none, true, [], []⟩, ⟨⟨none, (some 6), .nchk (.tmp 5)⟩, none, true, [], []⟩, ⟨⟨none, (some 7), .faddr 0 (.tmp 6)⟩, none, true, [], []⟩, ⟨⟨none, (some 8), .load1 (.tmp 7)⟩, none, true, [], []⟩, ⟨⟨none, (some 9), .mov (.tmp 0)⟩, none, true, [], []⟩, ⟨⟨none, (some 10), .nchk (.tmp 9)⟩, none, true, [], []⟩, ⟨⟨none, (some 11), .faddr 1 (.tmp 10)⟩, none, true, [], []⟩, ⟨⟨none, (some 12), .load1 (.tmp 11)⟩, none, true, [], []⟩, ⟨⟨none, (some 13), .cut (.tmp 8) (some (.tmp 12)) none⟩, none, true, [], []⟩, ⟨⟨none, (some 14), .mov (.tmp 1)⟩, none, true, [], []⟩, ⟨⟨none, (some 15), .call 33 [(.tmp 13), (.tmp 14)]⟩, none, true, [], []⟩, ⟨⟨none, (some 4), .mov (.tmp 15)⟩, none, true, [], []⟩])
  .ret)),
  [.tmp 4], none⟩
theorem r62 {m : Int} : resolveF Tryz.prog (cfg m) 62 = some I62 := by kernel_rfl
noncomputable def I64 : IF := ⟨12, (.seq (.ops [⟨none, (some 2), .mov (.lit (.str []))⟩, ⟨none, (some 3), .mov (.lit (.str []))⟩])
  (.seq (.ops [⟨none, (some 4), .mov (.tmp 0)⟩, ⟨none, (some 5), .call 57 [(.tmp 4)]⟩, ⟨none, (some 3), .mov (.tmp 5)⟩])
  (.seq (.seq (.ops [⟨none, (some 6), .mov (.tmp 0)⟩, ⟨none, (some 7), .call 59 [(.tmp 6), (.lit (.str [58]))]⟩])
  (.cond (.tmp 7) (.seq (.ops [⟨none, (some 8), .mov (.tmp 3)⟩, ⟨none, (some 9), .mov (.tmp 0)⟩, ⟨none, (some 10), .call 57 [(.tmp 9)]⟩, ⟨none, (some 2), .mov (.tmp 8)⟩, ⟨none, (some 3), .mov (.tmp 10)⟩])
  .ret)
  .skip))
  (.seq (.ops [⟨none, (some 11), .mov (.tmp 3)⟩, ⟨none, (some 2), .mov (.lit (.str []))⟩, ⟨none, (some 3), .mov (.tmp 11)⟩])
  .ret)))),
  [.tmp 2, .tmp 3], none⟩
theorem r64 {m : Int} : resolveF Tryz.prog (cfg m) 64 = some I64 := by kernel_rfl
noncomputable def I65 : IF := ⟨89, (.seq (.ops [⟨none, (some 2), .new 87 [.str [], .str [], .str []]⟩])
  (.seq (.ops [⟨none, (some 3), .new 87 [.str [], .str [], .str []]⟩])
  (.seq (.ops [⟨none, (some 8), .mov (.tmp 0)⟩, ⟨none, (some 9), .call 64 [(.tmp 8)]⟩, ⟨none, (some 7), .mov (.tmp 9)⟩, ⟨none, (some 10), .ext (.tmp 7) 0⟩, ⟨none, (some 11), .ext (.tmp 7) 1⟩, ⟨none, (some 12), .faddr 0 (.tmp 3)⟩, ⟨none, none, .store 1 (.tmp 12) (.tmp 10)⟩, ⟨none, (some 13), .faddr 1 (.tmp 3)⟩, ⟨none, none, .store 1 (.tmp 13) (.tmp 11)⟩])
  (.seq (.ops [⟨none, (some 14), .mov (.tmp 0)⟩, ⟨none, (some 15), .call 60 [(.tmp 14)]⟩])
  (.seq (.ops [⟨none, (some 16), .mov (.tmp 0)⟩, ⟨none, (some 17), .call 56 [(.tmp 16), (.lit (.str [61]))]⟩])
  (.seq (.ops [⟨none, (some 18), .mov (.tmp 0)⟩, ⟨none, (some 19), .call 60 [(.tmp 18)]⟩])
  (.seq (.ops [⟨none, (some 20), .mov (.tmp 0)⟩, ⟨none, (some 21), .call 35 [(.tmp 20), (.lit (.int .i64 (0)))]⟩, ⟨none, (some 4), .mov (.tmp 21)⟩])
  (.seq (.ops [⟨none, (some 22), .mov (.tmp 4)⟩, ⟨none, (some 23), .bin .eql (.tmp 22) (.lit (.int .u8 (34)))⟩, ⟨none, (some 24), .mov (.tmp 23)⟩, ⟨(some (24, false)), (some 25), .mov (.tmp 4)⟩, ⟨(some (24, false)), (some 26), .bin .eql (.tmp 25) (.lit (.int .u8 (39)))⟩, ⟨none, (some 27), .pick (.tmp 24) (.lit (.bool true)) (.tmp 26)⟩, ⟨none, (some 28), .call 31 [(.tmp 27), (.lit (.int .i64 (10)))]⟩])
  (.seq (.ops [⟨none, (some 29), .mov (.tmp 0)⟩, ⟨none, (some 30), .nchk (.tmp 29)⟩, ⟨none, (some 31), .faddr 1 (.tmp 30)⟩, ⟨none, (some 32), .load1 (.tmp 31)⟩, ⟨none, (some 33), .bin .add (.tmp 32) (.lit (.int .i64 (1)))⟩, ⟨none, (some 34), .nchk (.tmp 29)⟩, ⟨none, (some 35), .faddr 1 (.tmp 34)⟩, ⟨none, none, .store 1 (.tmp 35) (.tmp 33)⟩])
  (.seq (.ops [⟨none, (some 5), .new 104 [.nilP, .nilS]⟩])
  (.block 0 (.loop (some [0, 2, 3, 4, 5]) (.block 1 (.seq (.ops [⟨none, (some 36), .mov (.tmp 0)⟩, ⟨none, (some 37), .call 35 [(.tmp 36), (.lit (.int .i64 (0)))]⟩, ⟨none, (some 6), .mov (.tmp 37)⟩])
  (.seq (.draw [] [⟨⟨none, (some 38), .mov (.tmp 0)⟩, none, true, [], []⟩, ⟨⟨none, (some 39), .nchk (.tmp 38)⟩, none, true, [], []⟩, ⟨⟨none, (some 40), .faddr 1 (.tmp 39)⟩, none, true, [], []⟩, ⟨⟨none, (some 41), .load1 (.tmp 40)⟩, none, true, [], []⟩, ⟨⟨none, (some 42), .mov (.tmp 0)⟩, none, true, [], []⟩, ⟨⟨none, (some 43), .nchk (.tmp 42)⟩, none, true, [], []⟩, ⟨⟨none, (some 44), .faddr 0 (.tmp 43)⟩, none, true, [], []⟩, ⟨⟨none, (some 45), .load1 (.tmp 44)⟩, none, true, [], []⟩, ⟨⟨none, (some 46), .lenS (.tmp 45)⟩, none, true, [], []⟩, ⟨⟨none, (some 47), .bin .lss (.tmp 41) (.tmp 46)⟩, none, true, [], []⟩, ⟨⟨none, (some 48), .mov (.tmp 47)⟩, none, true, [], []⟩, ⟨⟨(some (48, true)), (some 49), .mov (.tmp 6)⟩, none, true, [], []⟩, ⟨⟨(some (48, true)), (some 50), .bin .neq (.tmp 49) (.lit (.int .u8 (60)))⟩, none, true, [], []⟩, ⟨⟨none, (some 51), .pick (.tmp 48) (.tmp 50) (.lit (.bool false))⟩, none, true, [], []⟩, ⟨⟨none, (some 52), .call 31 [(.tmp 51), (.lit (.int .i64 (10)))]⟩, none, true, [], []⟩])
  (.seq (.block 2 (.seq (.ops [⟨none, (some 54), .mov (.tmp 6)⟩, ⟨none, (some 55), .mov (.tmp 4)⟩, ⟨none, (some 56), .bin .eql (.tmp 54) (.tmp 55)⟩, ⟨none, (some 53), .mov (.tmp 56)⟩])
  (.cond (.tmp 53) (.seq (.ops [⟨none, (some 57), .mov (.tmp 0)⟩, ⟨none, (some 58), .nchk (.tmp 57)⟩, ⟨none, (some 59), .faddr 1 (.tmp 58)⟩, ⟨none, (some 60), .load1 (.tmp 59)⟩, ⟨none, (some 61), .bin .add (.tmp 60) (.lit (.int .i64 (1)))⟩, ⟨none, (some 62), .nchk (.tmp 57)⟩, ⟨none, (some 63), .faddr 1 (.tmp 62)⟩, ⟨none, none, .store 1 (.tmp 63) (.tmp 61)⟩])
  (.seq (.ops [⟨none, (some 64), .call 85 [(.tmp 5)]⟩, ⟨none, (some 65), .faddr 2 (.tmp 3)⟩, ⟨none, none, .store 1 (.tmp 65) (.tmp 64)⟩])
  (.seq (.ops [⟨none, (some 66), .loadN 3 (.tmp 3)⟩, ⟨none, none, .store 3 (.tmp 2) (.tmp 66)⟩])
  .ret)))
  (.seq (.ops [⟨none, (some 68), .mov (.tmp 6)⟩, ⟨none, (some 69), .bin .eql (.tmp 68) (.lit (.int .u8 (38)))⟩, ⟨none, (some 67), .mov (.tmp 69)⟩])
  (.cond (.tmp 67) (.seq (.ops [⟨none, (some 70), .mov (.tmp 0)⟩, ⟨none, (some 71), .call 88 [(.tmp 70)]⟩, ⟨none, (some 72), .call 83 [(.tmp 5), (.tmp 71)]⟩])
  (.exit 1))
  (.seq (.ops [⟨none, (some 74), .mov (.tmp 6)⟩, ⟨none, (some 75), .bin .eql (.tmp 74) (.lit (.int .u8 (9)))⟩, ⟨none, (some 76), .mov (.tmp 75)⟩, ⟨(some (76, false)), (some 77), .mov (.tmp 6)⟩, ⟨(some (76, false)), (some 78), .bin .eql (.tmp 77) (.lit (.int .u8 (10)))⟩, ⟨none, (some 79), .pick (.tmp 76) (.lit (.bool true)) (.tmp 78)⟩, ⟨none, (some 73), .mov (.tmp 79)⟩])
  (.cond (.tmp 73) (.ops [⟨none, (some 6), .mov (.lit (.int .u8 (32)))⟩])
  .skip)))))))
  (.seq (.ops [⟨none, (some 80), .mov (.tmp 6)⟩, ⟨none, (some 81), .call 89 [(.tmp 5), (.tmp 80)]⟩])
  (.ops [⟨none, (some 82), .mov (.tmp 0)⟩, ⟨none, (some 83), .nchk (.tmp 82)⟩, ⟨none, (some 84), .faddr 1 (.tmp 83)⟩, ⟨none, (some 85), .load1 (.tmp 84)⟩, ⟨none, (some 86), .bin .add (.tmp 85) (.lit (.int .i64 (1)))⟩, ⟨none, (some 87), .nchk (.tmp 82)⟩, ⟨none, (some 88), .faddr 1 (.tmp 87)⟩, ⟨none, none, .store 1 (.tmp 88) (.tmp 86)⟩])))))))))))))))))),
  [.cellN 3 2], none⟩
theorem r65 {m : Int} : resolveF Tryz.prog (cfg m) 65 = some I65 := by kernel_rfl
noncomputable def I66 : IF := ⟨163, (.seq (.ops [⟨none, (some 6), .mov (.lit (.nilM))⟩, ⟨none, (some 7), .mov (.lit (.nilS))⟩])
  (.seq (.seq (.ops [⟨none, (some 21), .mov (.tmp 2)⟩, ⟨none, (some 22), .lenL (.tmp 21)⟩, ⟨none, (some 23), .mov (.lit (.int .i64 (0)))⟩])
  (.block 0 (.loop (some [0, 1, 2, 21, 22, 23]) (.seq (.ops [⟨none, (some 24), .bin .lss (.tmp 23) (.tmp 22)⟩])
  (.seq (.cond (.tmp 24) .skip
  (.exit 0))
  (.seq (.block 1 (.seq (.ops [⟨none, (some 25), .mov (.tmp 23)⟩, ⟨none, (some 26), .iaddr 3 (.tmp 21) (.tmp 23)⟩, ⟨none, (some 27), .loadN 3 (.tmp 26)⟩, ⟨none, (some 9), .new 87 [.str [], .str [], .str []]⟩, ⟨none, (some 8), .mov (.tmp 25)⟩, ⟨none, none, .store 3 (.tmp 9) (.tmp 27)⟩])
  (.ops [⟨none, (some 28), .mov (.tmp 2)⟩, ⟨none, (some 29), .mov (.tmp 8)⟩, ⟨none, (some 30), .cutS 3 (.tmp 28) none (some (.tmp 29))⟩, ⟨none, (some 31), .mkfn (.func 91) [(.tmp 9)]⟩, ⟨none, (some 32), .call 90 [(.tmp 30), (.tmp 31)]⟩, ⟨none, (some 33), .un .not (.tmp 32)⟩, ⟨none, (some 34), .call 31 [(.tmp 33), (.lit (.int .i64 (8)))]⟩])))
  (.ops [⟨none, (some 35), .bin .add (.tmp 23) (.lit (.int .i64 (1)))⟩, ⟨none, (some 23), .mov (.tmp 35)⟩])))))))
  (.seq (.ops [⟨none, (some 36), .mkm⟩, ⟨none, (some 10), .mov (.tmp 36)⟩])
  (.seq (.seq (.ops [⟨none, (some 37), .mov (.tmp 0)⟩, ⟨none, (some 38), .raw (opAt Tryz.f66 24)⟩])
  (.block 2 (.loop (some [1, 2, 10, 38]) (.seq (.ops [⟨none, (some 39), .nxt (.tmp 38) false⟩, ⟨none, (some 40), .ext (.tmp 39) 0⟩])
  (.seq (.cond (.tmp 40) .skip
  (.exit 2))
  (.block 3 (.seq (.ops [⟨none, (some 41), .ent (.tmp 38)⟩, ⟨none, (some 42), .ext (.tmp 41) 0⟩, ⟨none, (some 43), .ext (.tmp 41) 1⟩, ⟨none, (some 11), .mov (.tmp 42)⟩, ⟨none, (some 12), .mov (.tmp 43)⟩])
  (.ops [⟨none, (some 44), .mov (.tmp 10)⟩, ⟨none, (some 45), .mov (.tmp 11)⟩, ⟨none, (some 46), .mov (.tmp 12)⟩, ⟨none, none, .upd .string (.tmp 44) (.tmp 45) (.tmp 46)⟩]))))))))
  (.seq (.seq (.ops [⟨none, (some 47), .mov (.tmp 2)⟩, ⟨none, (some 48), .lenL (.tmp 47)⟩, ⟨none, (some 49), .mov (.lit (.int .i64 (0)))⟩])
  (.block 4 (.loop (some [1, 2, 10, 47, 48, 49]) (.seq (.ops [⟨none, (some 50), .bin .lss (.tmp 49) (.tmp 48)⟩])
  (.seq (.cond (.tmp 50) .skip
  (.exit 4))
  (.seq (.block 5 (.seq (.ops [⟨none, (some 51), .iaddr 3 (.tmp 47) (.tmp 49)⟩, ⟨none, (some 52), .loadN 3 (.tmp 51)⟩, ⟨none, (some 14), .new 87 [.str [], .str [], .str []]⟩, ⟨none, none, .store 3 (.tmp 14) (.tmp 52)⟩])
  (.block 6 (.seq (.ops [⟨none, (some 54), .faddr 0 (.tmp 14)⟩, ⟨none, (some 55), .load1 (.tmp 54)⟩, ⟨none, (some 56), .bin .eql (.tmp 55) (.lit (.str []))⟩, ⟨none, (some 57), .mov (.tmp 56)⟩, ⟨(some (57, true)), (some 58), .faddr 1 (.tmp 14)⟩, ⟨(some (57, true)), (some 59), .load1 (.tmp 58)⟩, ⟨(some (57, true)), (some 60), .bin .eql (.tmp 59) (.lit (.str [120, 109, 108, 110, 115]))⟩, ⟨none, (some 61), .pick (.tmp 57) (.tmp 60) (.lit (.bool false))⟩, ⟨none, (some 53), .mov (.tmp 61)⟩])
  (.cond (.tmp 53) (.ops [⟨none, (some 62), .mov (.tmp 10)⟩, ⟨none, (some 63), .faddr 2 (.tmp 14)⟩, ⟨none, (some 64), .load1 (.tmp 63)⟩, ⟨none, none, .upd .string (.tmp 62) (.lit (.str [])) (.tmp 64)⟩])
  (.seq (.ops [⟨none, (some 66), .faddr 0 (.tmp 14)⟩, ⟨none, (some 67), .load1 (.tmp 66)⟩, ⟨none, (some 68), .bin .eql (.tmp 67) (.lit (.str [120, 109, 108, 110, 115]))⟩, ⟨none, (some 65), .mov (.tmp 68)⟩])
  (.cond (.tmp 65) (.seq (.ops [⟨none, (some 69), .faddr 2 (.tmp 14)⟩, ⟨none, (some 70), .load1 (.tmp 69)⟩, ⟨none, (some 71), .bin .neq (.tmp 70) (.lit (.str []))⟩, ⟨none, (some 72), .mov (.tmp 71)⟩, ⟨(some (72, true)), (some 73), .faddr 1 (.tmp 14)⟩, ⟨(some (72, true)), (some 74), .load1 (.tmp 73)⟩, ⟨(some (72, true)), (some 75), .bin .neq (.tmp 74) (.lit (.str [120, 109, 108, 110, 115]))⟩, ⟨none, (some 76), .pick (.tmp 72) (.tmp 75) (.lit (.bool false))⟩, ⟨none, (some 77), .mov (.tmp 76)⟩, ⟨(some (77, true)), (some 78), .faddr 1 (.tmp 14)⟩, ⟨(some (77, true)), (some 79), .load1 (.tmp 78)⟩, ⟨(some (77, true)), (some 80), .bin .neq (.tmp 79) (.lit (.str [120, 109, 108]))⟩, ⟨none, (some 81), .pick (.tmp 77) (.tmp 80) (.lit (.bool false))⟩, ⟨none, (some 82), .call 31 [(.tmp 81), (.lit (.int .i64 (10)))]⟩])
  (.ops [⟨none, (some 83), .mov (.tmp 10)⟩, ⟨none, (some 84), .faddr 1 (.tmp 14)⟩, ⟨none, (some 85), .load1 (.tmp 84)⟩, ⟨none, (some 86), .faddr 2 (.tmp 14)⟩, ⟨none, (some 87), .load1 (.tmp 86)⟩, ⟨none, none, .upd .string (.tmp 83) (.tmp 85) (.tmp 87)⟩]))
  .skip)))))))
  (.ops [⟨none, (some 88), .bin .add (.tmp 49) (.lit (.int .i64 (1)))⟩, ⟨none, (some 49), .mov (.tmp 88)⟩])))))))
  (.seq (.ops [⟨none, (some 89), .mov (.tmp 1)⟩, ⟨none, (some 90), .bin .eql (.tmp 89) (.lit (.str []))⟩, ⟨none, (some 91), .mov (.tmp 90)⟩, ⟨(some (91, false)), (some 92), .mov (.tmp 10)⟩, ⟨(some (91, false)), (some 93), .mov (.tmp 1)⟩, ⟨(some (91, false)), (some 94), .lkp .string (.str []) (.tmp 92) (.tmp 93) false⟩, ⟨(some (91, false)), (some 95), .bin .neq (.tmp 94) (.lit (.str []))⟩, ⟨none, (some 96), .pick (.tmp 91) (.lit (.bool true)) (.tmp 95)⟩, ⟨none, (some 97), .call 31 [(.tmp 96), (.lit (.int .i64 (12)))]⟩])
  (.seq (.ops [⟨none, (some 15), .mov (.lit (.nilS))⟩])
  (.seq (.seq (.ops [⟨none, (some 98), .mov (.tmp 2)⟩, ⟨none, (some 99), .lenL (.tmp 98)⟩, ⟨none, (some 100), .mov (.lit (.int .i64 (0)))⟩])
  (.block 7 (.loop (some [10, 15, 98, 99, 100]) (.seq (.ops [⟨none, (some 101), .bin .lss (.tmp 100) (.tmp 99)⟩])
  (.seq (.cond (.tmp 101) .skip
  (.exit 7))
  (.seq (.block 8 (.seq (.ops [⟨none, (some 102), .iaddr 3 (.tmp 98) (.tmp 100)⟩, ⟨none, (some 103), .loadN 3 (.tmp 102)⟩, ⟨none, (some 17), .new 87 [.str [], .str [], .str []]⟩, ⟨none, none, .store 3 (.tmp 17) (.tmp 103)⟩])
  (.seq (.seq (.ops [⟨none, (some 104), .faddr 0 (.tmp 17)⟩, ⟨none, (some 105), .load1 (.tmp 104)⟩, ⟨none, (some 106), .bin .eql (.tmp 105) (.lit (.str [120, 109, 108, 110, 115]))⟩, ⟨none, (some 107), .mov (.tmp 106)⟩, ⟨(some (107, false)), (some 108), .faddr 0 (.tmp 17)⟩, ⟨(some (107, false)), (some 109), .load1 (.tmp 108)⟩, ⟨(some (107, false)), (some 110), .bin .eql (.tmp 109) (.lit (.str []))⟩, ⟨(some (107, false)), (some 111), .mov (.tmp 110)⟩, ⟨(some (111, true)), (some 112), .faddr 1 (.tmp 17)⟩, ⟨(some (111, true)), (some 113), .load1 (.tmp 112)⟩, ⟨(some (111, true)), (some 114), .bin .eql (.tmp 113) (.lit (.str [120, 109, 108, 110, 115]))⟩, ⟨(some (107, false)), (some 115), .pick (.tmp 111) (.tmp 114) (.lit (.bool false))⟩, ⟨none, (some 116), .pick (.tmp 107) (.lit (.bool true)) (.tmp 115)⟩])
  (.cond (.tmp 116) (.exit 8)
  .skip))
  (.seq (.ops [⟨none, (some 117), .faddr 0 (.tmp 17)⟩, ⟨none, (some 118), .load1 (.tmp 117)⟩, ⟨none, (some 119), .bin .eql (.tmp 118) (.lit (.str []))⟩, ⟨none, (some 120), .mov (.tmp 119)⟩, ⟨(some (120, false)), (some 121), .mov (.tmp 10)⟩, ⟨(some (120, false)), (some 122), .faddr 0 (.tmp 17)⟩, ⟨(some (120, false)), (some 123), .load1 (.tmp 122)⟩, ⟨(some (120, false)), (some 124), .lkp .string (.str []) (.tmp 121) (.tmp 123) false⟩, ⟨(some (120, false)), (some 125), .bin .neq (.tmp 124) (.lit (.str []))⟩, ⟨none, (some 126), .pick (.tmp 120) (.lit (.bool true)) (.tmp 125)⟩, ⟨none, (some 127), .call 31 [(.tmp 126), (.lit (.int .i64 (12)))]⟩])
  (.seq (.ops [⟨none, (some 128), .faddr 1 (.tmp 17)⟩, ⟨none, (some 129), .load1 (.tmp 128)⟩, ⟨none, (some 130), .faddr 2 (.tmp 17)⟩, ⟨none, (some 131), .load1 (.tmp 130)⟩, ⟨none, (some 132), .bld [.str [], .str [], .str []] [(1, 1, (.tmp 129)), (2, 1, (.tmp 131))]⟩, ⟨none, (some 18), .new 41 [.str [], .str [], .str []]⟩, ⟨none, none, .store 3 (.tmp 18) (.tmp 132)⟩])
  (.seq (.seq (.ops [⟨none, (some 133), .faddr 0 (.tmp 17)⟩, ⟨none, (some 134), .load1 (.tmp 133)⟩, ⟨none, (some 135), .bin .neq (.tmp 134) (.lit (.str []))⟩])
  (.cond (.tmp 135) (.ops [⟨none, (some 136), .mov (.tmp 10)⟩, ⟨none, (some 137), .faddr 0 (.tmp 17)⟩, ⟨none, (some 138), .load1 (.tmp 137)⟩, ⟨none, (some 139), .lkp .string (.str []) (.tmp 136) (.tmp 138) false⟩, ⟨none, (some 140), .faddr 0 (.tmp 18)⟩, ⟨none, none, .store 1 (.tmp 140) (.tmp 139)⟩])
  .skip))
  (.ops [⟨none, (some 141), .mov (.tmp 15)⟩, ⟨none, (some 142), .loadN 3 (.tmp 18)⟩, ⟨none, (some 143), .bldS 41 3 1 [.str [], .str [], .str []] [(0, 3, (.tmp 142))]⟩, ⟨none, (some 144), .app 41 3 (.tmp 141) (.tmp 143)⟩, ⟨none, (some 15), .mov (.tmp 144)⟩])))))))
  (.ops [⟨none, (some 145), .bin .add (.tmp 100) (.lit (.int .i64 (1)))⟩, ⟨none, (some 100), .mov (.tmp 145)⟩])))))))
  (.seq (.seq (.ops [⟨none, (some 146), .mov (.tmp 15)⟩, ⟨none, (some 147), .lenL (.tmp 146)⟩, ⟨none, (some 148), .mov (.lit (.int .i64 (0)))⟩])
  (.block 9 (.loop (some [10, 15, 146, 147, 148]) (.seq (.ops [⟨none, (some 149), .bin .lss (.tmp 148) (.tmp 147)⟩])
  (.seq (.cond (.tmp 149) .skip
  (.exit 9))
  (.seq (.block 10 (.seq (.ops [⟨none, (some 150), .mov (.tmp 148)⟩, ⟨none, (some 151), .iaddr 3 (.tmp 146) (.tmp 148)⟩, ⟨none, (some 152), .loadN 3 (.tmp 151)⟩, ⟨none, (some 20), .new 41 [.str [], .str [], .str []]⟩, ⟨none, (some 19), .mov (.tmp 150)⟩, ⟨none, none, .store 3 (.tmp 20) (.tmp 152)⟩])
  (.ops [⟨none, (some 153), .mov (.tmp 15)⟩, ⟨none, (some 154), .mov (.tmp 19)⟩, ⟨none, (some 155), .cutS 3 (.tmp 153) none (some (.tmp 154))⟩, ⟨none, (some 156), .mkfn (.func 93) [(.tmp 20)]⟩, ⟨none, (some 157), .call 92 [(.tmp 155), (.tmp 156)]⟩, ⟨none, (some 158), .un .not (.tmp 157)⟩, ⟨none, (some 159), .call 31 [(.tmp 158), (.lit (.int .i64 (8)))]⟩])))
  (.ops [⟨none, (some 160), .bin .add (.tmp 148) (.lit (.int .i64 (1)))⟩, ⟨none, (some 148), .mov (.tmp 160)⟩])))))))
  (.seq (.ops [⟨none, (some 161), .mov (.tmp 10)⟩, ⟨none, (some 162), .mov (.tmp 15)⟩, ⟨none, (some 6), .mov (.tmp 161)⟩, ⟨none, (some 7), .mov (.tmp 162)⟩])
  .ret)))))))))),
  [.tmp 6, .tmp 7], none⟩
theorem r66 {m : Int} : resolveF Tryz.prog (cfg m) 66 = some I66 := by kernel_rfl
noncomputable def I67 : IF := ⟨87, (.seq (.ops [⟨none, (some 6), .mov (.lit (.nilS))⟩])
  (.seq (.ops [⟨none, (some 7), .new 25 [.nilS]⟩])
  (.seq (.ops [⟨none, (some 8), .new 104 [.nilP, .nilS]⟩])
  (.seq (.ops [⟨none, (some 10), .mkfn (.func 94) [(.tmp 8), (.tmp 7)]⟩, ⟨none, (some 9), .mov (.tmp 10)⟩])
  (.seq (.block 0 (.loop (some [0, 1, 2, 7, 8, 9]) (.seq (.seq (.ops [⟨none, (some 11), .mov (.tmp 0)⟩, ⟨none, (some 12), .call 62 [(.tmp 11), (.lit (.str [60, 47]))]⟩, ⟨none, (some 13), .un .not (.tmp 12)⟩])
  (.cond (.tmp 13) .skip
  (.exit 0)))
  (.block 1 (.block 2 (.seq (.ops [⟨none, (some 48), .mov (.tmp 0)⟩, ⟨none, (some 49), .call 62 [(.tmp 48), (.lit (.str [60, 33, 45, 45]))]⟩, ⟨none, (some 47), .mov (.tmp 49)⟩])
  (.cond (.tmp 47) (.ops [⟨none, (some 50), .mov (.tmp 0)⟩, ⟨none, (some 51), .call 63 [(.tmp 50)]⟩])
  (.seq (.ops [⟨none, (some 53), .mov (.tmp 0)⟩, ⟨none, (some 54), .call 62 [(.tmp 53), (.lit (.str [60, 63]))]⟩, ⟨none, (some 52), .mov (.tmp 54)⟩])
  (.cond (.tmp 52) (.ops [⟨none, (some 55), .mov (.tmp 0)⟩, ⟨none, (some 56), .call 36 [(.tmp 55), (.lit (.bool false))]⟩])
  (.seq (.ops [⟨none, (some 58), .mov (.tmp 0)⟩, ⟨none, (some 59), .call 59 [(.tmp 58), (.lit (.str [60, 33, 91, 67, 68, 65, 84, 65, 91]))]⟩, ⟨none, (some 57), .mov (.tmp 59)⟩])
  (.cond (.tmp 57) (.ops [⟨none, (some 60), .mov (.tmp 0)⟩, ⟨none, (some 61), .call 61 [(.tmp 60), (.lit (.str [93, 93, 62]))]⟩, ⟨none, (some 62), .call 83 [(.tmp 8), (.tmp 61)]⟩])
  (.seq (.ops [⟨none, (some 64), .mov (.tmp 0)⟩, ⟨none, (some 65), .call 62 [(.tmp 64), (.lit (.str [60]))]⟩, ⟨none, (some 63), .mov (.tmp 65)⟩])
  (.cond (.tmp 63) (.seq (.ops [⟨none, (some 66), .mov (.tmp 9)⟩, ⟨none, (some 67), .callv (.tmp 66) []⟩])
  (.draw2 10 11 [.row [.str [], .str [], .str [], .nilS, .nilS] 0 28] [⟨⟨none, (some 68), .load1 (.tmp 7)⟩, none, true, [], []⟩, ⟨⟨none, (some 69), .mov (.tmp 0)⟩, none, true, [], []⟩, ⟨⟨none, (some 70), .mov (.tmp 1)⟩, none, true, [], []⟩, ⟨⟨none, (some 71), .mov (.tmp 2)⟩, none, true, [], []⟩, ⟨⟨none, (some 72), .bin .add (.tmp 71) (.lit (.int .i64 (1)))⟩, none, true, [], []⟩, ⟨⟨none, (some 73), .call 38 [(.tmp 69), (.tmp 70), (.tmp 72)]⟩, none, false, [0, 6, 7], [6, 7]⟩, ⟨⟨none, (some 74), .lenL (.tmp 68)⟩, none, true, [], []⟩, ⟨⟨none, (some 75), .mov (.lit (.bad))⟩, (some (0, 27, [.str [], .str [], .str [], .nilS, .nilS], some (1, 5))), true, [], []⟩, ⟨⟨none, (some 76), .app 27 5 (.tmp 68) (.tmp 75)⟩, none, true, [], []⟩, ⟨⟨none, (some 77), .iaddr 5 (.tmp 76) (.tmp 74)⟩, none, true, [], []⟩, ⟨⟨none, none, .store 5 (.tmp 77) (.tmp 73)⟩, none, false, [11], []⟩, ⟨⟨none, none, .store 1 (.tmp 7) (.tmp 76)⟩, none, false, [10], []⟩]))
  (.seq (.ops [⟨none, (some 79), .mov (.tmp 0)⟩, ⟨none, (some 80), .call 62 [(.tmp 79), (.lit (.str [38]))]⟩, ⟨none, (some 78), .mov (.tmp 80)⟩])
  (.cond (.tmp 78) (.ops [⟨none, (some 81), .mov (.tmp 0)⟩, ⟨none, (some 82), .call 88 [(.tmp 81)]⟩, ⟨none, (some 83), .call 83 [(.tmp 8), (.tmp 82)]⟩])
  (.seq (.draw [] [⟨⟨none, (some 14), .mov (.tmp 0)⟩, none, true, [], []⟩, ⟨⟨none, (some 15), .nchk (.tmp 14)⟩, none, true, [], []⟩, ⟨⟨none, (some 16), .faddr 1 (.tmp 15)⟩, none, true, [], []⟩, ⟨⟨none, (some 17), .load1 (.tmp 16)⟩, none, true, [], []⟩, ⟨⟨none, (some 18), .mov (.tmp 0)⟩, none, true, [], []⟩, ⟨⟨none, (some 19), .nchk (.tmp 18)⟩, none, true, [], []⟩, ⟨⟨none, (some 20), .faddr 0 (.tmp 19)⟩, none, true, [], []⟩, ⟨⟨none, (some 21), .load1 (.tmp 20)⟩, none, true, [], []⟩, ⟨⟨none, (some 22), .lenS (.tmp 21)⟩, none, true, [], []⟩, ⟨⟨none, (some 23), .bin .lss (.tmp 17) (.tmp 22)⟩, none, true, [], []⟩, ⟨⟨none, (some 24), .mov (.tmp 23)⟩, none, true, [], []⟩, ⟨⟨(some (24, true)), (some 25), .mov (.tmp 0)⟩, none, true, [], []⟩, ⟨⟨(some (24, true)), (some 26), .call 62 [(.tmp 25), (.lit (.str [93, 93, 62]))]⟩, none, true, [], []⟩, ⟨⟨(some (24, true)), (some 27), .un .not (.tmp 26)⟩, none, true, [], []⟩, ⟨⟨none, (some 28), .pick (.tmp 24) (.tmp 27) (.lit (.bool false))⟩, none, true, [], []⟩, ⟨⟨none, (some 29), .call 31 [(.tmp 28), (.lit (.int .i64 (10)))]⟩, none, true, [], []⟩])
  (.seq (.draw [] [⟨⟨none, (some 30), .mov (.tmp 0)⟩, none, true, [], []⟩, ⟨⟨none, (some 31), .nchk (.tmp 30)⟩, none, true, [], []⟩, ⟨⟨none, (some 32), .faddr 0 (.tmp 31)⟩, none, true, [], []⟩, ⟨⟨none, (some 33), .load1 (.tmp 32)⟩, none, true, [], []⟩, ⟨⟨none, (some 34), .mov (.tmp 0)⟩, none, true, [], []⟩, ⟨⟨none, (some 35), .nchk (.tmp 34)⟩, none, true, [], []⟩, ⟨⟨none, (some 36), .faddr 1 (.tmp 35)⟩, none, true, [], []⟩, ⟨⟨none, (some 37), .load1 (.tmp 36)⟩, none, true, [], []⟩, ⟨⟨none, (some 38), .ixs (.tmp 33) (.tmp 37)⟩, none, true, [], []⟩, ⟨⟨none, (some 39), .call 89 [(.tmp 8), (.tmp 38)]⟩, none, true, [], []⟩])
  (.ops [⟨none, (some 40), .mov (.tmp 0)⟩, ⟨none, (some 41), .nchk (.tmp 40)⟩, ⟨none, (some 42), .faddr 1 (.tmp 41)⟩, ⟨none, (some 43), .load1 (.tmp 42)⟩, ⟨none, (some 44), .bin .add (.tmp 43) (.lit (.int .i64 (1)))⟩, ⟨none, (some 45), .nchk (.tmp 40)⟩, ⟨none, (some 46), .faddr 1 (.tmp 45)⟩, ⟨none, none, .store 1 (.tmp 46) (.tmp 44)⟩]))))))))))))))))))
  (.seq (.ops [⟨none, (some 84), .mov (.tmp 9)⟩, ⟨none, (some 85), .callv (.tmp 84) []⟩])
  (.seq (.ops [⟨none, (some 86), .load1 (.tmp 7)⟩, ⟨none, (some 6), .mov (.tmp 86)⟩])
  .ret))))))),
  [.tmp 6], none⟩
theorem r67 {m : Int} : resolveF Tryz.prog (cfg m) 67 = some I67 := by kernel_rfl
noncomputable def I70 : IF := ⟨13, (.seq (.ops [⟨none, (some 2), .mov (.tmp 0)⟩, ⟨none, (some 3), .call 72 [(.tmp 2), (.lit (.str [60, 33, 45, 45]))]⟩])
  (.seq (.ops [⟨none, (some 4), .mov (.tmp 0)⟩, ⟨none, (some 5), .call 97 [(.tmp 4), (.lit (.str [45, 45]))]⟩])
  (.seq (.ops [⟨none, (some 6), .mov (.tmp 0)⟩, ⟨none, (some 7), .nchk (.tmp 6)⟩, ⟨none, (some 8), .faddr 3 (.tmp 7)⟩, ⟨none, (some 9), .load1 (.tmp 8)⟩, ⟨none, (some 10), .bin .eql (.tmp 9) (.lit (.int .i64 (0)))⟩])
  (.cond (.tmp 10) (.ops [⟨none, (some 11), .mov (.tmp 0)⟩, ⟨none, (some 12), .call 72 [(.tmp 11), (.lit (.str [62]))]⟩])
  .skip)))),
  [], none⟩
theorem r70 {m : Int} : resolveF Tryz.prog (cfg m) 70 = some I70 := by kernel_rfl
noncomputable def I72 : IF := ⟨20, (.seq (.seq (.ops [⟨none, (some 4), .mov (.tmp 0)⟩, ⟨none, (some 5), .mov (.tmp 1)⟩, ⟨none, (some 6), .call 69 [(.tmp 4), (.tmp 5)]⟩, ⟨none, (some 7), .un .not (.tmp 6)⟩])
  (.cond (.tmp 7) (.seq (.ops [⟨none, (some 8), .mov (.tmp 0)⟩, ⟨none, (some 9), .call 42 [(.tmp 8), (.lit (.int .i64 (10)))]⟩])
  .ret)
  .skip))
  (.ops [⟨none, (some 10), .mov (.tmp 0)⟩, ⟨none, (some 11), .mov (.tmp 0)⟩, ⟨none, (some 12), .nchk (.tmp 11)⟩, ⟨none, (some 13), .faddr 1 (.tmp 12)⟩, ⟨none, (some 14), .load1 (.tmp 13)⟩, ⟨none, (some 15), .mov (.tmp 1)⟩, ⟨none, (some 16), .lenS (.tmp 15)⟩, ⟨none, (some 17), .bin .add (.tmp 14) (.tmp 16)⟩, ⟨none, (some 18), .nchk (.tmp 10)⟩, ⟨none, (some 19), .faddr 1 (.tmp 18)⟩, ⟨none, none, .store 1 (.tmp 19) (.tmp 17)⟩])),
  [], none⟩
theorem r72 {m : Int} : resolveF Tryz.prog (cfg m) 72 = some I72 := by kernel_rfl
noncomputable def I75 : IF := ⟨127, (.seq (.ops [⟨none, (some 6), .mov (.lit (.nilS))⟩])
  (.seq (.seq (.ops [⟨none, (some 7), .mov (.lit (.int .i64 (0)))⟩])
  (.block 0 (.loop (some [0, 1, 2, 7]) (.seq (.seq (.ops [⟨none, (some 11), .mov (.tmp 7)⟩, ⟨none, (some 12), .mov (.tmp 1)⟩, ⟨none, (some 13), .lenL (.tmp 12)⟩, ⟨none, (some 14), .bin .lss (.tmp 11) (.tmp 13)⟩])
  (.cond (.tmp 14) .skip
  (.exit 0)))
  (.seq (.block 1 (.seq (.ops [⟨none, (some 8), .mov (.lit (.int .i64 (0)))⟩])
  (.block 2 (.loop (some [0, 1, 2, 7, 8]) (.seq (.seq (.ops [⟨none, (some 17), .mov (.tmp 8)⟩, ⟨none, (some 18), .mov (.tmp 7)⟩, ⟨none, (some 19), .bin .lss (.tmp 17) (.tmp 18)⟩])
  (.cond (.tmp 19) .skip
  (.exit 2)))
  (.seq (.block 3 (.seq (.draw [] [⟨⟨none, (some 22), .mov (.tmp 1)⟩, none, true, [], []⟩, ⟨⟨none, (some 23), .mov (.tmp 7)⟩, none, true, [], []⟩, ⟨⟨none, (some 24), .iaddr 3 (.tmp 22) (.tmp 23)⟩, none, true, [], []⟩, ⟨⟨none, (some 25), .faddr 0 (.tmp 24)⟩, none, true, [], []⟩, ⟨⟨none, (some 26), .load1 (.tmp 25)⟩, none, true, [], []⟩, ⟨⟨none, (some 27), .mov (.tmp 1)⟩, none, true, [], []⟩, ⟨⟨none, (some 28), .mov (.tmp 8)⟩, none, true, [], []⟩, ⟨⟨none, (some 29), .iaddr 3 (.tmp 27) (.tmp 28)⟩, none, true, [], []⟩, ⟨⟨none, (some 30), .faddr 0 (.tmp 29)⟩, none, true, [], []⟩, ⟨⟨none, (some 31), .load1 (.tmp 30)⟩, none, true, [], []⟩, ⟨⟨none, (some 32), .bin .eql (.tmp 26) (.tmp 31)⟩, none, true, [], []⟩, ⟨⟨none, (some 33), .mov (.tmp 32)⟩, none, true, [], []⟩, ⟨⟨(some (33, true)), (some 34), .mov (.tmp 1)⟩, none, true, [], []⟩, ⟨⟨(some (33, true)), (some 35), .mov (.tmp 7)⟩, none, true, [], []⟩, ⟨⟨(some (33, true)), (some 36), .iaddr 3 (.tmp 34) (.tmp 35)⟩, none, true, [], []⟩, ⟨⟨(some (33, true)), (some 37), .faddr 1 (.tmp 36)⟩, none, true, [], []⟩, ⟨⟨(some (33, true)), (some 38), .load1 (.tmp 37)⟩, none, true, [], []⟩, ⟨⟨(some (33, true)), (some 39), .mov (.tmp 1)⟩, none, true, [], []⟩, ⟨⟨(some (33, true)), (some 40), .mov (.tmp 8)⟩, none, true, [], []⟩, ⟨⟨(some (33, true)), (some 41), .iaddr 3 (.tmp 39) (.tmp 40)⟩, none, true, [], []⟩, ⟨⟨(some (33, true)), (some 42), .faddr 1 (.tmp 41)⟩, none, true, [], []⟩, ⟨⟨(some (33, true)), (some 43), .load1 (.tmp 42)⟩, none, true, [], []⟩, ⟨⟨(some (33, true)), (some 44), .bin .eql (.tmp 38) (.tmp 43)⟩, none, true, [], []⟩, ⟨⟨none, (some 45), .pick (.tmp 33) (.tmp 44) (.lit (.bool false))⟩, none, true, [], []⟩])
  (.cond (.tmp 45) (.seq (.ops [⟨none, (some 46), .mov (.tmp 0)⟩, ⟨none, (some 47), .call 42 [(.tmp 46), (.lit (.int .i64 (8)))]⟩])
  (.seq (.ops [⟨none, (some 6), .mov (.lit (.nilS))⟩])
  .ret))
  .skip)))
  (.ops [⟨none, (some 20), .mov (.tmp 8)⟩, ⟨none, (some 21), .bin .add (.tmp 20) (.lit (.int .i64 (1)))⟩, ⟨none, (some 8), .mov (.tmp 21)⟩])))))))
  (.ops [⟨none, (some 15), .mov (.tmp 7)⟩, ⟨none, (some 16), .bin .add (.tmp 15) (.lit (.int .i64 (1)))⟩, ⟨none, (some 7), .mov (.tmp 16)⟩]))))))
  (.seq (.ops [⟨none, (some 48), .bldS 121 2 0 [] []⟩, ⟨none, (some 49), .mov (.tmp 2)⟩, ⟨none, (some 50), .app 121 2 (.tmp 48) (.tmp 49)⟩, ⟨none, (some 9), .mov (.tmp 50)⟩])
  (.seq (.seq (.ops [⟨none, (some 10), .mov (.lit (.int .i64 (0)))⟩])
  (.block 4 (.loop (some [0, 1, 9, 10]) (.seq (.seq (.ops [⟨none, (some 51), .mov (.tmp 10)⟩, ⟨none, (some 52), .mov (.tmp 1)⟩, ⟨none, (some 53), .lenL (.tmp 52)⟩, ⟨none, (some 54), .bin .lss (.tmp 51) (.tmp 53)⟩])
  (.cond (.tmp 54) .skip
  (.exit 4)))
  (.seq (.block 5 (.block 6 (.seq (.ops [⟨none, (some 58), .mov (.tmp 1)⟩, ⟨none, (some 59), .mov (.tmp 10)⟩, ⟨none, (some 60), .iaddr 3 (.tmp 58) (.tmp 59)⟩, ⟨none, (some 61), .faddr 0 (.tmp 60)⟩, ⟨none, (some 62), .load1 (.tmp 61)⟩, ⟨none, (some 63), .bin .eql (.tmp 62) (.lit (.str []))⟩, ⟨none, (some 64), .mov (.tmp 63)⟩, ⟨(some (64, true)), (some 65), .mov (.tmp 1)⟩, ⟨(some (64, true)), (some 66), .mov (.tmp 10)⟩, ⟨(some (64, true)), (some 67), .iaddr 3 (.tmp 65) (.tmp 66)⟩, ⟨(some (64, true)), (some 68), .faddr 1 (.tmp 67)⟩, ⟨(some (64, true)), (some 69), .load1 (.tmp 68)⟩, ⟨(some (64, true)), (some 70), .bin .eql (.tmp 69) (.lit (.str [120, 109, 108, 110, 115]))⟩, ⟨none, (some 71), .pick (.tmp 64) (.tmp 70) (.lit (.bool false))⟩, ⟨none, (some 57), .mov (.tmp 71)⟩])
  (.cond (.tmp 57) (.ops [⟨none, (some 72), .mov (.tmp 9)⟩, ⟨none, (some 73), .mov (.tmp 1)⟩, ⟨none, (some 74), .mov (.tmp 10)⟩, ⟨none, (some 75), .iaddr 3 (.tmp 73) (.tmp 74)⟩, ⟨none, (some 76), .faddr 2 (.tmp 75)⟩, ⟨none, (some 77), .load1 (.tmp 76)⟩, ⟨none, (some 78), .bld [.str [], .str []] [(0, 1, (.lit (.str []))), (1, 1, (.tmp 77))]⟩, ⟨none, (some 79), .bldS 121 2 1 [.str [], .str []] [(0, 2, (.tmp 78))]⟩, ⟨none, (some 80), .app 121 2 (.tmp 72) (.tmp 79)⟩, ⟨none, (some 9), .mov (.tmp 80)⟩])
  (.seq (.ops [⟨none, (some 82), .mov (.tmp 1)⟩, ⟨none, (some 83), .mov (.tmp 10)⟩, ⟨none, (some 84), .iaddr 3 (.tmp 82) (.tmp 83)⟩, ⟨none, (some 85), .faddr 0 (.tmp 84)⟩, ⟨none, (some 86), .load1 (.tmp 85)⟩, ⟨none, (some 87), .bin .eql (.tmp 86) (.lit (.str [120, 109, 108, 110, 115]))⟩, ⟨none, (some 81), .mov (.tmp 87)⟩])
  (.cond (.tmp 81) (.seq (.seq (.ops [⟨none, (some 88), .mov (.tmp 1)⟩, ⟨none, (some 89), .mov (.tmp 10)⟩, ⟨none, (some 90), .iaddr 3 (.tmp 88) (.tmp 89)⟩, ⟨none, (some 91), .faddr 2 (.tmp 90)⟩, ⟨none, (some 92), .load1 (.tmp 91)⟩, ⟨none, (some 93), .bin .eql (.tmp 92) (.lit (.str []))⟩, ⟨none, (some 94), .mov (.tmp 93)⟩, ⟨(some (94, false)), (some 95), .mov (.tmp 1)⟩, ⟨(some (94, false)), (some 96), .mov (.tmp 10)⟩, ⟨(some (94, false)), (some 97), .iaddr 3 (.tmp 95) (.tmp 96)⟩, ⟨(some (94, false)), (some 98), .faddr 1 (.tmp 97)⟩, ⟨(some (94, false)), (some 99), .load1 (.tmp 98)⟩, ⟨(some (94, false)), (some 100), .bin .eql (.tmp 99) (.lit (.str [120, 109, 108, 110, 115]))⟩, ⟨none, (some 101), .pick (.tmp 94) (.lit (.bool true)) (.tmp 100)⟩, ⟨none, (some 102), .mov (.tmp 101)⟩, ⟨(some (102, false)), (some 103), .mov (.tmp 1)⟩, ⟨(some (102, false)), (some 104), .mov (.tmp 10)⟩, ⟨(some (102, false)), (some 105), .iaddr 3 (.tmp 103) (.tmp 104)⟩, ⟨(some (102, false)), (some 106), .faddr 1 (.tmp 105)⟩, ⟨(some (102, false)), (some 107), .load1 (.tmp 106)⟩, ⟨(some (102, false)), (some 108), .bin .eql (.tmp 107) (.lit (.str [120, 109, 108]))⟩, ⟨none, (some 109), .pick (.tmp 102) (.lit (.bool true)) (.tmp 108)⟩])
  (.cond (.tmp 109) (.seq (.ops [⟨none, (some 110), .mov (.tmp 0)⟩, ⟨none, (some 111), .call 42 [(.tmp 110), (.lit (.int .i64 (10)))]⟩])
  (.seq (.ops [⟨none, (some 6), .mov (.lit (.nilS))⟩])
  .ret))
  .skip))
  (.draw [] [⟨⟨none, (some 112), .mov (.tmp 9)⟩, none, true, [], []⟩, ⟨⟨none, (some 113), .mov (.tmp 1)⟩, none, true, [], []⟩, ⟨⟨none, (some 114), .mov (.tmp 10)⟩, none, true, [], []⟩, ⟨⟨none, (some 115), .iaddr 3 (.tmp 113) (.tmp 114)⟩, none, true, [], []⟩, ⟨⟨none, (some 116), .faddr 1 (.tmp 115)⟩, none, true, [], []⟩, ⟨⟨none, (some 117), .load1 (.tmp 116)⟩, none, true, [], []⟩, ⟨⟨none, (some 118), .mov (.tmp 1)⟩, none, true, [], []⟩, ⟨⟨none, (some 119), .mov (.tmp 10)⟩, none, true, [], []⟩, ⟨⟨none, (some 120), .iaddr 3 (.tmp 118) (.tmp 119)⟩, none, true, [], []⟩, ⟨⟨none, (some 121), .faddr 2 (.tmp 120)⟩, none, true, [], []⟩, ⟨⟨none, (some 122), .load1 (.tmp 121)⟩, none, true, [], []⟩, ⟨⟨none, (some 123), .bld [.str [], .str []] [(0, 1, (.tmp 117)), (1, 1, (.tmp 122))]⟩, none, true, [], []⟩, ⟨⟨none, (some 124), .bldS 121 2 1 [.str [], .str []] [(0, 2, (.tmp 123))]⟩, none, true, [], []⟩, ⟨⟨none, (some 125), .app 121 2 (.tmp 112) (.tmp 124)⟩, none, true, [], []⟩, ⟨⟨none, (some 9), .mov (.tmp 125)⟩, none, true, [], []⟩]))
  .skip))))))
  (.ops [⟨none, (some 55), .mov (.tmp 10)⟩, ⟨none, (some 56), .bin .add (.tmp 55) (.lit (.int .i64 (1)))⟩, ⟨none, (some 10), .mov (.tmp 56)⟩]))))))
  (.seq (.ops [⟨none, (some 126), .mov (.tmp 9)⟩, ⟨none, (some 6), .mov (.tmp 126)⟩])
  .ret))))),
  [.tmp 6], none⟩
theorem r75 {m : Int} : resolveF Tryz.prog (cfg m) 75 = some I75 := by kernel_rfl
noncomputable def I76 : IF := ⟨33, (.seq (.ops [⟨none, (some 6), .mov (.lit (.str []))⟩])
  (.seq (.seq (.ops [⟨none, (some 8), .mov (.tmp 2)⟩, ⟨none, (some 9), .bin .eql (.tmp 8) (.lit (.str [120, 109, 108]))⟩])
  (.cond (.tmp 9) (.seq (.ops [⟨none, (some 6), .mov (.lit (.str [104, 116, 116, 112, 58, 47, 47, 119, 119, 119, 46, 119, 51, 46, 111, 114, 103, 47, 88, 77, 76, 47, 49, 57, 57, 56, 47, 110, 97, 109, 101, 115, 112, 97, 99, 101]))⟩])
  .ret)
  .skip))
  (.seq (.seq (.ops [⟨none, (some 10), .mov (.tmp 1)⟩, ⟨none, (some 11), .lenL (.tmp 10)⟩, ⟨none, (some 12), .bin .sub (.tmp 11) (.lit (.int .i64 (1)))⟩, ⟨none, (some 7), .mov (.tmp 12)⟩])
  (.block 0 (.loop (some [0, 1, 2, 7]) (.seq (.seq (.ops [⟨none, (some 13), .mov (.tmp 7)⟩, ⟨none, (some 14), .bin .geq (.tmp 13) (.lit (.int .i64 (0)))⟩])
  (.cond (.tmp 14) .skip
  (.exit 0)))
  (.seq (.block 1 (.seq (.ops [⟨none, (some 17), .mov (.tmp 1)⟩, ⟨none, (some 18), .mov (.tmp 7)⟩, ⟨none, (some 19), .iaddr 2 (.tmp 17) (.tmp 18)⟩, ⟨none, (some 20), .faddr 0 (.tmp 19)⟩, ⟨none, (some 21), .load1 (.tmp 20)⟩, ⟨none, (some 22), .mov (.tmp 2)⟩, ⟨none, (some 23), .bin .eql (.tmp 21) (.tmp 22)⟩])
  (.cond (.tmp 23) (.seq (.ops [⟨none, (some 24), .mov (.tmp 1)⟩, ⟨none, (some 25), .mov (.tmp 7)⟩, ⟨none, (some 26), .iaddr 2 (.tmp 24) (.tmp 25)⟩, ⟨none, (some 27), .faddr 1 (.tmp 26)⟩, ⟨none, (some 28), .load1 (.tmp 27)⟩, ⟨none, (some 6), .mov (.tmp 28)⟩])
  .ret)
  .skip)))
  (.ops [⟨none, (some 15), .mov (.tmp 7)⟩, ⟨none, (some 16), .bin .sub (.tmp 15) (.lit (.int .i64 (1)))⟩, ⟨none, (some 7), .mov (.tmp 16)⟩]))))))
  (.seq (.seq (.ops [⟨none, (some 29), .mov (.tmp 2)⟩, ⟨none, (some 30), .bin .neq (.tmp 29) (.lit (.str []))⟩])
  (.cond (.tmp 30) (.ops [⟨none, (some 31), .mov (.tmp 0)⟩, ⟨none, (some 32), .call 42 [(.tmp 31), (.lit (.int .i64 (12)))]⟩])
  .skip))
  (.seq (.ops [⟨none, (some 6), .mov (.lit (.str []))⟩])
  .ret))))),
  [.tmp 6], none⟩
theorem r76 {m : Int} : resolveF Tryz.prog (cfg m) 76 = some I76 := by kernel_rfl
end Go.Proofs.YtmnajffpmbidiaaGreatDoor.Ic
