/- Parts of one proof. -/
import Derived.Test.YtlimneghgioeaaaGreatDoorMcg
import Derived.Test.YtlimneghgioeaaaGreatDoorMch
import Derived.Test.YtlimneghgioeaaaGreatDoorProg
set_option linter.all false
namespace Go.Proofs.YtlimneghgioeaaaGreatDoor.Ic
open Go Go.Proofs Go.Proofs.YtlimneghgioeaaaGreatDoor.Ev
set_option maxRecDepth 100000
def live : FuncId → Nat → Option (List Tmp)
  | 5, 5 => some [1, 2, 5]
  | 5, 11 => some [1, 2, 6]
  | 6, 5 => some [4, 22, 23, 24]
  | 7, 5 => some [1, 4, 5]
  | 8, 4 => some [2, 3, 5]
  | 8, 9 => some [2, 3, 6]
  | 10, 5 => some [1, 4, 20, 21, 22]
  | 11, 5 => some [1, 4, 5]
  | 11, 15 => some [1, 4, 5, 9, 11]
  | 17, 3 => some [0, 4, 13, 14, 15]
  | 17, 12 => some [0, 4, 35, 36, 37]
  | 17, 18 => some [0, 54, 55, 56]
  | 18, 2 => some [1, 2, 3, 8]
  | 21, 5 => some [0, 3, 4]
  | 23, 2 => some [0, 4]
  | 23, 10 => some [0, 6]
  | 23, 15 => some [0, 7]
  | 23, 19 => some [0, 7, 8, 9]
  | 24, 4 => some [0, 1, 5]
  | 26, 2 => some [1, 4, 17, 18, 19]
  | 29, 2 => some [1, 2, 4, 6]
  | 30, 2 => some [1, 2, 11, 12, 13]
  | 33, 2 => some [1, 2, 6, 11, 12, 13]
  | 35, 3 => some [0, 3, 5, 8, 9]
  | 36, 2 => some [1, 2, 3, 6, 8]
  | 37, 2 => some [0, 1, 5]
  | 38, 4 => some [0, 1, 5]
  | 41, 3 => some [0, 2, 7, 12, 13, 14]
  | 42, 2 => some [0, 1, 7, 8]
  | 43, 1 => some [0, 1]
  | 44, 1 => some [0, 1]
  | 45, 2 => some [0, 2, 4]
  | 46, 1 => some [0, 1]
  | 47, 1 => some [0, 1]
  | 48, 1 => some [0, 1]
  | 49, 1 => some [0, 1]
  | 50, 10 => some [5, 6, 47, 48, 49]
  | 54, 3 => some [0, 3, 4]
  | 58, 10 => some [0, 4, 5, 6]
  | 64, 2 => some [0, 1, 7, 8]
  | 66, 3 => some [3, 7, 8, 9]
  | 67, 3 => some [0, 2, 7, 9, 14, 15, 16]
  | 67, 9 => some [0, 2, 7, 9, 14, 15, 16, 30, 31, 32]
  | 74, 38 => some [175]
  | 76, 36 => some [1, 8, 9, 10, 11, 12, 13, 99, 100, 101]
  | 80, 8 => some [0, 9, 10, 38, 39, 40]
  | 80, 15 => some [0, 9, 10, 13, 38, 39, 40, 53, 54, 55]
  | 88, 10 => some [0, 3, 4, 5]
  | 91, 2 => some [1, 4, 11, 12, 13]
  | 103, 2 => some [0, 1, 7, 8]
  | 108, 1 => some [0, 1, 4]
  | 109, 11 => some [0, 1, 3, 4, 10, 11, 12, 13, 14, 15, 16]
  | 109, 18 => some [0, 1, 3, 4, 10, 11, 12, 13, 17]
  | 110, 5 => some [0, 3, 9, 29, 30]
  | _, _ => none
def keep : FuncId → Bool
  | 83 => true
  | 96 => true
  | _ => false
def libs : FuncId → Option (List AV → Mem → Option (AV × Mem))
  | 9 => some trueLib
  | 14 => some numLib
  | _ => none
def cfg : Cfg := ⟨fun _ => none, libs, live, keep⟩
noncomputable def I2 : IF := ⟨1, (.ops [⟨none, (some 0), .raw (opAt Tryz.f2 0)⟩]),
  [], none⟩
theorem r2 : resolveF Tryz.prog cfg 2 = some I2 := by kernel_rfl
noncomputable def I3 : IF := ⟨33, (.seq (.ops [⟨none, (some 1), .box 25 (.tmp 0)⟩, ⟨none, (some 2), .mov (.lit (.bool false))⟩])
  (.seq (.seq (.ops [⟨none, (some 7), .loadN 5 (.tmp 1)⟩, ⟨none, (some 8), .call 5 [(.tmp 7), (.lit (.int .i64 (3000)))]⟩, ⟨none, (some 9), .bin .lss (.tmp 8) (.lit (.int .i64 (0)))⟩])
  (.cond (.tmp 9) (.seq (.ops [⟨none, (some 2), .mov (.lit (.bool true))⟩])
  .ret)
  .skip))
  (.seq (.ops [⟨none, (some 11), .loadN 5 (.tmp 1)⟩, ⟨none, (some 12), .call 6 [(.tmp 11)]⟩, ⟨none, (some 10), .mov (.tmp 12)⟩, ⟨none, (some 13), .ext (.tmp 10) 0⟩, ⟨none, (some 14), .ext (.tmp 10) 1⟩, ⟨none, (some 3), .mov (.tmp 13)⟩, ⟨none, (some 4), .mov (.tmp 14)⟩])
  (.seq (.ops [⟨none, (some 16), .loadN 5 (.tmp 1)⟩, ⟨none, (some 17), .call 7 [(.tmp 16)]⟩, ⟨none, (some 15), .mov (.tmp 17)⟩, ⟨none, (some 18), .ext (.tmp 15) 0⟩, ⟨none, (some 19), .ext (.tmp 15) 1⟩, ⟨none, (some 5), .mov (.tmp 18)⟩, ⟨none, (some 6), .mov (.tmp 19)⟩])
  (.seq (.ops [⟨none, (some 20), .mov (.tmp 3)⟩, ⟨none, (some 21), .bld [.nilS, .nilS, .nilS] [(2, 1, (.tmp 20))]⟩, ⟨none, (some 22), .mov (.tmp 5)⟩, ⟨none, (some 23), .bld [.nilS, .nilS, .nilS] [(2, 1, (.tmp 22))]⟩, ⟨none, (some 24), .call 8 [(.tmp 21), (.tmp 23)]⟩, ⟨none, (some 25), .mov (.tmp 24)⟩, ⟨(some (25, true)), (some 26), .mov (.tmp 4)⟩, ⟨(some (25, true)), (some 27), .mov (.tmp 6)⟩, ⟨(some (25, true)), (some 28), .bin .eql (.tmp 26) (.tmp 27)⟩, ⟨none, (some 29), .pick (.tmp 25) (.tmp 28) (.lit (.bool false))⟩, ⟨none, (some 30), .mov (.tmp 29)⟩, ⟨(some (30, true)), (some 31), .call 9 []⟩, ⟨none, (some 32), .pick (.tmp 30) (.tmp 31) (.lit (.bool false))⟩, ⟨none, (some 2), .mov (.tmp 32)⟩])
  .ret))))),
  [.tmp 2], none⟩
theorem r3 : resolveF Tryz.prog cfg 3 = some I3 := by kernel_rfl
noncomputable def I5 : IF := ⟨77, (.seq (.ops [⟨none, (some 2), .box 25 (.tmp 0)⟩, ⟨none, (some 4), .mov (.lit (.int .i64 (0)))⟩])
  (.seq (.seq (.ops [⟨none, (some 7), .faddr 0 (.tmp 2)⟩, ⟨none, (some 8), .load1 (.tmp 7)⟩, ⟨none, (some 9), .lenS (.tmp 8)⟩, ⟨none, (some 10), .bin .gtr (.tmp 9) (.lit (.int .i64 (200)))⟩])
  (.cond (.tmp 10) (.seq (.ops [⟨none, (some 4), .mov (.lit (.int .i64 (-1)))⟩])
  .ret)
  .skip))
  (.seq (.ops [⟨none, (some 11), .mov (.tmp 1)⟩, ⟨none, (some 12), .bin .sub (.tmp 11) (.lit (.int .i64 (8)))⟩, ⟨none, (some 13), .faddr 1 (.tmp 2)⟩, ⟨none, (some 14), .load1 (.tmp 13)⟩, ⟨none, (some 15), .lenS (.tmp 14)⟩, ⟨none, (some 16), .bin .sub (.tmp 12) (.tmp 15)⟩, ⟨none, (some 17), .faddr 2 (.tmp 2)⟩, ⟨none, (some 18), .load1 (.tmp 17)⟩, ⟨none, (some 19), .lenS (.tmp 18)⟩, ⟨none, (some 20), .bin .sub (.tmp 16) (.tmp 19)⟩, ⟨none, (some 1), .mov (.tmp 20)⟩])
  (.seq (.seq (.ops [⟨none, (some 5), .mov (.lit (.int .i64 (0)))⟩])
  (.block 0 (.loop (some [1, 2, 5]) (.seq (.seq (.ops [⟨none, (some 21), .mov (.tmp 5)⟩, ⟨none, (some 22), .faddr 3 (.tmp 2)⟩, ⟨none, (some 23), .load1 (.tmp 22)⟩, ⟨none, (some 24), .lenL (.tmp 23)⟩, ⟨none, (some 25), .bin .lss (.tmp 21) (.tmp 24)⟩, ⟨none, (some 26), .mov (.tmp 25)⟩, ⟨(some (26, true)), (some 27), .mov (.tmp 1)⟩, ⟨(some (26, true)), (some 28), .bin .geq (.tmp 27) (.lit (.int .i64 (0)))⟩, ⟨none, (some 29), .pick (.tmp 26) (.tmp 28) (.lit (.bool false))⟩])
  (.cond (.tmp 29) .skip
  (.exit 0)))
  (.seq (.block 1 (.seq (.seq (.ops [⟨none, (some 32), .faddr 3 (.tmp 2)⟩, ⟨none, (some 33), .load1 (.tmp 32)⟩, ⟨none, (some 34), .mov (.tmp 5)⟩, ⟨none, (some 35), .iaddr 3 (.tmp 33) (.tmp 34)⟩, ⟨none, (some 36), .faddr 0 (.tmp 35)⟩, ⟨none, (some 37), .load1 (.tmp 36)⟩, ⟨none, (some 38), .lenS (.tmp 37)⟩, ⟨none, (some 39), .bin .gtr (.tmp 38) (.lit (.int .i64 (200)))⟩])
  (.cond (.tmp 39) (.seq (.ops [⟨none, (some 4), .mov (.lit (.int .i64 (-1)))⟩])
  .ret)
  .skip))
  (.draw [] [⟨⟨none, (some 40), .mov (.tmp 1)⟩, none, true, [], []⟩, ⟨⟨none, (some 41), .bin .sub (.tmp 40) (.lit (.int .i64 (4)))⟩, none, true, [], []⟩, ⟨⟨none, (some 42), .faddr 3 (.tmp 2)⟩, none, true, [], []⟩, ⟨⟨none, (some 43), .load1 (.tmp 42)⟩, none, true, [], []⟩, ⟨⟨none, (some 44), .mov (.tmp 5)⟩, none, true, [], []⟩, ⟨⟨none, (some 45), .iaddr 3 (.tmp 43) (.tmp 44)⟩, none, true, [], []⟩, ⟨⟨none, (some 46), .faddr 1 (.tmp 45)⟩, none, true, [], []⟩, ⟨⟨none, (some 47), .load1 (.tmp 46)⟩, none, true, [], []⟩, ⟨⟨none, (some 48), .lenS (.tmp 47)⟩, none, true, [], []⟩, ⟨⟨none, (some 49), .bin .sub (.tmp 41) (.tmp 48)⟩, none, true, [], []⟩, ⟨⟨none, (some 50), .faddr 3 (.tmp 2)⟩, none, true, [], []⟩, ⟨⟨none, (some 51), .load1 (.tmp 50)⟩, none, true, [], []⟩, ⟨⟨none, (some 52), .mov (.tmp 5)⟩, none, true, [], []⟩, ⟨⟨none, (some 53), .iaddr 3 (.tmp 51) (.tmp 52)⟩, none, true, [], []⟩, ⟨⟨none, (some 54), .faddr 2 (.tmp 53)⟩, none, true, [], []⟩, ⟨⟨none, (some 55), .load1 (.tmp 54)⟩, none, true, [], []⟩, ⟨⟨none, (some 56), .lenS (.tmp 55)⟩, none, true, [], []⟩, ⟨⟨none, (some 57), .bin .sub (.tmp 49) (.tmp 56)⟩, none, true, [], []⟩, ⟨⟨none, (some 1), .mov (.tmp 57)⟩, none, true, [], []⟩])))
  (.ops [⟨none, (some 30), .mov (.tmp 5)⟩, ⟨none, (some 31), .bin .add (.tmp 30) (.lit (.int .i64 (1)))⟩, ⟨none, (some 5), .mov (.tmp 31)⟩]))))))
  (.seq (.seq (.ops [⟨none, (some 6), .mov (.lit (.int .i64 (0)))⟩])
  (.block 2 (.loop (some [1, 2, 6]) (.seq (.seq (.ops [⟨none, (some 58), .mov (.tmp 6)⟩, ⟨none, (some 59), .faddr 4 (.tmp 2)⟩, ⟨none, (some 60), .load1 (.tmp 59)⟩, ⟨none, (some 61), .lenL (.tmp 60)⟩, ⟨none, (some 62), .bin .lss (.tmp 58) (.tmp 61)⟩, ⟨none, (some 63), .mov (.tmp 62)⟩, ⟨(some (63, true)), (some 64), .mov (.tmp 1)⟩, ⟨(some (63, true)), (some 65), .bin .geq (.tmp 64) (.lit (.int .i64 (0)))⟩, ⟨none, (some 66), .pick (.tmp 63) (.tmp 65) (.lit (.bool false))⟩])
  (.cond (.tmp 66) .skip
  (.exit 2)))
  (.seq (.block 3 (.ops [⟨none, (some 69), .faddr 4 (.tmp 2)⟩, ⟨none, (some 70), .load1 (.tmp 69)⟩, ⟨none, (some 71), .mov (.tmp 6)⟩, ⟨none, (some 72), .iaddr 5 (.tmp 70) (.tmp 71)⟩, ⟨none, (some 73), .loadN 5 (.tmp 72)⟩, ⟨none, (some 74), .mov (.tmp 1)⟩, ⟨none, (some 75), .call 5 [(.tmp 73), (.tmp 74)]⟩, ⟨none, (some 1), .mov (.tmp 75)⟩]))
  (.ops [⟨none, (some 67), .mov (.tmp 6)⟩, ⟨none, (some 68), .bin .add (.tmp 67) (.lit (.int .i64 (1)))⟩, ⟨none, (some 6), .mov (.tmp 68)⟩]))))))
  (.seq (.ops [⟨none, (some 76), .mov (.tmp 1)⟩, ⟨none, (some 4), .mov (.tmp 76)⟩])
  .ret)))))),
  [.tmp 4], none⟩
theorem r5 : resolveF Tryz.prog cfg 5 = some I5 := by kernel_rfl
noncomputable def I6 : IF := ⟨89, (.seq (.ops [⟨none, (some 1), .box 25 (.tmp 0)⟩, ⟨none, (some 2), .mov (.lit (.nilS))⟩, ⟨none, (some 3), .mov (.lit (.int .i64 (0)))⟩])
  (.seq (.seq (.ops [⟨none, (some 13), .faddr 0 (.tmp 1)⟩, ⟨none, (some 14), .load1 (.tmp 13)⟩, ⟨none, (some 15), .bin .neq (.tmp 14) (.lit (.str [104, 116, 116, 112, 58, 47, 47, 115, 99, 104, 101, 109, 97, 115, 46, 111, 112, 101, 110, 120, 109, 108, 102, 111, 114, 109, 97, 116, 115, 46, 111, 114, 103, 47, 119, 111, 114, 100, 112, 114, 111, 99, 101, 115, 115, 105, 110, 103, 109, 108, 47, 50, 48, 48, 54, 47, 109, 97, 105, 110]))⟩, ⟨none, (some 16), .mov (.tmp 15)⟩, ⟨(some (16, false)), (some 17), .faddr 1 (.tmp 1)⟩, ⟨(some (16, false)), (some 18), .load1 (.tmp 17)⟩, ⟨(some (16, false)), (some 19), .bin .neq (.tmp 18) (.lit (.str [115, 116, 121, 108, 101, 115]))⟩, ⟨none, (some 20), .pick (.tmp 16) (.lit (.bool true)) (.tmp 19)⟩])
  (.cond (.tmp 20) (.seq (.ops [⟨none, (some 2), .mov (.lit (.nilS))⟩, ⟨none, (some 3), .mov (.lit (.int .i64 (3)))⟩])
  .ret)
  .skip))
  (.seq (.ops [⟨none, (some 4), .mov (.lit (.nilS))⟩])
  (.seq (.seq (.ops [⟨none, (some 21), .faddr 4 (.tmp 1)⟩, ⟨none, (some 22), .load1 (.tmp 21)⟩, ⟨none, (some 23), .lenL (.tmp 22)⟩, ⟨none, (some 24), .mov (.lit (.int .i64 (0)))⟩])
  (.block 0 (.loop (some [4, 22, 23, 24]) (.seq (.ops [⟨none, (some 25), .bin .lss (.tmp 24) (.tmp 23)⟩])
  (.seq (.cond (.tmp 25) .skip
  (.exit 0))
  (.seq (.block 1 (.seq (.ops [⟨none, (some 26), .iaddr 5 (.tmp 22) (.tmp 24)⟩, ⟨none, (some 27), .loadN 5 (.tmp 26)⟩, ⟨none, (some 6), .new 25 [.str [], .str [], .str [], .nilS, .nilS]⟩, ⟨none, none, .store 5 (.tmp 6) (.tmp 27)⟩])
  (.seq (.ops [⟨none, (some 28), .loadN 5 (.tmp 6)⟩, ⟨none, (some 29), .call 12 [(.tmp 28), (.lit (.str [116, 121, 112, 101]))]⟩, ⟨none, (some 7), .mov (.tmp 29)⟩])
  (.seq (.seq (.ops [⟨none, (some 30), .faddr 0 (.tmp 6)⟩, ⟨none, (some 31), .load1 (.tmp 30)⟩, ⟨none, (some 32), .bin .neq (.tmp 31) (.lit (.str [104, 116, 116, 112, 58, 47, 47, 115, 99, 104, 101, 109, 97, 115, 46, 111, 112, 101, 110, 120, 109, 108, 102, 111, 114, 109, 97, 116, 115, 46, 111, 114, 103, 47, 119, 111, 114, 100, 112, 114, 111, 99, 101, 115, 115, 105, 110, 103, 109, 108, 47, 50, 48, 48, 54, 47, 109, 97, 105, 110]))⟩, ⟨none, (some 33), .mov (.tmp 32)⟩, ⟨(some (33, false)), (some 34), .faddr 1 (.tmp 6)⟩, ⟨(some (33, false)), (some 35), .load1 (.tmp 34)⟩, ⟨(some (33, false)), (some 36), .bin .neq (.tmp 35) (.lit (.str [115, 116, 121, 108, 101]))⟩, ⟨none, (some 37), .pick (.tmp 33) (.lit (.bool true)) (.tmp 36)⟩, ⟨none, (some 38), .mov (.tmp 37)⟩, ⟨(some (38, false)), (some 39), .mov (.tmp 7)⟩, ⟨(some (38, false)), (some 40), .bin .neq (.tmp 39) (.lit (.str [112, 97, 114, 97, 103, 114, 97, 112, 104]))⟩, ⟨(some (38, false)), (some 41), .mov (.tmp 40)⟩, ⟨(some (41, true)), (some 42), .mov (.tmp 7)⟩, ⟨(some (41, true)), (some 43), .bin .neq (.tmp 42) (.lit (.str [99, 104, 97, 114, 97, 99, 116, 101, 114]))⟩, ⟨(some (38, false)), (some 44), .pick (.tmp 41) (.tmp 43) (.lit (.bool false))⟩, ⟨none, (some 45), .pick (.tmp 38) (.lit (.bool true)) (.tmp 44)⟩])
  (.cond (.tmp 45) (.exit 1)
  .skip))
  (.seq (.draw [.row [.str [], .str [], .bool false, .int .i64 (0), .int .i64 (0), .int .i64 (0)] 0 49] [⟨⟨none, (some 46), .loadN 5 (.tmp 6)⟩, none, true, [], []⟩, ⟨⟨none, (some 47), .call 12 [(.tmp 46), (.lit (.str [115, 116, 121, 108, 101, 73, 100]))]⟩, none, false, [2, 5, 7], [2, 4, 5, 7]⟩, ⟨⟨none, (some 48), .loadN 5 (.tmp 6)⟩, none, true, [], []⟩, ⟨⟨none, (some 49), .call 13 [(.tmp 48), (.lit (.str [98, 97, 115, 101, 100, 79, 110]))]⟩, none, false, [5, 7], [4, 5, 7]⟩, ⟨⟨none, (some 50), .mov (.tmp 7)⟩, none, true, [], []⟩, ⟨⟨none, (some 51), .bin .eql (.tmp 50) (.lit (.str [99, 104, 97, 114, 97, 99, 116, 101, 114]))⟩, none, true, [], []⟩, ⟨⟨none, (some 52), .bld [.str [], .str [], .bool false, .int .i64 (0), .int .i64 (0), .int .i64 (0)] [(0, 1, (.tmp 47)), (1, 1, (.tmp 49)), (2, 1, (.tmp 51))]⟩, none, true, [], []⟩, ⟨⟨none, (some 8), .mov (.lit (.bad))⟩, (some (0, 48, [.str [], .str [], .bool false, .int .i64 (0), .int .i64 (0), .int .i64 (0)], none)), true, [], []⟩, ⟨⟨none, none, .store 6 (.tmp 8) (.tmp 52)⟩, none, true, [], []⟩])
  (.seq (.seq (.ops [⟨none, (some 54), .loadN 5 (.tmp 6)⟩, ⟨none, (some 55), .call 15 [(.tmp 54), (.lit (.str [112, 80, 114]))]⟩, ⟨none, (some 56), .call 13 [(.tmp 55), (.lit (.str [111, 117, 116, 108, 105, 110, 101, 76, 118, 108]))]⟩, ⟨none, (some 57), .call 14 [(.tmp 56)]⟩, ⟨none, (some 53), .mov (.tmp 57)⟩, ⟨none, (some 58), .ext (.tmp 53) 0⟩, ⟨none, (some 59), .ext (.tmp 53) 1⟩, ⟨none, (some 9), .mov (.tmp 58)⟩, ⟨none, (some 10), .mov (.tmp 59)⟩])
  (.seq (.ops [⟨none, (some 60), .mov (.tmp 10)⟩, ⟨none, (some 61), .mov (.tmp 60)⟩, ⟨(some (61, true)), (some 62), .mov (.tmp 9)⟩, ⟨(some (61, true)), (some 63), .bin .lss (.tmp 62) (.lit (.int .i64 (6)))⟩, ⟨none, (some 64), .pick (.tmp 61) (.tmp 63) (.lit (.bool false))⟩])
  (.cond (.tmp 64) (.ops [⟨none, (some 65), .mov (.tmp 9)⟩, ⟨none, (some 66), .bin .add (.tmp 65) (.lit (.int .i64 (1)))⟩, ⟨none, (some 67), .faddr 5 (.tmp 8)⟩, ⟨none, none, .store 1 (.tmp 67) (.tmp 66)⟩])
  .skip)))
  (.seq (.draw2 7 9 [] [⟨⟨none, (some 68), .loadN 5 (.tmp 6)⟩, none, true, [], []⟩, ⟨⟨none, (some 69), .call 15 [(.tmp 68), (.lit (.str [114, 80, 114]))]⟩, none, false, [3], [3]⟩, ⟨⟨none, (some 70), .call 16 [(.tmp 69), (.lit (.str [98]))]⟩, none, false, [3], [3]⟩, ⟨⟨none, (some 71), .loadN 5 (.tmp 6)⟩, none, true, [], []⟩, ⟨⟨none, (some 72), .call 15 [(.tmp 71), (.lit (.str [114, 80, 114]))]⟩, none, true, [], [6]⟩, ⟨⟨none, (some 73), .call 16 [(.tmp 72), (.lit (.str [105]))]⟩, none, true, [], [6]⟩, ⟨⟨none, (some 74), .faddr 4 (.tmp 8)⟩, none, true, [], []⟩, ⟨⟨none, none, .store 1 (.tmp 74) (.tmp 70)⟩, none, true, [], []⟩, ⟨⟨none, (some 75), .faddr 3 (.tmp 8)⟩, none, true, [], []⟩, ⟨⟨none, none, .store 1 (.tmp 75) (.tmp 73)⟩, none, true, [], []⟩])
  (.ops [⟨none, (some 76), .mov (.tmp 4)⟩, ⟨none, (some 77), .loadN 6 (.tmp 8)⟩, ⟨none, (some 78), .bldS 48 6 1 [.str [], .str [], .bool false, .int .i64 (0), .int .i64 (0), .int .i64 (0)] [(0, 6, (.tmp 77))]⟩, ⟨none, (some 79), .app 48 6 (.tmp 76) (.tmp 78)⟩, ⟨none, (some 4), .mov (.tmp 79)⟩]))))))))
  (.ops [⟨none, (some 80), .bin .add (.tmp 24) (.lit (.int .i64 (1)))⟩, ⟨none, (some 24), .mov (.tmp 80)⟩])))))))
  (.seq (.seq (.ops [⟨none, (some 82), .mov (.tmp 4)⟩, ⟨none, (some 83), .call 17 [(.tmp 82)]⟩, ⟨none, (some 81), .mov (.tmp 83)⟩, ⟨none, (some 84), .ext (.tmp 81) 0⟩, ⟨none, (some 85), .ext (.tmp 81) 1⟩, ⟨none, (some 11), .mov (.tmp 84)⟩, ⟨none, (some 12), .mov (.tmp 85)⟩])
  (.seq (.ops [⟨none, (some 86), .mov (.tmp 12)⟩, ⟨none, (some 87), .bin .neq (.tmp 86) (.lit (.int .i64 (0)))⟩])
  (.cond (.tmp 87) (.seq (.ops [⟨none, (some 2), .mov (.lit (.nilS))⟩, ⟨none, (some 3), .mov (.lit (.int .i64 (17)))⟩])
  .ret)
  .skip)))
  (.seq (.ops [⟨none, (some 88), .mov (.tmp 4)⟩, ⟨none, (some 2), .mov (.tmp 88)⟩, ⟨none, (some 3), .mov (.lit (.int .i64 (0)))⟩])
  .ret)))))),
  [.tmp 2, .tmp 3], none⟩
theorem r6 : resolveF Tryz.prog cfg 6 = some I6 := by kernel_rfl
noncomputable def I7 : IF := ⟨111, (.seq (.ops [⟨none, (some 1), .box 25 (.tmp 0)⟩, ⟨none, (some 2), .mov (.lit (.nilS))⟩, ⟨none, (some 3), .mov (.lit (.int .i64 (0)))⟩])
  (.seq (.seq (.ops [⟨none, (some 19), .faddr 0 (.tmp 1)⟩, ⟨none, (some 20), .load1 (.tmp 19)⟩, ⟨none, (some 21), .bin .neq (.tmp 20) (.lit (.str [104, 116, 116, 112, 58, 47, 47, 115, 99, 104, 101, 109, 97, 115, 46, 111, 112, 101, 110, 120, 109, 108, 102, 111, 114, 109, 97, 116, 115, 46, 111, 114, 103, 47, 119, 111, 114, 100, 112, 114, 111, 99, 101, 115, 115, 105, 110, 103, 109, 108, 47, 50, 48, 48, 54, 47, 109, 97, 105, 110]))⟩, ⟨none, (some 22), .mov (.tmp 21)⟩, ⟨(some (22, false)), (some 23), .faddr 1 (.tmp 1)⟩, ⟨(some (22, false)), (some 24), .load1 (.tmp 23)⟩, ⟨(some (22, false)), (some 25), .bin .neq (.tmp 24) (.lit (.str [115, 116, 121, 108, 101, 115]))⟩, ⟨none, (some 26), .pick (.tmp 22) (.lit (.bool true)) (.tmp 25)⟩])
  (.cond (.tmp 26) (.seq (.ops [⟨none, (some 2), .mov (.lit (.nilS))⟩, ⟨none, (some 3), .mov (.lit (.int .i64 (3)))⟩])
  .ret)
  .skip))
  (.seq (.ops [⟨none, (some 4), .mov (.lit (.nilS))⟩])
  (.seq (.seq (.ops [⟨none, (some 5), .mov (.lit (.int .i64 (0)))⟩])
  (.block 0 (.loop (some [1, 4, 5]) (.seq (.seq (.ops [⟨none, (some 27), .mov (.tmp 5)⟩, ⟨none, (some 28), .faddr 4 (.tmp 1)⟩, ⟨none, (some 29), .load1 (.tmp 28)⟩, ⟨none, (some 30), .lenL (.tmp 29)⟩, ⟨none, (some 31), .bin .lss (.tmp 27) (.tmp 30)⟩])
  (.cond (.tmp 31) .skip
  (.exit 0)))
  (.seq (.block 1 (.seq (.ops [⟨none, (some 34), .faddr 4 (.tmp 1)⟩, ⟨none, (some 35), .load1 (.tmp 34)⟩, ⟨none, (some 36), .mov (.tmp 5)⟩, ⟨none, (some 37), .iaddr 5 (.tmp 35) (.tmp 36)⟩, ⟨none, (some 38), .loadN 5 (.tmp 37)⟩, ⟨none, (some 6), .new 25 [.str [], .str [], .str [], .nilS, .nilS]⟩, ⟨none, none, .store 5 (.tmp 6) (.tmp 38)⟩])
  (.seq (.ops [⟨none, (some 40), .loadN 5 (.tmp 6)⟩, ⟨none, (some 41), .call 18 [(.tmp 40), (.lit (.str [104, 116, 116, 112, 58, 47, 47, 115, 99, 104, 101, 109, 97, 115, 46, 111, 112, 101, 110, 120, 109, 108, 102, 111, 114, 109, 97, 116, 115, 46, 111, 114, 103, 47, 119, 111, 114, 100, 112, 114, 111, 99, 101, 115, 115, 105, 110, 103, 109, 108, 47, 50, 48, 48, 54, 47, 109, 97, 105, 110])), (.lit (.str [116, 121, 112, 101]))]⟩, ⟨none, (some 39), .mov (.tmp 41)⟩, ⟨none, (some 42), .ext (.tmp 39) 0⟩, ⟨none, (some 43), .ext (.tmp 39) 1⟩, ⟨none, (some 7), .mov (.tmp 42)⟩, ⟨none, (some 8), .mov (.tmp 43)⟩])
  (.seq (.seq (.ops [⟨none, (some 44), .faddr 0 (.tmp 6)⟩, ⟨none, (some 45), .load1 (.tmp 44)⟩, ⟨none, (some 46), .bin .neq (.tmp 45) (.lit (.str [104, 116, 116, 112, 58, 47, 47, 115, 99, 104, 101, 109, 97, 115, 46, 111, 112, 101, 110, 120, 109, 108, 102, 111, 114, 109, 97, 116, 115, 46, 111, 114, 103, 47, 119, 111, 114, 100, 112, 114, 111, 99, 101, 115, 115, 105, 110, 103, 109, 108, 47, 50, 48, 48, 54, 47, 109, 97, 105, 110]))⟩, ⟨none, (some 47), .mov (.tmp 46)⟩, ⟨(some (47, false)), (some 48), .faddr 1 (.tmp 6)⟩, ⟨(some (47, false)), (some 49), .load1 (.tmp 48)⟩, ⟨(some (47, false)), (some 50), .bin .neq (.tmp 49) (.lit (.str [115, 116, 121, 108, 101]))⟩, ⟨none, (some 51), .pick (.tmp 47) (.lit (.bool true)) (.tmp 50)⟩, ⟨none, (some 52), .mov (.tmp 51)⟩, ⟨(some (52, false)), (some 53), .mov (.tmp 7)⟩, ⟨(some (52, false)), (some 54), .bin .neq (.tmp 53) (.lit (.str [112, 97, 114, 97, 103, 114, 97, 112, 104]))⟩, ⟨(some (52, false)), (some 55), .mov (.tmp 54)⟩, ⟨(some (55, true)), (some 56), .mov (.tmp 7)⟩, ⟨(some (55, true)), (some 57), .bin .neq (.tmp 56) (.lit (.str [99, 104, 97, 114, 97, 99, 116, 101, 114]))⟩, ⟨(some (52, false)), (some 58), .pick (.tmp 55) (.tmp 57) (.lit (.bool false))⟩, ⟨none, (some 59), .pick (.tmp 52) (.lit (.bool true)) (.tmp 58)⟩])
  (.cond (.tmp 59) (.exit 1)
  .skip))
  (.seq (.ops [⟨none, (some 61), .loadN 5 (.tmp 6)⟩, ⟨none, (some 62), .call 18 [(.tmp 61), (.lit (.str [104, 116, 116, 112, 58, 47, 47, 115, 99, 104, 101, 109, 97, 115, 46, 111, 112, 101, 110, 120, 109, 108, 102, 111, 114, 109, 97, 116, 115, 46, 111, 114, 103, 47, 119, 111, 114, 100, 112, 114, 111, 99, 101, 115, 115, 105, 110, 103, 109, 108, 47, 50, 48, 48, 54, 47, 109, 97, 105, 110])), (.lit (.str [115, 116, 121, 108, 101, 73, 100]))]⟩, ⟨none, (some 60), .mov (.tmp 62)⟩, ⟨none, (some 63), .ext (.tmp 60) 0⟩, ⟨none, (some 64), .ext (.tmp 60) 1⟩, ⟨none, (some 9), .mov (.tmp 63)⟩, ⟨none, (some 10), .mov (.tmp 64)⟩])
  (.seq (.ops [⟨none, (some 65), .mov (.tmp 9)⟩, ⟨none, (some 66), .loadN 5 (.tmp 6)⟩, ⟨none, (some 67), .call 19 [(.tmp 66), (.lit (.str [98, 97, 115, 101, 100, 79, 110]))]⟩, ⟨none, (some 68), .mov (.tmp 7)⟩, ⟨none, (some 69), .bin .eql (.tmp 68) (.lit (.str [99, 104, 97, 114, 97, 99, 116, 101, 114]))⟩, ⟨none, (some 70), .bld [.str [], .str [], .bool false, .int .i64 (0), .int .i64 (0), .int .i64 (0)] [(0, 1, (.tmp 65)), (1, 1, (.tmp 67)), (2, 1, (.tmp 69))]⟩, ⟨none, (some 11), .new 48 [.str [], .str [], .bool false, .int .i64 (0), .int .i64 (0), .int .i64 (0)]⟩, ⟨none, none, .store 6 (.tmp 11) (.tmp 70)⟩])
  (.seq (.ops [⟨none, (some 72), .loadN 5 (.tmp 6)⟩, ⟨none, (some 73), .call 20 [(.tmp 72), (.lit (.str [112, 80, 114]))]⟩, ⟨none, (some 71), .mov (.tmp 73)⟩, ⟨none, (some 74), .ext (.tmp 71) 0⟩, ⟨none, (some 75), .ext (.tmp 71) 1⟩, ⟨none, (some 12), .new 25 [.str [], .str [], .str [], .nilS, .nilS]⟩, ⟨none, none, .store 5 (.tmp 12) (.tmp 74)⟩, ⟨none, (some 13), .mov (.tmp 75)⟩])
  (.seq (.ops [⟨none, (some 76), .loadN 5 (.tmp 12)⟩, ⟨none, (some 77), .call 19 [(.tmp 76), (.lit (.str [111, 117, 116, 108, 105, 110, 101, 76, 118, 108]))]⟩, ⟨none, (some 78), .call 21 [(.tmp 77)]⟩, ⟨none, (some 14), .mov (.tmp 78)⟩])
  (.seq (.seq (.ops [⟨none, (some 79), .mov (.tmp 14)⟩, ⟨none, (some 80), .bin .geq (.tmp 79) (.lit (.int .i64 (0)))⟩, ⟨none, (some 81), .mov (.tmp 80)⟩, ⟨(some (81, true)), (some 82), .mov (.tmp 14)⟩, ⟨(some (81, true)), (some 83), .bin .leq (.tmp 82) (.lit (.int .i64 (5)))⟩, ⟨none, (some 84), .pick (.tmp 81) (.tmp 83) (.lit (.bool false))⟩])
  (.cond (.tmp 84) (.ops [⟨none, (some 85), .mov (.tmp 14)⟩, ⟨none, (some 86), .bin .add (.tmp 85) (.lit (.int .i64 (1)))⟩, ⟨none, (some 87), .faddr 5 (.tmp 11)⟩, ⟨none, none, .store 1 (.tmp 87) (.tmp 86)⟩])
  .skip))
  (.seq (.ops [⟨none, (some 89), .loadN 5 (.tmp 6)⟩, ⟨none, (some 90), .call 20 [(.tmp 89), (.lit (.str [114, 80, 114]))]⟩, ⟨none, (some 88), .mov (.tmp 90)⟩, ⟨none, (some 91), .ext (.tmp 88) 0⟩, ⟨none, (some 92), .ext (.tmp 88) 1⟩, ⟨none, (some 15), .new 25 [.str [], .str [], .str [], .nilS, .nilS]⟩, ⟨none, none, .store 5 (.tmp 15) (.tmp 91)⟩, ⟨none, (some 16), .mov (.tmp 92)⟩])
  (.seq (.draw2 5 7 [] [⟨⟨none, (some 93), .loadN 5 (.tmp 15)⟩, none, true, [], []⟩, ⟨⟨none, (some 94), .call 22 [(.tmp 93), (.lit (.str [98]))]⟩, none, false, [2], [2]⟩, ⟨⟨none, (some 95), .loadN 5 (.tmp 15)⟩, none, true, [], []⟩, ⟨⟨none, (some 96), .call 22 [(.tmp 95), (.lit (.str [105]))]⟩, none, true, [], [4]⟩, ⟨⟨none, (some 97), .faddr 4 (.tmp 11)⟩, none, true, [], []⟩, ⟨⟨none, none, .store 1 (.tmp 97) (.tmp 94)⟩, none, true, [], []⟩, ⟨⟨none, (some 98), .faddr 3 (.tmp 11)⟩, none, true, [], []⟩, ⟨⟨none, none, .store 1 (.tmp 98) (.tmp 96)⟩, none, true, [], []⟩])
  (.ops [⟨none, (some 99), .mov (.tmp 4)⟩, ⟨none, (some 100), .loadN 6 (.tmp 11)⟩, ⟨none, (some 101), .bldS 48 6 1 [.str [], .str [], .bool false, .int .i64 (0), .int .i64 (0), .int .i64 (0)] [(0, 6, (.tmp 100))]⟩, ⟨none, (some 102), .app 48 6 (.tmp 99) (.tmp 101)⟩, ⟨none, (some 4), .mov (.tmp 102)⟩]))))))))))))
  (.ops [⟨none, (some 32), .mov (.tmp 5)⟩, ⟨none, (some 33), .bin .add (.tmp 32) (.lit (.int .i64 (1)))⟩, ⟨none, (some 5), .mov (.tmp 33)⟩]))))))
  (.seq (.ops [⟨none, (some 104), .mov (.tmp 4)⟩, ⟨none, (some 105), .call 23 [(.tmp 104)]⟩, ⟨none, (some 103), .mov (.tmp 105)⟩, ⟨none, (some 106), .ext (.tmp 103) 0⟩, ⟨none, (some 107), .ext (.tmp 103) 1⟩, ⟨none, (some 17), .mov (.tmp 106)⟩, ⟨none, (some 18), .mov (.tmp 107)⟩])
  (.seq (.seq (.ops [⟨none, (some 108), .mov (.tmp 18)⟩, ⟨none, (some 109), .bin .neq (.tmp 108) (.lit (.int .i64 (0)))⟩])
  (.cond (.tmp 109) (.seq (.ops [⟨none, (some 2), .mov (.lit (.nilS))⟩, ⟨none, (some 3), .mov (.lit (.int .i64 (17)))⟩])
  .ret)
  .skip))
  (.seq (.ops [⟨none, (some 110), .mov (.tmp 4)⟩, ⟨none, (some 2), .mov (.tmp 110)⟩, ⟨none, (some 3), .mov (.lit (.int .i64 (0)))⟩])
  .ret))))))),
  [.tmp 2, .tmp 3], none⟩
theorem r7 : resolveF Tryz.prog cfg 7 = some I7 := by kernel_rfl
noncomputable def I8 : IF := ⟨64, (.seq (.ops [⟨none, (some 2), .box 37 (.tmp 0)⟩, ⟨none, (some 3), .box 37 (.tmp 1)⟩, ⟨none, (some 4), .mov (.lit (.bool false))⟩])
  (.seq (.seq (.ops [⟨none, (some 7), .faddr 1 (.tmp 2)⟩, ⟨none, (some 8), .load1 (.tmp 7)⟩, ⟨none, (some 9), .lenL (.tmp 8)⟩, ⟨none, (some 10), .faddr 1 (.tmp 3)⟩, ⟨none, (some 11), .load1 (.tmp 10)⟩, ⟨none, (some 12), .lenL (.tmp 11)⟩, ⟨none, (some 13), .bin .neq (.tmp 9) (.tmp 12)⟩, ⟨none, (some 14), .mov (.tmp 13)⟩, ⟨(some (14, false)), (some 15), .faddr 2 (.tmp 2)⟩, ⟨(some (14, false)), (some 16), .load1 (.tmp 15)⟩, ⟨(some (14, false)), (some 17), .lenL (.tmp 16)⟩, ⟨(some (14, false)), (some 18), .faddr 2 (.tmp 3)⟩, ⟨(some (14, false)), (some 19), .load1 (.tmp 18)⟩, ⟨(some (14, false)), (some 20), .lenL (.tmp 19)⟩, ⟨(some (14, false)), (some 21), .bin .neq (.tmp 17) (.tmp 20)⟩, ⟨none, (some 22), .pick (.tmp 14) (.lit (.bool true)) (.tmp 21)⟩])
  (.cond (.tmp 22) (.seq (.ops [⟨none, (some 4), .mov (.lit (.bool false))⟩])
  .ret)
  .skip))
  (.seq (.seq (.ops [⟨none, (some 5), .mov (.lit (.int .i64 (0)))⟩])
  (.block 0 (.loop (some [2, 3, 5]) (.seq (.seq (.ops [⟨none, (some 23), .mov (.tmp 5)⟩, ⟨none, (some 24), .faddr 1 (.tmp 2)⟩, ⟨none, (some 25), .load1 (.tmp 24)⟩, ⟨none, (some 26), .lenL (.tmp 25)⟩, ⟨none, (some 27), .bin .lss (.tmp 23) (.tmp 26)⟩])
  (.cond (.tmp 27) .skip
  (.exit 0)))
  (.seq (.block 1 (.seq (.draw [] [⟨⟨none, (some 30), .faddr 1 (.tmp 2)⟩, none, true, [], []⟩, ⟨⟨none, (some 31), .load1 (.tmp 30)⟩, none, true, [], []⟩, ⟨⟨none, (some 32), .mov (.tmp 5)⟩, none, true, [], []⟩, ⟨⟨none, (some 33), .iaddr 4 (.tmp 31) (.tmp 32)⟩, none, true, [], []⟩, ⟨⟨none, (some 34), .loadN 4 (.tmp 33)⟩, none, true, [], []⟩, ⟨⟨none, (some 35), .faddr 1 (.tmp 3)⟩, none, true, [], []⟩, ⟨⟨none, (some 36), .load1 (.tmp 35)⟩, none, true, [], []⟩, ⟨⟨none, (some 37), .mov (.tmp 5)⟩, none, true, [], []⟩, ⟨⟨none, (some 38), .iaddr 4 (.tmp 36) (.tmp 37)⟩, none, true, [], []⟩, ⟨⟨none, (some 39), .loadN 4 (.tmp 38)⟩, none, true, [], []⟩, ⟨⟨none, (some 40), .eqS true [(0, 1), (1, 0), (2, 1), (3, 1)] (.tmp 34) (.tmp 39)⟩, none, true, [], []⟩])
  (.cond (.tmp 40) (.seq (.ops [⟨none, (some 4), .mov (.lit (.bool false))⟩])
  .ret)
  .skip)))
  (.ops [⟨none, (some 28), .mov (.tmp 5)⟩, ⟨none, (some 29), .bin .add (.tmp 28) (.lit (.int .i64 (1)))⟩, ⟨none, (some 5), .mov (.tmp 29)⟩]))))))
  (.seq (.seq (.ops [⟨none, (some 6), .mov (.lit (.int .i64 (0)))⟩])
  (.block 2 (.loop (some [2, 3, 6]) (.seq (.seq (.ops [⟨none, (some 41), .mov (.tmp 6)⟩, ⟨none, (some 42), .faddr 2 (.tmp 2)⟩, ⟨none, (some 43), .load1 (.tmp 42)⟩, ⟨none, (some 44), .lenL (.tmp 43)⟩, ⟨none, (some 45), .bin .lss (.tmp 41) (.tmp 44)⟩])
  (.cond (.tmp 45) .skip
  (.exit 2)))
  (.seq (.block 3 (.seq (.draw [] [⟨⟨none, (some 48), .faddr 2 (.tmp 2)⟩, none, true, [], []⟩, ⟨⟨none, (some 49), .load1 (.tmp 48)⟩, none, true, [], []⟩, ⟨⟨none, (some 50), .mov (.tmp 6)⟩, none, true, [], []⟩, ⟨⟨none, (some 51), .iaddr 6 (.tmp 49) (.tmp 50)⟩, none, true, [], []⟩, ⟨⟨none, (some 52), .loadN 6 (.tmp 51)⟩, none, true, [], []⟩, ⟨⟨none, (some 53), .faddr 2 (.tmp 3)⟩, none, true, [], []⟩, ⟨⟨none, (some 54), .load1 (.tmp 53)⟩, none, true, [], []⟩, ⟨⟨none, (some 55), .mov (.tmp 6)⟩, none, true, [], []⟩, ⟨⟨none, (some 56), .iaddr 6 (.tmp 54) (.tmp 55)⟩, none, true, [], []⟩, ⟨⟨none, (some 57), .loadN 6 (.tmp 56)⟩, none, true, [], []⟩, ⟨⟨none, (some 58), .eqS true [(0, 2), (1, 2), (2, 0), (3, 1), (4, 1), (5, 1)] (.tmp 52) (.tmp 57)⟩, none, true, [], []⟩])
  (.cond (.tmp 58) (.seq (.ops [⟨none, (some 4), .mov (.lit (.bool false))⟩])
  .ret)
  .skip)))
  (.ops [⟨none, (some 46), .mov (.tmp 6)⟩, ⟨none, (some 47), .bin .add (.tmp 46) (.lit (.int .i64 (1)))⟩, ⟨none, (some 6), .mov (.tmp 47)⟩]))))))
  (.seq (.ops [⟨none, (some 59), .faddr 0 (.tmp 2)⟩, ⟨none, (some 60), .load1 (.tmp 59)⟩, ⟨none, (some 61), .faddr 0 (.tmp 3)⟩, ⟨none, (some 62), .load1 (.tmp 61)⟩, ⟨none, (some 63), .call 24 [(.tmp 60), (.tmp 62)]⟩, ⟨none, (some 4), .mov (.tmp 63)⟩])
  .ret))))),
  [.tmp 4], none⟩
theorem r8 : resolveF Tryz.prog cfg 8 = some I8 := by kernel_rfl
noncomputable def I10 : IF := ⟨70, (.seq (.ops [⟨none, (some 1), .box 25 (.tmp 0)⟩, ⟨none, (some 2), .mov (.lit (.nilS))⟩, ⟨none, (some 3), .mov (.lit (.int .i64 (0)))⟩])
  (.seq (.seq (.ops [⟨none, (some 11), .faddr 0 (.tmp 1)⟩, ⟨none, (some 12), .load1 (.tmp 11)⟩, ⟨none, (some 13), .bin .neq (.tmp 12) (.lit (.str [104, 116, 116, 112, 58, 47, 47, 115, 99, 104, 101, 109, 97, 115, 46, 111, 112, 101, 110, 120, 109, 108, 102, 111, 114, 109, 97, 116, 115, 46, 111, 114, 103, 47, 119, 111, 114, 100, 112, 114, 111, 99, 101, 115, 115, 105, 110, 103, 109, 108, 47, 50, 48, 48, 54, 47, 109, 97, 105, 110]))⟩, ⟨none, (some 14), .mov (.tmp 13)⟩, ⟨(some (14, false)), (some 15), .faddr 1 (.tmp 1)⟩, ⟨(some (14, false)), (some 16), .load1 (.tmp 15)⟩, ⟨(some (14, false)), (some 17), .bin .neq (.tmp 16) (.lit (.str [110, 117, 109, 98, 101, 114, 105, 110, 103]))⟩, ⟨none, (some 18), .pick (.tmp 14) (.lit (.bool true)) (.tmp 17)⟩])
  (.cond (.tmp 18) (.seq (.ops [⟨none, (some 2), .mov (.lit (.nilS))⟩, ⟨none, (some 3), .mov (.lit (.int .i64 (3)))⟩])
  .ret)
  .skip))
  (.seq (.ops [⟨none, (some 4), .mov (.lit (.nilS))⟩])
  (.seq (.seq (.ops [⟨none, (some 19), .faddr 4 (.tmp 1)⟩, ⟨none, (some 20), .load1 (.tmp 19)⟩, ⟨none, (some 21), .lenL (.tmp 20)⟩, ⟨none, (some 22), .mov (.lit (.int .i64 (0)))⟩])
  (.block 0 (.loop (some [1, 4, 20, 21, 22]) (.seq (.ops [⟨none, (some 23), .bin .lss (.tmp 22) (.tmp 21)⟩])
  (.seq (.cond (.tmp 23) .skip
  (.exit 0))
  (.seq (.block 1 (.seq (.ops [⟨none, (some 24), .iaddr 5 (.tmp 20) (.tmp 22)⟩, ⟨none, (some 25), .loadN 5 (.tmp 24)⟩, ⟨none, (some 6), .new 25 [.str [], .str [], .str [], .nilS, .nilS]⟩, ⟨none, none, .store 5 (.tmp 6) (.tmp 25)⟩])
  (.seq (.seq (.ops [⟨none, (some 26), .faddr 0 (.tmp 6)⟩, ⟨none, (some 27), .load1 (.tmp 26)⟩, ⟨none, (some 28), .bin .neq (.tmp 27) (.lit (.str [104, 116, 116, 112, 58, 47, 47, 115, 99, 104, 101, 109, 97, 115, 46, 111, 112, 101, 110, 120, 109, 108, 102, 111, 114, 109, 97, 116, 115, 46, 111, 114, 103, 47, 119, 111, 114, 100, 112, 114, 111, 99, 101, 115, 115, 105, 110, 103, 109, 108, 47, 50, 48, 48, 54, 47, 109, 97, 105, 110]))⟩, ⟨none, (some 29), .mov (.tmp 28)⟩, ⟨(some (29, false)), (some 30), .faddr 1 (.tmp 6)⟩, ⟨(some (29, false)), (some 31), .load1 (.tmp 30)⟩, ⟨(some (29, false)), (some 32), .bin .neq (.tmp 31) (.lit (.str [110, 117, 109]))⟩, ⟨none, (some 33), .pick (.tmp 29) (.lit (.bool true)) (.tmp 32)⟩])
  (.cond (.tmp 33) (.exit 1)
  .skip))
  (.seq (.draw [.row [.int .i64 (0), .bool false, .int .i64 (0), .int .i64 (0)] 0 64] [⟨⟨none, (some 35), .loadN 5 (.tmp 1)⟩, none, true, [], []⟩, ⟨⟨none, (some 36), .loadN 5 (.tmp 6)⟩, none, true, [], []⟩, ⟨⟨none, (some 37), .call 13 [(.tmp 36), (.lit (.str [97, 98, 115, 116, 114, 97, 99, 116, 78, 117, 109, 73, 100]))]⟩, none, false, [0, 7], [7]⟩, ⟨⟨none, (some 38), .call 26 [(.tmp 35), (.tmp 37)]⟩, none, false, [7], [7]⟩, ⟨⟨none, (some 34), .mov (.tmp 38)⟩, none, true, [], []⟩, ⟨⟨none, (some 39), .ext (.tmp 34) 0⟩, none, true, [], []⟩, ⟨⟨none, (some 40), .ext (.tmp 34) 1⟩, none, true, [], []⟩, ⟨⟨none, (some 7), .mov (.lit (.bad))⟩, (some (0, 63, [.int .i64 (0), .bool false, .int .i64 (0), .int .i64 (0)], none)), true, [], []⟩, ⟨⟨none, none, .store 4 (.tmp 7) (.tmp 39)⟩, none, true, [], []⟩, ⟨⟨none, (some 8), .mov (.tmp 40)⟩, none, true, [], []⟩])
  (.seq (.ops [⟨none, (some 42), .loadN 5 (.tmp 6)⟩, ⟨none, (some 43), .call 12 [(.tmp 42), (.lit (.str [110, 117, 109, 73, 100]))]⟩, ⟨none, (some 44), .call 14 [(.tmp 43)]⟩, ⟨none, (some 41), .mov (.tmp 44)⟩, ⟨none, (some 45), .ext (.tmp 41) 0⟩, ⟨none, (some 46), .ext (.tmp 41) 1⟩, ⟨none, (some 9), .new 3 [.int .i64 (0)]⟩, ⟨none, none, .store 1 (.tmp 9) (.tmp 45)⟩, ⟨none, (some 10), .mov (.tmp 46)⟩])
  (.seq (.ops [⟨none, (some 47), .load1 (.tmp 9)⟩, ⟨none, (some 48), .faddr 0 (.tmp 7)⟩, ⟨none, none, .store 1 (.tmp 48) (.tmp 47)⟩])
  (.seq (.seq (.ops [⟨none, (some 49), .mov (.tmp 8)⟩, ⟨none, (some 50), .un .not (.tmp 49)⟩, ⟨none, (some 51), .mov (.tmp 50)⟩, ⟨(some (51, false)), (some 52), .mov (.tmp 10)⟩, ⟨(some (51, false)), (some 53), .un .not (.tmp 52)⟩, ⟨none, (some 54), .pick (.tmp 51) (.lit (.bool true)) (.tmp 53)⟩, ⟨none, (some 55), .mov (.tmp 54)⟩, ⟨(some (55, false)), (some 56), .load1 (.tmp 9)⟩, ⟨(some (55, false)), (some 57), .bin .lss (.tmp 56) (.lit (.int .i64 (1)))⟩, ⟨none, (some 58), .pick (.tmp 55) (.lit (.bool true)) (.tmp 57)⟩, ⟨none, (some 59), .mov (.tmp 58)⟩, ⟨(some (59, false)), (some 60), .mov (.tmp 4)⟩, ⟨(some (59, false)), (some 61), .mkfn (.func 28) [(.tmp 9)]⟩, ⟨(some (59, false)), (some 62), .call 27 [(.tmp 60), (.tmp 61)]⟩, ⟨none, (some 63), .pick (.tmp 59) (.lit (.bool true)) (.tmp 62)⟩])
  (.cond (.tmp 63) (.seq (.ops [⟨none, (some 2), .mov (.lit (.nilS))⟩, ⟨none, (some 3), .mov (.lit (.int .i64 (18)))⟩])
  .ret)
  .skip))
  (.ops [⟨none, (some 64), .mov (.tmp 4)⟩, ⟨none, (some 65), .loadN 4 (.tmp 7)⟩, ⟨none, (some 66), .bldS 63 4 1 [.int .i64 (0), .bool false, .int .i64 (0), .int .i64 (0)] [(0, 4, (.tmp 65))]⟩, ⟨none, (some 67), .app 63 4 (.tmp 64) (.tmp 66)⟩, ⟨none, (some 4), .mov (.tmp 67)⟩]))))))))
  (.ops [⟨none, (some 68), .bin .add (.tmp 22) (.lit (.int .i64 (1)))⟩, ⟨none, (some 22), .mov (.tmp 68)⟩])))))))
  (.seq (.ops [⟨none, (some 69), .mov (.tmp 4)⟩, ⟨none, (some 2), .mov (.tmp 69)⟩, ⟨none, (some 3), .mov (.lit (.int .i64 (0)))⟩])
  .ret))))),
  [.tmp 2, .tmp 3], none⟩
theorem r10 : resolveF Tryz.prog cfg 10 = some I10 := by kernel_rfl
noncomputable def I11 : IF := ⟨81, (.seq (.ops [⟨none, (some 1), .box 25 (.tmp 0)⟩, ⟨none, (some 2), .mov (.lit (.nilS))⟩, ⟨none, (some 3), .mov (.lit (.int .i64 (0)))⟩])
  (.seq (.seq (.ops [⟨none, (some 12), .faddr 0 (.tmp 1)⟩, ⟨none, (some 13), .load1 (.tmp 12)⟩, ⟨none, (some 14), .bin .neq (.tmp 13) (.lit (.str [104, 116, 116, 112, 58, 47, 47, 115, 99, 104, 101, 109, 97, 115, 46, 111, 112, 101, 110, 120, 109, 108, 102, 111, 114, 109, 97, 116, 115, 46, 111, 114, 103, 47, 119, 111, 114, 100, 112, 114, 111, 99, 101, 115, 115, 105, 110, 103, 109, 108, 47, 50, 48, 48, 54, 47, 109, 97, 105, 110]))⟩, ⟨none, (some 15), .mov (.tmp 14)⟩, ⟨(some (15, false)), (some 16), .faddr 1 (.tmp 1)⟩, ⟨(some (15, false)), (some 17), .load1 (.tmp 16)⟩, ⟨(some (15, false)), (some 18), .bin .neq (.tmp 17) (.lit (.str [110, 117, 109, 98, 101, 114, 105, 110, 103]))⟩, ⟨none, (some 19), .pick (.tmp 15) (.lit (.bool true)) (.tmp 18)⟩])
  (.cond (.tmp 19) (.seq (.ops [⟨none, (some 2), .mov (.lit (.nilS))⟩, ⟨none, (some 3), .mov (.lit (.int .i64 (3)))⟩])
  .ret)
  .skip))
  (.seq (.ops [⟨none, (some 4), .mov (.lit (.nilS))⟩])
  (.seq (.seq (.ops [⟨none, (some 5), .mov (.lit (.int .i64 (0)))⟩])
  (.block 0 (.loop (some [1, 4, 5]) (.seq (.seq (.ops [⟨none, (some 20), .mov (.tmp 5)⟩, ⟨none, (some 21), .faddr 4 (.tmp 1)⟩, ⟨none, (some 22), .load1 (.tmp 21)⟩, ⟨none, (some 23), .lenL (.tmp 22)⟩, ⟨none, (some 24), .bin .lss (.tmp 20) (.tmp 23)⟩])
  (.cond (.tmp 24) .skip
  (.exit 0)))
  (.seq (.block 1 (.seq (.ops [⟨none, (some 27), .faddr 4 (.tmp 1)⟩, ⟨none, (some 28), .load1 (.tmp 27)⟩, ⟨none, (some 29), .mov (.tmp 5)⟩, ⟨none, (some 30), .iaddr 5 (.tmp 28) (.tmp 29)⟩, ⟨none, (some 31), .loadN 5 (.tmp 30)⟩, ⟨none, (some 6), .new 25 [.str [], .str [], .str [], .nilS, .nilS]⟩, ⟨none, none, .store 5 (.tmp 6) (.tmp 31)⟩])
  (.seq (.seq (.ops [⟨none, (some 32), .faddr 0 (.tmp 6)⟩, ⟨none, (some 33), .load1 (.tmp 32)⟩, ⟨none, (some 34), .bin .neq (.tmp 33) (.lit (.str [104, 116, 116, 112, 58, 47, 47, 115, 99, 104, 101, 109, 97, 115, 46, 111, 112, 101, 110, 120, 109, 108, 102, 111, 114, 109, 97, 116, 115, 46, 111, 114, 103, 47, 119, 111, 114, 100, 112, 114, 111, 99, 101, 115, 115, 105, 110, 103, 109, 108, 47, 50, 48, 48, 54, 47, 109, 97, 105, 110]))⟩, ⟨none, (some 35), .mov (.tmp 34)⟩, ⟨(some (35, false)), (some 36), .faddr 1 (.tmp 6)⟩, ⟨(some (35, false)), (some 37), .load1 (.tmp 36)⟩, ⟨(some (35, false)), (some 38), .bin .neq (.tmp 37) (.lit (.str [110, 117, 109]))⟩, ⟨none, (some 39), .pick (.tmp 35) (.lit (.bool true)) (.tmp 38)⟩])
  (.cond (.tmp 39) (.exit 1)
  .skip))
  (.seq (.ops [⟨none, (some 41), .loadN 5 (.tmp 6)⟩, ⟨none, (some 42), .call 18 [(.tmp 41), (.lit (.str [104, 116, 116, 112, 58, 47, 47, 115, 99, 104, 101, 109, 97, 115, 46, 111, 112, 101, 110, 120, 109, 108, 102, 111, 114, 109, 97, 116, 115, 46, 111, 114, 103, 47, 119, 111, 114, 100, 112, 114, 111, 99, 101, 115, 115, 105, 110, 103, 109, 108, 47, 50, 48, 48, 54, 47, 109, 97, 105, 110])), (.lit (.str [110, 117, 109, 73, 100]))]⟩, ⟨none, (some 40), .mov (.tmp 42)⟩, ⟨none, (some 43), .ext (.tmp 40) 0⟩, ⟨none, (some 44), .ext (.tmp 40) 1⟩, ⟨none, (some 7), .mov (.tmp 43)⟩, ⟨none, (some 8), .mov (.tmp 44)⟩])
  (.seq (.draw [.row [.int .i64 (0), .bool false, .int .i64 (0), .int .i64 (0)] 0 64] [⟨⟨none, (some 46), .loadN 5 (.tmp 1)⟩, none, true, [], []⟩, ⟨⟨none, (some 47), .loadN 5 (.tmp 6)⟩, none, true, [], []⟩, ⟨⟨none, (some 48), .call 19 [(.tmp 47), (.lit (.str [97, 98, 115, 116, 114, 97, 99, 116, 78, 117, 109, 73, 100]))]⟩, none, false, [0, 7], [7]⟩, ⟨⟨none, (some 49), .call 29 [(.tmp 46), (.tmp 48)]⟩, none, false, [7], [7]⟩, ⟨⟨none, (some 45), .mov (.tmp 49)⟩, none, true, [], []⟩, ⟨⟨none, (some 50), .ext (.tmp 45) 0⟩, none, true, [], []⟩, ⟨⟨none, (some 51), .ext (.tmp 45) 1⟩, none, true, [], []⟩, ⟨⟨none, (some 9), .mov (.lit (.bad))⟩, (some (0, 63, [.int .i64 (0), .bool false, .int .i64 (0), .int .i64 (0)], none)), true, [], []⟩, ⟨⟨none, none, .store 4 (.tmp 9) (.tmp 50)⟩, none, true, [], []⟩, ⟨⟨none, (some 10), .mov (.tmp 51)⟩, none, true, [], []⟩])
  (.seq (.ops [⟨none, (some 52), .mov (.tmp 7)⟩, ⟨none, (some 53), .call 21 [(.tmp 52)]⟩, ⟨none, (some 54), .faddr 0 (.tmp 9)⟩, ⟨none, none, .store 1 (.tmp 54) (.tmp 53)⟩])
  (.seq (.seq (.ops [⟨none, (some 55), .mov (.tmp 10)⟩, ⟨none, (some 56), .un .not (.tmp 55)⟩, ⟨none, (some 57), .mov (.tmp 56)⟩, ⟨(some (57, false)), (some 58), .faddr 0 (.tmp 9)⟩, ⟨(some (57, false)), (some 59), .load1 (.tmp 58)⟩, ⟨(some (57, false)), (some 60), .bin .lss (.tmp 59) (.lit (.int .i64 (1)))⟩, ⟨none, (some 61), .pick (.tmp 57) (.lit (.bool true)) (.tmp 60)⟩])
  (.cond (.tmp 61) (.seq (.ops [⟨none, (some 2), .mov (.lit (.nilS))⟩, ⟨none, (some 3), .mov (.lit (.int .i64 (18)))⟩])
  .ret)
  .skip))
  (.seq (.seq (.ops [⟨none, (some 11), .mov (.lit (.int .i64 (0)))⟩])
  (.block 2 (.loop (some [1, 4, 5, 9, 11]) (.seq (.seq (.ops [⟨none, (some 62), .mov (.tmp 11)⟩, ⟨none, (some 63), .mov (.tmp 4)⟩, ⟨none, (some 64), .lenL (.tmp 63)⟩, ⟨none, (some 65), .bin .lss (.tmp 62) (.tmp 64)⟩])
  (.cond (.tmp 65) .skip
  (.exit 2)))
  (.seq (.block 3 (.seq (.draw [] [⟨⟨none, (some 68), .mov (.tmp 4)⟩, none, true, [], []⟩, ⟨⟨none, (some 69), .mov (.tmp 11)⟩, none, true, [], []⟩, ⟨⟨none, (some 70), .iaddr 4 (.tmp 68) (.tmp 69)⟩, none, true, [], []⟩, ⟨⟨none, (some 71), .faddr 0 (.tmp 70)⟩, none, true, [], []⟩, ⟨⟨none, (some 72), .load1 (.tmp 71)⟩, none, true, [], []⟩, ⟨⟨none, (some 73), .faddr 0 (.tmp 9)⟩, none, true, [], []⟩, ⟨⟨none, (some 74), .load1 (.tmp 73)⟩, none, true, [], []⟩, ⟨⟨none, (some 75), .bin .eql (.tmp 72) (.tmp 74)⟩, none, true, [], []⟩])
  (.cond (.tmp 75) (.seq (.ops [⟨none, (some 2), .mov (.lit (.nilS))⟩, ⟨none, (some 3), .mov (.lit (.int .i64 (18)))⟩])
  .ret)
  .skip)))
  (.ops [⟨none, (some 66), .mov (.tmp 11)⟩, ⟨none, (some 67), .bin .add (.tmp 66) (.lit (.int .i64 (1)))⟩, ⟨none, (some 11), .mov (.tmp 67)⟩]))))))
  (.ops [⟨none, (some 76), .mov (.tmp 4)⟩, ⟨none, (some 77), .loadN 4 (.tmp 9)⟩, ⟨none, (some 78), .bldS 63 4 1 [.int .i64 (0), .bool false, .int .i64 (0), .int .i64 (0)] [(0, 4, (.tmp 77))]⟩, ⟨none, (some 79), .app 63 4 (.tmp 76) (.tmp 78)⟩, ⟨none, (some 4), .mov (.tmp 79)⟩])))))))))
  (.ops [⟨none, (some 25), .mov (.tmp 5)⟩, ⟨none, (some 26), .bin .add (.tmp 25) (.lit (.int .i64 (1)))⟩, ⟨none, (some 5), .mov (.tmp 26)⟩]))))))
  (.seq (.ops [⟨none, (some 80), .mov (.tmp 4)⟩, ⟨none, (some 2), .mov (.tmp 80)⟩, ⟨none, (some 3), .mov (.lit (.int .i64 (0)))⟩])
  .ret))))),
  [.tmp 2, .tmp 3], none⟩
theorem r11 : resolveF Tryz.prog cfg 11 = some I11 := by kernel_rfl
noncomputable def I12 : IF := ⟨14, (.seq (.ops [⟨none, (some 2), .box 25 (.tmp 0)⟩, ⟨none, (some 4), .mov (.lit (.str []))⟩])
  (.seq (.ops [⟨none, (some 8), .loadN 5 (.tmp 2)⟩, ⟨none, (some 9), .mov (.tmp 1)⟩, ⟨none, (some 10), .call 30 [(.tmp 8), (.lit (.str [104, 116, 116, 112, 58, 47, 47, 115, 99, 104, 101, 109, 97, 115, 46, 111, 112, 101, 110, 120, 109, 108, 102, 111, 114, 109, 97, 116, 115, 46, 111, 114, 103, 47, 119, 111, 114, 100, 112, 114, 111, 99, 101, 115, 115, 105, 110, 103, 109, 108, 47, 50, 48, 48, 54, 47, 109, 97, 105, 110])), (.tmp 9)]⟩, ⟨none, (some 7), .mov (.tmp 10)⟩, ⟨none, (some 11), .ext (.tmp 7) 0⟩, ⟨none, (some 12), .ext (.tmp 7) 1⟩, ⟨none, (some 5), .mov (.tmp 11)⟩, ⟨none, (some 6), .mov (.tmp 12)⟩])
  (.seq (.ops [⟨none, (some 13), .mov (.tmp 5)⟩, ⟨none, (some 4), .mov (.tmp 13)⟩])
  .ret))),
  [.tmp 4], none⟩
theorem r12 : resolveF Tryz.prog cfg 12 = some I12 := by kernel_rfl
noncomputable def I13 : IF := ⟨9, (.seq (.ops [⟨none, (some 2), .box 25 (.tmp 0)⟩, ⟨none, (some 4), .mov (.lit (.str []))⟩])
  (.seq (.ops [⟨none, (some 5), .loadN 5 (.tmp 2)⟩, ⟨none, (some 6), .mov (.tmp 1)⟩, ⟨none, (some 7), .call 15 [(.tmp 5), (.tmp 6)]⟩, ⟨none, (some 8), .call 12 [(.tmp 7), (.lit (.str [118, 97, 108]))]⟩, ⟨none, (some 4), .mov (.tmp 8)⟩])
  .ret)),
  [.tmp 4], none⟩
theorem r13 : resolveF Tryz.prog cfg 13 = some I13 := by kernel_rfl
noncomputable def I15 : IF := ⟨14, (.seq (.ops [⟨none, (some 2), .box 25 (.tmp 0)⟩, ⟨none, (some 4), .new 25 [.str [], .str [], .str [], .nilS, .nilS]⟩])
  (.seq (.ops [⟨none, (some 8), .loadN 5 (.tmp 2)⟩, ⟨none, (some 9), .mov (.tmp 1)⟩, ⟨none, (some 10), .call 33 [(.tmp 8), (.lit (.str [104, 116, 116, 112, 58, 47, 47, 115, 99, 104, 101, 109, 97, 115, 46, 111, 112, 101, 110, 120, 109, 108, 102, 111, 114, 109, 97, 116, 115, 46, 111, 114, 103, 47, 119, 111, 114, 100, 112, 114, 111, 99, 101, 115, 115, 105, 110, 103, 109, 108, 47, 50, 48, 48, 54, 47, 109, 97, 105, 110])), (.tmp 9)]⟩, ⟨none, (some 7), .mov (.tmp 10)⟩, ⟨none, (some 11), .ext (.tmp 7) 0⟩, ⟨none, (some 12), .ext (.tmp 7) 1⟩, ⟨none, (some 5), .new 25 [.str [], .str [], .str [], .nilS, .nilS]⟩, ⟨none, none, .store 5 (.tmp 5) (.tmp 11)⟩, ⟨none, (some 6), .mov (.tmp 12)⟩])
  (.seq (.ops [⟨none, (some 13), .loadN 5 (.tmp 5)⟩, ⟨none, none, .store 5 (.tmp 4) (.tmp 13)⟩])
  .ret))),
  [.cellN 5 4], none⟩
theorem r15 : resolveF Tryz.prog cfg 15 = some I15 := by kernel_rfl
noncomputable def I16 : IF := ⟨21, (.seq (.ops [⟨none, (some 2), .box 25 (.tmp 0)⟩, ⟨none, (some 4), .mov (.lit (.int .i64 (0)))⟩])
  (.seq (.ops [⟨none, (some 8), .loadN 5 (.tmp 2)⟩, ⟨none, (some 9), .mov (.tmp 1)⟩, ⟨none, (some 10), .call 33 [(.tmp 8), (.lit (.str [104, 116, 116, 112, 58, 47, 47, 115, 99, 104, 101, 109, 97, 115, 46, 111, 112, 101, 110, 120, 109, 108, 102, 111, 114, 109, 97, 116, 115, 46, 111, 114, 103, 47, 119, 111, 114, 100, 112, 114, 111, 99, 101, 115, 115, 105, 110, 103, 109, 108, 47, 50, 48, 48, 54, 47, 109, 97, 105, 110])), (.tmp 9)]⟩, ⟨none, (some 7), .mov (.tmp 10)⟩, ⟨none, (some 11), .ext (.tmp 7) 0⟩, ⟨none, (some 12), .ext (.tmp 7) 1⟩, ⟨none, (some 5), .new 25 [.str [], .str [], .str [], .nilS, .nilS]⟩, ⟨none, none, .store 5 (.tmp 5) (.tmp 11)⟩, ⟨none, (some 6), .mov (.tmp 12)⟩])
  (.seq (.seq (.ops [⟨none, (some 13), .mov (.tmp 6)⟩, ⟨none, (some 14), .un .not (.tmp 13)⟩])
  (.cond (.tmp 14) (.seq (.ops [⟨none, (some 4), .mov (.lit (.int .i64 (0)))⟩])
  .ret)
  .skip))
  (.seq (.seq (.ops [⟨none, (some 15), .loadN 5 (.tmp 5)⟩, ⟨none, (some 16), .call 12 [(.tmp 15), (.lit (.str [118, 97, 108]))]⟩])
  (.block 0 (.seq (.seq (.ops [⟨none, (some 18), .bin .eql (.tmp 16) (.lit (.str [48]))⟩, ⟨none, (some 17), .mov (.tmp 18)⟩])
  (.cond (.tmp 17) .skip
  (.seq (.ops [⟨none, (some 19), .bin .eql (.tmp 16) (.lit (.str [102, 97, 108, 115, 101]))⟩, ⟨none, (some 17), .mov (.tmp 19)⟩])
  (.cond (.tmp 17) .skip
  (.ops [⟨none, (some 20), .bin .eql (.tmp 16) (.lit (.str [111, 102, 102]))⟩, ⟨none, (some 17), .mov (.tmp 20)⟩])))))
  (.cond (.tmp 17) (.seq (.ops [⟨none, (some 4), .mov (.lit (.int .i64 (2)))⟩])
  .ret)
  .skip))))
  (.seq (.ops [⟨none, (some 4), .mov (.lit (.int .i64 (1)))⟩])
  .ret))))),
  [.tmp 4], none⟩
theorem r16 : resolveF Tryz.prog cfg 16 = some I16 := by kernel_rfl
noncomputable def I17 : IF := ⟨69, (.seq (.ops [⟨none, (some 2), .mov (.lit (.int .i64 (0)))⟩, ⟨none, (some 3), .mov (.lit (.int .i64 (0)))⟩])
  (.seq (.ops [⟨none, (some 12), .mkm⟩, ⟨none, (some 4), .mov (.tmp 12)⟩])
  (.seq (.seq (.ops [⟨none, (some 13), .mov (.tmp 0)⟩, ⟨none, (some 14), .lenL (.tmp 13)⟩, ⟨none, (some 15), .mov (.lit (.int .i64 (0)))⟩])
  (.block 0 (.loop (some [0, 4, 13, 14, 15]) (.seq (.ops [⟨none, (some 16), .bin .lss (.tmp 15) (.tmp 14)⟩])
  (.seq (.cond (.tmp 16) .skip
  (.exit 0))
  (.seq (.block 1 (.seq (.ops [⟨none, (some 17), .mov (.tmp 15)⟩, ⟨none, (some 18), .iaddr 6 (.tmp 13) (.tmp 15)⟩, ⟨none, (some 19), .loadN 6 (.tmp 18)⟩, ⟨none, (some 6), .new 48 [.str [], .str [], .bool false, .int .i64 (0), .int .i64 (0), .int .i64 (0)]⟩, ⟨none, (some 5), .mov (.tmp 17)⟩, ⟨none, none, .store 6 (.tmp 6) (.tmp 19)⟩])
  (.seq (.seq (.ops [⟨none, (some 20), .loadN 6 (.tmp 6)⟩, ⟨none, (some 21), .call 34 [(.tmp 20)]⟩])
  (.cond (.tmp 21) (.seq (.ops [⟨none, (some 22), .mov (.tmp 5)⟩, ⟨none, (some 2), .mov (.tmp 22)⟩, ⟨none, (some 3), .mov (.lit (.int .i64 (1)))⟩])
  .ret)
  .skip))
  (.seq (.seq (.ops [⟨none, (some 23), .mov (.tmp 4)⟩, ⟨none, (some 24), .faddr 0 (.tmp 6)⟩, ⟨none, (some 25), .load1 (.tmp 24)⟩, ⟨none, (some 26), .lkp .string (.int .i64 (0)) (.tmp 23) (.tmp 25) false⟩, ⟨none, (some 27), .bin .gtr (.tmp 26) (.lit (.int .i64 (0)))⟩])
  (.cond (.tmp 27) (.seq (.ops [⟨none, (some 28), .mov (.tmp 5)⟩, ⟨none, (some 2), .mov (.tmp 28)⟩, ⟨none, (some 3), .mov (.lit (.int .i64 (8)))⟩])
  .ret)
  .skip))
  (.ops [⟨none, (some 29), .mov (.tmp 4)⟩, ⟨none, (some 30), .faddr 0 (.tmp 6)⟩, ⟨none, (some 31), .load1 (.tmp 30)⟩, ⟨none, (some 32), .mov (.tmp 5)⟩, ⟨none, (some 33), .bin .add (.tmp 32) (.lit (.int .i64 (1)))⟩, ⟨none, none, .upd .string (.tmp 29) (.tmp 31) (.tmp 33)⟩])))))
  (.ops [⟨none, (some 34), .bin .add (.tmp 15) (.lit (.int .i64 (1)))⟩, ⟨none, (some 15), .mov (.tmp 34)⟩])))))))
  (.seq (.seq (.ops [⟨none, (some 35), .mov (.tmp 0)⟩, ⟨none, (some 36), .lenL (.tmp 35)⟩, ⟨none, (some 37), .mov (.lit (.int .i64 (0)))⟩])
  (.block 2 (.loop (some [0, 4, 35, 36, 37]) (.seq (.ops [⟨none, (some 38), .bin .lss (.tmp 37) (.tmp 36)⟩])
  (.seq (.cond (.tmp 38) .skip
  (.exit 2))
  (.seq (.block 3 (.seq (.ops [⟨none, (some 39), .mov (.tmp 37)⟩, ⟨none, (some 40), .iaddr 6 (.tmp 35) (.tmp 37)⟩, ⟨none, (some 41), .loadN 6 (.tmp 40)⟩, ⟨none, (some 8), .new 48 [.str [], .str [], .bool false, .int .i64 (0), .int .i64 (0), .int .i64 (0)]⟩, ⟨none, (some 7), .mov (.tmp 39)⟩, ⟨none, none, .store 6 (.tmp 8) (.tmp 41)⟩])
  (.seq (.ops [⟨none, (some 42), .faddr 1 (.tmp 8)⟩, ⟨none, (some 43), .load1 (.tmp 42)⟩, ⟨none, (some 44), .bin .neq (.tmp 43) (.lit (.str []))⟩, ⟨none, (some 45), .mov (.tmp 44)⟩, ⟨(some (45, true)), (some 46), .mov (.tmp 4)⟩, ⟨(some (45, true)), (some 47), .faddr 1 (.tmp 8)⟩, ⟨(some (45, true)), (some 48), .load1 (.tmp 47)⟩, ⟨(some (45, true)), (some 49), .lkp .string (.int .i64 (0)) (.tmp 46) (.tmp 48) false⟩, ⟨(some (45, true)), (some 50), .bin .eql (.tmp 49) (.lit (.int .i64 (0)))⟩, ⟨none, (some 51), .pick (.tmp 45) (.tmp 50) (.lit (.bool false))⟩])
  (.cond (.tmp 51) (.seq (.ops [⟨none, (some 52), .mov (.tmp 7)⟩, ⟨none, (some 2), .mov (.tmp 52)⟩, ⟨none, (some 3), .mov (.lit (.int .i64 (7)))⟩])
  .ret)
  .skip))))
  (.ops [⟨none, (some 53), .bin .add (.tmp 37) (.lit (.int .i64 (1)))⟩, ⟨none, (some 37), .mov (.tmp 53)⟩])))))))
  (.seq (.seq (.ops [⟨none, (some 54), .mov (.tmp 0)⟩, ⟨none, (some 55), .lenL (.tmp 54)⟩, ⟨none, (some 56), .mov (.lit (.int .i64 (0)))⟩])
  (.block 4 (.loop (some [0, 54, 55, 56]) (.seq (.ops [⟨none, (some 57), .bin .lss (.tmp 56) (.tmp 55)⟩])
  (.seq (.cond (.tmp 57) .skip
  (.exit 4))
  (.seq (.block 5 (.seq (.ops [⟨none, (some 58), .mov (.tmp 56)⟩, ⟨none, (some 59), .iaddr 6 (.tmp 54) (.tmp 56)⟩, ⟨none, (some 60), .loadN 6 (.tmp 59)⟩, ⟨none, (some 10), .new 48 [.str [], .str [], .bool false, .int .i64 (0), .int .i64 (0), .int .i64 (0)]⟩, ⟨none, (some 9), .mov (.tmp 58)⟩, ⟨none, none, .store 6 (.tmp 10) (.tmp 60)⟩])
  (.seq (.ops [⟨none, (some 61), .mov (.tmp 0)⟩, ⟨none, (some 62), .loadN 6 (.tmp 10)⟩, ⟨none, (some 63), .call 35 [(.tmp 61), (.tmp 62)]⟩, ⟨none, (some 11), .mov (.tmp 63)⟩])
  (.seq (.ops [⟨none, (some 64), .mov (.tmp 11)⟩, ⟨none, (some 65), .bin .neq (.tmp 64) (.lit (.int .i64 (0)))⟩])
  (.cond (.tmp 65) (.seq (.ops [⟨none, (some 66), .mov (.tmp 9)⟩, ⟨none, (some 67), .mov (.tmp 11)⟩, ⟨none, (some 2), .mov (.tmp 66)⟩, ⟨none, (some 3), .mov (.tmp 67)⟩])
  .ret)
  .skip)))))
  (.ops [⟨none, (some 68), .bin .add (.tmp 56) (.lit (.int .i64 (1)))⟩, ⟨none, (some 56), .mov (.tmp 68)⟩])))))))
  (.seq (.ops [⟨none, (some 2), .mov (.lit (.int .i64 (-1)))⟩, ⟨none, (some 3), .mov (.lit (.int .i64 (0)))⟩])
  .ret)))))),
  [.tmp 2, .tmp 3], none⟩
theorem r17 : resolveF Tryz.prog cfg 17 = some I17 := by kernel_rfl
noncomputable def I18 : IF := ⟨40, (.seq (.ops [⟨none, (some 3), .box 25 (.tmp 0)⟩, ⟨none, (some 6), .mov (.lit (.str []))⟩, ⟨none, (some 7), .mov (.lit (.bool false))⟩])
  (.seq (.seq (.ops [⟨none, (some 8), .mov (.lit (.int .i64 (0)))⟩])
  (.block 0 (.loop (some [1, 2, 3, 8]) (.seq (.seq (.ops [⟨none, (some 9), .mov (.tmp 8)⟩, ⟨none, (some 10), .faddr 3 (.tmp 3)⟩, ⟨none, (some 11), .load1 (.tmp 10)⟩, ⟨none, (some 12), .lenL (.tmp 11)⟩, ⟨none, (some 13), .bin .lss (.tmp 9) (.tmp 12)⟩])
  (.cond (.tmp 13) .skip
  (.exit 0)))
  (.seq (.block 1 (.seq (.ops [⟨none, (some 16), .faddr 3 (.tmp 3)⟩, ⟨none, (some 17), .load1 (.tmp 16)⟩, ⟨none, (some 18), .mov (.tmp 8)⟩, ⟨none, (some 19), .iaddr 3 (.tmp 17) (.tmp 18)⟩, ⟨none, (some 20), .faddr 0 (.tmp 19)⟩, ⟨none, (some 21), .load1 (.tmp 20)⟩, ⟨none, (some 22), .mov (.tmp 1)⟩, ⟨none, (some 23), .bin .eql (.tmp 21) (.tmp 22)⟩, ⟨none, (some 24), .mov (.tmp 23)⟩, ⟨(some (24, true)), (some 25), .faddr 3 (.tmp 3)⟩, ⟨(some (24, true)), (some 26), .load1 (.tmp 25)⟩, ⟨(some (24, true)), (some 27), .mov (.tmp 8)⟩, ⟨(some (24, true)), (some 28), .iaddr 3 (.tmp 26) (.tmp 27)⟩, ⟨(some (24, true)), (some 29), .faddr 1 (.tmp 28)⟩, ⟨(some (24, true)), (some 30), .load1 (.tmp 29)⟩, ⟨(some (24, true)), (some 31), .mov (.tmp 2)⟩, ⟨(some (24, true)), (some 32), .bin .eql (.tmp 30) (.tmp 31)⟩, ⟨none, (some 33), .pick (.tmp 24) (.tmp 32) (.lit (.bool false))⟩])
  (.cond (.tmp 33) (.seq (.ops [⟨none, (some 34), .faddr 3 (.tmp 3)⟩, ⟨none, (some 35), .load1 (.tmp 34)⟩, ⟨none, (some 36), .mov (.tmp 8)⟩, ⟨none, (some 37), .iaddr 3 (.tmp 35) (.tmp 36)⟩, ⟨none, (some 38), .faddr 2 (.tmp 37)⟩, ⟨none, (some 39), .load1 (.tmp 38)⟩, ⟨none, (some 6), .mov (.tmp 39)⟩, ⟨none, (some 7), .mov (.lit (.bool true))⟩])
  .ret)
  .skip)))
  (.ops [⟨none, (some 14), .mov (.tmp 8)⟩, ⟨none, (some 15), .bin .add (.tmp 14) (.lit (.int .i64 (1)))⟩, ⟨none, (some 8), .mov (.tmp 15)⟩]))))))
  (.seq (.ops [⟨none, (some 6), .mov (.lit (.str []))⟩, ⟨none, (some 7), .mov (.lit (.bool false))⟩])
  .ret))),
  [.tmp 6, .tmp 7], none⟩
theorem r18 : resolveF Tryz.prog cfg 18 = some I18 := by kernel_rfl
noncomputable def I19 : IF := ⟨21, (.seq (.ops [⟨none, (some 2), .box 25 (.tmp 0)⟩, ⟨none, (some 4), .mov (.lit (.str []))⟩])
  (.seq (.ops [⟨none, (some 10), .loadN 5 (.tmp 2)⟩, ⟨none, (some 11), .mov (.tmp 1)⟩, ⟨none, (some 12), .call 20 [(.tmp 10), (.tmp 11)]⟩, ⟨none, (some 9), .mov (.tmp 12)⟩, ⟨none, (some 13), .ext (.tmp 9) 0⟩, ⟨none, (some 14), .ext (.tmp 9) 1⟩, ⟨none, (some 5), .new 25 [.str [], .str [], .str [], .nilS, .nilS]⟩, ⟨none, none, .store 5 (.tmp 5) (.tmp 13)⟩, ⟨none, (some 6), .mov (.tmp 14)⟩])
  (.seq (.ops [⟨none, (some 16), .loadN 5 (.tmp 5)⟩, ⟨none, (some 17), .call 18 [(.tmp 16), (.lit (.str [104, 116, 116, 112, 58, 47, 47, 115, 99, 104, 101, 109, 97, 115, 46, 111, 112, 101, 110, 120, 109, 108, 102, 111, 114, 109, 97, 116, 115, 46, 111, 114, 103, 47, 119, 111, 114, 100, 112, 114, 111, 99, 101, 115, 115, 105, 110, 103, 109, 108, 47, 50, 48, 48, 54, 47, 109, 97, 105, 110])), (.lit (.str [118, 97, 108]))]⟩, ⟨none, (some 15), .mov (.tmp 17)⟩, ⟨none, (some 18), .ext (.tmp 15) 0⟩, ⟨none, (some 19), .ext (.tmp 15) 1⟩, ⟨none, (some 7), .mov (.tmp 18)⟩, ⟨none, (some 8), .mov (.tmp 19)⟩])
  (.seq (.ops [⟨none, (some 20), .mov (.tmp 7)⟩, ⟨none, (some 4), .mov (.tmp 20)⟩])
  .ret)))),
  [.tmp 4], none⟩
theorem r19 : resolveF Tryz.prog cfg 19 = some I19 := by kernel_rfl
noncomputable def I20 : IF := ⟨11, (.seq (.ops [⟨none, (some 2), .box 25 (.tmp 0)⟩, ⟨none, (some 4), .new 25 [.str [], .str [], .str [], .nilS, .nilS]⟩, ⟨none, (some 5), .mov (.lit (.bool false))⟩])
  (.seq (.ops [⟨none, (some 6), .loadN 5 (.tmp 2)⟩, ⟨none, (some 7), .mov (.tmp 1)⟩, ⟨none, (some 8), .call 36 [(.tmp 6), (.lit (.str [104, 116, 116, 112, 58, 47, 47, 115, 99, 104, 101, 109, 97, 115, 46, 111, 112, 101, 110, 120, 109, 108, 102, 111, 114, 109, 97, 116, 115, 46, 111, 114, 103, 47, 119, 111, 114, 100, 112, 114, 111, 99, 101, 115, 115, 105, 110, 103, 109, 108, 47, 50, 48, 48, 54, 47, 109, 97, 105, 110])), (.tmp 7)]⟩, ⟨none, (some 9), .ext (.tmp 8) 0⟩, ⟨none, (some 10), .ext (.tmp 8) 1⟩, ⟨none, none, .store 5 (.tmp 4) (.tmp 9)⟩, ⟨none, (some 5), .mov (.tmp 10)⟩])
  .ret)),
  [.cellN 5 4, .tmp 5], none⟩
theorem r20 : resolveF Tryz.prog cfg 20 = some I20 := by kernel_rfl
noncomputable def I21 : IF := ⟨38, (.seq (.ops [⟨none, (some 2), .mov (.lit (.int .i64 (0)))⟩])
  (.seq (.seq (.ops [⟨none, (some 5), .mov (.tmp 0)⟩, ⟨none, (some 6), .lenS (.tmp 5)⟩, ⟨none, (some 7), .bin .lss (.tmp 6) (.lit (.int .i64 (1)))⟩, ⟨none, (some 8), .mov (.tmp 7)⟩, ⟨(some (8, false)), (some 9), .mov (.tmp 0)⟩, ⟨(some (8, false)), (some 10), .lenS (.tmp 9)⟩, ⟨(some (8, false)), (some 11), .bin .gtr (.tmp 10) (.lit (.int .i64 (9)))⟩, ⟨none, (some 12), .pick (.tmp 8) (.lit (.bool true)) (.tmp 11)⟩])
  (.cond (.tmp 12) (.seq (.ops [⟨none, (some 2), .mov (.lit (.int .i64 (-1)))⟩])
  .ret)
  .skip))
  (.seq (.ops [⟨none, (some 3), .mov (.lit (.int .i64 (0)))⟩])
  (.seq (.seq (.ops [⟨none, (some 4), .mov (.lit (.int .i64 (0)))⟩])
  (.block 0 (.loop (some [0, 3, 4]) (.seq (.seq (.ops [⟨none, (some 13), .mov (.tmp 4)⟩, ⟨none, (some 14), .mov (.tmp 0)⟩, ⟨none, (some 15), .lenS (.tmp 14)⟩, ⟨none, (some 16), .bin .lss (.tmp 13) (.tmp 15)⟩])
  (.cond (.tmp 16) .skip
  (.exit 0)))
  (.seq (.block 1 (.seq (.seq (.ops [⟨none, (some 19), .mov (.tmp 0)⟩, ⟨none, (some 20), .mov (.tmp 4)⟩, ⟨none, (some 21), .ixs (.tmp 19) (.tmp 20)⟩, ⟨none, (some 22), .bin .lss (.tmp 21) (.lit (.int .u8 (48)))⟩, ⟨none, (some 23), .mov (.tmp 22)⟩, ⟨(some (23, false)), (some 24), .mov (.tmp 0)⟩, ⟨(some (23, false)), (some 25), .mov (.tmp 4)⟩, ⟨(some (23, false)), (some 26), .ixs (.tmp 24) (.tmp 25)⟩, ⟨(some (23, false)), (some 27), .bin .gtr (.tmp 26) (.lit (.int .u8 (57)))⟩, ⟨none, (some 28), .pick (.tmp 23) (.lit (.bool true)) (.tmp 27)⟩])
  (.cond (.tmp 28) (.seq (.ops [⟨none, (some 2), .mov (.lit (.int .i64 (-1)))⟩])
  .ret)
  .skip))
  (.ops [⟨none, (some 29), .mov (.tmp 3)⟩, ⟨none, (some 30), .bin .mul (.tmp 29) (.lit (.int .i64 (10)))⟩, ⟨none, (some 31), .mov (.tmp 0)⟩, ⟨none, (some 32), .mov (.tmp 4)⟩, ⟨none, (some 33), .ixs (.tmp 31) (.tmp 32)⟩, ⟨none, (some 34), .conv .i64 (.tmp 33)⟩, ⟨none, (some 35), .bin .add (.tmp 30) (.tmp 34)⟩, ⟨none, (some 36), .bin .sub (.tmp 35) (.lit (.int .i64 (48)))⟩, ⟨none, (some 3), .mov (.tmp 36)⟩])))
  (.ops [⟨none, (some 17), .mov (.tmp 4)⟩, ⟨none, (some 18), .bin .add (.tmp 17) (.lit (.int .i64 (1)))⟩, ⟨none, (some 4), .mov (.tmp 18)⟩]))))))
  (.seq (.ops [⟨none, (some 37), .mov (.tmp 3)⟩, ⟨none, (some 2), .mov (.tmp 37)⟩])
  .ret))))),
  [.tmp 2], none⟩
theorem r21 : resolveF Tryz.prog cfg 21 = some I21 := by kernel_rfl
noncomputable def I22 : IF := ⟨32, (.seq (.ops [⟨none, (some 2), .box 25 (.tmp 0)⟩, ⟨none, (some 4), .mov (.lit (.int .i64 (0)))⟩])
  (.seq (.ops [⟨none, (some 10), .loadN 5 (.tmp 2)⟩, ⟨none, (some 11), .mov (.tmp 1)⟩, ⟨none, (some 12), .call 20 [(.tmp 10), (.tmp 11)]⟩, ⟨none, (some 9), .mov (.tmp 12)⟩, ⟨none, (some 13), .ext (.tmp 9) 0⟩, ⟨none, (some 14), .ext (.tmp 9) 1⟩, ⟨none, (some 5), .new 25 [.str [], .str [], .str [], .nilS, .nilS]⟩, ⟨none, none, .store 5 (.tmp 5) (.tmp 13)⟩, ⟨none, (some 6), .mov (.tmp 14)⟩])
  (.seq (.seq (.ops [⟨none, (some 15), .mov (.tmp 6)⟩, ⟨none, (some 16), .un .not (.tmp 15)⟩])
  (.cond (.tmp 16) (.seq (.ops [⟨none, (some 4), .mov (.lit (.int .i64 (0)))⟩])
  .ret)
  .skip))
  (.seq (.ops [⟨none, (some 18), .loadN 5 (.tmp 5)⟩, ⟨none, (some 19), .call 18 [(.tmp 18), (.lit (.str [104, 116, 116, 112, 58, 47, 47, 115, 99, 104, 101, 109, 97, 115, 46, 111, 112, 101, 110, 120, 109, 108, 102, 111, 114, 109, 97, 116, 115, 46, 111, 114, 103, 47, 119, 111, 114, 100, 112, 114, 111, 99, 101, 115, 115, 105, 110, 103, 109, 108, 47, 50, 48, 48, 54, 47, 109, 97, 105, 110])), (.lit (.str [118, 97, 108]))]⟩, ⟨none, (some 17), .mov (.tmp 19)⟩, ⟨none, (some 20), .ext (.tmp 17) 0⟩, ⟨none, (some 21), .ext (.tmp 17) 1⟩, ⟨none, (some 7), .mov (.tmp 20)⟩, ⟨none, (some 8), .mov (.tmp 21)⟩])
  (.seq (.seq (.ops [⟨none, (some 22), .mov (.tmp 7)⟩, ⟨none, (some 23), .bin .eql (.tmp 22) (.lit (.str [48]))⟩, ⟨none, (some 24), .mov (.tmp 23)⟩, ⟨(some (24, false)), (some 25), .mov (.tmp 7)⟩, ⟨(some (24, false)), (some 26), .bin .eql (.tmp 25) (.lit (.str [102, 97, 108, 115, 101]))⟩, ⟨none, (some 27), .pick (.tmp 24) (.lit (.bool true)) (.tmp 26)⟩, ⟨none, (some 28), .mov (.tmp 27)⟩, ⟨(some (28, false)), (some 29), .mov (.tmp 7)⟩, ⟨(some (28, false)), (some 30), .bin .eql (.tmp 29) (.lit (.str [111, 102, 102]))⟩, ⟨none, (some 31), .pick (.tmp 28) (.lit (.bool true)) (.tmp 30)⟩])
  (.cond (.tmp 31) (.seq (.ops [⟨none, (some 4), .mov (.lit (.int .i64 (2)))⟩])
  .ret)
  .skip))
  (.seq (.ops [⟨none, (some 4), .mov (.lit (.int .i64 (1)))⟩])
  .ret)))))),
  [.tmp 4], none⟩
theorem r22 : resolveF Tryz.prog cfg 22 = some I22 := by kernel_rfl
noncomputable def I23 : IF := ⟨143, (.seq (.ops [⟨none, (some 2), .mov (.lit (.int .i64 (0)))⟩, ⟨none, (some 3), .mov (.lit (.int .i64 (0)))⟩])
  (.seq (.seq (.ops [⟨none, (some 4), .mov (.lit (.int .i64 (0)))⟩])
  (.block 0 (.loop (some [0, 4]) (.seq (.seq (.ops [⟨none, (some 11), .mov (.tmp 4)⟩, ⟨none, (some 12), .mov (.tmp 0)⟩, ⟨none, (some 13), .lenL (.tmp 12)⟩, ⟨none, (some 14), .bin .lss (.tmp 11) (.tmp 13)⟩])
  (.cond (.tmp 14) .skip
  (.exit 0)))
  (.seq (.block 1 (.seq (.ops [⟨none, (some 17), .mov (.tmp 0)⟩, ⟨none, (some 18), .mov (.tmp 4)⟩, ⟨none, (some 19), .iaddr 6 (.tmp 17) (.tmp 18)⟩, ⟨none, (some 20), .loadN 6 (.tmp 19)⟩, ⟨none, (some 5), .new 48 [.str [], .str [], .bool false, .int .i64 (0), .int .i64 (0), .int .i64 (0)]⟩, ⟨none, none, .store 6 (.tmp 5) (.tmp 20)⟩])
  (.seq (.seq (.ops [⟨none, (some 21), .faddr 0 (.tmp 5)⟩, ⟨none, (some 22), .load1 (.tmp 21)⟩, ⟨none, (some 23), .bin .eql (.tmp 22) (.lit (.str []))⟩, ⟨none, (some 24), .mov (.tmp 23)⟩, ⟨(some (24, false)), (some 25), .faddr 3 (.tmp 5)⟩, ⟨(some (24, false)), (some 26), .load1 (.tmp 25)⟩, ⟨(some (24, false)), (some 27), .bin .lss (.tmp 26) (.lit (.int .i64 (0)))⟩, ⟨none, (some 28), .pick (.tmp 24) (.lit (.bool true)) (.tmp 27)⟩, ⟨none, (some 29), .mov (.tmp 28)⟩, ⟨(some (29, false)), (some 30), .faddr 3 (.tmp 5)⟩, ⟨(some (29, false)), (some 31), .load1 (.tmp 30)⟩, ⟨(some (29, false)), (some 32), .bin .gtr (.tmp 31) (.lit (.int .i64 (2)))⟩, ⟨none, (some 33), .pick (.tmp 29) (.lit (.bool true)) (.tmp 32)⟩, ⟨none, (some 34), .mov (.tmp 33)⟩, ⟨(some (34, false)), (some 35), .faddr 4 (.tmp 5)⟩, ⟨(some (34, false)), (some 36), .load1 (.tmp 35)⟩, ⟨(some (34, false)), (some 37), .bin .lss (.tmp 36) (.lit (.int .i64 (0)))⟩, ⟨none, (some 38), .pick (.tmp 34) (.lit (.bool true)) (.tmp 37)⟩, ⟨none, (some 39), .mov (.tmp 38)⟩, ⟨(some (39, false)), (some 40), .faddr 4 (.tmp 5)⟩, ⟨(some (39, false)), (some 41), .load1 (.tmp 40)⟩, ⟨(some (39, false)), (some 42), .bin .gtr (.tmp 41) (.lit (.int .i64 (2)))⟩, ⟨none, (some 43), .pick (.tmp 39) (.lit (.bool true)) (.tmp 42)⟩, ⟨none, (some 44), .mov (.tmp 43)⟩, ⟨(some (44, false)), (some 45), .faddr 5 (.tmp 5)⟩, ⟨(some (44, false)), (some 46), .load1 (.tmp 45)⟩, ⟨(some (44, false)), (some 47), .bin .lss (.tmp 46) (.lit (.int .i64 (0)))⟩, ⟨none, (some 48), .pick (.tmp 44) (.lit (.bool true)) (.tmp 47)⟩, ⟨none, (some 49), .mov (.tmp 48)⟩, ⟨(some (49, false)), (some 50), .faddr 5 (.tmp 5)⟩, ⟨(some (49, false)), (some 51), .load1 (.tmp 50)⟩, ⟨(some (49, false)), (some 52), .bin .gtr (.tmp 51) (.lit (.int .i64 (6)))⟩, ⟨none, (some 53), .pick (.tmp 49) (.lit (.bool true)) (.tmp 52)⟩, ⟨none, (some 54), .mov (.tmp 53)⟩, ⟨(some (54, false)), (some 55), .faddr 2 (.tmp 5)⟩, ⟨(some (54, false)), (some 56), .load1 (.tmp 55)⟩, ⟨(some (54, false)), (some 57), .mov (.tmp 56)⟩, ⟨(some (57, true)), (some 58), .faddr 5 (.tmp 5)⟩, ⟨(some (57, true)), (some 59), .load1 (.tmp 58)⟩, ⟨(some (57, true)), (some 60), .bin .neq (.tmp 59) (.lit (.int .i64 (0)))⟩, ⟨(some (54, false)), (some 61), .pick (.tmp 57) (.tmp 60) (.lit (.bool false))⟩, ⟨none, (some 62), .pick (.tmp 54) (.lit (.bool true)) (.tmp 61)⟩])
  (.cond (.tmp 62) (.seq (.ops [⟨none, (some 63), .mov (.tmp 4)⟩, ⟨none, (some 2), .mov (.tmp 63)⟩, ⟨none, (some 3), .mov (.lit (.int .i64 (1)))⟩])
  .ret)
  .skip))
  (.seq (.ops [⟨none, (some 64), .mov (.tmp 0)⟩, ⟨none, (some 65), .faddr 0 (.tmp 5)⟩, ⟨none, (some 66), .load1 (.tmp 65)⟩, ⟨none, (some 67), .call 37 [(.tmp 64), (.tmp 66)]⟩, ⟨none, (some 68), .mov (.tmp 4)⟩, ⟨none, (some 69), .bin .lss (.tmp 67) (.tmp 68)⟩])
  (.cond (.tmp 69) (.seq (.ops [⟨none, (some 70), .mov (.tmp 4)⟩, ⟨none, (some 2), .mov (.tmp 70)⟩, ⟨none, (some 3), .mov (.lit (.int .i64 (8)))⟩])
  .ret)
  .skip)))))
  (.ops [⟨none, (some 15), .mov (.tmp 4)⟩, ⟨none, (some 16), .bin .add (.tmp 15) (.lit (.int .i64 (1)))⟩, ⟨none, (some 4), .mov (.tmp 16)⟩]))))))
  (.seq (.seq (.ops [⟨none, (some 6), .mov (.lit (.int .i64 (0)))⟩])
  (.block 2 (.loop (some [0, 6]) (.seq (.seq (.ops [⟨none, (some 71), .mov (.tmp 6)⟩, ⟨none, (some 72), .mov (.tmp 0)⟩, ⟨none, (some 73), .lenL (.tmp 72)⟩, ⟨none, (some 74), .bin .lss (.tmp 71) (.tmp 73)⟩])
  (.cond (.tmp 74) .skip
  (.exit 2)))
  (.seq (.block 3 (.seq (.ops [⟨none, (some 77), .mov (.tmp 0)⟩, ⟨none, (some 78), .mov (.tmp 6)⟩, ⟨none, (some 79), .iaddr 6 (.tmp 77) (.tmp 78)⟩, ⟨none, (some 80), .faddr 1 (.tmp 79)⟩, ⟨none, (some 81), .load1 (.tmp 80)⟩, ⟨none, (some 82), .bin .neq (.tmp 81) (.lit (.str []))⟩, ⟨none, (some 83), .mov (.tmp 82)⟩, ⟨(some (83, true)), (some 84), .mov (.tmp 0)⟩, ⟨(some (83, true)), (some 85), .mov (.tmp 0)⟩, ⟨(some (83, true)), (some 86), .mov (.tmp 6)⟩, ⟨(some (83, true)), (some 87), .iaddr 6 (.tmp 85) (.tmp 86)⟩, ⟨(some (83, true)), (some 88), .faddr 1 (.tmp 87)⟩, ⟨(some (83, true)), (some 89), .load1 (.tmp 88)⟩, ⟨(some (83, true)), (some 90), .call 37 [(.tmp 84), (.tmp 89)]⟩, ⟨(some (83, true)), (some 91), .bin .lss (.tmp 90) (.lit (.int .i64 (0)))⟩, ⟨none, (some 92), .pick (.tmp 83) (.tmp 91) (.lit (.bool false))⟩])
  (.cond (.tmp 92) (.seq (.ops [⟨none, (some 93), .mov (.tmp 6)⟩, ⟨none, (some 2), .mov (.tmp 93)⟩, ⟨none, (some 3), .mov (.lit (.int .i64 (7)))⟩])
  .ret)
  .skip)))
  (.ops [⟨none, (some 75), .mov (.tmp 6)⟩, ⟨none, (some 76), .bin .add (.tmp 75) (.lit (.int .i64 (1)))⟩, ⟨none, (some 6), .mov (.tmp 76)⟩]))))))
  (.seq (.seq (.ops [⟨none, (some 7), .mov (.lit (.int .i64 (0)))⟩])
  (.block 4 (.loop (some [0, 7]) (.seq (.seq (.ops [⟨none, (some 94), .mov (.tmp 7)⟩, ⟨none, (some 95), .mov (.tmp 0)⟩, ⟨none, (some 96), .lenL (.tmp 95)⟩, ⟨none, (some 97), .bin .lss (.tmp 94) (.tmp 96)⟩])
  (.cond (.tmp 97) .skip
  (.exit 4)))
  (.seq (.block 5 (.seq (.ops [⟨none, (some 100), .mov (.tmp 7)⟩, ⟨none, (some 8), .mov (.tmp 100)⟩])
  (.seq (.ops [⟨none, (some 9), .mov (.lit (.int .i64 (0)))⟩])
  (.block 6 (.loop (some [0, 7, 8, 9]) (.seq (.seq (.ops [⟨none, (some 101), .mov (.tmp 0)⟩, ⟨none, (some 102), .mov (.tmp 8)⟩, ⟨none, (some 103), .iaddr 6 (.tmp 101) (.tmp 102)⟩, ⟨none, (some 104), .faddr 1 (.tmp 103)⟩, ⟨none, (some 105), .load1 (.tmp 104)⟩, ⟨none, (some 106), .bin .neq (.tmp 105) (.lit (.str []))⟩])
  (.cond (.tmp 106) .skip
  (.exit 6)))
  (.seq (.block 7 (.seq (.ops [⟨none, (some 109), .mov (.tmp 0)⟩, ⟨none, (some 110), .mov (.tmp 0)⟩, ⟨none, (some 111), .mov (.tmp 8)⟩, ⟨none, (some 112), .iaddr 6 (.tmp 110) (.tmp 111)⟩, ⟨none, (some 113), .faddr 1 (.tmp 112)⟩, ⟨none, (some 114), .load1 (.tmp 113)⟩, ⟨none, (some 115), .call 37 [(.tmp 109), (.tmp 114)]⟩, ⟨none, (some 10), .mov (.tmp 115)⟩])
  (.seq (.seq (.draw [] [⟨⟨none, (some 116), .mov (.tmp 8)⟩, none, true, [], []⟩, ⟨⟨none, (some 117), .mov (.tmp 7)⟩, none, true, [], []⟩, ⟨⟨none, (some 118), .bin .eql (.tmp 116) (.tmp 117)⟩, none, true, [], []⟩, ⟨⟨none, (some 119), .mov (.tmp 118)⟩, none, true, [], []⟩, ⟨⟨(some (119, true)), (some 120), .mov (.tmp 0)⟩, none, true, [], []⟩, ⟨⟨(some (119, true)), (some 121), .mov (.tmp 10)⟩, none, true, [], []⟩, ⟨⟨(some (119, true)), (some 122), .iaddr 6 (.tmp 120) (.tmp 121)⟩, none, true, [], []⟩, ⟨⟨(some (119, true)), (some 123), .faddr 2 (.tmp 122)⟩, none, true, [], []⟩, ⟨⟨(some (119, true)), (some 124), .load1 (.tmp 123)⟩, none, true, [], []⟩, ⟨⟨(some (119, true)), (some 125), .mov (.tmp 0)⟩, none, true, [], []⟩, ⟨⟨(some (119, true)), (some 126), .mov (.tmp 8)⟩, none, true, [], []⟩, ⟨⟨(some (119, true)), (some 127), .iaddr 6 (.tmp 125) (.tmp 126)⟩, none, true, [], []⟩, ⟨⟨(some (119, true)), (some 128), .faddr 2 (.tmp 127)⟩, none, true, [], []⟩, ⟨⟨(some (119, true)), (some 129), .load1 (.tmp 128)⟩, none, true, [], []⟩, ⟨⟨(some (119, true)), (some 130), .eqb true (.tmp 124) (.tmp 129)⟩, none, true, [], []⟩, ⟨⟨none, (some 131), .pick (.tmp 119) (.tmp 130) (.lit (.bool false))⟩, none, true, [], []⟩, ⟨⟨none, (some 132), .mov (.tmp 131)⟩, none, true, [], []⟩, ⟨⟨(some (132, false)), (some 133), .mov (.tmp 10)⟩, none, true, [], []⟩, ⟨⟨(some (132, false)), (some 134), .mov (.tmp 7)⟩, none, true, [], []⟩, ⟨⟨(some (132, false)), (some 135), .bin .eql (.tmp 133) (.tmp 134)⟩, none, true, [], []⟩, ⟨⟨none, (some 136), .pick (.tmp 132) (.lit (.bool true)) (.tmp 135)⟩, none, true, [], []⟩])
  (.cond (.tmp 136) (.seq (.ops [⟨none, (some 137), .mov (.tmp 7)⟩, ⟨none, (some 2), .mov (.tmp 137)⟩, ⟨none, (some 3), .mov (.lit (.int .i64 (16)))⟩])
  .ret)
  .skip))
  (.seq (.seq (.ops [⟨none, (some 138), .mov (.tmp 9)⟩, ⟨none, (some 139), .mov (.tmp 0)⟩, ⟨none, (some 140), .lenL (.tmp 139)⟩, ⟨none, (some 141), .bin .gtr (.tmp 138) (.tmp 140)⟩])
  (.cond (.tmp 141) (.exit 6)
  .skip))
  (.ops [⟨none, (some 142), .mov (.tmp 10)⟩, ⟨none, (some 8), .mov (.tmp 142)⟩])))))
  (.ops [⟨none, (some 107), .mov (.tmp 9)⟩, ⟨none, (some 108), .bin .add (.tmp 107) (.lit (.int .i64 (1)))⟩, ⟨none, (some 9), .mov (.tmp 108)⟩]))))))))
  (.ops [⟨none, (some 98), .mov (.tmp 7)⟩, ⟨none, (some 99), .bin .add (.tmp 98) (.lit (.int .i64 (1)))⟩, ⟨none, (some 7), .mov (.tmp 99)⟩]))))))
  (.seq (.ops [⟨none, (some 2), .mov (.lit (.int .i64 (-1)))⟩, ⟨none, (some 3), .mov (.lit (.int .i64 (0)))⟩])
  .ret))))),
  [.tmp 2, .tmp 3], none⟩
theorem r23 : resolveF Tryz.prog cfg 23 = some I23 := by kernel_rfl
noncomputable def I24 : IF := ⟨95, (.seq (.ops [⟨none, (some 4), .mov (.lit (.bool false))⟩])
  (.seq (.seq (.ops [⟨none, (some 6), .mov (.tmp 0)⟩, ⟨none, (some 7), .lenL (.tmp 6)⟩, ⟨none, (some 8), .mov (.tmp 1)⟩, ⟨none, (some 9), .lenL (.tmp 8)⟩, ⟨none, (some 10), .bin .neq (.tmp 7) (.tmp 9)⟩])
  (.cond (.tmp 10) (.seq (.ops [⟨none, (some 4), .mov (.lit (.bool false))⟩])
  .ret)
  .skip))
  (.seq (.seq (.ops [⟨none, (some 5), .mov (.lit (.int .i64 (0)))⟩])
  (.block 0 (.loop (some [0, 1, 5]) (.seq (.seq (.ops [⟨none, (some 11), .mov (.tmp 5)⟩, ⟨none, (some 12), .mov (.tmp 0)⟩, ⟨none, (some 13), .lenL (.tmp 12)⟩, ⟨none, (some 14), .bin .lss (.tmp 11) (.tmp 13)⟩])
  (.cond (.tmp 14) .skip
  (.exit 0)))
  (.seq (.block 1 (.seq (.draw [] [⟨⟨none, (some 17), .mov (.tmp 0)⟩, none, true, [], []⟩, ⟨⟨none, (some 18), .mov (.tmp 5)⟩, none, true, [], []⟩, ⟨⟨none, (some 19), .iaddr 6 (.tmp 17) (.tmp 18)⟩, none, true, [], []⟩, ⟨⟨none, (some 20), .faddr 0 (.tmp 19)⟩, none, true, [], []⟩, ⟨⟨none, (some 21), .load1 (.tmp 20)⟩, none, true, [], []⟩, ⟨⟨none, (some 22), .mov (.tmp 1)⟩, none, true, [], []⟩, ⟨⟨none, (some 23), .mov (.tmp 5)⟩, none, true, [], []⟩, ⟨⟨none, (some 24), .iaddr 6 (.tmp 22) (.tmp 23)⟩, none, true, [], []⟩, ⟨⟨none, (some 25), .faddr 0 (.tmp 24)⟩, none, true, [], []⟩, ⟨⟨none, (some 26), .load1 (.tmp 25)⟩, none, true, [], []⟩, ⟨⟨none, (some 27), .bin .neq (.tmp 21) (.tmp 26)⟩, none, true, [], []⟩, ⟨⟨none, (some 28), .mov (.tmp 27)⟩, none, true, [], []⟩, ⟨⟨(some (28, false)), (some 29), .mov (.tmp 0)⟩, none, true, [], []⟩, ⟨⟨(some (28, false)), (some 30), .mov (.tmp 5)⟩, none, true, [], []⟩, ⟨⟨(some (28, false)), (some 31), .iaddr 6 (.tmp 29) (.tmp 30)⟩, none, true, [], []⟩, ⟨⟨(some (28, false)), (some 32), .faddr 1 (.tmp 31)⟩, none, true, [], []⟩, ⟨⟨(some (28, false)), (some 33), .load1 (.tmp 32)⟩, none, true, [], []⟩, ⟨⟨(some (28, false)), (some 34), .mov (.tmp 1)⟩, none, true, [], []⟩, ⟨⟨(some (28, false)), (some 35), .mov (.tmp 5)⟩, none, true, [], []⟩, ⟨⟨(some (28, false)), (some 36), .iaddr 6 (.tmp 34) (.tmp 35)⟩, none, true, [], []⟩, ⟨⟨(some (28, false)), (some 37), .faddr 1 (.tmp 36)⟩, none, true, [], []⟩, ⟨⟨(some (28, false)), (some 38), .load1 (.tmp 37)⟩, none, true, [], []⟩, ⟨⟨(some (28, false)), (some 39), .bin .neq (.tmp 33) (.tmp 38)⟩, none, true, [], []⟩, ⟨⟨none, (some 40), .pick (.tmp 28) (.lit (.bool true)) (.tmp 39)⟩, none, true, [], []⟩, ⟨⟨none, (some 41), .mov (.tmp 40)⟩, none, true, [], []⟩, ⟨⟨(some (41, false)), (some 42), .mov (.tmp 0)⟩, none, true, [], []⟩, ⟨⟨(some (41, false)), (some 43), .mov (.tmp 5)⟩, none, true, [], []⟩, ⟨⟨(some (41, false)), (some 44), .iaddr 6 (.tmp 42) (.tmp 43)⟩, none, true, [], []⟩, ⟨⟨(some (41, false)), (some 45), .faddr 2 (.tmp 44)⟩, none, true, [], []⟩, ⟨⟨(some (41, false)), (some 46), .load1 (.tmp 45)⟩, none, true, [], []⟩, ⟨⟨(some (41, false)), (some 47), .mov (.tmp 1)⟩, none, true, [], []⟩, ⟨⟨(some (41, false)), (some 48), .mov (.tmp 5)⟩, none, true, [], []⟩, ⟨⟨(some (41, false)), (some 49), .iaddr 6 (.tmp 47) (.tmp 48)⟩, none, true, [], []⟩, ⟨⟨(some (41, false)), (some 50), .faddr 2 (.tmp 49)⟩, none, true, [], []⟩, ⟨⟨(some (41, false)), (some 51), .load1 (.tmp 50)⟩, none, true, [], []⟩, ⟨⟨(some (41, false)), (some 52), .bin .neq (.tmp 46) (.tmp 51)⟩, none, true, [], []⟩, ⟨⟨none, (some 53), .pick (.tmp 41) (.lit (.bool true)) (.tmp 52)⟩, none, true, [], []⟩, ⟨⟨none, (some 54), .mov (.tmp 53)⟩, none, true, [], []⟩, ⟨⟨(some (54, false)), (some 55), .mov (.tmp 0)⟩, none, true, [], []⟩, ⟨⟨(some (54, false)), (some 56), .mov (.tmp 5)⟩, none, true, [], []⟩, ⟨⟨(some (54, false)), (some 57), .iaddr 6 (.tmp 55) (.tmp 56)⟩, none, true, [], []⟩, ⟨⟨(some (54, false)), (some 58), .faddr 3 (.tmp 57)⟩, none, true, [], []⟩, ⟨⟨(some (54, false)), (some 59), .load1 (.tmp 58)⟩, none, true, [], []⟩, ⟨⟨(some (54, false)), (some 60), .mov (.tmp 1)⟩, none, true, [], []⟩, ⟨⟨(some (54, false)), (some 61), .mov (.tmp 5)⟩, none, true, [], []⟩, ⟨⟨(some (54, false)), (some 62), .iaddr 6 (.tmp 60) (.tmp 61)⟩, none, true, [], []⟩, ⟨⟨(some (54, false)), (some 63), .faddr 3 (.tmp 62)⟩, none, true, [], []⟩, ⟨⟨(some (54, false)), (some 64), .load1 (.tmp 63)⟩, none, true, [], []⟩, ⟨⟨(some (54, false)), (some 65), .bin .neq (.tmp 59) (.tmp 64)⟩, none, true, [], []⟩, ⟨⟨none, (some 66), .pick (.tmp 54) (.lit (.bool true)) (.tmp 65)⟩, none, true, [], []⟩, ⟨⟨none, (some 67), .mov (.tmp 66)⟩, none, true, [], []⟩, ⟨⟨(some (67, false)), (some 68), .mov (.tmp 0)⟩, none, true, [], []⟩, ⟨⟨(some (67, false)), (some 69), .mov (.tmp 5)⟩, none, true, [], []⟩, ⟨⟨(some (67, false)), (some 70), .iaddr 6 (.tmp 68) (.tmp 69)⟩, none, true, [], []⟩, ⟨⟨(some (67, false)), (some 71), .faddr 4 (.tmp 70)⟩, none, true, [], []⟩, ⟨⟨(some (67, false)), (some 72), .load1 (.tmp 71)⟩, none, true, [], []⟩, ⟨⟨(some (67, false)), (some 73), .mov (.tmp 1)⟩, none, true, [], []⟩, ⟨⟨(some (67, false)), (some 74), .mov (.tmp 5)⟩, none, true, [], []⟩, ⟨⟨(some (67, false)), (some 75), .iaddr 6 (.tmp 73) (.tmp 74)⟩, none, true, [], []⟩, ⟨⟨(some (67, false)), (some 76), .faddr 4 (.tmp 75)⟩, none, true, [], []⟩, ⟨⟨(some (67, false)), (some 77), .load1 (.tmp 76)⟩, none, true, [], []⟩, ⟨⟨(some (67, false)), (some 78), .call 38 [(.tmp 72), (.tmp 77)]⟩, none, true, [], []⟩, ⟨⟨(some (67, false)), (some 79), .un .not (.tmp 78)⟩, none, true, [], []⟩, ⟨⟨none, (some 80), .pick (.tmp 67) (.lit (.bool true)) (.tmp 79)⟩, none, true, [], []⟩, ⟨⟨none, (some 81), .mov (.tmp 80)⟩, none, true, [], []⟩, ⟨⟨(some (81, false)), (some 82), .mov (.tmp 0)⟩, none, true, [], []⟩, ⟨⟨(some (81, false)), (some 83), .mov (.tmp 5)⟩, none, true, [], []⟩, ⟨⟨(some (81, false)), (some 84), .iaddr 6 (.tmp 82) (.tmp 83)⟩, none, true, [], []⟩, ⟨⟨(some (81, false)), (some 85), .faddr 5 (.tmp 84)⟩, none, true, [], []⟩, ⟨⟨(some (81, false)), (some 86), .load1 (.tmp 85)⟩, none, true, [], []⟩, ⟨⟨(some (81, false)), (some 87), .mov (.tmp 1)⟩, none, true, [], []⟩, ⟨⟨(some (81, false)), (some 88), .mov (.tmp 5)⟩, none, true, [], []⟩, ⟨⟨(some (81, false)), (some 89), .iaddr 6 (.tmp 87) (.tmp 88)⟩, none, true, [], []⟩, ⟨⟨(some (81, false)), (some 90), .faddr 5 (.tmp 89)⟩, none, true, [], []⟩, ⟨⟨(some (81, false)), (some 91), .load1 (.tmp 90)⟩, none, true, [], []⟩, ⟨⟨(some (81, false)), (some 92), .call 24 [(.tmp 86), (.tmp 91)]⟩, none, true, [], []⟩, ⟨⟨(some (81, false)), (some 93), .un .not (.tmp 92)⟩, none, true, [], []⟩, ⟨⟨none, (some 94), .pick (.tmp 81) (.lit (.bool true)) (.tmp 93)⟩, none, true, [], []⟩])
  (.cond (.tmp 94) (.seq (.ops [⟨none, (some 4), .mov (.lit (.bool false))⟩])
  .ret)
  .skip)))
  (.ops [⟨none, (some 15), .mov (.tmp 5)⟩, ⟨none, (some 16), .bin .add (.tmp 15) (.lit (.int .i64 (1)))⟩, ⟨none, (some 5), .mov (.tmp 16)⟩]))))))
  (.seq (.ops [⟨none, (some 4), .mov (.lit (.bool true))⟩])
  .ret)))),
  [.tmp 4], none⟩
theorem r24 : resolveF Tryz.prog cfg 24 = some I24 := by kernel_rfl
noncomputable def I26 : IF := ⟨83, (.seq (.ops [⟨none, (some 2), .box 25 (.tmp 0)⟩, ⟨none, (some 4), .new 63 [.int .i64 (0), .bool false, .int .i64 (0), .int .i64 (0)]⟩, ⟨none, (some 5), .mov (.lit (.bool false))⟩])
  (.seq (.seq (.ops [⟨none, (some 16), .faddr 4 (.tmp 2)⟩, ⟨none, (some 17), .load1 (.tmp 16)⟩, ⟨none, (some 18), .lenL (.tmp 17)⟩, ⟨none, (some 19), .mov (.lit (.int .i64 (0)))⟩])
  (.block 0 (.loop (some [1, 4, 17, 18, 19]) (.seq (.ops [⟨none, (some 20), .bin .lss (.tmp 19) (.tmp 18)⟩])
  (.seq (.cond (.tmp 20) .skip
  (.exit 0))
  (.seq (.block 1 (.seq (.ops [⟨none, (some 21), .iaddr 5 (.tmp 17) (.tmp 19)⟩, ⟨none, (some 22), .loadN 5 (.tmp 21)⟩, ⟨none, (some 7), .new 25 [.str [], .str [], .str [], .nilS, .nilS]⟩, ⟨none, none, .store 5 (.tmp 7) (.tmp 22)⟩])
  (.seq (.seq (.ops [⟨none, (some 23), .faddr 0 (.tmp 7)⟩, ⟨none, (some 24), .load1 (.tmp 23)⟩, ⟨none, (some 25), .bin .neq (.tmp 24) (.lit (.str [104, 116, 116, 112, 58, 47, 47, 115, 99, 104, 101, 109, 97, 115, 46, 111, 112, 101, 110, 120, 109, 108, 102, 111, 114, 109, 97, 116, 115, 46, 111, 114, 103, 47, 119, 111, 114, 100, 112, 114, 111, 99, 101, 115, 115, 105, 110, 103, 109, 108, 47, 50, 48, 48, 54, 47, 109, 97, 105, 110]))⟩, ⟨none, (some 26), .mov (.tmp 25)⟩, ⟨(some (26, false)), (some 27), .faddr 1 (.tmp 7)⟩, ⟨(some (26, false)), (some 28), .load1 (.tmp 27)⟩, ⟨(some (26, false)), (some 29), .bin .neq (.tmp 28) (.lit (.str [97, 98, 115, 116, 114, 97, 99, 116, 78, 117, 109]))⟩, ⟨none, (some 30), .pick (.tmp 26) (.lit (.bool true)) (.tmp 29)⟩, ⟨none, (some 31), .mov (.tmp 30)⟩, ⟨(some (31, false)), (some 32), .loadN 5 (.tmp 7)⟩, ⟨(some (31, false)), (some 33), .call 12 [(.tmp 32), (.lit (.str [97, 98, 115, 116, 114, 97, 99, 116, 78, 117, 109, 73, 100]))]⟩, ⟨(some (31, false)), (some 34), .mov (.tmp 1)⟩, ⟨(some (31, false)), (some 35), .bin .neq (.tmp 33) (.tmp 34)⟩, ⟨none, (some 36), .pick (.tmp 31) (.lit (.bool true)) (.tmp 35)⟩])
  (.cond (.tmp 36) (.exit 1)
  .skip))
  (.seq (.ops [⟨none, (some 38), .loadN 5 (.tmp 7)⟩, ⟨none, (some 39), .call 33 [(.tmp 38), (.lit (.str [104, 116, 116, 112, 58, 47, 47, 115, 99, 104, 101, 109, 97, 115, 46, 111, 112, 101, 110, 120, 109, 108, 102, 111, 114, 109, 97, 116, 115, 46, 111, 114, 103, 47, 119, 111, 114, 100, 112, 114, 111, 99, 101, 115, 115, 105, 110, 103, 109, 108, 47, 50, 48, 48, 54, 47, 109, 97, 105, 110])), (.lit (.str [108, 118, 108]))]⟩, ⟨none, (some 37), .mov (.tmp 39)⟩, ⟨none, (some 40), .ext (.tmp 37) 0⟩, ⟨none, (some 41), .ext (.tmp 37) 1⟩, ⟨none, (some 8), .new 25 [.str [], .str [], .str [], .nilS, .nilS]⟩, ⟨none, none, .store 5 (.tmp 8) (.tmp 40)⟩, ⟨none, (some 9), .mov (.tmp 41)⟩])
  (.seq (.ops [⟨none, (some 42), .loadN 5 (.tmp 8)⟩, ⟨none, (some 43), .call 13 [(.tmp 42), (.lit (.str [110, 117, 109, 70, 109, 116]))]⟩, ⟨none, (some 44), .bin .neq (.tmp 43) (.lit (.str [98, 117, 108, 108, 101, 116]))⟩, ⟨none, (some 45), .bld [.int .i64 (0), .bool false, .int .i64 (0), .int .i64 (0)] [(2, 1, (.lit (.int .i64 (1)))), (1, 1, (.tmp 44))]⟩, ⟨none, (some 10), .new 63 [.int .i64 (0), .bool false, .int .i64 (0), .int .i64 (0)]⟩, ⟨none, none, .store 4 (.tmp 10) (.tmp 45)⟩])
  (.seq (.ops [⟨none, (some 47), .loadN 5 (.tmp 8)⟩, ⟨none, (some 48), .call 12 [(.tmp 47), (.lit (.str [105, 108, 118, 108]))]⟩, ⟨none, (some 49), .call 14 [(.tmp 48)]⟩, ⟨none, (some 46), .mov (.tmp 49)⟩, ⟨none, (some 50), .ext (.tmp 46) 0⟩, ⟨none, (some 51), .ext (.tmp 46) 1⟩, ⟨none, (some 11), .mov (.tmp 50)⟩, ⟨none, (some 12), .mov (.tmp 51)⟩])
  (.seq (.ops [⟨none, (some 52), .mov (.tmp 11)⟩, ⟨none, (some 53), .faddr 3 (.tmp 10)⟩, ⟨none, none, .store 1 (.tmp 53) (.tmp 52)⟩])
  (.seq (.ops [⟨none, (some 54), .mov (.tmp 9)⟩, ⟨none, (some 55), .mov (.tmp 54)⟩, ⟨(some (55, true)), (some 56), .mov (.tmp 12)⟩, ⟨none, (some 57), .pick (.tmp 55) (.tmp 56) (.lit (.bool false))⟩, ⟨none, (some 58), .mov (.tmp 57)⟩, ⟨(some (58, true)), (some 59), .mov (.tmp 11)⟩, ⟨(some (58, true)), (some 60), .bin .leq (.tmp 59) (.lit (.int .i64 (8)))⟩, ⟨none, (some 61), .pick (.tmp 58) (.tmp 60) (.lit (.bool false))⟩, ⟨none, (some 13), .mov (.tmp 61)⟩])
  (.seq (.seq (.ops [⟨none, (some 63), .loadN 5 (.tmp 8)⟩, ⟨none, (some 64), .call 33 [(.tmp 63), (.lit (.str [104, 116, 116, 112, 58, 47, 47, 115, 99, 104, 101, 109, 97, 115, 46, 111, 112, 101, 110, 120, 109, 108, 102, 111, 114, 109, 97, 116, 115, 46, 111, 114, 103, 47, 119, 111, 114, 100, 112, 114, 111, 99, 101, 115, 115, 105, 110, 103, 109, 108, 47, 50, 48, 48, 54, 47, 109, 97, 105, 110])), (.lit (.str [115, 116, 97, 114, 116]))]⟩, ⟨none, (some 62), .mov (.tmp 64)⟩, ⟨none, (some 65), .ext (.tmp 62) 0⟩, ⟨none, (some 66), .ext (.tmp 62) 1⟩, ⟨none, (some 14), .new 25 [.str [], .str [], .str [], .nilS, .nilS]⟩, ⟨none, none, .store 5 (.tmp 14) (.tmp 65)⟩, ⟨none, (some 15), .mov (.tmp 66)⟩])
  (.seq (.ops [⟨none, (some 67), .mov (.tmp 15)⟩])
  (.cond (.tmp 67) (.seq (.ops [⟨none, (some 69), .loadN 5 (.tmp 8)⟩, ⟨none, (some 70), .call 13 [(.tmp 69), (.lit (.str [115, 116, 97, 114, 116]))]⟩, ⟨none, (some 71), .call 14 [(.tmp 70)]⟩, ⟨none, (some 68), .mov (.tmp 71)⟩, ⟨none, (some 72), .ext (.tmp 68) 0⟩, ⟨none, (some 73), .ext (.tmp 68) 1⟩, ⟨none, (some 74), .faddr 2 (.tmp 10)⟩, ⟨none, none, .store 1 (.tmp 74) (.tmp 72)⟩, ⟨none, (some 12), .mov (.tmp 73)⟩])
  (.ops [⟨none, (some 75), .mov (.tmp 13)⟩, ⟨none, (some 76), .mov (.tmp 75)⟩, ⟨(some (76, true)), (some 77), .mov (.tmp 12)⟩, ⟨none, (some 78), .pick (.tmp 76) (.tmp 77) (.lit (.bool false))⟩, ⟨none, (some 13), .mov (.tmp 78)⟩]))
  .skip)))
  (.seq (.ops [⟨none, (some 79), .loadN 4 (.tmp 10)⟩, ⟨none, (some 80), .mov (.tmp 13)⟩, ⟨none, none, .store 4 (.tmp 4) (.tmp 79)⟩, ⟨none, (some 5), .mov (.tmp 80)⟩])
  .ret))))))))))
  (.ops [⟨none, (some 81), .bin .add (.tmp 19) (.lit (.int .i64 (1)))⟩, ⟨none, (some 19), .mov (.tmp 81)⟩])))))))
  (.seq (.ops [⟨none, (some 82), .bld [.int .i64 (0), .bool false, .int .i64 (0), .int .i64 (0)] []⟩, ⟨none, none, .store 4 (.tmp 4) (.tmp 82)⟩, ⟨none, (some 5), .mov (.lit (.bool false))⟩])
  .ret))),
  [.cellN 4 4, .tmp 5], none⟩
theorem r26 : resolveF Tryz.prog cfg 26 = some I26 := by kernel_rfl
noncomputable def I27 : IF := ⟨9, (.seq (.ops [⟨none, (some 4), .mov (.lit (.bool false))⟩])
  (.seq (.ops [⟨none, (some 5), .mov (.tmp 0)⟩, ⟨none, (some 6), .mov (.tmp 1)⟩, ⟨none, (some 7), .call 42 [(.tmp 5), (.tmp 6)]⟩, ⟨none, (some 8), .bin .geq (.tmp 7) (.lit (.int .i64 (0)))⟩, ⟨none, (some 4), .mov (.tmp 8)⟩])
  .ret)),
  [.tmp 4], none⟩
theorem r27 : resolveF Tryz.prog cfg 27 = some I27 := by kernel_rfl
noncomputable def I28 : IF := ⟨8, (.seq (.ops [⟨none, (some 2), .box 63 (.tmp 0)⟩, ⟨none, (some 3), .mov (.lit (.bool false))⟩])
  (.seq (.ops [⟨none, (some 4), .faddr 0 (.tmp 2)⟩, ⟨none, (some 5), .load1 (.tmp 4)⟩, ⟨none, (some 6), .load1 (.tmp 1)⟩, ⟨none, (some 7), .bin .eql (.tmp 5) (.tmp 6)⟩, ⟨none, (some 3), .mov (.tmp 7)⟩])
  .ret)),
  [.tmp 3], none⟩
theorem r28 : resolveF Tryz.prog cfg 28 = some I28 := by kernel_rfl
noncomputable def I29 : IF := ⟨91, (.seq (.ops [⟨none, (some 2), .box 25 (.tmp 0)⟩, ⟨none, (some 4), .new 63 [.int .i64 (0), .bool false, .int .i64 (0), .int .i64 (0)]⟩, ⟨none, (some 5), .mov (.lit (.bool false))⟩])
  (.seq (.seq (.ops [⟨none, (some 6), .mov (.lit (.int .i64 (0)))⟩])
  (.block 0 (.loop (some [1, 2, 4, 6]) (.seq (.seq (.ops [⟨none, (some 17), .mov (.tmp 6)⟩, ⟨none, (some 18), .faddr 4 (.tmp 2)⟩, ⟨none, (some 19), .load1 (.tmp 18)⟩, ⟨none, (some 20), .lenL (.tmp 19)⟩, ⟨none, (some 21), .bin .lss (.tmp 17) (.tmp 20)⟩])
  (.cond (.tmp 21) .skip
  (.exit 0)))
  (.seq (.block 1 (.seq (.ops [⟨none, (some 24), .faddr 4 (.tmp 2)⟩, ⟨none, (some 25), .load1 (.tmp 24)⟩, ⟨none, (some 26), .mov (.tmp 6)⟩, ⟨none, (some 27), .iaddr 5 (.tmp 25) (.tmp 26)⟩, ⟨none, (some 28), .loadN 5 (.tmp 27)⟩, ⟨none, (some 7), .new 25 [.str [], .str [], .str [], .nilS, .nilS]⟩, ⟨none, none, .store 5 (.tmp 7) (.tmp 28)⟩])
  (.seq (.ops [⟨none, (some 30), .loadN 5 (.tmp 7)⟩, ⟨none, (some 31), .call 18 [(.tmp 30), (.lit (.str [104, 116, 116, 112, 58, 47, 47, 115, 99, 104, 101, 109, 97, 115, 46, 111, 112, 101, 110, 120, 109, 108, 102, 111, 114, 109, 97, 116, 115, 46, 111, 114, 103, 47, 119, 111, 114, 100, 112, 114, 111, 99, 101, 115, 115, 105, 110, 103, 109, 108, 47, 50, 48, 48, 54, 47, 109, 97, 105, 110])), (.lit (.str [97, 98, 115, 116, 114, 97, 99, 116, 78, 117, 109, 73, 100]))]⟩, ⟨none, (some 29), .mov (.tmp 31)⟩, ⟨none, (some 32), .ext (.tmp 29) 0⟩, ⟨none, (some 33), .ext (.tmp 29) 1⟩, ⟨none, (some 8), .mov (.tmp 32)⟩, ⟨none, (some 9), .mov (.tmp 33)⟩])
  (.seq (.seq (.ops [⟨none, (some 34), .faddr 0 (.tmp 7)⟩, ⟨none, (some 35), .load1 (.tmp 34)⟩, ⟨none, (some 36), .bin .neq (.tmp 35) (.lit (.str [104, 116, 116, 112, 58, 47, 47, 115, 99, 104, 101, 109, 97, 115, 46, 111, 112, 101, 110, 120, 109, 108, 102, 111, 114, 109, 97, 116, 115, 46, 111, 114, 103, 47, 119, 111, 114, 100, 112, 114, 111, 99, 101, 115, 115, 105, 110, 103, 109, 108, 47, 50, 48, 48, 54, 47, 109, 97, 105, 110]))⟩, ⟨none, (some 37), .mov (.tmp 36)⟩, ⟨(some (37, false)), (some 38), .faddr 1 (.tmp 7)⟩, ⟨(some (37, false)), (some 39), .load1 (.tmp 38)⟩, ⟨(some (37, false)), (some 40), .bin .neq (.tmp 39) (.lit (.str [97, 98, 115, 116, 114, 97, 99, 116, 78, 117, 109]))⟩, ⟨none, (some 41), .pick (.tmp 37) (.lit (.bool true)) (.tmp 40)⟩, ⟨none, (some 42), .mov (.tmp 41)⟩, ⟨(some (42, false)), (some 43), .mov (.tmp 8)⟩, ⟨(some (42, false)), (some 44), .mov (.tmp 1)⟩, ⟨(some (42, false)), (some 45), .bin .neq (.tmp 43) (.tmp 44)⟩, ⟨none, (some 46), .pick (.tmp 42) (.lit (.bool true)) (.tmp 45)⟩])
  (.cond (.tmp 46) (.exit 1)
  .skip))
  (.seq (.ops [⟨none, (some 48), .loadN 5 (.tmp 7)⟩, ⟨none, (some 49), .call 20 [(.tmp 48), (.lit (.str [108, 118, 108]))]⟩, ⟨none, (some 47), .mov (.tmp 49)⟩, ⟨none, (some 50), .ext (.tmp 47) 0⟩, ⟨none, (some 51), .ext (.tmp 47) 1⟩, ⟨none, (some 10), .new 25 [.str [], .str [], .str [], .nilS, .nilS]⟩, ⟨none, none, .store 5 (.tmp 10) (.tmp 50)⟩, ⟨none, (some 11), .mov (.tmp 51)⟩])
  (.seq (.ops [⟨none, (some 53), .loadN 5 (.tmp 10)⟩, ⟨none, (some 54), .call 18 [(.tmp 53), (.lit (.str [104, 116, 116, 112, 58, 47, 47, 115, 99, 104, 101, 109, 97, 115, 46, 111, 112, 101, 110, 120, 109, 108, 102, 111, 114, 109, 97, 116, 115, 46, 111, 114, 103, 47, 119, 111, 114, 100, 112, 114, 111, 99, 101, 115, 115, 105, 110, 103, 109, 108, 47, 50, 48, 48, 54, 47, 109, 97, 105, 110])), (.lit (.str [105, 108, 118, 108]))]⟩, ⟨none, (some 52), .mov (.tmp 54)⟩, ⟨none, (some 55), .ext (.tmp 52) 0⟩, ⟨none, (some 56), .ext (.tmp 52) 1⟩, ⟨none, (some 12), .mov (.tmp 55)⟩, ⟨none, (some 13), .mov (.tmp 56)⟩])
  (.seq (.draw [.row [.int .i64 (0), .bool false, .int .i64 (0), .int .i64 (0)] 0 64] [⟨⟨none, (some 57), .mov (.tmp 12)⟩, none, true, [], []⟩, ⟨⟨none, (some 58), .call 21 [(.tmp 57)]⟩, none, false, [2, 6], [2, 6]⟩, ⟨⟨none, (some 59), .loadN 5 (.tmp 10)⟩, none, true, [], []⟩, ⟨⟨none, (some 60), .call 19 [(.tmp 59), (.lit (.str [110, 117, 109, 70, 109, 116]))]⟩, none, false, [6], [6]⟩, ⟨⟨none, (some 61), .bin .neq (.tmp 60) (.lit (.str [98, 117, 108, 108, 101, 116]))⟩, none, true, [], []⟩, ⟨⟨none, (some 62), .bld [.int .i64 (0), .bool false, .int .i64 (0), .int .i64 (0)] [(3, 1, (.tmp 58)), (2, 1, (.lit (.int .i64 (1)))), (1, 1, (.tmp 61))]⟩, none, true, [], []⟩, ⟨⟨none, (some 14), .mov (.lit (.bad))⟩, (some (0, 63, [.int .i64 (0), .bool false, .int .i64 (0), .int .i64 (0)], none)), true, [], []⟩, ⟨⟨none, none, .store 4 (.tmp 14) (.tmp 62)⟩, none, true, [], []⟩])
  (.seq (.ops [⟨none, (some 64), .loadN 5 (.tmp 10)⟩, ⟨none, (some 65), .call 20 [(.tmp 64), (.lit (.str [115, 116, 97, 114, 116]))]⟩, ⟨none, (some 63), .mov (.tmp 65)⟩, ⟨none, (some 66), .ext (.tmp 63) 0⟩, ⟨none, (some 67), .ext (.tmp 63) 1⟩, ⟨none, (some 15), .new 25 [.str [], .str [], .str [], .nilS, .nilS]⟩, ⟨none, none, .store 5 (.tmp 15) (.tmp 66)⟩, ⟨none, (some 16), .mov (.tmp 67)⟩])
  (.seq (.seq (.ops [⟨none, (some 68), .mov (.tmp 16)⟩])
  (.cond (.tmp 68) (.ops [⟨none, (some 69), .loadN 5 (.tmp 10)⟩, ⟨none, (some 70), .call 19 [(.tmp 69), (.lit (.str [115, 116, 97, 114, 116]))]⟩, ⟨none, (some 71), .call 21 [(.tmp 70)]⟩, ⟨none, (some 72), .faddr 2 (.tmp 14)⟩, ⟨none, none, .store 1 (.tmp 72) (.tmp 71)⟩])
  .skip))
  (.seq (.draw [] [⟨⟨none, (some 73), .loadN 4 (.tmp 14)⟩, none, true, [], []⟩, ⟨⟨none, (some 74), .mov (.tmp 11)⟩, none, true, [], []⟩, ⟨⟨none, (some 75), .mov (.tmp 74)⟩, none, true, [], []⟩, ⟨⟨(some (75, true)), (some 76), .faddr 3 (.tmp 14)⟩, none, true, [], []⟩, ⟨⟨(some (75, true)), (some 77), .load1 (.tmp 76)⟩, none, true, [], []⟩, ⟨⟨(some (75, true)), (some 78), .bin .geq (.tmp 77) (.lit (.int .i64 (0)))⟩, none, true, [], []⟩, ⟨⟨none, (some 79), .pick (.tmp 75) (.tmp 78) (.lit (.bool false))⟩, none, true, [], []⟩, ⟨⟨none, (some 80), .mov (.tmp 79)⟩, none, true, [], []⟩, ⟨⟨(some (80, true)), (some 81), .faddr 3 (.tmp 14)⟩, none, true, [], []⟩, ⟨⟨(some (80, true)), (some 82), .load1 (.tmp 81)⟩, none, true, [], []⟩, ⟨⟨(some (80, true)), (some 83), .bin .leq (.tmp 82) (.lit (.int .i64 (8)))⟩, none, true, [], []⟩, ⟨⟨none, (some 84), .pick (.tmp 80) (.tmp 83) (.lit (.bool false))⟩, none, true, [], []⟩, ⟨⟨none, (some 85), .mov (.tmp 84)⟩, none, true, [], []⟩, ⟨⟨(some (85, true)), (some 86), .faddr 2 (.tmp 14)⟩, none, true, [], []⟩, ⟨⟨(some (85, true)), (some 87), .load1 (.tmp 86)⟩, none, true, [], []⟩, ⟨⟨(some (85, true)), (some 88), .bin .geq (.tmp 87) (.lit (.int .i64 (0)))⟩, none, true, [], []⟩, ⟨⟨none, (some 89), .pick (.tmp 85) (.tmp 88) (.lit (.bool false))⟩, none, true, [], []⟩, ⟨⟨none, none, .store 4 (.tmp 4) (.tmp 73)⟩, none, false, [14], []⟩, ⟨⟨none, (some 5), .mov (.tmp 89)⟩, none, true, [], []⟩])
  .ret))))))))))
  (.ops [⟨none, (some 22), .mov (.tmp 6)⟩, ⟨none, (some 23), .bin .add (.tmp 22) (.lit (.int .i64 (1)))⟩, ⟨none, (some 6), .mov (.tmp 23)⟩]))))))
  (.seq (.ops [⟨none, (some 90), .bld [.int .i64 (0), .bool false, .int .i64 (0), .int .i64 (0)] []⟩, ⟨none, none, .store 4 (.tmp 4) (.tmp 90)⟩, ⟨none, (some 5), .mov (.lit (.bool false))⟩])
  .ret))),
  [.cellN 4 4, .tmp 5], none⟩
theorem r29 : resolveF Tryz.prog cfg 29 = some I29 := by kernel_rfl
noncomputable def I30 : IF := ⟨30, (.seq (.ops [⟨none, (some 3), .box 25 (.tmp 0)⟩, ⟨none, (some 6), .mov (.lit (.str []))⟩, ⟨none, (some 7), .mov (.lit (.bool false))⟩])
  (.seq (.seq (.ops [⟨none, (some 10), .faddr 3 (.tmp 3)⟩, ⟨none, (some 11), .load1 (.tmp 10)⟩, ⟨none, (some 12), .lenL (.tmp 11)⟩, ⟨none, (some 13), .mov (.lit (.int .i64 (0)))⟩])
  (.block 0 (.loop (some [1, 2, 11, 12, 13]) (.seq (.ops [⟨none, (some 14), .bin .lss (.tmp 13) (.tmp 12)⟩])
  (.seq (.cond (.tmp 14) .skip
  (.exit 0))
  (.seq (.block 1 (.seq (.ops [⟨none, (some 15), .iaddr 3 (.tmp 11) (.tmp 13)⟩, ⟨none, (some 16), .loadN 3 (.tmp 15)⟩, ⟨none, (some 9), .new 45 [.str [], .str [], .str []]⟩, ⟨none, none, .store 3 (.tmp 9) (.tmp 16)⟩])
  (.seq (.ops [⟨none, (some 17), .faddr 0 (.tmp 9)⟩, ⟨none, (some 18), .load1 (.tmp 17)⟩, ⟨none, (some 19), .mov (.tmp 1)⟩, ⟨none, (some 20), .bin .eql (.tmp 18) (.tmp 19)⟩, ⟨none, (some 21), .mov (.tmp 20)⟩, ⟨(some (21, true)), (some 22), .faddr 1 (.tmp 9)⟩, ⟨(some (21, true)), (some 23), .load1 (.tmp 22)⟩, ⟨(some (21, true)), (some 24), .mov (.tmp 2)⟩, ⟨(some (21, true)), (some 25), .bin .eql (.tmp 23) (.tmp 24)⟩, ⟨none, (some 26), .pick (.tmp 21) (.tmp 25) (.lit (.bool false))⟩])
  (.cond (.tmp 26) (.seq (.ops [⟨none, (some 27), .faddr 2 (.tmp 9)⟩, ⟨none, (some 28), .load1 (.tmp 27)⟩, ⟨none, (some 6), .mov (.tmp 28)⟩, ⟨none, (some 7), .mov (.lit (.bool true))⟩])
  .ret)
  .skip))))
  (.ops [⟨none, (some 29), .bin .add (.tmp 13) (.lit (.int .i64 (1)))⟩, ⟨none, (some 13), .mov (.tmp 29)⟩])))))))
  (.seq (.ops [⟨none, (some 6), .mov (.lit (.str []))⟩, ⟨none, (some 7), .mov (.lit (.bool false))⟩])
  .ret))),
  [.tmp 6, .tmp 7], none⟩
theorem r30 : resolveF Tryz.prog cfg 30 = some I30 := by kernel_rfl
noncomputable def I33 : IF := ⟨30, (.seq (.ops [⟨none, (some 3), .box 25 (.tmp 0)⟩, ⟨none, (some 6), .new 25 [.str [], .str [], .str [], .nilS, .nilS]⟩, ⟨none, (some 7), .mov (.lit (.bool false))⟩])
  (.seq (.seq (.ops [⟨none, (some 10), .faddr 4 (.tmp 3)⟩, ⟨none, (some 11), .load1 (.tmp 10)⟩, ⟨none, (some 12), .lenL (.tmp 11)⟩, ⟨none, (some 13), .mov (.lit (.int .i64 (0)))⟩])
  (.block 0 (.loop (some [1, 2, 6, 11, 12, 13]) (.seq (.ops [⟨none, (some 14), .bin .lss (.tmp 13) (.tmp 12)⟩])
  (.seq (.cond (.tmp 14) .skip
  (.exit 0))
  (.seq (.block 1 (.seq (.ops [⟨none, (some 15), .iaddr 5 (.tmp 11) (.tmp 13)⟩, ⟨none, (some 16), .loadN 5 (.tmp 15)⟩, ⟨none, (some 9), .new 25 [.str [], .str [], .str [], .nilS, .nilS]⟩, ⟨none, none, .store 5 (.tmp 9) (.tmp 16)⟩])
  (.seq (.ops [⟨none, (some 17), .faddr 0 (.tmp 9)⟩, ⟨none, (some 18), .load1 (.tmp 17)⟩, ⟨none, (some 19), .mov (.tmp 1)⟩, ⟨none, (some 20), .bin .eql (.tmp 18) (.tmp 19)⟩, ⟨none, (some 21), .mov (.tmp 20)⟩, ⟨(some (21, true)), (some 22), .faddr 1 (.tmp 9)⟩, ⟨(some (21, true)), (some 23), .load1 (.tmp 22)⟩, ⟨(some (21, true)), (some 24), .mov (.tmp 2)⟩, ⟨(some (21, true)), (some 25), .bin .eql (.tmp 23) (.tmp 24)⟩, ⟨none, (some 26), .pick (.tmp 21) (.tmp 25) (.lit (.bool false))⟩])
  (.cond (.tmp 26) (.seq (.ops [⟨none, (some 27), .loadN 5 (.tmp 9)⟩, ⟨none, none, .store 5 (.tmp 6) (.tmp 27)⟩, ⟨none, (some 7), .mov (.lit (.bool true))⟩])
  .ret)
  .skip))))
  (.ops [⟨none, (some 28), .bin .add (.tmp 13) (.lit (.int .i64 (1)))⟩, ⟨none, (some 13), .mov (.tmp 28)⟩])))))))
  (.seq (.ops [⟨none, (some 29), .bld [.str [], .str [], .str [], .nilS, .nilS] []⟩, ⟨none, none, .store 5 (.tmp 6) (.tmp 29)⟩, ⟨none, (some 7), .mov (.lit (.bool false))⟩])
  .ret))),
  [.cellN 5 6, .tmp 7], none⟩
theorem r33 : resolveF Tryz.prog cfg 33 = some I33 := by kernel_rfl
noncomputable def I34 : IF := ⟨45, (.seq (.ops [⟨none, (some 1), .box 48 (.tmp 0)⟩, ⟨none, (some 2), .mov (.lit (.bool false))⟩])
  (.seq (.ops [⟨none, (some 3), .faddr 0 (.tmp 1)⟩, ⟨none, (some 4), .load1 (.tmp 3)⟩, ⟨none, (some 5), .bin .eql (.tmp 4) (.lit (.str []))⟩, ⟨none, (some 6), .mov (.tmp 5)⟩, ⟨(some (6, false)), (some 7), .faddr 3 (.tmp 1)⟩, ⟨(some (6, false)), (some 8), .load1 (.tmp 7)⟩, ⟨(some (6, false)), (some 9), .bin .lss (.tmp 8) (.lit (.int .i64 (0)))⟩, ⟨none, (some 10), .pick (.tmp 6) (.lit (.bool true)) (.tmp 9)⟩, ⟨none, (some 11), .mov (.tmp 10)⟩, ⟨(some (11, false)), (some 12), .faddr 3 (.tmp 1)⟩, ⟨(some (11, false)), (some 13), .load1 (.tmp 12)⟩, ⟨(some (11, false)), (some 14), .bin .gtr (.tmp 13) (.lit (.int .i64 (2)))⟩, ⟨none, (some 15), .pick (.tmp 11) (.lit (.bool true)) (.tmp 14)⟩, ⟨none, (some 16), .mov (.tmp 15)⟩, ⟨(some (16, false)), (some 17), .faddr 4 (.tmp 1)⟩, ⟨(some (16, false)), (some 18), .load1 (.tmp 17)⟩, ⟨(some (16, false)), (some 19), .bin .lss (.tmp 18) (.lit (.int .i64 (0)))⟩, ⟨none, (some 20), .pick (.tmp 16) (.lit (.bool true)) (.tmp 19)⟩, ⟨none, (some 21), .mov (.tmp 20)⟩, ⟨(some (21, false)), (some 22), .faddr 4 (.tmp 1)⟩, ⟨(some (21, false)), (some 23), .load1 (.tmp 22)⟩, ⟨(some (21, false)), (some 24), .bin .gtr (.tmp 23) (.lit (.int .i64 (2)))⟩, ⟨none, (some 25), .pick (.tmp 21) (.lit (.bool true)) (.tmp 24)⟩, ⟨none, (some 26), .mov (.tmp 25)⟩, ⟨(some (26, false)), (some 27), .faddr 5 (.tmp 1)⟩, ⟨(some (26, false)), (some 28), .load1 (.tmp 27)⟩, ⟨(some (26, false)), (some 29), .bin .lss (.tmp 28) (.lit (.int .i64 (0)))⟩, ⟨none, (some 30), .pick (.tmp 26) (.lit (.bool true)) (.tmp 29)⟩, ⟨none, (some 31), .mov (.tmp 30)⟩, ⟨(some (31, false)), (some 32), .faddr 5 (.tmp 1)⟩, ⟨(some (31, false)), (some 33), .load1 (.tmp 32)⟩, ⟨(some (31, false)), (some 34), .bin .gtr (.tmp 33) (.lit (.int .i64 (6)))⟩, ⟨none, (some 35), .pick (.tmp 31) (.lit (.bool true)) (.tmp 34)⟩, ⟨none, (some 36), .mov (.tmp 35)⟩, ⟨(some (36, false)), (some 37), .faddr 2 (.tmp 1)⟩, ⟨(some (36, false)), (some 38), .load1 (.tmp 37)⟩, ⟨(some (36, false)), (some 39), .mov (.tmp 38)⟩, ⟨(some (39, true)), (some 40), .faddr 5 (.tmp 1)⟩, ⟨(some (39, true)), (some 41), .load1 (.tmp 40)⟩, ⟨(some (39, true)), (some 42), .bin .gtr (.tmp 41) (.lit (.int .i64 (0)))⟩, ⟨(some (36, false)), (some 43), .pick (.tmp 39) (.tmp 42) (.lit (.bool false))⟩, ⟨none, (some 44), .pick (.tmp 36) (.lit (.bool true)) (.tmp 43)⟩, ⟨none, (some 2), .mov (.tmp 44)⟩])
  .ret)),
  [.tmp 2], none⟩
theorem r34 : resolveF Tryz.prog cfg 34 = some I34 := by kernel_rfl
noncomputable def I35 : IF := ⟨53, (.seq (.ops [⟨none, (some 3), .box 48 (.tmp 1)⟩, ⟨none, (some 4), .mov (.lit (.int .i64 (0)))⟩])
  (.seq (.ops [⟨none, (some 5), .mov (.tmp 3)⟩])
  (.seq (.seq (.ops [⟨none, (some 7), .mov (.tmp 0)⟩, ⟨none, (some 8), .lenL (.tmp 7)⟩, ⟨none, (some 9), .mov (.lit (.int .i64 (0)))⟩])
  (.block 0 (.loop (some [0, 3, 5, 8, 9]) (.seq (.ops [⟨none, (some 10), .bin .lss (.tmp 9) (.tmp 8)⟩])
  (.seq (.cond (.tmp 10) .skip
  (.exit 0))
  (.seq (.block 1 (.seq (.ops [⟨none, (some 11), .mov (.tmp 0)⟩, ⟨none, (some 12), .mov (.tmp 5)⟩, ⟨none, (some 13), .nchk (.tmp 12)⟩, ⟨none, (some 14), .faddr 1 (.tmp 13)⟩, ⟨none, (some 15), .load1 (.tmp 14)⟩, ⟨none, (some 16), .call 52 [(.tmp 11), (.tmp 15)]⟩, ⟨none, (some 6), .mov (.tmp 16)⟩])
  (.seq (.seq (.ops [⟨none, (some 17), .mov (.tmp 5)⟩, ⟨none, (some 18), .nchk (.tmp 17)⟩, ⟨none, (some 19), .faddr 1 (.tmp 18)⟩, ⟨none, (some 20), .load1 (.tmp 19)⟩, ⟨none, (some 21), .bin .eql (.tmp 20) (.lit (.str []))⟩, ⟨none, (some 22), .mov (.tmp 21)⟩, ⟨(some (22, false)), (some 23), .mov (.tmp 6)⟩, ⟨(some (22, false)), (some 24), .nilT false 0 (.tmp 23)⟩, ⟨none, (some 25), .pick (.tmp 22) (.lit (.bool true)) (.tmp 24)⟩])
  (.cond (.tmp 25) (.seq (.ops [⟨none, (some 4), .mov (.lit (.int .i64 (0)))⟩])
  .ret)
  .skip))
  (.seq (.seq (.draw [] [⟨⟨none, (some 26), .mov (.tmp 5)⟩, none, true, [], []⟩, ⟨⟨none, (some 27), .nchk (.tmp 26)⟩, none, true, [], []⟩, ⟨⟨none, (some 28), .faddr 0 (.tmp 27)⟩, none, true, [], []⟩, ⟨⟨none, (some 29), .load1 (.tmp 28)⟩, none, true, [], []⟩, ⟨⟨none, (some 30), .faddr 0 (.tmp 3)⟩, none, true, [], []⟩, ⟨⟨none, (some 31), .load1 (.tmp 30)⟩, none, true, [], []⟩, ⟨⟨none, (some 32), .bin .eql (.tmp 29) (.tmp 31)⟩, none, true, [], []⟩, ⟨⟨none, (some 33), .mov (.tmp 32)⟩, none, true, [], []⟩, ⟨⟨(some (33, true)), (some 34), .mov (.tmp 6)⟩, none, true, [], []⟩, ⟨⟨(some (33, true)), (some 35), .nchk (.tmp 34)⟩, none, true, [], []⟩, ⟨⟨(some (33, true)), (some 36), .faddr 2 (.tmp 35)⟩, none, true, [], []⟩, ⟨⟨(some (33, true)), (some 37), .load1 (.tmp 36)⟩, none, true, [], []⟩, ⟨⟨(some (33, true)), (some 38), .faddr 2 (.tmp 3)⟩, none, true, [], []⟩, ⟨⟨(some (33, true)), (some 39), .load1 (.tmp 38)⟩, none, true, [], []⟩, ⟨⟨(some (33, true)), (some 40), .eqb true (.tmp 37) (.tmp 39)⟩, none, true, [], []⟩, ⟨⟨none, (some 41), .pick (.tmp 33) (.tmp 40) (.lit (.bool false))⟩, none, true, [], []⟩, ⟨⟨none, (some 42), .mov (.tmp 41)⟩, none, true, [], []⟩, ⟨⟨(some (42, false)), (some 43), .mov (.tmp 6)⟩, none, true, [], []⟩, ⟨⟨(some (42, false)), (some 44), .nchk (.tmp 43)⟩, none, true, [], []⟩, ⟨⟨(some (42, false)), (some 45), .faddr 0 (.tmp 44)⟩, none, true, [], []⟩, ⟨⟨(some (42, false)), (some 46), .load1 (.tmp 45)⟩, none, true, [], []⟩, ⟨⟨(some (42, false)), (some 47), .faddr 0 (.tmp 3)⟩, none, true, [], []⟩, ⟨⟨(some (42, false)), (some 48), .load1 (.tmp 47)⟩, none, true, [], []⟩, ⟨⟨(some (42, false)), (some 49), .bin .eql (.tmp 46) (.tmp 48)⟩, none, true, [], []⟩, ⟨⟨none, (some 50), .pick (.tmp 42) (.lit (.bool true)) (.tmp 49)⟩, none, true, [], []⟩])
  (.cond (.tmp 50) (.seq (.ops [⟨none, (some 4), .mov (.lit (.int .i64 (16)))⟩])
  .ret)
  .skip))
  (.ops [⟨none, (some 51), .mov (.tmp 6)⟩, ⟨none, (some 5), .mov (.tmp 51)⟩])))))
  (.ops [⟨none, (some 52), .bin .add (.tmp 9) (.lit (.int .i64 (1)))⟩, ⟨none, (some 9), .mov (.tmp 52)⟩])))))))
  (.seq (.ops [⟨none, (some 4), .mov (.lit (.int .i64 (0)))⟩])
  .ret)))),
  [.tmp 4], none⟩
theorem r35 : resolveF Tryz.prog cfg 35 = some I35 := by kernel_rfl
noncomputable def I36 : IF := ⟨40, (.seq (.ops [⟨none, (some 3), .box 25 (.tmp 0)⟩, ⟨none, (some 6), .new 25 [.str [], .str [], .str [], .nilS, .nilS]⟩, ⟨none, (some 7), .mov (.lit (.bool false))⟩])
  (.seq (.seq (.ops [⟨none, (some 8), .mov (.lit (.int .i64 (0)))⟩])
  (.block 0 (.loop (some [1, 2, 3, 6, 8]) (.seq (.seq (.ops [⟨none, (some 9), .mov (.tmp 8)⟩, ⟨none, (some 10), .faddr 4 (.tmp 3)⟩, ⟨none, (some 11), .load1 (.tmp 10)⟩, ⟨none, (some 12), .lenL (.tmp 11)⟩, ⟨none, (some 13), .bin .lss (.tmp 9) (.tmp 12)⟩])
  (.cond (.tmp 13) .skip
  (.exit 0)))
  (.seq (.block 1 (.seq (.ops [⟨none, (some 16), .faddr 4 (.tmp 3)⟩, ⟨none, (some 17), .load1 (.tmp 16)⟩, ⟨none, (some 18), .mov (.tmp 8)⟩, ⟨none, (some 19), .iaddr 5 (.tmp 17) (.tmp 18)⟩, ⟨none, (some 20), .faddr 0 (.tmp 19)⟩, ⟨none, (some 21), .load1 (.tmp 20)⟩, ⟨none, (some 22), .mov (.tmp 1)⟩, ⟨none, (some 23), .bin .eql (.tmp 21) (.tmp 22)⟩, ⟨none, (some 24), .mov (.tmp 23)⟩, ⟨(some (24, true)), (some 25), .faddr 4 (.tmp 3)⟩, ⟨(some (24, true)), (some 26), .load1 (.tmp 25)⟩, ⟨(some (24, true)), (some 27), .mov (.tmp 8)⟩, ⟨(some (24, true)), (some 28), .iaddr 5 (.tmp 26) (.tmp 27)⟩, ⟨(some (24, true)), (some 29), .faddr 1 (.tmp 28)⟩, ⟨(some (24, true)), (some 30), .load1 (.tmp 29)⟩, ⟨(some (24, true)), (some 31), .mov (.tmp 2)⟩, ⟨(some (24, true)), (some 32), .bin .eql (.tmp 30) (.tmp 31)⟩, ⟨none, (some 33), .pick (.tmp 24) (.tmp 32) (.lit (.bool false))⟩])
  (.cond (.tmp 33) (.seq (.ops [⟨none, (some 34), .faddr 4 (.tmp 3)⟩, ⟨none, (some 35), .load1 (.tmp 34)⟩, ⟨none, (some 36), .mov (.tmp 8)⟩, ⟨none, (some 37), .iaddr 5 (.tmp 35) (.tmp 36)⟩, ⟨none, (some 38), .loadN 5 (.tmp 37)⟩, ⟨none, none, .store 5 (.tmp 6) (.tmp 38)⟩, ⟨none, (some 7), .mov (.lit (.bool true))⟩])
  .ret)
  .skip)))
  (.ops [⟨none, (some 14), .mov (.tmp 8)⟩, ⟨none, (some 15), .bin .add (.tmp 14) (.lit (.int .i64 (1)))⟩, ⟨none, (some 8), .mov (.tmp 15)⟩]))))))
  (.seq (.ops [⟨none, (some 39), .bld [.str [], .str [], .str [], .nilS, .nilS] []⟩, ⟨none, none, .store 5 (.tmp 6) (.tmp 39)⟩, ⟨none, (some 7), .mov (.lit (.bool false))⟩])
  .ret))),
  [.cellN 5 6, .tmp 7], none⟩
theorem r36 : resolveF Tryz.prog cfg 36 = some I36 := by kernel_rfl
noncomputable def I37 : IF := ⟨20, (.seq (.ops [⟨none, (some 4), .mov (.lit (.int .i64 (0)))⟩])
  (.seq (.seq (.ops [⟨none, (some 5), .mov (.lit (.int .i64 (0)))⟩])
  (.block 0 (.loop (some [0, 1, 5]) (.seq (.seq (.ops [⟨none, (some 6), .mov (.tmp 5)⟩, ⟨none, (some 7), .mov (.tmp 0)⟩, ⟨none, (some 8), .lenL (.tmp 7)⟩, ⟨none, (some 9), .bin .lss (.tmp 6) (.tmp 8)⟩])
  (.cond (.tmp 9) .skip
  (.exit 0)))
  (.seq (.block 1 (.seq (.ops [⟨none, (some 12), .mov (.tmp 0)⟩, ⟨none, (some 13), .mov (.tmp 5)⟩, ⟨none, (some 14), .iaddr 6 (.tmp 12) (.tmp 13)⟩, ⟨none, (some 15), .faddr 0 (.tmp 14)⟩, ⟨none, (some 16), .load1 (.tmp 15)⟩, ⟨none, (some 17), .mov (.tmp 1)⟩, ⟨none, (some 18), .bin .eql (.tmp 16) (.tmp 17)⟩])
  (.cond (.tmp 18) (.seq (.ops [⟨none, (some 19), .mov (.tmp 5)⟩, ⟨none, (some 4), .mov (.tmp 19)⟩])
  .ret)
  .skip)))
  (.ops [⟨none, (some 10), .mov (.tmp 5)⟩, ⟨none, (some 11), .bin .add (.tmp 10) (.lit (.int .i64 (1)))⟩, ⟨none, (some 5), .mov (.tmp 11)⟩]))))))
  (.seq (.ops [⟨none, (some 4), .mov (.lit (.int .i64 (-1)))⟩])
  .ret))),
  [.tmp 4], none⟩
theorem r37 : resolveF Tryz.prog cfg 37 = some I37 := by kernel_rfl
noncomputable def I42 : IF := ⟨19, (.seq (.ops [⟨none, (some 4), .mov (.lit (.int .i64 (0)))⟩])
  (.seq (.seq (.ops [⟨none, (some 6), .mov (.tmp 0)⟩, ⟨none, (some 7), .lenL (.tmp 6)⟩, ⟨none, (some 8), .mov (.lit (.int .i64 (0)))⟩])
  (.block 0 (.loop (some [0, 1, 7, 8]) (.seq (.ops [⟨none, (some 9), .bin .lss (.tmp 8) (.tmp 7)⟩])
  (.seq (.cond (.tmp 9) .skip
  (.exit 0))
  (.seq (.block 1 (.seq (.ops [⟨none, (some 10), .mov (.tmp 8)⟩, ⟨none, (some 5), .mov (.tmp 10)⟩])
  (.seq (.ops [⟨none, (some 11), .mov (.tmp 1)⟩, ⟨none, (some 12), .mov (.tmp 0)⟩, ⟨none, (some 13), .mov (.tmp 5)⟩, ⟨none, (some 14), .iaddr 4 (.tmp 12) (.tmp 13)⟩, ⟨none, (some 15), .loadN 4 (.tmp 14)⟩, ⟨none, (some 16), .callv (.tmp 11) [(.tmp 15)]⟩])
  (.cond (.tmp 16) (.seq (.ops [⟨none, (some 17), .mov (.tmp 5)⟩, ⟨none, (some 4), .mov (.tmp 17)⟩])
  .ret)
  .skip))))
  (.ops [⟨none, (some 18), .bin .add (.tmp 8) (.lit (.int .i64 (1)))⟩, ⟨none, (some 8), .mov (.tmp 18)⟩])))))))
  (.seq (.ops [⟨none, (some 4), .mov (.lit (.int .i64 (-1)))⟩])
  .ret))),
  [.tmp 4], none⟩
theorem r42 : resolveF Tryz.prog cfg 42 = some I42 := by kernel_rfl
noncomputable def I52 : IF := ⟨14, (.seq (.ops [⟨none, (some 3), .box 9 (.tmp 1)⟩, ⟨none, (some 4), .mov (.lit (.nilP))⟩])
  (.seq (.ops [⟨none, (some 6), .mov (.tmp 0)⟩, ⟨none, (some 7), .mkfn (.func 65) [(.tmp 3)]⟩, ⟨none, (some 8), .call 64 [(.tmp 6), (.tmp 7)]⟩, ⟨none, (some 5), .mov (.tmp 8)⟩])
  (.seq (.seq (.ops [⟨none, (some 9), .mov (.tmp 5)⟩, ⟨none, (some 10), .bin .lss (.tmp 9) (.lit (.int .i64 (0)))⟩])
  (.cond (.tmp 10) (.seq (.ops [⟨none, (some 4), .mov (.lit (.nilP))⟩])
  .ret)
  .skip))
  (.seq (.ops [⟨none, (some 11), .mov (.tmp 0)⟩, ⟨none, (some 12), .mov (.tmp 5)⟩, ⟨none, (some 13), .iaddr 6 (.tmp 11) (.tmp 12)⟩, ⟨none, (some 4), .mov (.tmp 13)⟩])
  .ret)))),
  [.tmp 4], none⟩
theorem r52 : resolveF Tryz.prog cfg 52 = some I52 := by kernel_rfl
noncomputable def I64 : IF := ⟨19, (.seq (.ops [⟨none, (some 4), .mov (.lit (.int .i64 (0)))⟩])
  (.seq (.seq (.ops [⟨none, (some 6), .mov (.tmp 0)⟩, ⟨none, (some 7), .lenL (.tmp 6)⟩, ⟨none, (some 8), .mov (.lit (.int .i64 (0)))⟩])
  (.block 0 (.loop (some [0, 1, 7, 8]) (.seq (.ops [⟨none, (some 9), .bin .lss (.tmp 8) (.tmp 7)⟩])
  (.seq (.cond (.tmp 9) .skip
  (.exit 0))
  (.seq (.block 1 (.seq (.ops [⟨none, (some 10), .mov (.tmp 8)⟩, ⟨none, (some 5), .mov (.tmp 10)⟩])
  (.seq (.ops [⟨none, (some 11), .mov (.tmp 1)⟩, ⟨none, (some 12), .mov (.tmp 0)⟩, ⟨none, (some 13), .mov (.tmp 5)⟩, ⟨none, (some 14), .iaddr 6 (.tmp 12) (.tmp 13)⟩, ⟨none, (some 15), .loadN 6 (.tmp 14)⟩, ⟨none, (some 16), .callv (.tmp 11) [(.tmp 15)]⟩])
  (.cond (.tmp 16) (.seq (.ops [⟨none, (some 17), .mov (.tmp 5)⟩, ⟨none, (some 4), .mov (.tmp 17)⟩])
  .ret)
  .skip))))
  (.ops [⟨none, (some 18), .bin .add (.tmp 8) (.lit (.int .i64 (1)))⟩, ⟨none, (some 8), .mov (.tmp 18)⟩])))))))
  (.seq (.ops [⟨none, (some 4), .mov (.lit (.int .i64 (-1)))⟩])
  .ret))),
  [.tmp 4], none⟩
theorem r64 : resolveF Tryz.prog cfg 64 = some I64 := by kernel_rfl
noncomputable def I65 : IF := ⟨8, (.seq (.ops [⟨none, (some 2), .box 48 (.tmp 0)⟩, ⟨none, (some 3), .mov (.lit (.bool false))⟩])
  (.seq (.ops [⟨none, (some 4), .faddr 0 (.tmp 2)⟩, ⟨none, (some 5), .load1 (.tmp 4)⟩, ⟨none, (some 6), .load1 (.tmp 1)⟩, ⟨none, (some 7), .bin .eql (.tmp 5) (.tmp 6)⟩, ⟨none, (some 3), .mov (.tmp 7)⟩])
  .ret)),
  [.tmp 3], none⟩
theorem r65 : resolveF Tryz.prog cfg 65 = some I65 := by kernel_rfl
end Go.Proofs.YtlimneghgioeaaaGreatDoor.Ic
