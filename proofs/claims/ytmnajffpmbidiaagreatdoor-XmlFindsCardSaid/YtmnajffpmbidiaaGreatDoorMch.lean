/- Parts of one proof, one behind the other: The code of the dump's functions, worked out (printed by icp.py). -/
import Derived.Test.YtmnajffpmbidiaaGreatDoorEvIF
import Derived.Test.YtmnajffpmbidiaaGreatDoorMcg
import Derived.Test.YtmnajffpmbidiaaGreatDoorProg
/- The code of the dump's functions, worked out (printed by icp.py). -/
namespace Go.Proofs.YtmnajffpmbidiaaGreatDoor.Ic
open Go Go.Proofs Go.Proofs.YtmnajffpmbidiaaGreatDoor.Ev
set_option maxRecDepth 100000
set_option linter.all false
def live : FuncId → Nat → Option (List Tmp)
  | 4, 6 => some [0, 5, 6, 7]
  | 5, 5 => some [0, 3, 4, 5]
  | 5, 12 => some [0, 6, 7, 8]
  | 6, 4 => some [0, 1, 2, 3, 9]
  | 9, 7 => some [0, 1, 5, 6, 7, 8, 9]
  | 9, 15 => some [1, 5, 6, 7, 8, 11]
  | 15, 4 => some [2, 3, 5]
  | 15, 9 => some [2, 3, 6]
  | 18, 2 => some [0, 3]
  | 19, 2 => some [0, 6]
  | 20, 2 => some [0, 3]
  | 21, 2 => some [0, 5, 6]
  | 22, 2 => some [0, 3]
  | 23, 5 => some [1, 2, 5]
  | 23, 11 => some [1, 2, 6]
  | 24, 2 => some [1, 2, 6, 11, 12, 13]
  | 25, 2 => some [1, 2, 3, 6, 8]
  | 26, 2 => some [1, 2, 11, 12, 13]
  | 27, 2 => some [1, 2, 3, 8]
  | 37, 0 => some [0, 1]
  | 38, 7 => some [0, 1, 2, 6, 7, 8, 9]
  | 39, 3 => some [0, 3, 4]
  | 40, 0 => some [0, 1]
  | 43, 4 => some [0, 1, 5]
  | 44, 15 => some [0, 6, 7, 8]
  | 51, 4 => some [0, 1, 12, 13]
  | 52, 4 => some [1, 2, 15, 16, 17]
  | 54, 13 => some [0, 1, 2, 10, 11, 52, 53]
  | 54, 21 => some [0, 2, 10, 11, 77, 78]
  | 57, 3 => some [0, 3]
  | 60, 2 => some [0, 3]
  | 65, 10 => some [0, 2, 3, 4, 5]
  | 66, 2 => some [0, 1, 2, 21, 22, 23]
  | 66, 8 => some [1, 2, 10, 38]
  | 66, 12 => some [1, 2, 10, 47, 48, 49]
  | 66, 23 => some [10, 15, 98, 99, 100]
  | 66, 33 => some [10, 15, 146, 147, 148]
  | 67, 4 => some [0, 1, 2, 7, 8, 9]
  | 68, 2 => some [0, 3]
  | 74, 2 => some [0, 3]
  | 75, 2 => some [0, 1, 2, 7]
  | 75, 5 => some [0, 1, 2, 7, 8]
  | 75, 12 => some [0, 1, 9, 10]
  | 76, 4 => some [0, 1, 2, 7]
  | 77, 3 => some [0, 1, 2, 7, 8]
  | 77, 11 => some [0, 7, 10]
  | 77, 14 => some [0, 7, 10, 11]
  | 78, 3 => some [0, 1, 2, 7, 8]
  | 79, 2 => some [0]
  | 79, 10 => some [0]
  | 80, 6 => some [0, 1, 5]
  | 86, 7 => some [0, 3, 4]
  | 88, 3 => some [0, 16, 17]
  | 97, 2 => some [0, 1, 5]
  | 98, 3 => some [0, 3]
  | 99, 3 => some [3, 4]
  | 100, 7 => some [0, 3, 4]
  | 101, 3 => some [0, 3, 4]
  | 101, 14 => some [0, 5, 6, 7]
  | 103, 2 => some [2, 4]
  | 107, 15 => some [0, 1, 5, 6, 7, 8, 9, 10]
  | 109, 3 => some [0, 1, 5, 6]
  | 114, 2 => some [0, 1, 7, 8]
  | 115, 2 => some [0, 1, 7, 8]
  | 122, 5 => some [0, 1, 5, 6, 7, 8, 9]
  | 122, 11 => some [0, 1, 5, 6, 7, 8, 10]
  | 124, 1 => some [0, 1]
  | 125, 1 => some [0, 1]
  | 126, 2 => some [0, 2, 4]
  | 127, 1 => some [0, 1]
  | 128, 1 => some [0, 1]
  | 129, 1 => some [0, 1]
  | 130, 1 => some [0, 1]
  | 133, 3 => some [0, 4, 5]
  | 133, 8 => some [4, 6, 7, 8]
  | 136, 10 => some [0, 4, 5, 6]
  | 137, 36 => some [1, 8, 9, 10, 11, 12, 13, 99, 100, 101]
  | 142, 38 => some [175]
  | 145, 10 => some [0, 3, 4, 5]
  | 154, 1 => some [0, 1, 4]
  | 155, 11 => some [0, 1, 3, 4, 10, 11, 12, 13, 14, 15, 16]
  | 155, 18 => some [0, 1, 3, 4, 10, 11, 12, 13, 17]
  | _, _ => none
def keep : FuncId → Bool
  | _ => false
def libs : FuncId → Option (List AV → Mem → Option (AV × Mem))
  | 17 => some trueLib
  | 32 => some replLib
  | 82 => some idxLib
  | 87 => some idxByteLib
  | _ => none
def cfg (m : Int) : Cfg := ⟨fun k => if k = 5 then some [.int .i64 m] else none, libs, live, keep⟩
/-- gosem.cut.init -/
noncomputable def I2 : IF := ⟨1, (.ops [⟨none, (some 0), .raw (opAt Tryz.f2 0)⟩]),
  [], none⟩
theorem r2 {m : Int} : resolveF Tryz.prog (cfg m) 2 = some I2 := by kernel_rfl
/-- rubricator/rubricatorlaw10.XmlFinds -/
noncomputable def I11 : IF := ⟨88, (.seq (.ops [⟨none, (some 4), .box 27 (.tmp 0)⟩, ⟨none, (some 5), .box 27 (.tmp 1)⟩, ⟨none, (some 8), .mov (.lit (.bool false))⟩])
  (.seq (.seq (.ops [⟨none, (some 17), .loadN 5 (.tmp 4)⟩, ⟨none, (some 18), .call 23 [(.tmp 17), (.lit (.int .i64 (3000)))]⟩, ⟨none, (some 19), .bin .lss (.tmp 18) (.lit (.int .i64 (0)))⟩, ⟨none, (some 20), .mov (.tmp 19)⟩, ⟨(some (20, false)), (some 21), .loadN 5 (.tmp 5)⟩, ⟨(some (20, false)), (some 22), .call 23 [(.tmp 21), (.lit (.int .i64 (3000)))]⟩, ⟨(some (20, false)), (some 23), .bin .lss (.tmp 22) (.lit (.int .i64 (0)))⟩, ⟨none, (some 24), .pick (.tmp 20) (.lit (.bool true)) (.tmp 23)⟩])
  (.cond (.tmp 24) (.seq (.ops [⟨none, (some 8), .mov (.lit (.bool true))⟩])
  .ret)
  .skip))
  (.seq (.ops [⟨none, (some 26), .loadN 5 (.tmp 4)⟩, ⟨none, (some 27), .mov (.tmp 2)⟩, ⟨none, (some 28), .mov (.tmp 3)⟩, ⟨none, (some 29), .call 24 [(.tmp 26), (.tmp 27), (.tmp 28)]⟩, ⟨none, (some 25), .mov (.tmp 29)⟩, ⟨none, (some 30), .ext (.tmp 25) 0⟩, ⟨none, (some 31), .ext (.tmp 25) 1⟩, ⟨none, (some 9), .new 27 [.str [], .str [], .str [], .nilS, .nilS]⟩, ⟨none, none, .store 5 (.tmp 9) (.tmp 30)⟩, ⟨none, (some 10), .mov (.tmp 31)⟩])
  (.seq (.ops [⟨none, (some 33), .loadN 5 (.tmp 4)⟩, ⟨none, (some 34), .mov (.tmp 2)⟩, ⟨none, (some 35), .mov (.tmp 3)⟩, ⟨none, (some 36), .call 25 [(.tmp 33), (.tmp 34), (.tmp 35)]⟩, ⟨none, (some 32), .mov (.tmp 36)⟩, ⟨none, (some 37), .ext (.tmp 32) 0⟩, ⟨none, (some 38), .ext (.tmp 32) 1⟩, ⟨none, (some 11), .new 27 [.str [], .str [], .str [], .nilS, .nilS]⟩, ⟨none, none, .store 5 (.tmp 11) (.tmp 37)⟩, ⟨none, (some 12), .mov (.tmp 38)⟩])
  (.seq (.ops [⟨none, (some 40), .loadN 5 (.tmp 4)⟩, ⟨none, (some 41), .mov (.tmp 2)⟩, ⟨none, (some 42), .mov (.tmp 3)⟩, ⟨none, (some 43), .call 26 [(.tmp 40), (.tmp 41), (.tmp 42)]⟩, ⟨none, (some 39), .mov (.tmp 43)⟩, ⟨none, (some 44), .ext (.tmp 39) 0⟩, ⟨none, (some 45), .ext (.tmp 39) 1⟩, ⟨none, (some 13), .mov (.tmp 44)⟩, ⟨none, (some 14), .mov (.tmp 45)⟩])
  (.seq (.ops [⟨none, (some 47), .loadN 5 (.tmp 4)⟩, ⟨none, (some 48), .mov (.tmp 2)⟩, ⟨none, (some 49), .mov (.tmp 3)⟩, ⟨none, (some 50), .call 27 [(.tmp 47), (.tmp 48), (.tmp 49)]⟩, ⟨none, (some 46), .mov (.tmp 50)⟩, ⟨none, (some 51), .ext (.tmp 46) 0⟩, ⟨none, (some 52), .ext (.tmp 46) 1⟩, ⟨none, (some 15), .mov (.tmp 51)⟩, ⟨none, (some 16), .mov (.tmp 52)⟩])
  (.seq (.draw [] [⟨⟨none, (some 53), .loadN 5 (.tmp 9)⟩, none, true, []⟩, ⟨⟨none, (some 54), .loadN 5 (.tmp 11)⟩, none, true, []⟩, ⟨⟨none, (some 55), .call 15 [(.tmp 53), (.tmp 54)]⟩, none, true, []⟩, ⟨⟨none, (some 56), .mov (.tmp 55)⟩, none, true, []⟩, ⟨⟨(some (56, true)), (some 57), .mov (.tmp 10)⟩, none, true, []⟩, ⟨⟨(some (56, true)), (some 58), .mov (.tmp 12)⟩, none, true, []⟩, ⟨⟨(some (56, true)), (some 59), .eqb false (.tmp 57) (.tmp 58)⟩, none, true, []⟩, ⟨⟨none, (some 60), .pick (.tmp 56) (.tmp 59) (.lit (.bool false))⟩, none, true, []⟩, ⟨⟨none, (some 61), .mov (.tmp 60)⟩, none, true, []⟩, ⟨⟨(some (61, true)), (some 62), .mov (.tmp 13)⟩, none, true, []⟩, ⟨⟨(some (61, true)), (some 63), .mov (.tmp 15)⟩, none, true, []⟩, ⟨⟨(some (61, true)), (some 64), .bin .eql (.tmp 62) (.tmp 63)⟩, none, true, []⟩, ⟨⟨none, (some 65), .pick (.tmp 61) (.tmp 64) (.lit (.bool false))⟩, none, true, []⟩, ⟨⟨none, (some 66), .mov (.tmp 65)⟩, none, true, []⟩, ⟨⟨(some (66, true)), (some 67), .mov (.tmp 14)⟩, none, true, []⟩, ⟨⟨(some (66, true)), (some 68), .mov (.tmp 16)⟩, none, true, []⟩, ⟨⟨(some (66, true)), (some 69), .eqb false (.tmp 67) (.tmp 68)⟩, none, true, []⟩, ⟨⟨none, (some 70), .pick (.tmp 66) (.tmp 69) (.lit (.bool false))⟩, none, true, []⟩, ⟨⟨none, (some 71), .mov (.tmp 70)⟩, none, true, []⟩, ⟨⟨(some (71, true)), (some 72), .loadN 5 (.tmp 4)⟩, none, true, []⟩, ⟨⟨(some (71, true)), (some 73), .loadN 5 (.tmp 5)⟩, none, true, []⟩, ⟨⟨(some (71, true)), (some 74), .call 28 [(.tmp 72), (.tmp 73)]⟩, none, false, [22, 23]⟩, ⟨⟨(some (71, true)), (some 75), .loadN 5 (.tmp 4)⟩, none, true, []⟩, ⟨⟨(some (71, true)), (some 76), .loadN 5 (.tmp 5)⟩, none, true, []⟩, ⟨⟨(some (71, true)), (some 77), .call 15 [(.tmp 75), (.tmp 76)]⟩, none, true, []⟩, ⟨⟨(some (71, true)), (some 78), .eqb false (.tmp 74) (.tmp 77)⟩, none, true, []⟩, ⟨⟨none, (some 79), .pick (.tmp 71) (.tmp 78) (.lit (.bool false))⟩, none, true, []⟩, ⟨⟨none, (some 80), .mov (.tmp 79)⟩, none, true, []⟩, ⟨⟨(some (80, true)), (some 81), .loadN 5 (.tmp 4)⟩, none, true, []⟩, ⟨⟨(some (80, true)), (some 82), .loadN 5 (.tmp 4)⟩, none, true, []⟩, ⟨⟨(some (80, true)), (some 83), .call 28 [(.tmp 81), (.tmp 82)]⟩, none, true, []⟩, ⟨⟨none, (some 84), .pick (.tmp 80) (.tmp 83) (.lit (.bool false))⟩, none, true, []⟩, ⟨⟨none, (some 85), .mov (.tmp 84)⟩, none, true, []⟩, ⟨⟨(some (85, true)), (some 86), .call 17 []⟩, none, true, []⟩, ⟨⟨none, (some 87), .pick (.tmp 85) (.tmp 86) (.lit (.bool false))⟩, none, true, []⟩, ⟨⟨none, (some 8), .mov (.tmp 87)⟩, none, true, []⟩])
  .ret))))))),
  [.tmp 8], none⟩
theorem r11 {m : Int} : resolveF Tryz.prog (cfg m) 11 = some I11 := by kernel_rfl
/-- rubricator/rubricatorref10.Same -/
noncomputable def I15 : IF := ⟨81, (.seq (.ops [⟨none, (some 2), .box 27 (.tmp 0)⟩, ⟨none, (some 3), .box 27 (.tmp 1)⟩, ⟨none, (some 4), .mov (.lit (.bool false))⟩])
  (.seq (.seq (.ops [⟨none, (some 7), .faddr 0 (.tmp 2)⟩, ⟨none, (some 8), .load1 (.tmp 7)⟩, ⟨none, (some 9), .faddr 0 (.tmp 3)⟩, ⟨none, (some 10), .load1 (.tmp 9)⟩, ⟨none, (some 11), .bin .neq (.tmp 8) (.tmp 10)⟩, ⟨none, (some 12), .mov (.tmp 11)⟩, ⟨(some (12, false)), (some 13), .faddr 1 (.tmp 2)⟩, ⟨(some (12, false)), (some 14), .load1 (.tmp 13)⟩, ⟨(some (12, false)), (some 15), .faddr 1 (.tmp 3)⟩, ⟨(some (12, false)), (some 16), .load1 (.tmp 15)⟩, ⟨(some (12, false)), (some 17), .bin .neq (.tmp 14) (.tmp 16)⟩, ⟨none, (some 18), .pick (.tmp 12) (.lit (.bool true)) (.tmp 17)⟩, ⟨none, (some 19), .mov (.tmp 18)⟩, ⟨(some (19, false)), (some 20), .faddr 2 (.tmp 2)⟩, ⟨(some (19, false)), (some 21), .load1 (.tmp 20)⟩, ⟨(some (19, false)), (some 22), .faddr 2 (.tmp 3)⟩, ⟨(some (19, false)), (some 23), .load1 (.tmp 22)⟩, ⟨(some (19, false)), (some 24), .bin .neq (.tmp 21) (.tmp 23)⟩, ⟨none, (some 25), .pick (.tmp 19) (.lit (.bool true)) (.tmp 24)⟩, ⟨none, (some 26), .mov (.tmp 25)⟩, ⟨(some (26, false)), (some 27), .faddr 3 (.tmp 2)⟩, ⟨(some (26, false)), (some 28), .load1 (.tmp 27)⟩, ⟨(some (26, false)), (some 29), .lenL (.tmp 28)⟩, ⟨(some (26, false)), (some 30), .faddr 3 (.tmp 3)⟩, ⟨(some (26, false)), (some 31), .load1 (.tmp 30)⟩, ⟨(some (26, false)), (some 32), .lenL (.tmp 31)⟩, ⟨(some (26, false)), (some 33), .bin .neq (.tmp 29) (.tmp 32)⟩, ⟨none, (some 34), .pick (.tmp 26) (.lit (.bool true)) (.tmp 33)⟩, ⟨none, (some 35), .mov (.tmp 34)⟩, ⟨(some (35, false)), (some 36), .faddr 4 (.tmp 2)⟩, ⟨(some (35, false)), (some 37), .load1 (.tmp 36)⟩, ⟨(some (35, false)), (some 38), .lenL (.tmp 37)⟩, ⟨(some (35, false)), (some 39), .faddr 4 (.tmp 3)⟩, ⟨(some (35, false)), (some 40), .load1 (.tmp 39)⟩, ⟨(some (35, false)), (some 41), .lenL (.tmp 40)⟩, ⟨(some (35, false)), (some 42), .bin .neq (.tmp 38) (.tmp 41)⟩, ⟨none, (some 43), .pick (.tmp 35) (.lit (.bool true)) (.tmp 42)⟩])
  (.cond (.tmp 43) (.seq (.ops [⟨none, (some 4), .mov (.lit (.bool false))⟩])
  .ret)
  .skip))
  (.seq (.seq (.ops [⟨none, (some 5), .mov (.lit (.int .i64 (0)))⟩])
  (.block 0 (.loop (some [2, 3, 5]) (.seq (.seq (.ops [⟨none, (some 44), .mov (.tmp 5)⟩, ⟨none, (some 45), .faddr 3 (.tmp 2)⟩, ⟨none, (some 46), .load1 (.tmp 45)⟩, ⟨none, (some 47), .lenL (.tmp 46)⟩, ⟨none, (some 48), .bin .lss (.tmp 44) (.tmp 47)⟩])
  (.cond (.tmp 48) .skip
  (.exit 0)))
  (.seq (.block 1 (.seq (.draw [] [⟨⟨none, (some 51), .faddr 3 (.tmp 2)⟩, none, true, []⟩, ⟨⟨none, (some 52), .load1 (.tmp 51)⟩, none, true, []⟩, ⟨⟨none, (some 53), .mov (.tmp 5)⟩, none, true, []⟩, ⟨⟨none, (some 54), .iaddr 3 (.tmp 52) (.tmp 53)⟩, none, true, []⟩, ⟨⟨none, (some 55), .loadN 3 (.tmp 54)⟩, none, true, []⟩, ⟨⟨none, (some 56), .faddr 3 (.tmp 3)⟩, none, true, []⟩, ⟨⟨none, (some 57), .load1 (.tmp 56)⟩, none, true, []⟩, ⟨⟨none, (some 58), .mov (.tmp 5)⟩, none, true, []⟩, ⟨⟨none, (some 59), .iaddr 3 (.tmp 57) (.tmp 58)⟩, none, true, []⟩, ⟨⟨none, (some 60), .loadN 3 (.tmp 59)⟩, none, true, []⟩, ⟨⟨none, (some 61), .eqS true [(0, 2), (1, 2), (2, 2)] (.tmp 55) (.tmp 60)⟩, none, true, []⟩])
  (.cond (.tmp 61) (.seq (.ops [⟨none, (some 4), .mov (.lit (.bool false))⟩])
  .ret)
  .skip)))
  (.ops [⟨none, (some 49), .mov (.tmp 5)⟩, ⟨none, (some 50), .bin .add (.tmp 49) (.lit (.int .i64 (1)))⟩, ⟨none, (some 5), .mov (.tmp 50)⟩]))))))
  (.seq (.seq (.ops [⟨none, (some 6), .mov (.lit (.int .i64 (0)))⟩])
  (.block 2 (.loop (some [2, 3, 6]) (.seq (.seq (.ops [⟨none, (some 62), .mov (.tmp 6)⟩, ⟨none, (some 63), .faddr 4 (.tmp 2)⟩, ⟨none, (some 64), .load1 (.tmp 63)⟩, ⟨none, (some 65), .lenL (.tmp 64)⟩, ⟨none, (some 66), .bin .lss (.tmp 62) (.tmp 65)⟩])
  (.cond (.tmp 66) .skip
  (.exit 2)))
  (.seq (.block 3 (.seq (.draw [] [⟨⟨none, (some 69), .faddr 4 (.tmp 2)⟩, none, true, []⟩, ⟨⟨none, (some 70), .load1 (.tmp 69)⟩, none, true, []⟩, ⟨⟨none, (some 71), .mov (.tmp 6)⟩, none, true, []⟩, ⟨⟨none, (some 72), .iaddr 5 (.tmp 70) (.tmp 71)⟩, none, true, []⟩, ⟨⟨none, (some 73), .loadN 5 (.tmp 72)⟩, none, true, []⟩, ⟨⟨none, (some 74), .faddr 4 (.tmp 3)⟩, none, true, []⟩, ⟨⟨none, (some 75), .load1 (.tmp 74)⟩, none, true, []⟩, ⟨⟨none, (some 76), .mov (.tmp 6)⟩, none, true, []⟩, ⟨⟨none, (some 77), .iaddr 5 (.tmp 75) (.tmp 76)⟩, none, true, []⟩, ⟨⟨none, (some 78), .loadN 5 (.tmp 77)⟩, none, true, []⟩, ⟨⟨none, (some 79), .call 15 [(.tmp 73), (.tmp 78)]⟩, none, true, []⟩, ⟨⟨none, (some 80), .un .not (.tmp 79)⟩, none, true, []⟩])
  (.cond (.tmp 80) (.seq (.ops [⟨none, (some 4), .mov (.lit (.bool false))⟩])
  .ret)
  .skip)))
  (.ops [⟨none, (some 67), .mov (.tmp 6)⟩, ⟨none, (some 68), .bin .add (.tmp 67) (.lit (.int .i64 (1)))⟩, ⟨none, (some 6), .mov (.tmp 68)⟩]))))))
  (.seq (.ops [⟨none, (some 4), .mov (.lit (.bool true))⟩])
  .ret))))),
  [.tmp 4], none⟩
theorem r15 {m : Int} : resolveF Tryz.prog (cfg m) 15 = some I15 := by kernel_rfl
/-- rubricator/rubricatorlaw10.heavyElem -/
noncomputable def I23 : IF := ⟨77, (.seq (.ops [⟨none, (some 2), .box 27 (.tmp 0)⟩, ⟨none, (some 4), .mov (.lit (.int .i64 (0)))⟩])
  (.seq (.seq (.ops [⟨none, (some 7), .faddr 0 (.tmp 2)⟩, ⟨none, (some 8), .load1 (.tmp 7)⟩, ⟨none, (some 9), .lenS (.tmp 8)⟩, ⟨none, (some 10), .bin .gtr (.tmp 9) (.lit (.int .i64 (200)))⟩])
  (.cond (.tmp 10) (.seq (.ops [⟨none, (some 4), .mov (.lit (.int .i64 (-1)))⟩])
  .ret)
  .skip))
  (.seq (.ops [⟨none, (some 11), .mov (.tmp 1)⟩, ⟨none, (some 12), .bin .sub (.tmp 11) (.lit (.int .i64 (8)))⟩, ⟨none, (some 13), .faddr 1 (.tmp 2)⟩, ⟨none, (some 14), .load1 (.tmp 13)⟩, ⟨none, (some 15), .lenS (.tmp 14)⟩, ⟨none, (some 16), .bin .sub (.tmp 12) (.tmp 15)⟩, ⟨none, (some 17), .faddr 2 (.tmp 2)⟩, ⟨none, (some 18), .load1 (.tmp 17)⟩, ⟨none, (some 19), .lenS (.tmp 18)⟩, ⟨none, (some 20), .bin .sub (.tmp 16) (.tmp 19)⟩, ⟨none, (some 1), .mov (.tmp 20)⟩])
  (.seq (.seq (.ops [⟨none, (some 5), .mov (.lit (.int .i64 (0)))⟩])
  (.block 0 (.loop (some [1, 2, 5]) (.seq (.seq (.ops [⟨none, (some 21), .mov (.tmp 5)⟩, ⟨none, (some 22), .faddr 3 (.tmp 2)⟩, ⟨none, (some 23), .load1 (.tmp 22)⟩, ⟨none, (some 24), .lenL (.tmp 23)⟩, ⟨none, (some 25), .bin .lss (.tmp 21) (.tmp 24)⟩, ⟨none, (some 26), .mov (.tmp 25)⟩, ⟨(some (26, true)), (some 27), .mov (.tmp 1)⟩, ⟨(some (26, true)), (some 28), .bin .geq (.tmp 27) (.lit (.int .i64 (0)))⟩, ⟨none, (some 29), .pick (.tmp 26) (.tmp 28) (.lit (.bool false))⟩])
  (.cond (.tmp 29) .skip
  (.exit 0)))
  (.seq (.block 1 (.seq (.seq (.ops [⟨none, (some 32), .faddr 3 (.tmp 2)⟩, ⟨none, (some 33), .load1 (.tmp 32)⟩, ⟨none, (some 34), .mov (.tmp 5)⟩, ⟨none, (some 35), .iaddr 3 (.tmp 33) (.tmp 34)⟩, ⟨none, (some 36), .faddr 0 (.tmp 35)⟩, ⟨none, (some 37), .load1 (.tmp 36)⟩, ⟨none, (some 38), .lenS (.tmp 37)⟩, ⟨none, (some 39), .bin .gtr (.tmp 38) (.lit (.int .i64 (200)))⟩])
  (.cond (.tmp 39) (.seq (.ops [⟨none, (some 4), .mov (.lit (.int .i64 (-1)))⟩])
  .ret)
  .skip))
  (.draw [] [⟨⟨none, (some 40), .mov (.tmp 1)⟩, none, true, []⟩, ⟨⟨none, (some 41), .bin .sub (.tmp 40) (.lit (.int .i64 (4)))⟩, none, true, []⟩, ⟨⟨none, (some 42), .faddr 3 (.tmp 2)⟩, none, true, []⟩, ⟨⟨none, (some 43), .load1 (.tmp 42)⟩, none, true, []⟩, ⟨⟨none, (some 44), .mov (.tmp 5)⟩, none, true, []⟩, ⟨⟨none, (some 45), .iaddr 3 (.tmp 43) (.tmp 44)⟩, none, true, []⟩, ⟨⟨none, (some 46), .faddr 1 (.tmp 45)⟩, none, true, []⟩, ⟨⟨none, (some 47), .load1 (.tmp 46)⟩, none, true, []⟩, ⟨⟨none, (some 48), .lenS (.tmp 47)⟩, none, true, []⟩, ⟨⟨none, (some 49), .bin .sub (.tmp 41) (.tmp 48)⟩, none, true, []⟩, ⟨⟨none, (some 50), .faddr 3 (.tmp 2)⟩, none, true, []⟩, ⟨⟨none, (some 51), .load1 (.tmp 50)⟩, none, true, []⟩, ⟨⟨none, (some 52), .mov (.tmp 5)⟩, none, true, []⟩, ⟨⟨none, (some 53), .iaddr 3 (.tmp 51) (.tmp 52)⟩, none, true, []⟩, ⟨⟨none, (some 54), .faddr 2 (.tmp 53)⟩, none, true, []⟩, ⟨⟨none, (some 55), .load1 (.tmp 54)⟩, none, true, []⟩, ⟨⟨none, (some 56), .lenS (.tmp 55)⟩, none, true, []⟩, ⟨⟨none, (some 57), .bin .sub (.tmp 49) (.tmp 56)⟩, none, true, []⟩, ⟨⟨none, (some 1), .mov (.tmp 57)⟩, none, true, []⟩])))
  (.ops [⟨none, (some 30), .mov (.tmp 5)⟩, ⟨none, (some 31), .bin .add (.tmp 30) (.lit (.int .i64 (1)))⟩, ⟨none, (some 5), .mov (.tmp 31)⟩]))))))
  (.seq (.seq (.ops [⟨none, (some 6), .mov (.lit (.int .i64 (0)))⟩])
  (.block 2 (.loop (some [1, 2, 6]) (.seq (.seq (.ops [⟨none, (some 58), .mov (.tmp 6)⟩, ⟨none, (some 59), .faddr 4 (.tmp 2)⟩, ⟨none, (some 60), .load1 (.tmp 59)⟩, ⟨none, (some 61), .lenL (.tmp 60)⟩, ⟨none, (some 62), .bin .lss (.tmp 58) (.tmp 61)⟩, ⟨none, (some 63), .mov (.tmp 62)⟩, ⟨(some (63, true)), (some 64), .mov (.tmp 1)⟩, ⟨(some (63, true)), (some 65), .bin .geq (.tmp 64) (.lit (.int .i64 (0)))⟩, ⟨none, (some 66), .pick (.tmp 63) (.tmp 65) (.lit (.bool false))⟩])
  (.cond (.tmp 66) .skip
  (.exit 2)))
  (.seq (.block 3 (.ops [⟨none, (some 69), .faddr 4 (.tmp 2)⟩, ⟨none, (some 70), .load1 (.tmp 69)⟩, ⟨none, (some 71), .mov (.tmp 6)⟩, ⟨none, (some 72), .iaddr 5 (.tmp 70) (.tmp 71)⟩, ⟨none, (some 73), .loadN 5 (.tmp 72)⟩, ⟨none, (some 74), .mov (.tmp 1)⟩, ⟨none, (some 75), .call 23 [(.tmp 73), (.tmp 74)]⟩, ⟨none, (some 1), .mov (.tmp 75)⟩]))
  (.ops [⟨none, (some 67), .mov (.tmp 6)⟩, ⟨none, (some 68), .bin .add (.tmp 67) (.lit (.int .i64 (1)))⟩, ⟨none, (some 6), .mov (.tmp 68)⟩]))))))
  (.seq (.ops [⟨none, (some 76), .mov (.tmp 1)⟩, ⟨none, (some 4), .mov (.tmp 76)⟩])
  .ret)))))),
  [.tmp 4], none⟩
theorem r23 {m : Int} : resolveF Tryz.prog (cfg m) 23 = some I23 := by kernel_rfl
/-- rubricator/xml.Find -/
noncomputable def I24 : IF := ⟨30, (.seq (.ops [⟨none, (some 3), .box 27 (.tmp 0)⟩, ⟨none, (some 6), .new 27 [.str [], .str [], .str [], .nilS, .nilS]⟩, ⟨none, (some 7), .mov (.lit (.bool false))⟩])
  (.seq (.seq (.ops [⟨none, (some 10), .faddr 4 (.tmp 3)⟩, ⟨none, (some 11), .load1 (.tmp 10)⟩, ⟨none, (some 12), .lenL (.tmp 11)⟩, ⟨none, (some 13), .mov (.lit (.int .i64 (0)))⟩])
  (.block 0 (.loop (some [1, 2, 6, 11, 12, 13]) (.seq (.ops [⟨none, (some 14), .bin .lss (.tmp 13) (.tmp 12)⟩])
  (.seq (.cond (.tmp 14) .skip
  (.exit 0))
  (.seq (.block 1 (.seq (.ops [⟨none, (some 15), .iaddr 5 (.tmp 11) (.tmp 13)⟩, ⟨none, (some 16), .loadN 5 (.tmp 15)⟩, ⟨none, (some 9), .new 27 [.str [], .str [], .str [], .nilS, .nilS]⟩, ⟨none, none, .store 5 (.tmp 9) (.tmp 16)⟩])
  (.seq (.ops [⟨none, (some 17), .faddr 0 (.tmp 9)⟩, ⟨none, (some 18), .load1 (.tmp 17)⟩, ⟨none, (some 19), .mov (.tmp 1)⟩, ⟨none, (some 20), .bin .eql (.tmp 18) (.tmp 19)⟩, ⟨none, (some 21), .mov (.tmp 20)⟩, ⟨(some (21, true)), (some 22), .faddr 1 (.tmp 9)⟩, ⟨(some (21, true)), (some 23), .load1 (.tmp 22)⟩, ⟨(some (21, true)), (some 24), .mov (.tmp 2)⟩, ⟨(some (21, true)), (some 25), .bin .eql (.tmp 23) (.tmp 24)⟩, ⟨none, (some 26), .pick (.tmp 21) (.tmp 25) (.lit (.bool false))⟩])
  (.cond (.tmp 26) (.seq (.ops [⟨none, (some 27), .loadN 5 (.tmp 9)⟩, ⟨none, none, .store 5 (.tmp 6) (.tmp 27)⟩, ⟨none, (some 7), .mov (.lit (.bool true))⟩])
  .ret)
  .skip))))
  (.ops [⟨none, (some 28), .bin .add (.tmp 13) (.lit (.int .i64 (1)))⟩, ⟨none, (some 13), .mov (.tmp 28)⟩])))))))
  (.seq (.ops [⟨none, (some 29), .bld [.str [], .str [], .str [], .nilS, .nilS] []⟩, ⟨none, none, .store 5 (.tmp 6) (.tmp 29)⟩, ⟨none, (some 7), .mov (.lit (.bool false))⟩])
  .ret))),
  [.cellN 5 6, .tmp 7], none⟩
theorem r24 {m : Int} : resolveF Tryz.prog (cfg m) 24 = some I24 := by kernel_rfl
/-- rubricator/rubricatorref10.Find -/
noncomputable def I25 : IF := ⟨40, (.seq (.ops [⟨none, (some 3), .box 27 (.tmp 0)⟩, ⟨none, (some 6), .new 27 [.str [], .str [], .str [], .nilS, .nilS]⟩, ⟨none, (some 7), .mov (.lit (.bool false))⟩])
  (.seq (.seq (.ops [⟨none, (some 8), .mov (.lit (.int .i64 (0)))⟩])
  (.block 0 (.loop (some [1, 2, 3, 6, 8]) (.seq (.seq (.ops [⟨none, (some 9), .mov (.tmp 8)⟩, ⟨none, (some 10), .faddr 4 (.tmp 3)⟩, ⟨none, (some 11), .load1 (.tmp 10)⟩, ⟨none, (some 12), .lenL (.tmp 11)⟩, ⟨none, (some 13), .bin .lss (.tmp 9) (.tmp 12)⟩])
  (.cond (.tmp 13) .skip
  (.exit 0)))
  (.seq (.block 1 (.seq (.ops [⟨none, (some 16), .faddr 4 (.tmp 3)⟩, ⟨none, (some 17), .load1 (.tmp 16)⟩, ⟨none, (some 18), .mov (.tmp 8)⟩, ⟨none, (some 19), .iaddr 5 (.tmp 17) (.tmp 18)⟩, ⟨none, (some 20), .faddr 0 (.tmp 19)⟩, ⟨none, (some 21), .load1 (.tmp 20)⟩, ⟨none, (some 22), .mov (.tmp 1)⟩, ⟨none, (some 23), .bin .eql (.tmp 21) (.tmp 22)⟩, ⟨none, (some 24), .mov (.tmp 23)⟩, ⟨(some (24, true)), (some 25), .faddr 4 (.tmp 3)⟩, ⟨(some (24, true)), (some 26), .load1 (.tmp 25)⟩, ⟨(some (24, true)), (some 27), .mov (.tmp 8)⟩, ⟨(some (24, true)), (some 28), .iaddr 5 (.tmp 26) (.tmp 27)⟩, ⟨(some (24, true)), (some 29), .faddr 1 (.tmp 28)⟩, ⟨(some (24, true)), (some 30), .load1 (.tmp 29)⟩, ⟨(some (24, true)), (some 31), .mov (.tmp 2)⟩, ⟨(some (24, true)), (some 32), .bin .eql (.tmp 30) (.tmp 31)⟩, ⟨none, (some 33), .pick (.tmp 24) (.tmp 32) (.lit (.bool false))⟩])
  (.cond (.tmp 33) (.seq (.ops [⟨none, (some 34), .faddr 4 (.tmp 3)⟩, ⟨none, (some 35), .load1 (.tmp 34)⟩, ⟨none, (some 36), .mov (.tmp 8)⟩, ⟨none, (some 37), .iaddr 5 (.tmp 35) (.tmp 36)⟩, ⟨none, (some 38), .loadN 5 (.tmp 37)⟩, ⟨none, none, .store 5 (.tmp 6) (.tmp 38)⟩, ⟨none, (some 7), .mov (.lit (.bool true))⟩])
  .ret)
  .skip)))
  (.ops [⟨none, (some 14), .mov (.tmp 8)⟩, ⟨none, (some 15), .bin .add (.tmp 14) (.lit (.int .i64 (1)))⟩, ⟨none, (some 8), .mov (.tmp 15)⟩]))))))
  (.seq (.ops [⟨none, (some 39), .bld [.str [], .str [], .str [], .nilS, .nilS] []⟩, ⟨none, none, .store 5 (.tmp 6) (.tmp 39)⟩, ⟨none, (some 7), .mov (.lit (.bool false))⟩])
  .ret))),
  [.cellN 5 6, .tmp 7], none⟩
theorem r25 {m : Int} : resolveF Tryz.prog (cfg m) 25 = some I25 := by kernel_rfl
/-- rubricator/xml.Get -/
noncomputable def I26 : IF := ⟨30, (.seq (.ops [⟨none, (some 3), .box 27 (.tmp 0)⟩, ⟨none, (some 6), .mov (.lit (.str []))⟩, ⟨none, (some 7), .mov (.lit (.bool false))⟩])
  (.seq (.seq (.ops [⟨none, (some 10), .faddr 3 (.tmp 3)⟩, ⟨none, (some 11), .load1 (.tmp 10)⟩, ⟨none, (some 12), .lenL (.tmp 11)⟩, ⟨none, (some 13), .mov (.lit (.int .i64 (0)))⟩])
  (.block 0 (.loop (some [1, 2, 11, 12, 13]) (.seq (.ops [⟨none, (some 14), .bin .lss (.tmp 13) (.tmp 12)⟩])
  (.seq (.cond (.tmp 14) .skip
  (.exit 0))
  (.seq (.block 1 (.seq (.ops [⟨none, (some 15), .iaddr 3 (.tmp 11) (.tmp 13)⟩, ⟨none, (some 16), .loadN 3 (.tmp 15)⟩, ⟨none, (some 9), .new 41 [.str [], .str [], .str []]⟩, ⟨none, none, .store 3 (.tmp 9) (.tmp 16)⟩])
  (.seq (.ops [⟨none, (some 17), .faddr 0 (.tmp 9)⟩, ⟨none, (some 18), .load1 (.tmp 17)⟩, ⟨none, (some 19), .mov (.tmp 1)⟩, ⟨none, (some 20), .bin .eql (.tmp 18) (.tmp 19)⟩, ⟨none, (some 21), .mov (.tmp 20)⟩, ⟨(some (21, true)), (some 22), .faddr 1 (.tmp 9)⟩, ⟨(some (21, true)), (some 23), .load1 (.tmp 22)⟩, ⟨(some (21, true)), (some 24), .mov (.tmp 2)⟩, ⟨(some (21, true)), (some 25), .bin .eql (.tmp 23) (.tmp 24)⟩, ⟨none, (some 26), .pick (.tmp 21) (.tmp 25) (.lit (.bool false))⟩])
  (.cond (.tmp 26) (.seq (.ops [⟨none, (some 27), .faddr 2 (.tmp 9)⟩, ⟨none, (some 28), .load1 (.tmp 27)⟩, ⟨none, (some 6), .mov (.tmp 28)⟩, ⟨none, (some 7), .mov (.lit (.bool true))⟩])
  .ret)
  .skip))))
  (.ops [⟨none, (some 29), .bin .add (.tmp 13) (.lit (.int .i64 (1)))⟩, ⟨none, (some 13), .mov (.tmp 29)⟩])))))))
  (.seq (.ops [⟨none, (some 6), .mov (.lit (.str []))⟩, ⟨none, (some 7), .mov (.lit (.bool false))⟩])
  .ret))),
  [.tmp 6, .tmp 7], none⟩
theorem r26 {m : Int} : resolveF Tryz.prog (cfg m) 26 = some I26 := by kernel_rfl
/-- rubricator/rubricatorref10.Get -/
noncomputable def I27 : IF := ⟨40, (.seq (.ops [⟨none, (some 3), .box 27 (.tmp 0)⟩, ⟨none, (some 6), .mov (.lit (.str []))⟩, ⟨none, (some 7), .mov (.lit (.bool false))⟩])
  (.seq (.seq (.ops [⟨none, (some 8), .mov (.lit (.int .i64 (0)))⟩])
  (.block 0 (.loop (some [1, 2, 3, 8]) (.seq (.seq (.ops [⟨none, (some 9), .mov (.tmp 8)⟩, ⟨none, (some 10), .faddr 3 (.tmp 3)⟩, ⟨none, (some 11), .load1 (.tmp 10)⟩, ⟨none, (some 12), .lenL (.tmp 11)⟩, ⟨none, (some 13), .bin .lss (.tmp 9) (.tmp 12)⟩])
  (.cond (.tmp 13) .skip
  (.exit 0)))
  (.seq (.block 1 (.seq (.ops [⟨none, (some 16), .faddr 3 (.tmp 3)⟩, ⟨none, (some 17), .load1 (.tmp 16)⟩, ⟨none, (some 18), .mov (.tmp 8)⟩, ⟨none, (some 19), .iaddr 3 (.tmp 17) (.tmp 18)⟩, ⟨none, (some 20), .faddr 0 (.tmp 19)⟩, ⟨none, (some 21), .load1 (.tmp 20)⟩, ⟨none, (some 22), .mov (.tmp 1)⟩, ⟨none, (some 23), .bin .eql (.tmp 21) (.tmp 22)⟩, ⟨none, (some 24), .mov (.tmp 23)⟩, ⟨(some (24, true)), (some 25), .faddr 3 (.tmp 3)⟩, ⟨(some (24, true)), (some 26), .load1 (.tmp 25)⟩, ⟨(some (24, true)), (some 27), .mov (.tmp 8)⟩, ⟨(some (24, true)), (some 28), .iaddr 3 (.tmp 26) (.tmp 27)⟩, ⟨(some (24, true)), (some 29), .faddr 1 (.tmp 28)⟩, ⟨(some (24, true)), (some 30), .load1 (.tmp 29)⟩, ⟨(some (24, true)), (some 31), .mov (.tmp 2)⟩, ⟨(some (24, true)), (some 32), .bin .eql (.tmp 30) (.tmp 31)⟩, ⟨none, (some 33), .pick (.tmp 24) (.tmp 32) (.lit (.bool false))⟩])
  (.cond (.tmp 33) (.seq (.ops [⟨none, (some 34), .faddr 3 (.tmp 3)⟩, ⟨none, (some 35), .load1 (.tmp 34)⟩, ⟨none, (some 36), .mov (.tmp 8)⟩, ⟨none, (some 37), .iaddr 3 (.tmp 35) (.tmp 36)⟩, ⟨none, (some 38), .faddr 2 (.tmp 37)⟩, ⟨none, (some 39), .load1 (.tmp 38)⟩, ⟨none, (some 6), .mov (.tmp 39)⟩, ⟨none, (some 7), .mov (.lit (.bool true))⟩])
  .ret)
  .skip)))
  (.ops [⟨none, (some 14), .mov (.tmp 8)⟩, ⟨none, (some 15), .bin .add (.tmp 14) (.lit (.int .i64 (1)))⟩, ⟨none, (some 8), .mov (.tmp 15)⟩]))))))
  (.seq (.ops [⟨none, (some 6), .mov (.lit (.str []))⟩, ⟨none, (some 7), .mov (.lit (.bool false))⟩])
  .ret))),
  [.tmp 6, .tmp 7], none⟩
theorem r27 {m : Int} : resolveF Tryz.prog (cfg m) 27 = some I27 := by kernel_rfl
/-- rubricator/xml.Same -/
noncomputable def I28 : IF := ⟨38, (.seq (.ops [⟨none, (some 2), .box 27 (.tmp 0)⟩, ⟨none, (some 3), .box 27 (.tmp 1)⟩, ⟨none, (some 4), .mov (.lit (.bool false))⟩])
  (.seq (.ops [⟨none, (some 5), .faddr 0 (.tmp 2)⟩, ⟨none, (some 6), .load1 (.tmp 5)⟩, ⟨none, (some 7), .faddr 0 (.tmp 3)⟩, ⟨none, (some 8), .load1 (.tmp 7)⟩, ⟨none, (some 9), .bin .eql (.tmp 6) (.tmp 8)⟩, ⟨none, (some 10), .mov (.tmp 9)⟩, ⟨(some (10, true)), (some 11), .faddr 1 (.tmp 2)⟩, ⟨(some (10, true)), (some 12), .load1 (.tmp 11)⟩, ⟨(some (10, true)), (some 13), .faddr 1 (.tmp 3)⟩, ⟨(some (10, true)), (some 14), .load1 (.tmp 13)⟩, ⟨(some (10, true)), (some 15), .bin .eql (.tmp 12) (.tmp 14)⟩, ⟨none, (some 16), .pick (.tmp 10) (.tmp 15) (.lit (.bool false))⟩, ⟨none, (some 17), .mov (.tmp 16)⟩, ⟨(some (17, true)), (some 18), .faddr 2 (.tmp 2)⟩, ⟨(some (17, true)), (some 19), .load1 (.tmp 18)⟩, ⟨(some (17, true)), (some 20), .faddr 2 (.tmp 3)⟩, ⟨(some (17, true)), (some 21), .load1 (.tmp 20)⟩, ⟨(some (17, true)), (some 22), .bin .eql (.tmp 19) (.tmp 21)⟩, ⟨none, (some 23), .pick (.tmp 17) (.tmp 22) (.lit (.bool false))⟩, ⟨none, (some 24), .mov (.tmp 23)⟩, ⟨(some (24, true)), (some 25), .faddr 3 (.tmp 2)⟩, ⟨(some (24, true)), (some 26), .load1 (.tmp 25)⟩, ⟨(some (24, true)), (some 27), .faddr 3 (.tmp 3)⟩, ⟨(some (24, true)), (some 28), .load1 (.tmp 27)⟩, ⟨(some (24, true)), (some 29), .call 51 [(.tmp 26), (.tmp 28)]⟩, ⟨none, (some 30), .pick (.tmp 24) (.tmp 29) (.lit (.bool false))⟩, ⟨none, (some 31), .mov (.tmp 30)⟩, ⟨(some (31, true)), (some 32), .faddr 4 (.tmp 2)⟩, ⟨(some (31, true)), (some 33), .load1 (.tmp 32)⟩, ⟨(some (31, true)), (some 34), .faddr 4 (.tmp 3)⟩, ⟨(some (31, true)), (some 35), .load1 (.tmp 34)⟩, ⟨(some (31, true)), (some 36), .call 52 [(.tmp 33), (.tmp 35), (.lit (.fn (.func 28) []))]⟩, ⟨none, (some 37), .pick (.tmp 31) (.tmp 36) (.lit (.bool false))⟩, ⟨none, (some 4), .mov (.tmp 37)⟩])
  .ret)),
  [.tmp 4], none⟩
theorem r28 {m : Int} : resolveF Tryz.prog (cfg m) 28 = some I28 := by kernel_rfl
/-- slices.Equal[[]rubricator/api.Attr,rubricator/api.Attr] -/
noncomputable def I51 : IF := ⟨26, (.seq (.ops [⟨none, (some 4), .mov (.lit (.bool false))⟩])
  (.seq (.seq (.ops [⟨none, (some 6), .mov (.tmp 0)⟩, ⟨none, (some 7), .lenL (.tmp 6)⟩, ⟨none, (some 8), .mov (.tmp 1)⟩, ⟨none, (some 9), .lenL (.tmp 8)⟩, ⟨none, (some 10), .bin .neq (.tmp 7) (.tmp 9)⟩])
  (.cond (.tmp 10) (.seq (.ops [⟨none, (some 4), .mov (.lit (.bool false))⟩])
  .ret)
  .skip))
  (.seq (.seq (.ops [⟨none, (some 11), .mov (.tmp 0)⟩, ⟨none, (some 12), .lenL (.tmp 11)⟩, ⟨none, (some 13), .mov (.lit (.int .i64 (0)))⟩])
  (.block 0 (.loop (some [0, 1, 12, 13]) (.seq (.ops [⟨none, (some 14), .bin .lss (.tmp 13) (.tmp 12)⟩])
  (.seq (.cond (.tmp 14) .skip
  (.exit 0))
  (.seq (.block 1 (.seq (.ops [⟨none, (some 15), .mov (.tmp 13)⟩, ⟨none, (some 5), .mov (.tmp 15)⟩])
  (.seq (.draw [] [⟨⟨none, (some 16), .mov (.tmp 0)⟩, none, true, []⟩, ⟨⟨none, (some 17), .mov (.tmp 5)⟩, none, true, []⟩, ⟨⟨none, (some 18), .iaddr 3 (.tmp 16) (.tmp 17)⟩, none, true, []⟩, ⟨⟨none, (some 19), .loadN 3 (.tmp 18)⟩, none, true, []⟩, ⟨⟨none, (some 20), .mov (.tmp 1)⟩, none, true, []⟩, ⟨⟨none, (some 21), .mov (.tmp 5)⟩, none, true, []⟩, ⟨⟨none, (some 22), .iaddr 3 (.tmp 20) (.tmp 21)⟩, none, true, []⟩, ⟨⟨none, (some 23), .loadN 3 (.tmp 22)⟩, none, true, []⟩, ⟨⟨none, (some 24), .eqS true [(0, 2), (1, 2), (2, 2)] (.tmp 19) (.tmp 23)⟩, none, true, []⟩])
  (.cond (.tmp 24) (.seq (.ops [⟨none, (some 4), .mov (.lit (.bool false))⟩])
  .ret)
  .skip))))
  (.ops [⟨none, (some 25), .bin .add (.tmp 13) (.lit (.int .i64 (1)))⟩, ⟨none, (some 13), .mov (.tmp 25)⟩])))))))
  (.seq (.ops [⟨none, (some 4), .mov (.lit (.bool true))⟩])
  .ret)))),
  [.tmp 4], none⟩
theorem r51 {m : Int} : resolveF Tryz.prog (cfg m) 51 = some I51 := by kernel_rfl
/-- slices.EqualFunc[[]rubricator/api.Elem,[]rubricator/api.Elem,rubricator/api.Elem,rubricator/api.Elem] -/
noncomputable def I52 : IF := ⟨32, (.seq (.ops [⟨none, (some 6), .mov (.lit (.bool false))⟩])
  (.seq (.seq (.ops [⟨none, (some 10), .mov (.tmp 0)⟩, ⟨none, (some 11), .lenL (.tmp 10)⟩, ⟨none, (some 12), .mov (.tmp 1)⟩, ⟨none, (some 13), .lenL (.tmp 12)⟩, ⟨none, (some 14), .bin .neq (.tmp 11) (.tmp 13)⟩])
  (.cond (.tmp 14) (.seq (.ops [⟨none, (some 6), .mov (.lit (.bool false))⟩])
  .ret)
  .skip))
  (.seq (.seq (.ops [⟨none, (some 15), .mov (.tmp 0)⟩, ⟨none, (some 16), .lenL (.tmp 15)⟩, ⟨none, (some 17), .mov (.lit (.int .i64 (0)))⟩])
  (.block 0 (.loop (some [1, 2, 15, 16, 17]) (.seq (.ops [⟨none, (some 18), .bin .lss (.tmp 17) (.tmp 16)⟩])
  (.seq (.cond (.tmp 18) .skip
  (.exit 0))
  (.seq (.block 1 (.seq (.ops [⟨none, (some 19), .mov (.tmp 17)⟩, ⟨none, (some 20), .iaddr 5 (.tmp 15) (.tmp 17)⟩, ⟨none, (some 21), .loadN 5 (.tmp 20)⟩, ⟨none, (some 8), .new 27 [.str [], .str [], .str [], .nilS, .nilS]⟩, ⟨none, (some 7), .mov (.tmp 19)⟩, ⟨none, none, .store 5 (.tmp 8) (.tmp 21)⟩])
  (.seq (.ops [⟨none, (some 22), .mov (.tmp 1)⟩, ⟨none, (some 23), .mov (.tmp 7)⟩, ⟨none, (some 24), .iaddr 5 (.tmp 22) (.tmp 23)⟩, ⟨none, (some 25), .loadN 5 (.tmp 24)⟩, ⟨none, (some 9), .new 27 [.str [], .str [], .str [], .nilS, .nilS]⟩, ⟨none, none, .store 5 (.tmp 9) (.tmp 25)⟩])
  (.seq (.ops [⟨none, (some 26), .mov (.tmp 2)⟩, ⟨none, (some 27), .loadN 5 (.tmp 8)⟩, ⟨none, (some 28), .loadN 5 (.tmp 9)⟩, ⟨none, (some 29), .callv (.tmp 26) [(.tmp 27), (.tmp 28)]⟩, ⟨none, (some 30), .un .not (.tmp 29)⟩])
  (.cond (.tmp 30) (.seq (.ops [⟨none, (some 6), .mov (.lit (.bool false))⟩])
  .ret)
  .skip)))))
  (.ops [⟨none, (some 31), .bin .add (.tmp 17) (.lit (.int .i64 (1)))⟩, ⟨none, (some 17), .mov (.tmp 31)⟩])))))))
  (.seq (.ops [⟨none, (some 6), .mov (.lit (.bool true))⟩])
  .ret)))),
  [.tmp 6], none⟩
theorem r52 {m : Int} : resolveF Tryz.prog (cfg m) 52 = some I52 := by kernel_rfl
end Go.Proofs.YtmnajffpmbidiaaGreatDoor.Ic
