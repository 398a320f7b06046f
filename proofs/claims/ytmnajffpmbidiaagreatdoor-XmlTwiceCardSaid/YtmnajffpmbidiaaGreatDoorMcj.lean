/- Parts of one proof. -/
import Derived.Test.YtmnajffpmbidiaaGreatDoorMci
set_option linter.all false
namespace Go.Proofs.YtmnajffpmbidiaaGreatDoor.Ic
open Go Go.Proofs Go.Proofs.YtmnajffpmbidiaaGreatDoor.Ev
set_option maxRecDepth 100000
noncomputable def I79 : IF := ⟨188, (.seq (.ops [⟨none, (some 2), .mov (.lit (.bool false))⟩])
  (.seq (.ops [⟨none, (some 7), .mov (.tmp 0)⟩, ⟨none, (some 8), .mov (.tmp 0)⟩, ⟨none, (some 9), .lenL (.tmp 8)⟩, ⟨none, (some 10), .mov (.tmp 0)⟩, ⟨none, (some 11), .lenL (.tmp 10)⟩, ⟨none, (some 12), .cut3 1 (.tmp 7) none (.tmp 9) (.tmp 11)⟩, ⟨none, (some 0), .mov (.tmp 12)⟩])
  (.seq (.block 0 (.loop (some [0]) (.seq (.seq (.ops [⟨none, (some 13), .mov (.tmp 0)⟩, ⟨none, (some 14), .lenL (.tmp 13)⟩, ⟨none, (some 15), .bin .gtr (.tmp 14) (.lit (.int .i64 (0)))⟩])
  (.cond (.tmp 15) .skip
  (.exit 0)))
  (.block 1 (.seq (.ops [⟨none, (some 16), .mov (.tmp 0)⟩, ⟨none, (some 17), .iaddr 1 (.tmp 16) (.lit (.int .i64 (0)))⟩, ⟨none, (some 18), .load1 (.tmp 17)⟩, ⟨none, (some 3), .mov (.tmp 18)⟩])
  (.seq (.seq (.ops [⟨none, (some 19), .mov (.tmp 3)⟩, ⟨none, (some 20), .bin .lss (.tmp 19) (.lit (.int .u8 (128)))⟩])
  (.cond (.tmp 20) (.seq (.ops [⟨none, (some 21), .mov (.tmp 0)⟩, ⟨none, (some 22), .cutS 1 (.tmp 21) (some (.lit (.int .i64 (1)))) none⟩, ⟨none, (some 0), .mov (.tmp 22)⟩])
  (.seq (.seq (.ops [⟨none, (some 23), .mov (.tmp 0)⟩, ⟨none, (some 24), .lenL (.tmp 23)⟩, ⟨none, (some 25), .bin .gtr (.tmp 24) (.lit (.int .i64 (8)))⟩, ⟨none, (some 26), .mov (.tmp 25)⟩, ⟨(some (26, true)), (some 27), .mov (.tmp 0)⟩, ⟨(some (26, true)), (some 28), .call 102 [(.tmp 27)]⟩, ⟨(some (26, true)), (some 29), .bin .and (.tmp 28) (.lit (.int .u64 (9259542123273814144)))⟩, ⟨(some (26, true)), (some 30), .bin .eql (.tmp 29) (.lit (.int .u64 (0)))⟩, ⟨none, (some 31), .pick (.tmp 26) (.tmp 30) (.lit (.bool false))⟩])
  (.cond (.tmp 31) (.seq (.ops [⟨none, (some 32), .mov (.tmp 0)⟩, ⟨none, (some 33), .cutS 1 (.tmp 32) (some (.lit (.int .i64 (8)))) none⟩, ⟨none, (some 0), .mov (.tmp 33)⟩])
  (.seq (.draw [] [⟨⟨none, (some 34), .mov (.tmp 0)⟩, none, true, [], []⟩, ⟨⟨none, (some 35), .lenL (.tmp 34)⟩, none, true, [], []⟩, ⟨⟨none, (some 36), .bin .gtr (.tmp 35) (.lit (.int .i64 (16)))⟩, none, true, [], []⟩, ⟨⟨none, (some 37), .mov (.tmp 36)⟩, none, true, [], []⟩, ⟨⟨(some (37, true)), (some 38), .mov (.tmp 0)⟩, none, true, [], []⟩, ⟨⟨(some (37, true)), (some 39), .call 102 [(.tmp 38)]⟩, none, false, [7], [6, 7]⟩, ⟨⟨(some (37, true)), (some 40), .mov (.tmp 0)⟩, none, true, [], []⟩, ⟨⟨(some (37, true)), (some 41), .cutS 1 (.tmp 40) (some (.lit (.int .i64 (8)))) none⟩, none, true, [], []⟩, ⟨⟨(some (37, true)), (some 42), .call 102 [(.tmp 41)]⟩, none, true, [], []⟩, ⟨⟨(some (37, true)), (some 43), .bin .or (.tmp 39) (.tmp 42)⟩, none, true, [], []⟩, ⟨⟨(some (37, true)), (some 44), .bin .and (.tmp 43) (.lit (.int .u64 (9259542123273814144)))⟩, none, true, [], []⟩, ⟨⟨(some (37, true)), (some 45), .bin .eql (.tmp 44) (.lit (.int .u64 (0)))⟩, none, true, [], []⟩, ⟨⟨none, (some 46), .pick (.tmp 37) (.tmp 45) (.lit (.bool false))⟩, none, true, [], []⟩])
  (.cond (.tmp 46) (.seq (.ops [⟨none, (some 47), .mov (.tmp 0)⟩, ⟨none, (some 48), .cutS 1 (.tmp 47) (some (.lit (.int .i64 (16)))) none⟩, ⟨none, (some 0), .mov (.tmp 48)⟩])
  (.block 2 (.loop (some [0]) (.seq (.seq (.draw [] [⟨⟨none, (some 49), .mov (.tmp 0)⟩, none, true, [], []⟩, ⟨⟨none, (some 50), .lenL (.tmp 49)⟩, none, true, [], []⟩, ⟨⟨none, (some 51), .bin .gtr (.tmp 50) (.lit (.int .i64 (32)))⟩, none, true, [], []⟩, ⟨⟨none, (some 52), .mov (.tmp 51)⟩, none, true, [], []⟩, ⟨⟨(some (52, true)), (some 53), .mov (.tmp 0)⟩, none, true, [], []⟩, ⟨⟨(some (52, true)), (some 54), .call 102 [(.tmp 53)]⟩, none, false, [7, 11, 14], [6, 7, 10, 11, 13, 14]⟩, ⟨⟨(some (52, true)), (some 55), .mov (.tmp 0)⟩, none, true, [], []⟩, ⟨⟨(some (52, true)), (some 56), .cutS 1 (.tmp 55) (some (.lit (.int .i64 (8)))) none⟩, none, true, [], []⟩, ⟨⟨(some (52, true)), (some 57), .call 102 [(.tmp 56)]⟩, none, false, [11, 14], [10, 11, 13, 14]⟩, ⟨⟨(some (52, true)), (some 58), .bin .or (.tmp 54) (.tmp 57)⟩, none, true, [], []⟩, ⟨⟨(some (52, true)), (some 59), .mov (.tmp 0)⟩, none, true, [], []⟩, ⟨⟨(some (52, true)), (some 60), .cutS 1 (.tmp 59) (some (.lit (.int .i64 (16)))) none⟩, none, true, [], []⟩, ⟨⟨(some (52, true)), (some 61), .call 102 [(.tmp 60)]⟩, none, false, [14], [13, 14]⟩, ⟨⟨(some (52, true)), (some 62), .mov (.tmp 0)⟩, none, true, [], []⟩, ⟨⟨(some (52, true)), (some 63), .cutS 1 (.tmp 62) (some (.lit (.int .i64 (24)))) none⟩, none, true, [], []⟩, ⟨⟨(some (52, true)), (some 64), .call 102 [(.tmp 63)]⟩, none, true, [], []⟩, ⟨⟨(some (52, true)), (some 65), .bin .or (.tmp 61) (.tmp 64)⟩, none, true, [], []⟩, ⟨⟨(some (52, true)), (some 66), .bin .or (.tmp 58) (.tmp 65)⟩, none, true, [], []⟩, ⟨⟨(some (52, true)), (some 67), .bin .and (.tmp 66) (.lit (.int .u64 (9259542123273814144)))⟩, none, true, [], []⟩, ⟨⟨(some (52, true)), (some 68), .bin .eql (.tmp 67) (.lit (.int .u64 (0)))⟩, none, true, [], []⟩, ⟨⟨none, (some 69), .pick (.tmp 52) (.tmp 68) (.lit (.bool false))⟩, none, true, [], []⟩])
  (.cond (.tmp 69) .skip
  (.exit 2)))
  (.block 3 (.ops [⟨none, (some 70), .mov (.tmp 0)⟩, ⟨none, (some 71), .cutS 1 (.tmp 70) (some (.lit (.int .i64 (32)))) none⟩, ⟨none, (some 0), .mov (.tmp 71)⟩]))))))
  .skip)))
  .skip))
  (.exit 1)))
  .skip))
  (.seq (.ops [⟨none, (some 72), .mov (.tmp 3)⟩, ⟨none, (some 73), .iaddrA 256 1 (.glob 0) (.tmp 72)⟩, ⟨none, (some 74), .load1 (.tmp 73)⟩, ⟨none, (some 4), .mov (.tmp 74)⟩])
  (.seq (.ops [⟨none, (some 75), .mov (.tmp 4)⟩, ⟨none, (some 76), .bin .and (.tmp 75) (.lit (.int .u8 (7)))⟩, ⟨none, (some 77), .conv .i64 (.tmp 76)⟩, ⟨none, (some 5), .mov (.tmp 77)⟩])
  (.seq (.ops [⟨none, (some 78), .mov (.tmp 4)⟩, ⟨none, (some 79), .bin .shr (.tmp 78) (.lit (.int .u64 (4)))⟩, ⟨none, (some 80), .iaddrA 16 2 (.glob 1) (.tmp 79)⟩, ⟨none, (some 81), .loadN 2 (.tmp 80)⟩, ⟨none, (some 6), .new 125 [.int .u8 (0), .int .u8 (0)]⟩, ⟨none, none, .store 2 (.tmp 6) (.tmp 81)⟩])
  (.seq (.ops [⟨none, (some 82), .mov (.tmp 5)⟩])
  (.block 4 (.seq (.ops [⟨none, (some 84), .bin .eql (.tmp 82) (.lit (.int .i64 (2)))⟩, ⟨none, (some 83), .mov (.tmp 84)⟩])
  (.cond (.tmp 83) (.seq (.seq (.draw [] [⟨⟨none, (some 85), .mov (.tmp 0)⟩, none, true, [], []⟩, ⟨⟨none, (some 86), .lenL (.tmp 85)⟩, none, true, [], []⟩, ⟨⟨none, (some 87), .bin .lss (.tmp 86) (.lit (.int .i64 (2)))⟩, none, true, [], []⟩, ⟨⟨none, (some 88), .mov (.tmp 87)⟩, none, true, [], []⟩, ⟨⟨(some (88, false)), (some 89), .mov (.tmp 0)⟩, none, true, [], []⟩, ⟨⟨(some (88, false)), (some 90), .iaddr 1 (.tmp 89) (.lit (.int .i64 (1)))⟩, none, true, [], []⟩, ⟨⟨(some (88, false)), (some 91), .load1 (.tmp 90)⟩, none, true, [], []⟩, ⟨⟨(some (88, false)), (some 92), .faddr 0 (.tmp 6)⟩, none, true, [], []⟩, ⟨⟨(some (88, false)), (some 93), .load1 (.tmp 92)⟩, none, true, [], []⟩, ⟨⟨(some (88, false)), (some 94), .bin .lss (.tmp 91) (.tmp 93)⟩, none, true, [], []⟩, ⟨⟨none, (some 95), .pick (.tmp 88) (.lit (.bool true)) (.tmp 94)⟩, none, true, [], []⟩, ⟨⟨none, (some 96), .mov (.tmp 95)⟩, none, true, [], []⟩, ⟨⟨(some (96, false)), (some 97), .faddr 1 (.tmp 6)⟩, none, true, [], []⟩, ⟨⟨(some (96, false)), (some 98), .load1 (.tmp 97)⟩, none, true, [], []⟩, ⟨⟨(some (96, false)), (some 99), .mov (.tmp 0)⟩, none, true, [], []⟩, ⟨⟨(some (96, false)), (some 100), .iaddr 1 (.tmp 99) (.lit (.int .i64 (1)))⟩, none, true, [], []⟩, ⟨⟨(some (96, false)), (some 101), .load1 (.tmp 100)⟩, none, true, [], []⟩, ⟨⟨(some (96, false)), (some 102), .bin .lss (.tmp 98) (.tmp 101)⟩, none, true, [], []⟩, ⟨⟨none, (some 103), .pick (.tmp 96) (.lit (.bool true)) (.tmp 102)⟩, none, true, [], []⟩])
  (.cond (.tmp 103) (.seq (.ops [⟨none, (some 2), .mov (.lit (.bool false))⟩])
  .ret)
  .skip))
  (.ops [⟨none, (some 104), .mov (.tmp 0)⟩, ⟨none, (some 105), .cutS 1 (.tmp 104) (some (.lit (.int .i64 (2)))) none⟩, ⟨none, (some 0), .mov (.tmp 105)⟩]))
  (.seq (.ops [⟨none, (some 107), .bin .eql (.tmp 82) (.lit (.int .i64 (3)))⟩, ⟨none, (some 106), .mov (.tmp 107)⟩])
  (.cond (.tmp 106) (.seq (.seq (.draw [] [⟨⟨none, (some 108), .mov (.tmp 0)⟩, none, true, [], []⟩, ⟨⟨none, (some 109), .lenL (.tmp 108)⟩, none, true, [], []⟩, ⟨⟨none, (some 110), .bin .lss (.tmp 109) (.lit (.int .i64 (3)))⟩, none, true, [], []⟩, ⟨⟨none, (some 111), .mov (.tmp 110)⟩, none, true, [], []⟩, ⟨⟨(some (111, false)), (some 112), .mov (.tmp 0)⟩, none, true, [], []⟩, ⟨⟨(some (111, false)), (some 113), .iaddr 1 (.tmp 112) (.lit (.int .i64 (1)))⟩, none, true, [], []⟩, ⟨⟨(some (111, false)), (some 114), .load1 (.tmp 113)⟩, none, true, [], []⟩, ⟨⟨(some (111, false)), (some 115), .faddr 0 (.tmp 6)⟩, none, true, [], []⟩, ⟨⟨(some (111, false)), (some 116), .load1 (.tmp 115)⟩, none, true, [], []⟩, ⟨⟨(some (111, false)), (some 117), .bin .lss (.tmp 114) (.tmp 116)⟩, none, true, [], []⟩, ⟨⟨none, (some 118), .pick (.tmp 111) (.lit (.bool true)) (.tmp 117)⟩, none, true, [], []⟩, ⟨⟨none, (some 119), .mov (.tmp 118)⟩, none, true, [], []⟩, ⟨⟨(some (119, false)), (some 120), .faddr 1 (.tmp 6)⟩, none, true, [], []⟩, ⟨⟨(some (119, false)), (some 121), .load1 (.tmp 120)⟩, none, true, [], []⟩, ⟨⟨(some (119, false)), (some 122), .mov (.tmp 0)⟩, none, true, [], []⟩, ⟨⟨(some (119, false)), (some 123), .iaddr 1 (.tmp 122) (.lit (.int .i64 (1)))⟩, none, true, [], []⟩, ⟨⟨(some (119, false)), (some 124), .load1 (.tmp 123)⟩, none, true, [], []⟩, ⟨⟨(some (119, false)), (some 125), .bin .lss (.tmp 121) (.tmp 124)⟩, none, true, [], []⟩, ⟨⟨none, (some 126), .pick (.tmp 119) (.lit (.bool true)) (.tmp 125)⟩, none, true, [], []⟩, ⟨⟨none, (some 127), .mov (.tmp 126)⟩, none, true, [], []⟩, ⟨⟨(some (127, false)), (some 128), .mov (.tmp 0)⟩, none, true, [], []⟩, ⟨⟨(some (127, false)), (some 129), .iaddr 1 (.tmp 128) (.lit (.int .i64 (2)))⟩, none, true, [], []⟩, ⟨⟨(some (127, false)), (some 130), .load1 (.tmp 129)⟩, none, true, [], []⟩, ⟨⟨(some (127, false)), (some 131), .bin .lss (.tmp 130) (.lit (.int .u8 (128)))⟩, none, true, [], []⟩, ⟨⟨none, (some 132), .pick (.tmp 127) (.lit (.bool true)) (.tmp 131)⟩, none, true, [], []⟩, ⟨⟨none, (some 133), .mov (.tmp 132)⟩, none, true, [], []⟩, ⟨⟨(some (133, false)), (some 134), .mov (.tmp 0)⟩, none, true, [], []⟩, ⟨⟨(some (133, false)), (some 135), .iaddr 1 (.tmp 134) (.lit (.int .i64 (2)))⟩, none, true, [], []⟩, ⟨⟨(some (133, false)), (some 136), .load1 (.tmp 135)⟩, none, true, [], []⟩, ⟨⟨(some (133, false)), (some 137), .bin .lss (.lit (.int .u8 (191))) (.tmp 136)⟩, none, true, [], []⟩, ⟨⟨none, (some 138), .pick (.tmp 133) (.lit (.bool true)) (.tmp 137)⟩, none, true, [], []⟩])
  (.cond (.tmp 138) (.seq (.ops [⟨none, (some 2), .mov (.lit (.bool false))⟩])
  .ret)
  .skip))
  (.ops [⟨none, (some 139), .mov (.tmp 0)⟩, ⟨none, (some 140), .cutS 1 (.tmp 139) (some (.lit (.int .i64 (3)))) none⟩, ⟨none, (some 0), .mov (.tmp 140)⟩]))
  (.seq (.ops [⟨none, (some 142), .bin .eql (.tmp 82) (.lit (.int .i64 (4)))⟩, ⟨none, (some 141), .mov (.tmp 142)⟩])
  (.cond (.tmp 141) (.seq (.seq (.draw [] [⟨⟨none, (some 143), .mov (.tmp 0)⟩, none, true, [], []⟩, ⟨⟨none, (some 144), .lenL (.tmp 143)⟩, none, true, [], []⟩, ⟨⟨none, (some 145), .bin .lss (.tmp 144) (.lit (.int .i64 (4)))⟩, none, true, [], []⟩, ⟨⟨none, (some 146), .mov (.tmp 145)⟩, none, true, [], []⟩, ⟨⟨(some (146, false)), (some 147), .mov (.tmp 0)⟩, none, true, [], []⟩, ⟨⟨(some (146, false)), (some 148), .iaddr 1 (.tmp 147) (.lit (.int .i64 (1)))⟩, none, true, [], []⟩, ⟨⟨(some (146, false)), (some 149), .load1 (.tmp 148)⟩, none, true, [], []⟩, ⟨⟨(some (146, false)), (some 150), .faddr 0 (.tmp 6)⟩, none, true, [], []⟩, ⟨⟨(some (146, false)), (some 151), .load1 (.tmp 150)⟩, none, true, [], []⟩, ⟨⟨(some (146, false)), (some 152), .bin .lss (.tmp 149) (.tmp 151)⟩, none, true, [], []⟩, ⟨⟨none, (some 153), .pick (.tmp 146) (.lit (.bool true)) (.tmp 152)⟩, none, true, [], []⟩, ⟨⟨none, (some 154), .mov (.tmp 153)⟩, none, true, [], []⟩, ⟨⟨(some (154, false)), (some 155), .faddr 1 (.tmp 6)⟩, none, true, [], []⟩, ⟨⟨(some (154, false)), (some 156), .load1 (.tmp 155)⟩, none, true, [], []⟩, ⟨⟨(some (154, false)), (some 157), .mov (.tmp 0)⟩, none, true, [], []⟩, ⟨⟨(some (154, false)), (some 158), .iaddr 1 (.tmp 157) (.lit (.int .i64 (1)))⟩, none, true, [], []⟩, ⟨⟨(some (154, false)), (some 159), .load1 (.tmp 158)⟩, none, true, [], []⟩, ⟨⟨(some (154, false)), (some 160), .bin .lss (.tmp 156) (.tmp 159)⟩, none, true, [], []⟩, ⟨⟨none, (some 161), .pick (.tmp 154) (.lit (.bool true)) (.tmp 160)⟩, none, true, [], []⟩, ⟨⟨none, (some 162), .mov (.tmp 161)⟩, none, true, [], []⟩, ⟨⟨(some (162, false)), (some 163), .mov (.tmp 0)⟩, none, true, [], []⟩, ⟨⟨(some (162, false)), (some 164), .iaddr 1 (.tmp 163) (.lit (.int .i64 (2)))⟩, none, true, [], []⟩, ⟨⟨(some (162, false)), (some 165), .load1 (.tmp 164)⟩, none, true, [], []⟩, ⟨⟨(some (162, false)), (some 166), .bin .lss (.tmp 165) (.lit (.int .u8 (128)))⟩, none, true, [], []⟩, ⟨⟨none, (some 167), .pick (.tmp 162) (.lit (.bool true)) (.tmp 166)⟩, none, true, [], []⟩, ⟨⟨none, (some 168), .mov (.tmp 167)⟩, none, true, [], []⟩, ⟨⟨(some (168, false)), (some 169), .mov (.tmp 0)⟩, none, true, [], []⟩, ⟨⟨(some (168, false)), (some 170), .iaddr 1 (.tmp 169) (.lit (.int .i64 (2)))⟩, none, true, [], []⟩, ⟨⟨(some (168, false)), (some 171), .load1 (.tmp 170)⟩, none, true, [], []⟩, ⟨⟨(some (168, false)), (some 172), .bin .lss (.lit (.int .u8 (191))) (.tmp 171)⟩, none, true, [], []⟩, ⟨⟨none, (some 173), .pick (.tmp 168) (.lit (.bool true)) (.tmp 172)⟩, none, true, [], []⟩, ⟨⟨none, (some 174), .mov (.tmp 173)⟩, none, true, [], []⟩, ⟨⟨(some (174, false)), (some 175), .mov (.tmp 0)⟩, none, true, [], []⟩, ⟨⟨(some (174, false)), (some 176), .iaddr 1 (.tmp 175) (.lit (.int .i64 (3)))⟩, none, true, [], []⟩, ⟨⟨(some (174, false)), (some 177), .load1 (.tmp 176)⟩, none, true, [], []⟩, ⟨⟨(some (174, false)), (some 178), .bin .lss (.tmp 177) (.lit (.int .u8 (128)))⟩, none, true, [], []⟩, ⟨⟨none, (some 179), .pick (.tmp 174) (.lit (.bool true)) (.tmp 178)⟩, none, true, [], []⟩, ⟨⟨none, (some 180), .mov (.tmp 179)⟩, none, true, [], []⟩, ⟨⟨(some (180, false)), (some 181), .mov (.tmp 0)⟩, none, true, [], []⟩, ⟨⟨(some (180, false)), (some 182), .iaddr 1 (.tmp 181) (.lit (.int .i64 (3)))⟩, none, true, [], []⟩, ⟨⟨(some (180, false)), (some 183), .load1 (.tmp 182)⟩, none, true, [], []⟩, ⟨⟨(some (180, false)), (some 184), .bin .lss (.lit (.int .u8 (191))) (.tmp 183)⟩, none, true, [], []⟩, ⟨⟨none, (some 185), .pick (.tmp 180) (.lit (.bool true)) (.tmp 184)⟩, none, true, [], []⟩])
  (.cond (.tmp 185) (.seq (.ops [⟨none, (some 2), .mov (.lit (.bool false))⟩])
  .ret)
  .skip))
  (.ops [⟨none, (some 186), .mov (.tmp 0)⟩, ⟨none, (some 187), .cutS 1 (.tmp 186) (some (.lit (.int .i64 (4)))) none⟩, ⟨none, (some 0), .mov (.tmp 187)⟩]))
  (.seq (.ops [⟨none, (some 2), .mov (.lit (.bool false))⟩])
  .ret))))))))))))))))))
  (.seq (.ops [⟨none, (some 2), .mov (.lit (.bool true))⟩])
  .ret)))),
  [.tmp 2], none⟩
theorem r79 {m : Int} : resolveF Tryz.prog (cfg m) 79 = some I79 := by kernel_rfl
noncomputable def I85 : IF := ⟨14, (.seq (.ops [⟨none, (some 2), .mov (.lit (.str []))⟩])
  (.seq (.draw [] [⟨⟨none, (some 3), .mov (.tmp 0)⟩, none, true, [], []⟩, ⟨⟨none, (some 4), .nchk (.tmp 3)⟩, none, true, [], []⟩, ⟨⟨none, (some 5), .faddr 1 (.tmp 4)⟩, none, true, [], []⟩, ⟨⟨none, (some 6), .load1 (.tmp 5)⟩, none, true, [], []⟩, ⟨⟨none, (some 7), .raw (opAt Tryz.f85 5)⟩, none, false, [6, 8, 9], [5, 6, 7, 8, 9]⟩, ⟨⟨none, (some 8), .mov (.tmp 0)⟩, none, true, [], []⟩, ⟨⟨none, (some 9), .nchk (.tmp 8)⟩, none, true, [], []⟩, ⟨⟨none, (some 10), .faddr 1 (.tmp 9)⟩, none, true, [], []⟩, ⟨⟨none, (some 11), .load1 (.tmp 10)⟩, none, true, [], []⟩, ⟨⟨none, (some 12), .lenL (.tmp 11)⟩, none, true, [], []⟩, ⟨⟨none, (some 13), .raw (opAt Tryz.f85 11)⟩, none, true, [], []⟩, ⟨⟨none, (some 2), .mov (.tmp 13)⟩, none, true, [], []⟩])
  .ret)),
  [.tmp 2], none⟩
theorem r85 {m : Int} : resolveF Tryz.prog (cfg m) 85 = some I85 := by kernel_rfl
noncomputable def I89 : IF := ⟨17, (.seq (.ops [⟨none, (some 4), .mov (.lit (.nilI))⟩])
  (.seq (.ops [⟨none, (some 5), .mov (.tmp 0)⟩, ⟨none, (some 6), .call 105 [(.tmp 5)]⟩])
  (.seq (.ops [⟨none, (some 7), .mov (.tmp 0)⟩, ⟨none, (some 8), .mov (.tmp 0)⟩, ⟨none, (some 9), .nchk (.tmp 8)⟩, ⟨none, (some 10), .faddr 1 (.tmp 9)⟩, ⟨none, (some 11), .load1 (.tmp 10)⟩, ⟨none, (some 12), .mov (.tmp 1)⟩, ⟨none, (some 13), .bldS 5 1 1 [.int .u8 (0)] [(0, 1, (.tmp 12))]⟩, ⟨none, (some 14), .app 5 1 (.tmp 11) (.tmp 13)⟩, ⟨none, (some 15), .nchk (.tmp 7)⟩, ⟨none, (some 16), .faddr 1 (.tmp 15)⟩, ⟨none, none, .store 1 (.tmp 16) (.tmp 14)⟩])
  (.seq (.ops [⟨none, (some 4), .mov (.lit (.nilI))⟩])
  .ret)))),
  [.tmp 4], none⟩
theorem r89 {m : Int} : resolveF Tryz.prog (cfg m) 89 = some I89 := by kernel_rfl
noncomputable def I90 : IF := ⟨9, (.seq (.ops [⟨none, (some 4), .mov (.lit (.bool false))⟩])
  (.seq (.ops [⟨none, (some 5), .mov (.tmp 0)⟩, ⟨none, (some 6), .mov (.tmp 1)⟩, ⟨none, (some 7), .call 114 [(.tmp 5), (.tmp 6)]⟩, ⟨none, (some 8), .bin .geq (.tmp 7) (.lit (.int .i64 (0)))⟩, ⟨none, (some 4), .mov (.tmp 8)⟩])
  .ret)),
  [.tmp 4], none⟩
theorem r90 {m : Int} : resolveF Tryz.prog (cfg m) 90 = some I90 := by kernel_rfl
noncomputable def I91 : IF := ⟨16, (.seq (.ops [⟨none, (some 2), .box 87 (.tmp 0)⟩, ⟨none, (some 3), .mov (.lit (.bool false))⟩])
  (.seq (.ops [⟨none, (some 4), .faddr 0 (.tmp 1)⟩, ⟨none, (some 5), .load1 (.tmp 4)⟩, ⟨none, (some 6), .faddr 0 (.tmp 2)⟩, ⟨none, (some 7), .load1 (.tmp 6)⟩, ⟨none, (some 8), .bin .eql (.tmp 5) (.tmp 7)⟩, ⟨none, (some 9), .mov (.tmp 8)⟩, ⟨(some (9, true)), (some 10), .faddr 1 (.tmp 1)⟩, ⟨(some (9, true)), (some 11), .load1 (.tmp 10)⟩, ⟨(some (9, true)), (some 12), .faddr 1 (.tmp 2)⟩, ⟨(some (9, true)), (some 13), .load1 (.tmp 12)⟩, ⟨(some (9, true)), (some 14), .bin .eql (.tmp 11) (.tmp 13)⟩, ⟨none, (some 15), .pick (.tmp 9) (.tmp 14) (.lit (.bool false))⟩, ⟨none, (some 3), .mov (.tmp 15)⟩])
  .ret)),
  [.tmp 3], none⟩
theorem r91 {m : Int} : resolveF Tryz.prog (cfg m) 91 = some I91 := by kernel_rfl
noncomputable def I92 : IF := ⟨9, (.seq (.ops [⟨none, (some 4), .mov (.lit (.bool false))⟩])
  (.seq (.ops [⟨none, (some 5), .mov (.tmp 0)⟩, ⟨none, (some 6), .mov (.tmp 1)⟩, ⟨none, (some 7), .call 115 [(.tmp 5), (.tmp 6)]⟩, ⟨none, (some 8), .bin .geq (.tmp 7) (.lit (.int .i64 (0)))⟩, ⟨none, (some 4), .mov (.tmp 8)⟩])
  .ret)),
  [.tmp 4], none⟩
theorem r92 {m : Int} : resolveF Tryz.prog (cfg m) 92 = some I92 := by kernel_rfl
noncomputable def I93 : IF := ⟨16, (.seq (.ops [⟨none, (some 2), .box 41 (.tmp 0)⟩, ⟨none, (some 3), .mov (.lit (.bool false))⟩])
  (.seq (.ops [⟨none, (some 4), .faddr 0 (.tmp 1)⟩, ⟨none, (some 5), .load1 (.tmp 4)⟩, ⟨none, (some 6), .faddr 0 (.tmp 2)⟩, ⟨none, (some 7), .load1 (.tmp 6)⟩, ⟨none, (some 8), .bin .eql (.tmp 5) (.tmp 7)⟩, ⟨none, (some 9), .mov (.tmp 8)⟩, ⟨(some (9, true)), (some 10), .faddr 1 (.tmp 1)⟩, ⟨(some (9, true)), (some 11), .load1 (.tmp 10)⟩, ⟨(some (9, true)), (some 12), .faddr 1 (.tmp 2)⟩, ⟨(some (9, true)), (some 13), .load1 (.tmp 12)⟩, ⟨(some (9, true)), (some 14), .bin .eql (.tmp 11) (.tmp 13)⟩, ⟨none, (some 15), .pick (.tmp 9) (.tmp 14) (.lit (.bool false))⟩, ⟨none, (some 3), .mov (.tmp 15)⟩])
  .ret)),
  [.tmp 3], none⟩
theorem r93 {m : Int} : resolveF Tryz.prog (cfg m) 93 = some I93 := by kernel_rfl
noncomputable def I94 : IF := ⟨12, (.seq (.ops [⟨none, (some 2), .call 95 [(.tmp 0)]⟩, ⟨none, (some 3), .bin .gtr (.tmp 2) (.lit (.int .i64 (0)))⟩])
  (.cond (.tmp 3) (.seq (.draw2 7 8 [.row [.str [], .str [], .str [], .nilS, .nilS] 0 28] [⟨⟨none, (some 4), .load1 (.tmp 1)⟩, none, true, [], []⟩, ⟨⟨none, (some 5), .call 85 [(.tmp 0)]⟩, none, false, [0, 3, 4], [3, 4]⟩, ⟨⟨none, (some 6), .bld [.str [], .str [], .str [], .nilS, .nilS] [(2, 1, (.tmp 5))]⟩, none, true, [], []⟩, ⟨⟨none, (some 7), .lenL (.tmp 4)⟩, none, true, [], []⟩, ⟨⟨none, (some 8), .mov (.lit (.bad))⟩, (some (0, 27, [.str [], .str [], .str [], .nilS, .nilS], some (1, 5))), true, [], []⟩, ⟨⟨none, (some 9), .app 27 5 (.tmp 4) (.tmp 8)⟩, none, true, [], []⟩, ⟨⟨none, (some 10), .iaddr 5 (.tmp 9) (.tmp 7)⟩, none, true, [], []⟩, ⟨⟨none, none, .store 5 (.tmp 10) (.tmp 6)⟩, none, false, [8], []⟩, ⟨⟨none, none, .store 1 (.tmp 1) (.tmp 9)⟩, none, false, [7], []⟩])
  (.ops [⟨none, (some 11), .call 96 [(.tmp 0)]⟩]))
  .skip)),
  [], none⟩
theorem r94 {m : Int} : resolveF Tryz.prog (cfg m) 94 = some I94 := by kernel_rfl
noncomputable def I95 : IF := ⟨8, (.seq (.ops [⟨none, (some 2), .mov (.lit (.int .i64 (0)))⟩])
  (.seq (.ops [⟨none, (some 3), .mov (.tmp 0)⟩, ⟨none, (some 4), .nchk (.tmp 3)⟩, ⟨none, (some 5), .faddr 1 (.tmp 4)⟩, ⟨none, (some 6), .load1 (.tmp 5)⟩, ⟨none, (some 7), .lenL (.tmp 6)⟩, ⟨none, (some 2), .mov (.tmp 7)⟩])
  .ret)),
  [.tmp 2], none⟩
theorem r95 {m : Int} : resolveF Tryz.prog (cfg m) 95 = some I95 := by kernel_rfl
noncomputable def I102 : IF := ⟨71, (.seq (.ops [⟨none, (some 2), .mov (.lit (.int .u64 (0)))⟩])
  (.seq (.cond (.lit (.bool false)) (.seq (.draw [] [⟨⟨none, (some 3), .mov (.tmp 0)⟩, none, true, [], []⟩, ⟨⟨none, (some 4), .iaddr 1 (.tmp 3) (.lit (.int .i64 (0)))⟩, none, true, [], []⟩, ⟨⟨none, (some 5), .load1 (.tmp 4)⟩, none, true, [], []⟩, ⟨⟨none, (some 6), .conv .u64 (.tmp 5)⟩, none, true, [], []⟩, ⟨⟨none, (some 7), .mov (.tmp 0)⟩, none, true, [], []⟩, ⟨⟨none, (some 8), .iaddr 1 (.tmp 7) (.lit (.int .i64 (1)))⟩, none, true, [], []⟩, ⟨⟨none, (some 9), .load1 (.tmp 8)⟩, none, true, [], []⟩, ⟨⟨none, (some 10), .conv .u64 (.tmp 9)⟩, none, true, [], []⟩, ⟨⟨none, (some 11), .bin .shl (.tmp 10) (.lit (.int .u64 (8)))⟩, none, true, [], []⟩, ⟨⟨none, (some 12), .bin .or (.tmp 6) (.tmp 11)⟩, none, true, [], []⟩, ⟨⟨none, (some 13), .mov (.tmp 0)⟩, none, true, [], []⟩, ⟨⟨none, (some 14), .iaddr 1 (.tmp 13) (.lit (.int .i64 (2)))⟩, none, true, [], []⟩, ⟨⟨none, (some 15), .load1 (.tmp 14)⟩, none, true, [], []⟩, ⟨⟨none, (some 16), .conv .u64 (.tmp 15)⟩, none, true, [], []⟩, ⟨⟨none, (some 17), .bin .shl (.tmp 16) (.lit (.int .u64 (16)))⟩, none, true, [], []⟩, ⟨⟨none, (some 18), .bin .or (.tmp 12) (.tmp 17)⟩, none, true, [], []⟩, ⟨⟨none, (some 19), .mov (.tmp 0)⟩, none, true, [], []⟩, ⟨⟨none, (some 20), .iaddr 1 (.tmp 19) (.lit (.int .i64 (3)))⟩, none, true, [], []⟩, ⟨⟨none, (some 21), .load1 (.tmp 20)⟩, none, true, [], []⟩, ⟨⟨none, (some 22), .conv .u64 (.tmp 21)⟩, none, true, [], []⟩, ⟨⟨none, (some 23), .bin .shl (.tmp 22) (.lit (.int .u64 (24)))⟩, none, true, [], []⟩, ⟨⟨none, (some 24), .bin .or (.tmp 18) (.tmp 23)⟩, none, true, [], []⟩, ⟨⟨none, (some 2), .mov (.tmp 24)⟩, none, true, [], []⟩])
  .ret)
  .skip)
  (.seq (.draw [] [⟨⟨none, (some 25), .mov (.tmp 0)⟩, none, true, [], []⟩, ⟨⟨none, (some 26), .iaddr 1 (.tmp 25) (.lit (.int .i64 (0)))⟩, none, true, [], []⟩, ⟨⟨none, (some 27), .load1 (.tmp 26)⟩, none, true, [], []⟩, ⟨⟨none, (some 28), .conv .u64 (.tmp 27)⟩, none, true, [], []⟩, ⟨⟨none, (some 29), .mov (.tmp 0)⟩, none, true, [], []⟩, ⟨⟨none, (some 30), .iaddr 1 (.tmp 29) (.lit (.int .i64 (1)))⟩, none, true, [], []⟩, ⟨⟨none, (some 31), .load1 (.tmp 30)⟩, none, true, [], []⟩, ⟨⟨none, (some 32), .conv .u64 (.tmp 31)⟩, none, true, [], []⟩, ⟨⟨none, (some 33), .bin .shl (.tmp 32) (.lit (.int .u64 (8)))⟩, none, true, [], []⟩, ⟨⟨none, (some 34), .bin .or (.tmp 28) (.tmp 33)⟩, none, true, [], []⟩, ⟨⟨none, (some 35), .mov (.tmp 0)⟩, none, true, [], []⟩, ⟨⟨none, (some 36), .iaddr 1 (.tmp 35) (.lit (.int .i64 (2)))⟩, none, true, [], []⟩, ⟨⟨none, (some 37), .load1 (.tmp 36)⟩, none, true, [], []⟩, ⟨⟨none, (some 38), .conv .u64 (.tmp 37)⟩, none, true, [], []⟩, ⟨⟨none, (some 39), .bin .shl (.tmp 38) (.lit (.int .u64 (16)))⟩, none, true, [], []⟩, ⟨⟨none, (some 40), .bin .or (.tmp 34) (.tmp 39)⟩, none, true, [], []⟩, ⟨⟨none, (some 41), .mov (.tmp 0)⟩, none, true, [], []⟩, ⟨⟨none, (some 42), .iaddr 1 (.tmp 41) (.lit (.int .i64 (3)))⟩, none, true, [], []⟩, ⟨⟨none, (some 43), .load1 (.tmp 42)⟩, none, true, [], []⟩, ⟨⟨none, (some 44), .conv .u64 (.tmp 43)⟩, none, true, [], []⟩, ⟨⟨none, (some 45), .bin .shl (.tmp 44) (.lit (.int .u64 (24)))⟩, none, true, [], []⟩, ⟨⟨none, (some 46), .bin .or (.tmp 40) (.tmp 45)⟩, none, true, [], []⟩, ⟨⟨none, (some 47), .mov (.tmp 0)⟩, none, true, [], []⟩, ⟨⟨none, (some 48), .iaddr 1 (.tmp 47) (.lit (.int .i64 (4)))⟩, none, true, [], []⟩, ⟨⟨none, (some 49), .load1 (.tmp 48)⟩, none, true, [], []⟩, ⟨⟨none, (some 50), .conv .u64 (.tmp 49)⟩, none, true, [], []⟩, ⟨⟨none, (some 51), .bin .shl (.tmp 50) (.lit (.int .u64 (32)))⟩, none, true, [], []⟩, ⟨⟨none, (some 52), .bin .or (.tmp 46) (.tmp 51)⟩, none, true, [], []⟩, ⟨⟨none, (some 53), .mov (.tmp 0)⟩, none, true, [], []⟩, ⟨⟨none, (some 54), .iaddr 1 (.tmp 53) (.lit (.int .i64 (5)))⟩, none, true, [], []⟩, ⟨⟨none, (some 55), .load1 (.tmp 54)⟩, none, true, [], []⟩, ⟨⟨none, (some 56), .conv .u64 (.tmp 55)⟩, none, true, [], []⟩, ⟨⟨none, (some 57), .bin .shl (.tmp 56) (.lit (.int .u64 (40)))⟩, none, true, [], []⟩, ⟨⟨none, (some 58), .bin .or (.tmp 52) (.tmp 57)⟩, none, true, [], []⟩, ⟨⟨none, (some 59), .mov (.tmp 0)⟩, none, true, [], []⟩, ⟨⟨none, (some 60), .iaddr 1 (.tmp 59) (.lit (.int .i64 (6)))⟩, none, true, [], []⟩, ⟨⟨none, (some 61), .load1 (.tmp 60)⟩, none, true, [], []⟩, ⟨⟨none, (some 62), .conv .u64 (.tmp 61)⟩, none, true, [], []⟩, ⟨⟨none, (some 63), .bin .shl (.tmp 62) (.lit (.int .u64 (48)))⟩, none, true, [], []⟩, ⟨⟨none, (some 64), .bin .or (.tmp 58) (.tmp 63)⟩, none, true, [], []⟩, ⟨⟨none, (some 65), .mov (.tmp 0)⟩, none, true, [], []⟩, ⟨⟨none, (some 66), .iaddr 1 (.tmp 65) (.lit (.int .i64 (7)))⟩, none, true, [], []⟩, ⟨⟨none, (some 67), .load1 (.tmp 66)⟩, none, true, [], []⟩, ⟨⟨none, (some 68), .conv .u64 (.tmp 67)⟩, none, true, [], []⟩, ⟨⟨none, (some 69), .bin .shl (.tmp 68) (.lit (.int .u64 (56)))⟩, none, true, [], []⟩, ⟨⟨none, (some 70), .bin .or (.tmp 64) (.tmp 69)⟩, none, true, [], []⟩, ⟨⟨none, (some 2), .mov (.tmp 70)⟩, none, true, [], []⟩])
  .ret))),
  [.tmp 2], none⟩
theorem r102 {m : Int} : resolveF Tryz.prog (cfg m) 102 = some I102 := by kernel_rfl
noncomputable def I105 : IF := ⟨20, (.seq (.ops [⟨none, (some 2), .mov (.tmp 0)⟩, ⟨none, (some 3), .nchk (.tmp 2)⟩, ⟨none, (some 4), .faddr 0 (.tmp 3)⟩, ⟨none, (some 5), .load1 (.tmp 4)⟩, ⟨none, (some 6), .nilT false 0 (.tmp 5)⟩])
  (.cond (.tmp 6) (.ops [⟨none, (some 7), .mov (.tmp 0)⟩, ⟨none, (some 8), .mov (.tmp 0)⟩, ⟨none, (some 9), .raw (opAt Tryz.f105 7)⟩, ⟨none, (some 10), .mov (.tmp 9)⟩, ⟨none, (some 11), .raw (opAt Tryz.f105 9)⟩, ⟨none, (some 12), .nchk (.tmp 7)⟩, ⟨none, (some 13), .faddr 0 (.tmp 12)⟩, ⟨none, none, .store 1 (.tmp 13) (.tmp 11)⟩])
  (.seq (.ops [⟨none, (some 14), .mov (.tmp 0)⟩, ⟨none, (some 15), .nchk (.tmp 14)⟩, ⟨none, (some 16), .faddr 0 (.tmp 15)⟩, ⟨none, (some 17), .load1 (.tmp 16)⟩, ⟨none, (some 18), .mov (.tmp 0)⟩, ⟨none, (some 19), .ptq true (.tmp 17) (.tmp 18)⟩])
  (.cond (.tmp 19) .bad
  .skip)))),
  [], none⟩
theorem r105 {m : Int} : resolveF Tryz.prog (cfg m) 105 = some I105 := by kernel_rfl
noncomputable def I114 : IF := ⟨19, (.seq (.ops [⟨none, (some 4), .mov (.lit (.int .i64 (0)))⟩])
  (.seq (.seq (.ops [⟨none, (some 6), .mov (.tmp 0)⟩, ⟨none, (some 7), .lenL (.tmp 6)⟩, ⟨none, (some 8), .mov (.lit (.int .i64 (0)))⟩])
  (.block 0 (.loop (some [0, 1, 7, 8]) (.seq (.ops [⟨none, (some 9), .bin .lss (.tmp 8) (.tmp 7)⟩])
  (.seq (.cond (.tmp 9) .skip
  (.exit 0))
  (.seq (.block 1 (.seq (.ops [⟨none, (some 10), .mov (.tmp 8)⟩, ⟨none, (some 5), .mov (.tmp 10)⟩])
  (.seq (.ops [⟨none, (some 11), .mov (.tmp 1)⟩, ⟨none, (some 12), .mov (.tmp 0)⟩, ⟨none, (some 13), .mov (.tmp 5)⟩, ⟨none, (some 14), .iaddr 3 (.tmp 12) (.tmp 13)⟩, ⟨none, (some 15), .loadN 3 (.tmp 14)⟩, ⟨none, (some 16), .callv (.tmp 11) [(.tmp 15)]⟩])
  (.cond (.tmp 16) (.seq (.ops [⟨none, (some 17), .mov (.tmp 5)⟩, ⟨none, (some 4), .mov (.tmp 17)⟩])
  .ret)
  .skip))))
  (.ops [⟨none, (some 18), .bin .add (.tmp 8) (.lit (.int .i64 (1)))⟩, ⟨none, (some 8), .mov (.tmp 18)⟩])))))))
  (.seq (.ops [⟨none, (some 4), .mov (.lit (.int .i64 (-1)))⟩])
  .ret))),
  [.tmp 4], none⟩
theorem r114 {m : Int} : resolveF Tryz.prog (cfg m) 114 = some I114 := by kernel_rfl
noncomputable def I115 : IF := ⟨19, (.seq (.ops [⟨none, (some 4), .mov (.lit (.int .i64 (0)))⟩])
  (.seq (.seq (.ops [⟨none, (some 6), .mov (.tmp 0)⟩, ⟨none, (some 7), .lenL (.tmp 6)⟩, ⟨none, (some 8), .mov (.lit (.int .i64 (0)))⟩])
  (.block 0 (.loop (some [0, 1, 7, 8]) (.seq (.ops [⟨none, (some 9), .bin .lss (.tmp 8) (.tmp 7)⟩])
  (.seq (.cond (.tmp 9) .skip
  (.exit 0))
  (.seq (.block 1 (.seq (.ops [⟨none, (some 10), .mov (.tmp 8)⟩, ⟨none, (some 5), .mov (.tmp 10)⟩])
  (.seq (.ops [⟨none, (some 11), .mov (.tmp 1)⟩, ⟨none, (some 12), .mov (.tmp 0)⟩, ⟨none, (some 13), .mov (.tmp 5)⟩, ⟨none, (some 14), .iaddr 3 (.tmp 12) (.tmp 13)⟩, ⟨none, (some 15), .loadN 3 (.tmp 14)⟩, ⟨none, (some 16), .callv (.tmp 11) [(.tmp 15)]⟩])
  (.cond (.tmp 16) (.seq (.ops [⟨none, (some 17), .mov (.tmp 5)⟩, ⟨none, (some 4), .mov (.tmp 17)⟩])
  .ret)
  .skip))))
  (.ops [⟨none, (some 18), .bin .add (.tmp 8) (.lit (.int .i64 (1)))⟩, ⟨none, (some 8), .mov (.tmp 18)⟩])))))))
  (.seq (.ops [⟨none, (some 4), .mov (.lit (.int .i64 (-1)))⟩])
  .ret))),
  [.tmp 4], none⟩
theorem r115 {m : Int} : resolveF Tryz.prog (cfg m) 115 = some I115 := by kernel_rfl
noncomputable def I127 : IF := ⟨16, (.seq (.ops [⟨none, (some 4), .mov (.lit (.str []))⟩])
  (.seq (.block 0 (.loop (some [0, 1]) (.seq (.seq (.ops [⟨none, (some 5), .mov (.tmp 0)⟩, ⟨none, (some 6), .lenS (.tmp 5)⟩, ⟨none, (some 7), .bin .gtr (.tmp 6) (.lit (.int .i64 (0)))⟩])
  (.cond (.tmp 7) .skip
  (.exit 0)))
  (.block 1 (.seq (.seq (.ops [⟨none, (some 8), .mov (.tmp 1)⟩, ⟨none, (some 9), .mov (.tmp 0)⟩, ⟨none, (some 10), .ixs (.tmp 9) (.lit (.int .i64 (0)))⟩, ⟨none, (some 11), .call 134 [(.tmp 8), (.tmp 10)]⟩, ⟨none, (some 12), .un .not (.tmp 11)⟩])
  (.cond (.tmp 12) (.exit 0)
  .skip))
  (.ops [⟨none, (some 13), .mov (.tmp 0)⟩, ⟨none, (some 14), .cut (.tmp 13) (some (.lit (.int .i64 (1)))) none⟩, ⟨none, (some 0), .mov (.tmp 14)⟩]))))))
  (.seq (.ops [⟨none, (some 15), .mov (.tmp 0)⟩, ⟨none, (some 4), .mov (.tmp 15)⟩])
  .ret))),
  [.tmp 4], none⟩
theorem r127 {m : Int} : resolveF Tryz.prog (cfg m) 127 = some I127 := by kernel_rfl
noncomputable def I138 : IF := ⟨11, (.seq (.ops [⟨none, (some 4), .mov (.lit (.nilP))⟩])
  (.seq (.draw [] [⟨⟨none, (some 5), .mov (.tmp 0)⟩, none, true, [], []⟩, ⟨⟨none, (some 6), .mov (.tmp 1)⟩, none, true, [], []⟩, ⟨⟨none, (some 7), .call 146 [(.tmp 6)]⟩, none, false, [3], [3]⟩, ⟨⟨none, (some 8), .load1 (.glob 6)⟩, none, true, [], []⟩, ⟨⟨none, (some 9), .bld [.str [], .str [], .nilI] [(0, 1, (.tmp 5)), (1, 1, (.tmp 7)), (2, 1, (.tmp 8))]⟩, none, true, [], []⟩, ⟨⟨none, (some 10), .box 176 (.tmp 9)⟩, none, true, [], []⟩, ⟨⟨none, (some 4), .mov (.tmp 10)⟩, none, true, [], []⟩])
  .ret)),
  [.tmp 4], none⟩
theorem r138 {m : Int} : resolveF Tryz.prog (cfg m) 138 = some I138 := by kernel_rfl
noncomputable def I139 : IF := ⟨11, (.seq (.ops [⟨none, (some 4), .mov (.lit (.nilP))⟩])
  (.seq (.draw [] [⟨⟨none, (some 5), .mov (.tmp 0)⟩, none, true, [], []⟩, ⟨⟨none, (some 6), .mov (.tmp 1)⟩, none, true, [], []⟩, ⟨⟨none, (some 7), .call 146 [(.tmp 6)]⟩, none, false, [3], [3]⟩, ⟨⟨none, (some 8), .load1 (.glob 7)⟩, none, true, [], []⟩, ⟨⟨none, (some 9), .bld [.str [], .str [], .nilI] [(0, 1, (.tmp 5)), (1, 1, (.tmp 7)), (2, 1, (.tmp 8))]⟩, none, true, [], []⟩, ⟨⟨none, (some 10), .box 176 (.tmp 9)⟩, none, true, [], []⟩, ⟨⟨none, (some 4), .mov (.tmp 10)⟩, none, true, [], []⟩])
  .ret)),
  [.tmp 4], none⟩
theorem r139 {m : Int} : resolveF Tryz.prog (cfg m) 139 = some I139 := by kernel_rfl
noncomputable def I146 : IF := ⟨18, (.seq (.ops [⟨none, (some 2), .mov (.lit (.str []))⟩])
  (.seq (.seq (.ops [⟨none, (some 4), .mov (.tmp 0)⟩, ⟨none, (some 5), .lenS (.tmp 4)⟩, ⟨none, (some 6), .bin .eql (.tmp 5) (.lit (.int .i64 (0)))⟩])
  (.cond (.tmp 6) (.seq (.ops [⟨none, (some 2), .mov (.lit (.str []))⟩])
  .ret)
  .skip))
  (.seq (.ops [⟨none, (some 7), .mov (.tmp 0)⟩, ⟨none, (some 8), .lenS (.tmp 7)⟩, ⟨none, (some 9), .mks 5 1 [.int .u8 (0)] (.tmp 8) (.tmp 8)⟩, ⟨none, (some 3), .mov (.tmp 9)⟩])
  (.seq (.ops [⟨none, (some 10), .mov (.tmp 3)⟩, ⟨none, (some 11), .mov (.tmp 0)⟩, ⟨none, (some 12), .cpy 1 (.tmp 10) (.tmp 11)⟩])
  (.seq (.ops [⟨none, (some 13), .mov (.tmp 3)⟩, ⟨none, (some 14), .iaddr 1 (.tmp 13) (.lit (.int .i64 (0)))⟩, ⟨none, (some 15), .mov (.tmp 3)⟩, ⟨none, (some 16), .lenL (.tmp 15)⟩, ⟨none, (some 17), .raw (opAt Tryz.f146 16)⟩, ⟨none, (some 2), .mov (.tmp 17)⟩])
  .ret))))),
  [.tmp 2], none⟩
theorem r146 {m : Int} : resolveF Tryz.prog (cfg m) 146 = some I146 := by kernel_rfl
noncomputable def I156 : IF := ⟨6, (.seq (.ops [⟨none, (some 2), .mov (.lit (.int .i64 (0)))⟩])
  (.seq (.ops [⟨none, (some 3), .mov (.tmp 0)⟩, ⟨none, (some 4), .bin .mul (.tmp 3) (.lit (.int .i64 (78913)))⟩, ⟨none, (some 5), .bin .shr (.tmp 4) (.lit (.int .u64 (18)))⟩, ⟨none, (some 2), .mov (.tmp 5)⟩])
  .ret)),
  [.tmp 2], none⟩
theorem r156 {m : Int} : resolveF Tryz.prog (cfg m) 156 = some I156 := by kernel_rfl
noncomputable def I157 : IF := ⟨25, (.seq (.ops [⟨none, (some 2), .mov (.lit (.int .i64 (0)))⟩])
  (.seq (.seq (.ops [⟨none, (some 3), .mov (.tmp 0)⟩, ⟨none, (some 4), .bin .geq (.tmp 3) (.lit (.int .u64 (4294967296)))⟩])
  (.cond (.tmp 4) (.seq (.ops [⟨none, (some 5), .mov (.tmp 0)⟩, ⟨none, (some 6), .bin .shr (.tmp 5) (.lit (.int .u64 (32)))⟩, ⟨none, (some 0), .mov (.tmp 6)⟩])
  (.ops [⟨none, (some 2), .mov (.lit (.int .i64 (32)))⟩]))
  .skip))
  (.seq (.seq (.ops [⟨none, (some 7), .mov (.tmp 0)⟩, ⟨none, (some 8), .bin .geq (.tmp 7) (.lit (.int .u64 (65536)))⟩])
  (.cond (.tmp 8) (.seq (.ops [⟨none, (some 9), .mov (.tmp 0)⟩, ⟨none, (some 10), .bin .shr (.tmp 9) (.lit (.int .u64 (16)))⟩, ⟨none, (some 0), .mov (.tmp 10)⟩])
  (.ops [⟨none, (some 11), .mov (.tmp 2)⟩, ⟨none, (some 12), .bin .add (.tmp 11) (.lit (.int .i64 (16)))⟩, ⟨none, (some 2), .mov (.tmp 12)⟩]))
  .skip))
  (.seq (.seq (.ops [⟨none, (some 13), .mov (.tmp 0)⟩, ⟨none, (some 14), .bin .geq (.tmp 13) (.lit (.int .u64 (256)))⟩])
  (.cond (.tmp 14) (.seq (.ops [⟨none, (some 15), .mov (.tmp 0)⟩, ⟨none, (some 16), .bin .shr (.tmp 15) (.lit (.int .u64 (8)))⟩, ⟨none, (some 0), .mov (.tmp 16)⟩])
  (.ops [⟨none, (some 17), .mov (.tmp 2)⟩, ⟨none, (some 18), .bin .add (.tmp 17) (.lit (.int .i64 (8)))⟩, ⟨none, (some 2), .mov (.tmp 18)⟩]))
  .skip))
  (.seq (.ops [⟨none, (some 19), .mov (.tmp 2)⟩, ⟨none, (some 20), .mov (.tmp 0)⟩, ⟨none, (some 21), .conv .u8 (.tmp 20)⟩, ⟨none, (some 22), .ixs (.lit (.str [0, 1, 2, 2, 3, 3, 3, 3, 4, 4, 4, 4, 4, 4, 4, 4, 5, 5, 5, 5, 5, 5, 5, 5, 5, 5, 5, 5, 5, 5, 5, 5, 6, 6, 6, 6, 6, 6, 6, 6, 6, 6, 6, 6, 6, 6, 6, 6, 6, 6, 6, 6, 6, 6, 6, 6, 6, 6, 6, 6, 6, 6, 6, 6, 7, 7, 7, 7, 7, 7, 7, 7, 7, 7, 7, 7, 7, 7, 7, 7, 7, 7, 7, 7, 7, 7, 7, 7, 7, 7, 7, 7, 7, 7, 7, 7, 7, 7, 7, 7, 7, 7, 7, 7, 7, 7, 7, 7, 7, 7, 7, 7, 7, 7, 7, 7, 7, 7, 7, 7, 7, 7, 7, 7, 7, 7, 7, 7, 8, 8, 8, 8, 8, 8, 8, 8, 8, 8, 8, 8, 8, 8, 8, 8, 8, 8, 8, 8, 8, 8, 8, 8, 8, 8, 8, 8, 8, 8, 8, 8, 8, 8, 8, 8, 8, 8, 8, 8, 8, 8, 8, 8, 8, 8, 8, 8, 8, 8, 8, 8, 8, 8, 8, 8, 8, 8, 8, 8, 8, 8, 8, 8, 8, 8, 8, 8, 8, 8, 8, 8, 8, 8, 8, 8, 8, 8, 8, 8, 8, 8, 8, 8, 8, 8, 8, 8, 8, 8, 8, 8, 8, 8, 8, 8, 8, 8, 8, 8, 8, 8, 8, 8, 8, 8, 8, 8, 8, 8, 8, 8, 8, 8, 8, 8, 8, 8, 8, 8, 8, 8, 8, 8, 8, 8, 8, 8])) (.tmp 21)⟩, ⟨none, (some 23), .conv .i64 (.tmp 22)⟩, ⟨none, (some 24), .bin .add (.tmp 19) (.tmp 23)⟩, ⟨none, (some 2), .mov (.tmp 24)⟩])
  .ret))))),
  [.tmp 2], none⟩
theorem r157 {m : Int} : resolveF Tryz.prog (cfg m) 157 = some I157 := by kernel_rfl
noncomputable def I159 : IF := ⟨8, (.seq (.ops [⟨none, (some 2), .mov (.lit (.bool false))⟩])
  (.seq (.ops [⟨none, (some 3), .mov (.tmp 0)⟩, ⟨none, (some 4), .mov (.tmp 0)⟩, ⟨none, (some 5), .bin .sub (.tmp 4) (.lit (.int .i64 (1)))⟩, ⟨none, (some 6), .bin .and (.tmp 3) (.tmp 5)⟩, ⟨none, (some 7), .bin .eql (.tmp 6) (.lit (.int .i64 (0)))⟩, ⟨none, (some 2), .mov (.tmp 7)⟩])
  .ret)),
  [.tmp 2], none⟩
theorem r159 {m : Int} : resolveF Tryz.prog (cfg m) 159 = some I159 := by kernel_rfl
noncomputable def I160 : IF := ⟨8, (.seq (.ops [⟨none, (some 2), .mov (.lit (.int .i64 (0)))⟩])
  (.seq (.cond (.lit (.bool false)) (.seq (.ops [⟨none, (some 3), .mov (.tmp 0)⟩, ⟨none, (some 4), .conv .u32 (.tmp 3)⟩, ⟨none, (some 5), .call 161 [(.tmp 4)]⟩, ⟨none, (some 2), .mov (.tmp 5)⟩])
  .ret)
  .skip)
  (.seq (.ops [⟨none, (some 6), .mov (.tmp 0)⟩, ⟨none, (some 7), .call 162 [(.tmp 6)]⟩, ⟨none, (some 2), .mov (.tmp 7)⟩])
  .ret))),
  [.tmp 2], none⟩
theorem r160 {m : Int} : resolveF Tryz.prog (cfg m) 160 = some I160 := by kernel_rfl
noncomputable def I162 : IF := ⟨14, (.seq (.ops [⟨none, (some 2), .mov (.lit (.int .i64 (0)))⟩])
  (.seq (.seq (.ops [⟨none, (some 3), .mov (.tmp 0)⟩, ⟨none, (some 4), .bin .eql (.tmp 3) (.lit (.int .u64 (0)))⟩])
  (.cond (.tmp 4) (.seq (.ops [⟨none, (some 2), .mov (.lit (.int .i64 (64)))⟩])
  .ret)
  .skip))
  (.seq (.ops [⟨none, (some 5), .mov (.tmp 0)⟩, ⟨none, (some 6), .mov (.tmp 0)⟩, ⟨none, (some 7), .un .neg (.tmp 6)⟩, ⟨none, (some 8), .bin .and (.tmp 5) (.tmp 7)⟩, ⟨none, (some 9), .bin .mul (.tmp 8) (.lit (.int .u64 (285870213051353865)))⟩, ⟨none, (some 10), .bin .shr (.tmp 9) (.lit (.int .u64 (58)))⟩, ⟨none, (some 11), .iaddrA 64 1 (.glob 10) (.tmp 10)⟩, ⟨none, (some 12), .load1 (.tmp 11)⟩, ⟨none, (some 13), .conv .i64 (.tmp 12)⟩, ⟨none, (some 2), .mov (.tmp 13)⟩])
  .ret))),
  [.tmp 2], none⟩
theorem r162 {m : Int} : resolveF Tryz.prog (cfg m) 162 = some I162 := by kernel_rfl
end Go.Proofs.YtmnajffpmbidiaaGreatDoor.Ic
