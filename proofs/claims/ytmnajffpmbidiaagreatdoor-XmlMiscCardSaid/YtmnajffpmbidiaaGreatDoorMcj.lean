/- Parts of one proof. -/
import Derived.Test.YtmnajffpmbidiaaGreatDoorMci
import Derived.Test.YtmnajffpmbidiaaGreatDoorMcg
set_option linter.all false
namespace Go.Proofs.YtmnajffpmbidiaaGreatDoor.Ic
open Go Go.Proofs Go.Proofs.YtmnajffpmbidiaaGreatDoor.Ev
set_option maxRecDepth 100000
noncomputable def I94 : IF := ⟨12, (.seq (.ops [⟨none, (some 2), .call 95 [(.tmp 0)]⟩, ⟨none, (some 3), .bin .gtr (.tmp 2) (.lit (.int .i64 (0)))⟩])
  (.cond (.tmp 3) (.seq (.draw2 7 8 [.row [.str [], .str [], .str [], .nilS, .nilS] 0 28] [⟨⟨none, (some 4), .load1 (.tmp 1)⟩, none, true, [], []⟩, ⟨⟨none, (some 5), .call 85 [(.tmp 0)]⟩, none, false, [0, 3, 4], [3, 4]⟩, ⟨⟨none, (some 6), .bld [.str [], .str [], .str [], .nilS, .nilS] [(2, 1, (.tmp 5))]⟩, none, true, [], []⟩, ⟨⟨none, (some 7), .lenL (.tmp 4)⟩, none, true, [], []⟩, ⟨⟨none, (some 8), .mov (.lit (.bad))⟩, (some (0, 27, [.str [], .str [], .str [], .nilS, .nilS], some (1, 5))), true, [], []⟩, ⟨⟨none, (some 9), .app 27 5 (.tmp 4) (.tmp 8)⟩, none, true, [], []⟩, ⟨⟨none, (some 10), .iaddr 5 (.tmp 9) (.tmp 7)⟩, none, true, [], []⟩, ⟨⟨none, none, .store 5 (.tmp 10) (.tmp 6)⟩, none, false, [8], []⟩, ⟨⟨none, none, .store 1 (.tmp 1) (.tmp 9)⟩, none, false, [7], []⟩])
  (.ops [⟨none, (some 11), .call 96 [(.tmp 0)]⟩]))
  .skip)),
  [], none⟩
theorem r94 {m : Int} : resolveF Tryz.prog (cfg m) 94 = some I94 := by kernel_rfl
noncomputable def I95 : IF := ⟨8, (.seq (.ops [⟨none, (some 2), .mov (.lit (.int .i64 (0)))⟩])
  (.seq (.ops [⟨none, (some 3), .mov (.tmp 0)⟩, ⟨none, (some 4), .nchk (.tmp 3)⟩, ⟨none, (some 5), .faddr 1 (.tmp 4)⟩, ⟨none, (some 6), .load1 (.tmp 5)⟩, ⟨none, (some 7), .lenL (.tmp 6)⟩, ⟨none, (some 2), .mov (.tmp 7)⟩])
  .ret)),
  [.tmp 2], none⟩
theorem r95 {m : Int} : resolveF Tryz.prog (cfg m) 95 = some I95 := by kernel_rfl
noncomputable def I102 : IF := ⟨71, (.seq (.ops [⟨none, (some 2), .mov (.lit (.int .u64 (0)))⟩])
  (.seq (.cond (.lit (.bool false)) (.seq (.draw [] [⟨⟨none, (some 3), .mov (.tmp 0)⟩, none, true, [], []⟩, ⟨⟨none, (some 4), .iaddr 1 (.tmp 3) (.lit (.int .i64 (0)))⟩, none, true, [], []⟩, ⟨⟨none, (some 5), .load1 (.tmp 4)⟩, none, true, [], []⟩, ⟨⟨none, (some 6), .conv .u64 (.tmp 5)⟩, none, true, [], []⟩, ⟨⟨none, (some 7), .mov (.tmp 0)⟩, none, true, [], []⟩, ⟨⟨none, (some 8), .iaddr 1 (.tmp 7) (.lit (.int .i64 (1)))⟩, none, true, [], []⟩, ⟨⟨none, (some 9), .load1 (.tmp 8)⟩, none, true, [], []⟩, ⟨⟨none, (some 10), .conv .u64 (.tmp 9)⟩, none, true, [], []⟩, ⟨⟨none, (some 11), .bin .shl (.tmp 10) (.lit (.int .u64 (8)))⟩, none, true, [], []⟩, ⟨⟨none, (some 12), .bin .or (.tmp 6) (.tmp 11)⟩, none, true, [], []⟩, ⟨⟨none, (some 13), .mov (.tmp 0)⟩, none, true, [], []⟩, ⟨⟨none, (some 14), .iaddr 1 (.tmp 13) (.lit (.int .i64 (2)))⟩, none, true, [], []⟩, ⟨⟨none, (some 15), .load1 (.tmp 14)⟩, none, true, [], []⟩, ⟨⟨none, (some 16), .conv .u64 (.tmp 15)⟩, none, true, [], []⟩, ⟨⟨none, (some 17), .bin .shl (.tmp 16) (.lit (.int .u64 (16)))⟩, none, true, [], []⟩, ⟨⟨none, (some 18), .bin .or (.tmp 12) (.tmp 17)⟩, none, true, [], []⟩, ⟨⟨none, (some 19), .mov (.tmp 0)⟩, none, true, [], []⟩, ⟨⟨none, (some 20), .iaddr 1 (.tmp 19) (.lit (.int .i64 (3)))⟩, none, true, [], []⟩, ⟨⟨none, (some 21), .load1 (.tmp 20)⟩, none, true, [], []⟩, ⟨⟨none, (some 22), .conv .u64 (.tmp 21)⟩, none, true, [], []⟩, ⟨⟨none, (some 23), .bin .shl (.tmp 22) (.lit (.int .u64 (24)))⟩, none, true, [], []⟩, ⟨⟨none, (some 24), .bin .or (.tmp 18) (.tmp 23)⟩, none, true, [], []⟩, ⟨⟨none, (some 2), .mov (.tmp 24)⟩, none, true, [], []⟩])
  .ret)
  .skip)
  (.seq (.draw [] [⟨⟨none, (some 25), .mov (.tmp 0)⟩, none, true, [], []⟩, ⟨⟨none, (some 26), .iaddr 1 (.tmp 25) (.lit (.int .i64 (0)))⟩, none, true, [], []⟩, ⟨⟨none, (some 27), .load1 (.tmp 26)⟩, none, true, [], []⟩, ⟨⟨none, (some 28), .conv .u64 (.tmp 27)⟩, none, true, [], []⟩, ⟨⟨none, (some 29), .mov (.tmp 0)⟩, none, true, [], []⟩, ⟨⟨none, (some 30), .iaddr 1 (.tmp 29) (.lit (.int .i64 (1)))⟩, none, true, [], []⟩, ⟨⟨none, (some 31), .load1 (.tmp 30)⟩, none, true, [], []⟩, ⟨⟨none, (some 32), .conv .u64 (.tmp 31)⟩, none, true, [], []⟩, ⟨⟨none, (some 33), .bin .shl (.tmp 32) (.lit (.int .u64 (8)))⟩, none, true, [], []⟩, ⟨⟨none, (some 34), .bin .or (.tmp 28) (.tmp 33)⟩, none, true, [], []⟩, ⟨⟨none, (some 35), .mov (.tmp 0)⟩, none, true, [], []⟩, ⟨⟨none, (some 36), .iaddr 1 (.tmp 35) (.lit (.int .i64 (2)))⟩, none, true, [], []⟩, ⟨⟨none, (some 37), .load1 (.tmp 36)⟩, none, true, [], []⟩, ⟨⟨none, (some 38), .conv .u64 (.tmp 37)⟩, none, true, [], []⟩, ⟨⟨none, (some 39), .bin .shl (.tmp 38) (.lit (.int .u64 (16)))⟩, none, true, [], []⟩, ⟨⟨none, (some 40), .bin .or (.tmp 34) (.tmp 39)⟩, none, true, [], []⟩, ⟨⟨none, (some 41), .mov (.tmp 0)⟩, none, true, [], []⟩, ⟨⟨none, (some 42), .iaddr 1 (.tmp 41) (.lit (.int .i64 (3)))⟩, none, true, [], []⟩, ⟨⟨none, (some 43), .load1 (.tmp 42)⟩, none, true, [], []⟩, ⟨⟨none, (some 44), .conv .u64 (.tmp 43)⟩, none, true, [], []⟩, ⟨⟨none, (some 45), .bin .shl (.tmp 44) (.lit (.int .u64 (24)))⟩, none, true, [], []⟩, ⟨⟨none, (some 46), .bin .or (.tmp 40) (.tmp 45)⟩, none, true, [], []⟩, ⟨⟨none, (some 47), .mov (.tmp 0)⟩, none, true, [], []⟩, ⟨⟨none, (some 48), .iaddr 1 (.tmp 47) (.lit (.int .i64 (4)))⟩, none, true, [], []⟩, ⟨⟨none, (some 49), .load1 (.tmp 48)⟩, none, true, [], []⟩, ⟨⟨none, (some 50), .conv .u64 (.tmp 49)⟩, none, true, [], []⟩, ⟨⟨none, (some 51), .bin .shl (.tmp 50) (.lit (.int .u64 (32)))⟩, none, true, [], []⟩, ⟨⟨none, (some 52), .bin .or (.tmp 46) (.tmp 51)⟩, none, true, [], []⟩, ⟨⟨none, (some 53), .mov (.tmp 0)⟩, none, true, [], []⟩, ⟨⟨none, (some 54), .iaddr 1 (.tmp 53) (.lit (.int .i64 (5)))⟩, none, true, [], []⟩, ⟨⟨none, (some 55), .load1 (.tmp 54)⟩, none, true, [], []⟩, ⟨⟨none, (some 56), .conv .u64 (.tmp 55)⟩, none, true, [], []⟩, ⟨⟨none, (some 57), .bin .shl (.tmp 56) (.lit (.int .u64 (40)))⟩, none, true, [], []⟩, ⟨⟨none, (some 58), .bin .or (.tmp 52) (.tmp 57)⟩, none, true, [], []⟩, ⟨⟨none, (some 59), .mov (.tmp 0)⟩, none, true, [], []⟩, ⟨⟨none, (some 60), .iaddr 1 (.tmp 59) (.lit (.int .i64 (6)))⟩, none, true, [], []⟩, ⟨⟨none, (some 61), .load1 (.tmp 60)⟩, none, true, [], []⟩, ⟨⟨none, (some 62), .conv .u64 (.tmp 61)⟩, none, true, [], []⟩, ⟨⟨none, (some 63), .bin .shl (.tmp 62) (.lit (.int .u64 (48)))⟩, none, true, [], []⟩, ⟨⟨none, (some 64), .bin .or (.tmp 58) (.tmp 63)⟩, none, true, [], []⟩, ⟨⟨none, (some 65), .mov (.tmp 0)⟩, none, true, [], []⟩, ⟨⟨none, (some 66), .iaddr 1 (.tmp 65) (.lit (.int .i64 (7)))⟩, none, true, [], []⟩, ⟨⟨none, (some 67), .load1 (.tmp 66)⟩, none, true, [], []⟩, ⟨⟨none, (some 68), .conv .u64 (.tmp 67)⟩, none, true, [], []⟩, ⟨⟨none, (some 69), .bin .shl (.tmp 68) (.lit (.int .u64 (56)))⟩, none, true, [], []⟩, ⟨⟨none, (some 70), .bin .or (.tmp 64) (.tmp 69)⟩, none, true, [], []⟩, ⟨⟨none, (some 2), .mov (.tmp 70)⟩, none, true, [], []⟩])
  .ret))),
  [.tmp 2], none⟩
theorem r102 {m : Int} : resolveF Tryz.prog (cfg m) 102 = some I102 := by kernel_rfl
noncomputable def I105 : IF := ⟨20, (.seq (.ops [⟨none, (some 2), .mov (.tmp 0)⟩, ⟨none, (some 3), .nchk (.tmp 2)⟩, ⟨none, (some 4), .faddr 0 (.tmp 3)⟩, ⟨none, (some 5), .load1 (.tmp 4)⟩, ⟨none, (some 6), .nilT false 0 (.tmp 5)⟩])
  (.cond (.tmp 6) (.ops [⟨none, (some 7), .mov (.tmp 0)⟩, ⟨none, (some 8), .mov (.tmp 0)⟩, ⟨none, (some 9), .raw (opAt Tryz.f105 7)⟩, ⟨none, (some 10), .mov (.tmp 9)⟩, ⟨none, (some 11), .raw (opAt Tryz.f105 9)⟩, ⟨none, (some 12), .nchk (.tmp 7)⟩, ⟨none, (some 13), .faddr 0 (.tmp 12)⟩, ⟨none, none, .store 1 (.tmp 13) (.tmp 11)⟩])
  (.seq (.ops [⟨none, (some 14), .mov (.tmp 0)⟩, ⟨none, (some 15), .nchk (.tmp 14)⟩, ⟨none, (some 16), .faddr 0 (.tmp 15)⟩, ⟨none, (some 17), .load1 (.tmp 16)⟩, ⟨none, (some 18), .mov (.tmp 0)⟩, ⟨none, (some 19), .ptq true (.tmp 17) (.tmp 18)⟩])
  (.cond (.tmp 19) .bad
  .skip)))),
  [], none⟩
theorem r105 {m : Int} : resolveF Tryz.prog (cfg m) 105 = some I105 := by kernel_rfl
noncomputable def I127 : IF := ⟨16, (.seq (.ops [⟨none, (some 4), .mov (.lit (.str []))⟩])
  (.seq (.block 0 (.loop (some [0, 1]) (.seq (.seq (.ops [⟨none, (some 5), .mov (.tmp 0)⟩, ⟨none, (some 6), .lenS (.tmp 5)⟩, ⟨none, (some 7), .bin .gtr (.tmp 6) (.lit (.int .i64 (0)))⟩])
  (.cond (.tmp 7) .skip
  (.exit 0)))
  (.block 1 (.seq (.seq (.ops [⟨none, (some 8), .mov (.tmp 1)⟩, ⟨none, (some 9), .mov (.tmp 0)⟩, ⟨none, (some 10), .ixs (.tmp 9) (.lit (.int .i64 (0)))⟩, ⟨none, (some 11), .call 134 [(.tmp 8), (.tmp 10)]⟩, ⟨none, (some 12), .un .not (.tmp 11)⟩])
  (.cond (.tmp 12) (.exit 0)
  .skip))
  (.ops [⟨none, (some 13), .mov (.tmp 0)⟩, ⟨none, (some 14), .cut (.tmp 13) (some (.lit (.int .i64 (1)))) none⟩, ⟨none, (some 0), .mov (.tmp 14)⟩]))))))
  (.seq (.ops [⟨none, (some 15), .mov (.tmp 0)⟩, ⟨none, (some 4), .mov (.tmp 15)⟩])
  .ret))),
  [.tmp 4], none⟩
theorem r127 {m : Int} : resolveF Tryz.prog (cfg m) 127 = some I127 := by kernel_rfl
noncomputable def I138 : IF := ⟨11, (.seq (.ops [⟨none, (some 4), .mov (.lit (.nilP))⟩])
  (.seq (.draw [] [⟨⟨none, (some 5), .mov (.tmp 0)⟩, none, true, [], []⟩, ⟨⟨none, (some 6), .mov (.tmp 1)⟩, none, true, [], []⟩, ⟨⟨none, (some 7), .call 146 [(.tmp 6)]⟩, none, false, [3], [3]⟩, ⟨⟨none, (some 8), .load1 (.glob 6)⟩, none, true, [], []⟩, ⟨⟨none, (some 9), .bld [.str [], .str [], .nilI] [(0, 1, (.tmp 5)), (1, 1, (.tmp 7)), (2, 1, (.tmp 8))]⟩, none, true, [], []⟩, ⟨⟨none, (some 10), .box 176 (.tmp 9)⟩, none, true, [], []⟩, ⟨⟨none, (some 4), .mov (.tmp 10)⟩, none, true, [], []⟩])
  .ret)),
  [.tmp 4], none⟩
theorem r138 {m : Int} : resolveF Tryz.prog (cfg m) 138 = some I138 := by kernel_rfl
noncomputable def I139 : IF := ⟨11, (.seq (.ops [⟨none, (some 4), .mov (.lit (.nilP))⟩])
  (.seq (.draw [] [⟨⟨none, (some 5), .mov (.tmp 0)⟩, none, true, [], []⟩, ⟨⟨none, (some 6), .mov (.tmp 1)⟩, none, true, [], []⟩, ⟨⟨none, (some 7), .call 146 [(.tmp 6)]⟩, none, false, [3], [3]⟩, ⟨⟨none, (some 8), .load1 (.glob 7)⟩, none, true, [], []⟩, ⟨⟨none, (some 9), .bld [.str [], .str [], .nilI] [(0, 1, (.tmp 5)), (1, 1, (.tmp 7)), (2, 1, (.tmp 8))]⟩, none, true, [], []⟩, ⟨⟨none, (some 10), .box 176 (.tmp 9)⟩, none, true, [], []⟩, ⟨⟨none, (some 4), .mov (.tmp 10)⟩, none, true, [], []⟩])
  .ret)),
  [.tmp 4], none⟩
theorem r139 {m : Int} : resolveF Tryz.prog (cfg m) 139 = some I139 := by kernel_rfl
noncomputable def I146 : IF := ⟨18, (.seq (.ops [⟨none, (some 2), .mov (.lit (.str []))⟩])
  (.seq (.seq (.ops [⟨none, (some 4), .mov (.tmp 0)⟩, ⟨none, (some 5), .lenS (.tmp 4)⟩, ⟨none, (some 6), .bin .eql (.tmp 5) (.lit (.int .i64 (0)))⟩])
  (.cond (.tmp 6) (.seq (.ops [⟨none, (some 2), .mov (.lit (.str []))⟩])
  .ret)
  .skip))
  (.seq (.ops [⟨none, (some 7), .mov (.tmp 0)⟩, ⟨none, (some 8), .lenS (.tmp 7)⟩, ⟨none, (some 9), .mks 5 1 [.int .u8 (0)] (.tmp 8) (.tmp 8)⟩, ⟨none, (some 3), .mov (.tmp 9)⟩])
  (.seq (.ops [⟨none, (some 10), .mov (.tmp 3)⟩, ⟨none, (some 11), .mov (.tmp 0)⟩, ⟨none, (some 12), .cpy 1 (.tmp 10) (.tmp 11)⟩])
  (.seq (.ops [⟨none, (some 13), .mov (.tmp 3)⟩, ⟨none, (some 14), .iaddr 1 (.tmp 13) (.lit (.int .i64 (0)))⟩, ⟨none, (some 15), .mov (.tmp 3)⟩, ⟨none, (some 16), .lenL (.tmp 15)⟩, ⟨none, (some 17), .raw (opAt Tryz.f146 16)⟩, ⟨none, (some 2), .mov (.tmp 17)⟩])
  .ret))))),
  [.tmp 2], none⟩
theorem r146 {m : Int} : resolveF Tryz.prog (cfg m) 146 = some I146 := by kernel_rfl
noncomputable def I156 : IF := ⟨6, (.seq (.ops [⟨none, (some 2), .mov (.lit (.int .i64 (0)))⟩])
  (.seq (.ops [⟨none, (some 3), .mov (.tmp 0)⟩, ⟨none, (some 4), .bin .mul (.tmp 3) (.lit (.int .i64 (78913)))⟩, ⟨none, (some 5), .bin .shr (.tmp 4) (.lit (.int .u64 (18)))⟩, ⟨none, (some 2), .mov (.tmp 5)⟩])
  .ret)),
  [.tmp 2], none⟩
theorem r156 {m : Int} : resolveF Tryz.prog (cfg m) 156 = some I156 := by kernel_rfl
noncomputable def I157 : IF := ⟨25, (.seq (.ops [⟨none, (some 2), .mov (.lit (.int .i64 (0)))⟩])
  (.seq (.seq (.ops [⟨none, (some 3), .mov (.tmp 0)⟩, ⟨none, (some 4), .bin .geq (.tmp 3) (.lit (.int .u64 (4294967296)))⟩])
  (.cond (.tmp 4) (.seq (.ops [⟨none, (some 5), .mov (.tmp 0)⟩, ⟨none, (some 6), .bin .shr (.tmp 5) (.lit (.int .u64 (32)))⟩, ⟨none, (some 0), .mov (.tmp 6)⟩])
  (.ops [⟨none, (some 2), .mov (.lit (.int .i64 (32)))⟩]))
  .skip))
  (.seq (.seq (.ops [⟨none, (some 7), .mov (.tmp 0)⟩, ⟨none, (some 8), .bin .geq (.tmp 7) (.lit (.int .u64 (65536)))⟩])
  (.cond (.tmp 8) (.seq (.ops [⟨none, (some 9), .mov (.tmp 0)⟩, ⟨none, (some 10), .bin .shr (.tmp 9) (.lit (.int .u64 (16)))⟩, ⟨none, (some 0), .mov (.tmp 10)⟩])
  (.ops [⟨none, (some 11), .mov (.tmp 2)⟩, ⟨none, (some 12), .bin .add (.tmp 11) (.lit (.int .i64 (16)))⟩, ⟨none, (some 2), .mov (.tmp 12)⟩]))
  .skip))
  (.seq (.seq (.ops [⟨none, (some 13), .mov (.tmp 0)⟩, ⟨none, (some 14), .bin .geq (.tmp 13) (.lit (.int .u64 (256)))⟩])
  (.cond (.tmp 14) (.seq (.ops [⟨none, (some 15), .mov (.tmp 0)⟩, ⟨none, (some 16), .bin .shr (.tmp 15) (.lit (.int .u64 (8)))⟩, ⟨none, (some 0), .mov (.tmp 16)⟩])
  (.ops [⟨none, (some 17), .mov (.tmp 2)⟩, ⟨none, (some 18), .bin .add (.tmp 17) (.lit (.int .i64 (8)))⟩, ⟨none, (some 2), .mov (.tmp 18)⟩]))
  .skip))
  (.seq (.ops [⟨none, (some 19), .mov (.tmp 2)⟩, ⟨none, (some 20), .mov (.tmp 0)⟩, ⟨none, (some 21), .conv .u8 (.tmp 20)⟩, ⟨none, (some 22), .ixs (.lit (.str [0, 1, 2, 2, 3, 3, 3, 3, 4, 4, 4, 4, 4, 4, 4, 4, 5, 5, 5, 5, 5, 5, 5, 5, 5, 5, 5, 5, 5, 5, 5, 5, 6, 6, 6, 6, 6, 6, 6, 6, 6, 6, 6, 6, 6, 6, 6, 6, 6, 6, 6, 6, 6, 6, 6, 6, 6, 6, 6, 6, 6, 6, 6, 6, 7, 7, 7, 7, 7, 7, 7, 7, 7, 7, 7, 7, 7, 7, 7, 7, 7, 7, 7, 7, 7, 7, 7, 7, 7, 7, 7, 7, 7, 7, 7, 7, 7, 7, 7, 7, 7, 7, 7, 7, 7, 7, 7, 7, 7, 7, 7, 7, 7, 7, 7, 7, 7, 7, 7, 7, 7, 7, 7, 7, 7, 7, 7, 7, 8, 8, 8, 8, 8, 8, 8, 8, 8, 8, 8, 8, 8, 8, 8, 8, 8, 8, 8, 8, 8, 8, 8, 8, 8, 8, 8, 8, 8, 8, 8, 8, 8, 8, 8, 8, 8, 8, 8, 8, 8, 8, 8, 8, 8, 8, 8, 8, 8, 8, 8, 8, 8, 8, 8, 8, 8, 8, 8, 8, 8, 8, 8, 8, 8, 8, 8, 8, 8, 8, 8, 8, 8, 8, 8, 8, 8, 8, 8, 8, 8, 8, 8, 8, 8, 8, 8, 8, 8, 8, 8, 8, 8, 8, 8, 8, 8, 8, 8, 8, 8, 8, 8, 8, 8, 8, 8, 8, 8, 8, 8, 8, 8, 8, 8, 8, 8, 8, 8, 8, 8, 8, 8, 8, 8, 8, 8, 8])) (.tmp 21)⟩, ⟨none, (some 23), .conv .i64 (.tmp 22)⟩, ⟨none, (some 24), .bin .add (.tmp 19) (.tmp 23)⟩, ⟨none, (some 2), .mov (.tmp 24)⟩])
  .ret))))),
  [.tmp 2], none⟩
theorem r157 {m : Int} : resolveF Tryz.prog (cfg m) 157 = some I157 := by kernel_rfl
noncomputable def I159 : IF := ⟨8, (.seq (.ops [⟨none, (some 2), .mov (.lit (.bool false))⟩])
  (.seq (.ops [⟨none, (some 3), .mov (.tmp 0)⟩, ⟨none, (some 4), .mov (.tmp 0)⟩, ⟨none, (some 5), .bin .sub (.tmp 4) (.lit (.int .i64 (1)))⟩, ⟨none, (some 6), .bin .and (.tmp 3) (.tmp 5)⟩, ⟨none, (some 7), .bin .eql (.tmp 6) (.lit (.int .i64 (0)))⟩, ⟨none, (some 2), .mov (.tmp 7)⟩])
  .ret)),
  [.tmp 2], none⟩
theorem r159 {m : Int} : resolveF Tryz.prog (cfg m) 159 = some I159 := by kernel_rfl
noncomputable def I160 : IF := ⟨8, (.seq (.ops [⟨none, (some 2), .mov (.lit (.int .i64 (0)))⟩])
  (.seq (.cond (.lit (.bool false)) (.seq (.ops [⟨none, (some 3), .mov (.tmp 0)⟩, ⟨none, (some 4), .conv .u32 (.tmp 3)⟩, ⟨none, (some 5), .call 161 [(.tmp 4)]⟩, ⟨none, (some 2), .mov (.tmp 5)⟩])
  .ret)
  .skip)
  (.seq (.ops [⟨none, (some 6), .mov (.tmp 0)⟩, ⟨none, (some 7), .call 162 [(.tmp 6)]⟩, ⟨none, (some 2), .mov (.tmp 7)⟩])
  .ret))),
  [.tmp 2], none⟩
theorem r160 {m : Int} : resolveF Tryz.prog (cfg m) 160 = some I160 := by kernel_rfl
noncomputable def I162 : IF := ⟨14, (.seq (.ops [⟨none, (some 2), .mov (.lit (.int .i64 (0)))⟩])
  (.seq (.seq (.ops [⟨none, (some 3), .mov (.tmp 0)⟩, ⟨none, (some 4), .bin .eql (.tmp 3) (.lit (.int .u64 (0)))⟩])
  (.cond (.tmp 4) (.seq (.ops [⟨none, (some 2), .mov (.lit (.int .i64 (64)))⟩])
  .ret)
  .skip))
  (.seq (.ops [⟨none, (some 5), .mov (.tmp 0)⟩, ⟨none, (some 6), .mov (.tmp 0)⟩, ⟨none, (some 7), .un .neg (.tmp 6)⟩, ⟨none, (some 8), .bin .and (.tmp 5) (.tmp 7)⟩, ⟨none, (some 9), .bin .mul (.tmp 8) (.lit (.int .u64 (285870213051353865)))⟩, ⟨none, (some 10), .bin .shr (.tmp 9) (.lit (.int .u64 (58)))⟩, ⟨none, (some 11), .iaddrA 64 1 (.glob 10) (.tmp 10)⟩, ⟨none, (some 12), .load1 (.tmp 11)⟩, ⟨none, (some 13), .conv .i64 (.tmp 12)⟩, ⟨none, (some 2), .mov (.tmp 13)⟩])
  .ret))),
  [.tmp 2], none⟩
theorem r162 {m : Int} : resolveF Tryz.prog (cfg m) 162 = some I162 := by kernel_rfl
end Go.Proofs.YtmnajffpmbidiaaGreatDoor.Ic
namespace Go.Proofs.YtmnajffpmbidiaaGreatDoor.Ic
open Go Go.Proofs Go.Proofs.YtmnajffpmbidiaaGreatDoor.Ev
set_option maxRecDepth 100000
noncomputable def T (f : FuncId) : Option IF := (bif Nat.blt f 56 then (bif Nat.blt f 31 then (bif Nat.blt f 9 then (bif Nat.blt f 5 then (bif Nat.blt f 3 then (bif Nat.beq f 2 then some I2 else none)
  else (bif Nat.blt f 4 then (bif Nat.beq f 3 then some I3 else none)
  else (bif Nat.beq f 4 then some I4 else none)))
  else (bif Nat.blt f 6 then (bif Nat.beq f 5 then some I5 else none)
  else (bif Nat.blt f 8 then (bif Nat.beq f 6 then some I6 else none)
  else (bif Nat.beq f 8 then some I8 else none))))
  else (bif Nat.blt f 20 then (bif Nat.blt f 13 then (bif Nat.beq f 9 then some I9 else none)
  else (bif Nat.blt f 19 then (bif Nat.beq f 13 then some I13 else none)
  else (bif Nat.beq f 19 then some I19 else none)))
  else (bif Nat.blt f 29 then (bif Nat.blt f 21 then (bif Nat.beq f 20 then some I20 else none)
  else (bif Nat.beq f 21 then some I21 else none))
  else (bif Nat.blt f 30 then (bif Nat.beq f 29 then some I29 else none)
  else (bif Nat.beq f 30 then some I30 else none)))))
  else (bif Nat.blt f 46 then (bif Nat.blt f 35 then (bif Nat.blt f 33 then (bif Nat.beq f 31 then some I31 else none)
  else (bif Nat.blt f 34 then (bif Nat.beq f 33 then some I33 else none)
  else (bif Nat.beq f 34 then some I34 else none)))
  else (bif Nat.blt f 37 then (bif Nat.blt f 36 then (bif Nat.beq f 35 then some I35 else none)
  else (bif Nat.beq f 36 then some I36 else none))
  else (bif Nat.blt f 38 then (bif Nat.beq f 37 then some I37 else none)
  else (bif Nat.beq f 38 then some I38 else none))))
  else (bif Nat.blt f 49 then (bif Nat.blt f 47 then (bif Nat.beq f 46 then some I46 else none)
  else (bif Nat.blt f 48 then (bif Nat.beq f 47 then some I47 else none)
  else (bif Nat.beq f 48 then some I48 else none)))
  else (bif Nat.blt f 53 then (bif Nat.blt f 51 then (bif Nat.beq f 49 then some I49 else none)
  else (bif Nat.beq f 51 then some I51 else none))
  else (bif Nat.blt f 55 then (bif Nat.beq f 53 then some I53 else none)
  else (bif Nat.beq f 55 then some I55 else none))))))
  else (bif Nat.blt f 79 then (bif Nat.blt f 64 then (bif Nat.blt f 60 then (bif Nat.blt f 57 then (bif Nat.beq f 56 then some I56 else none)
  else (bif Nat.blt f 59 then (bif Nat.beq f 57 then some I57 else none)
  else (bif Nat.beq f 59 then some I59 else none)))
  else (bif Nat.blt f 62 then (bif Nat.blt f 61 then (bif Nat.beq f 60 then some I60 else none)
  else (bif Nat.beq f 61 then some I61 else none))
  else (bif Nat.blt f 63 then (bif Nat.beq f 62 then some I62 else none)
  else (bif Nat.beq f 63 then some I63 else none))))
  else (bif Nat.blt f 70 then (bif Nat.blt f 66 then (bif Nat.beq f 64 then some I64 else none)
  else (bif Nat.blt f 67 then (bif Nat.beq f 66 then some I66 else none)
  else (bif Nat.beq f 67 then some I67 else none)))
  else (bif Nat.blt f 75 then (bif Nat.blt f 72 then (bif Nat.beq f 70 then some I70 else none)
  else (bif Nat.beq f 72 then some I72 else none))
  else (bif Nat.blt f 76 then (bif Nat.beq f 75 then some I75 else none)
  else (bif Nat.beq f 76 then some I76 else none)))))
  else (bif Nat.blt f 139 then (bif Nat.blt f 102 then (bif Nat.blt f 94 then (bif Nat.beq f 79 then some I79 else none)
  else (bif Nat.blt f 95 then (bif Nat.beq f 94 then some I94 else none)
  else (bif Nat.beq f 95 then some I95 else none)))
  else (bif Nat.blt f 127 then (bif Nat.blt f 105 then (bif Nat.beq f 102 then some I102 else none)
  else (bif Nat.beq f 105 then some I105 else none))
  else (bif Nat.blt f 138 then (bif Nat.beq f 127 then some I127 else none)
  else (bif Nat.beq f 138 then some I138 else none))))
  else (bif Nat.blt f 157 then (bif Nat.blt f 146 then (bif Nat.beq f 139 then some I139 else none)
  else (bif Nat.blt f 156 then (bif Nat.beq f 146 then some I146 else none)
  else (bif Nat.beq f 156 then some I156 else none)))
  else (bif Nat.blt f 160 then (bif Nat.blt f 159 then (bif Nat.beq f 157 then some I157 else none)
  else (bif Nat.beq f 159 then some I159 else none))
  else (bif Nat.blt f 162 then (bif Nat.beq f 160 then some I160 else none)
  else (bif Nat.beq f 162 then some I162 else none)))))))
theorem bif_some {b : Bool} {x y : Option IF} {i : IF} {Q : Prop} (h : (bif b then x else y) = some i) (hx : x = some i → Q) (hy : y = some i → Q) : Q := by
  cases b <;> simp at h <;> first | exact hy h | exact hx h
theorem leaf {m : Int} {f k : Nat} {j i : IF} (h : (bif Nat.beq f k then some j else none) = some i) (hk : resolveF Tryz.prog (cfg m) k = some j) : resolveF Tryz.prog (cfg m) f = some i := by
  cases hb : Nat.beq f k with
  | false => simp [hb] at h
  | true => have := Nat.eq_of_beq_eq_true hb; subst this; simp [hb] at h; rw [hk, h]
theorem T_ok {m : Int} : TOk Tryz.prog (cfg m) T := fun f i h => ((fun h => bif_some h (fun h => bif_some h (fun h => bif_some h (fun h => bif_some h (fun h => bif_some h (fun h => leaf h r2)
  (fun h => bif_some h (fun h => leaf h r3)
  (fun h => leaf h r4)))
  (fun h => bif_some h (fun h => leaf h r5)
  (fun h => bif_some h (fun h => leaf h r6)
  (fun h => leaf h r8))))
  (fun h => bif_some h (fun h => bif_some h (fun h => leaf h r9)
  (fun h => bif_some h (fun h => leaf h r13)
  (fun h => leaf h r19)))
  (fun h => bif_some h (fun h => bif_some h (fun h => leaf h r20)
  (fun h => leaf h r21))
  (fun h => bif_some h (fun h => leaf h r29)
  (fun h => leaf h r30)))))
  (fun h => bif_some h (fun h => bif_some h (fun h => bif_some h (fun h => leaf h r31)
  (fun h => bif_some h (fun h => leaf h r33)
  (fun h => leaf h r34)))
  (fun h => bif_some h (fun h => bif_some h (fun h => leaf h r35)
  (fun h => leaf h r36))
  (fun h => bif_some h (fun h => leaf h r37)
  (fun h => leaf h r38))))
  (fun h => bif_some h (fun h => bif_some h (fun h => leaf h r46)
  (fun h => bif_some h (fun h => leaf h r47)
  (fun h => leaf h r48)))
  (fun h => bif_some h (fun h => bif_some h (fun h => leaf h r49)
  (fun h => leaf h r51))
  (fun h => bif_some h (fun h => leaf h r53)
  (fun h => leaf h r55))))))
  (fun h => bif_some h (fun h => bif_some h (fun h => bif_some h (fun h => bif_some h (fun h => leaf h r56)
  (fun h => bif_some h (fun h => leaf h r57)
  (fun h => leaf h r59)))
  (fun h => bif_some h (fun h => bif_some h (fun h => leaf h r60)
  (fun h => leaf h r61))
  (fun h => bif_some h (fun h => leaf h r62)
  (fun h => leaf h r63))))
  (fun h => bif_some h (fun h => bif_some h (fun h => leaf h r64)
  (fun h => bif_some h (fun h => leaf h r66)
  (fun h => leaf h r67)))
  (fun h => bif_some h (fun h => bif_some h (fun h => leaf h r70)
  (fun h => leaf h r72))
  (fun h => bif_some h (fun h => leaf h r75)
  (fun h => leaf h r76)))))
  (fun h => bif_some h (fun h => bif_some h (fun h => bif_some h (fun h => leaf h r79)
  (fun h => bif_some h (fun h => leaf h r94)
  (fun h => leaf h r95)))
  (fun h => bif_some h (fun h => bif_some h (fun h => leaf h r102)
  (fun h => leaf h r105))
  (fun h => bif_some h (fun h => leaf h r127)
  (fun h => leaf h r138))))
  (fun h => bif_some h (fun h => bif_some h (fun h => leaf h r139)
  (fun h => bif_some h (fun h => leaf h r146)
  (fun h => leaf h r156)))
  (fun h => bif_some h (fun h => bif_some h (fun h => leaf h r157)
  (fun h => leaf h r159))
  (fun h => bif_some h (fun h => leaf h r160)
  (fun h => leaf h r162))))))) : T f = some i → resolveF Tryz.prog (cfg m) f = some i) h
theorem t2 : T 2 = some I2 := by kernel_rfl
theorem t3 : T 3 = some I3 := by kernel_rfl
theorem t4 : T 4 = some I4 := by kernel_rfl
theorem t5 : T 5 = some I5 := by kernel_rfl
theorem t6 : T 6 = some I6 := by kernel_rfl
theorem t8 : T 8 = some I8 := by kernel_rfl
theorem t9 : T 9 = some I9 := by kernel_rfl
theorem t13 : T 13 = some I13 := by kernel_rfl
theorem t19 : T 19 = some I19 := by kernel_rfl
theorem t20 : T 20 = some I20 := by kernel_rfl
theorem t21 : T 21 = some I21 := by kernel_rfl
theorem t29 : T 29 = some I29 := by kernel_rfl
theorem t30 : T 30 = some I30 := by kernel_rfl
theorem t31 : T 31 = some I31 := by kernel_rfl
theorem t33 : T 33 = some I33 := by kernel_rfl
theorem t34 : T 34 = some I34 := by kernel_rfl
theorem t35 : T 35 = some I35 := by kernel_rfl
theorem t36 : T 36 = some I36 := by kernel_rfl
theorem t37 : T 37 = some I37 := by kernel_rfl
theorem t38 : T 38 = some I38 := by kernel_rfl
theorem t46 : T 46 = some I46 := by kernel_rfl
theorem t47 : T 47 = some I47 := by kernel_rfl
theorem t48 : T 48 = some I48 := by kernel_rfl
theorem t49 : T 49 = some I49 := by kernel_rfl
theorem t51 : T 51 = some I51 := by kernel_rfl
theorem t53 : T 53 = some I53 := by kernel_rfl
theorem t55 : T 55 = some I55 := by kernel_rfl
theorem t56 : T 56 = some I56 := by kernel_rfl
theorem t57 : T 57 = some I57 := by kernel_rfl
theorem t59 : T 59 = some I59 := by kernel_rfl
theorem t60 : T 60 = some I60 := by kernel_rfl
theorem t61 : T 61 = some I61 := by kernel_rfl
theorem t62 : T 62 = some I62 := by kernel_rfl
theorem t63 : T 63 = some I63 := by kernel_rfl
theorem t64 : T 64 = some I64 := by kernel_rfl
theorem t66 : T 66 = some I66 := by kernel_rfl
theorem t67 : T 67 = some I67 := by kernel_rfl
theorem t70 : T 70 = some I70 := by kernel_rfl
theorem t72 : T 72 = some I72 := by kernel_rfl
theorem t75 : T 75 = some I75 := by kernel_rfl
theorem t76 : T 76 = some I76 := by kernel_rfl
theorem t79 : T 79 = some I79 := by kernel_rfl
theorem t94 : T 94 = some I94 := by kernel_rfl
theorem t95 : T 95 = some I95 := by kernel_rfl
theorem t102 : T 102 = some I102 := by kernel_rfl
theorem t105 : T 105 = some I105 := by kernel_rfl
theorem t127 : T 127 = some I127 := by kernel_rfl
theorem t138 : T 138 = some I138 := by kernel_rfl
theorem t139 : T 139 = some I139 := by kernel_rfl
theorem t146 : T 146 = some I146 := by kernel_rfl
theorem t156 : T 156 = some I156 := by kernel_rfl
theorem t157 : T 157 = some I157 := by kernel_rfl
theorem t159 : T 159 = some I159 := by kernel_rfl
theorem t160 : T 160 = some I160 := by kernel_rfl
theorem t162 : T 162 = some I162 := by kernel_rfl
end Go.Proofs.YtmnajffpmbidiaaGreatDoor.Ic
namespace Go.Proofs.YtmnajffpmbidiaaGreatDoor.Ev
variable {P : Program} {g : Cfg} {F : FSem}
theorem getE_0 (H : Mem) (L : List Blk) : (H ++ L)[H.length]? = L[0]? := by rw [List.getElem?_append_right (Nat.le_refl _), Nat.sub_self]
theorem getE_k (H : Mem) (L : List Blk) (k : Nat) : (H ++ L)[H.length + k]? = L[k]? := by rw [List.getElem?_append_right (Nat.le_add_right _ _), Nat.add_sub_cancel_left]
theorem setE_0 (H : Mem) (L : List Blk) (b : Blk) : (H ++ L).set H.length b = H ++ L.set 0 b := by rw [List.set_append_right _ _ (Nat.le_refl _), Nat.sub_self]
theorem setE_k (H : Mem) (L : List Blk) (k : Nat) (b : Blk) : (H ++ L).set (H.length + k) b = H ++ L.set k b := by rw [List.set_append_right _ _ (Nat.le_add_right _ _), Nat.add_sub_cancel_left]
theorem takeE_0 (H : Mem) (L : List Blk) : (H ++ L).take H.length = H := by simp
theorem takeE_k (H : Mem) (L : List Blk) (k : Nat) : (H ++ L).take (H.length + k) = H ++ L.take k := by
  rw [List.take_append, List.take_of_length_le (Nat.le_add_right _ _), Nat.add_sub_cancel_left]
theorem eqM_app (H : Mem) (L : List Blk) : eqM (H ++ L) (H ++ L) = true := eqM_refl _
theorem loopA_succ (body : AAct → Mem → Option (Out × AAct × Mem)) (lv : Option (List Tmp)) (n : Nat) (a : AAct) (H : Mem) : loopA body lv (n + 1) a H = match body a H with
    | some (.normal, a', H') => loopA body lv n (roundEnd lv H a' H').1 (roundEnd lv H a' H').2
    | r => r := rfl
theorem bq_ft : (false == true) = false := rfl
theorem bq_tf : (true == false) = false := rfl
theorem lt_lit {k m : Nat} (n : Nat) (h : k < m) : (k < n + m) = True := by simp; omega
theorem le_lit {k m : Nat} (n : Nat) (h : k ≤ m) : (k ≤ n + m) = True := by simp; omega
theorem lt_lit2 {k m : Nat} (n : Nat) (h : k < m) : (k < m + n) = True := by simp; omega
theorem le_lit2 {k m : Nat} (n : Nat) (h : k ≤ m) : (k ≤ m + n) = True := by simp; omega
theorem le_sub1 {k m j : Nat} (n : Nat) (h : k + j ≤ m) : (k ≤ m + n - j) = True := by simp; omega
theorem le_sub2 {k m j : Nat} (n : Nat) (h : k + j ≤ m) : (k ≤ n + m - j) = True := by simp; omega
theorem takeS (H : Mem) : List.take (List.length H) H = H := List.take_length
theorem lt_k (n k : Nat) : n < n + (k + 1) := by omega
theorem loopA_go {body : AAct → Mem → Option (Out × AAct × Mem)} {lv : Option (List Tmp)} {n : Nat} {a a' : AAct} {H H' : Mem} {r : Option (Out × AAct × Mem)} (h : body a H = some (.normal, a', H'))
    (h2 : loopA body lv n (roundEnd lv H a' H').1 (roundEnd lv H a' H').2 = r) : loopA body lv (n + 1) a H = r := by
  rw [loopA_succ, h]; exact h2
theorem loopA_exit {body : AAct → Mem → Option (Out × AAct × Mem)} {lv : Option (List Tmp)} {n i : Nat} {a a' : AAct} {H H' : Mem} (h : body a H = some (.exit i, a', H')) : loopA body lv (n + 1) a H = some (.exit i, a', H') := by
  rw [loopA_succ, h]
theorem loopA_ret {body : AAct → Mem → Option (Out × AAct × Mem)} {lv : Option (List Tmp)} {n : Nat} {a a' : AAct} {H H' : Mem} (h : body a H = some (.ret, a', H')) : loopA body lv (n + 1) a H = some (.ret, a', H') := by
  rw [loopA_succ, h]
def IC.loops : IC → List IC
  | .seq x y => x.loops ++ y.loops
  | .cond _ x y => x.loops ++ y.loops
  | .block _ c => c.loops
  | .loop _ c => c :: c.loops
  | _ => []
theorem wrap64 {n : Int} (h0 : -9223372036854775808 ≤ n) (h1 : n ≤ 9223372036854775807) : IntKind.wrap .i64 n = n := by
  simp [IntKind.wrap, IntKind.bits, IntKind.signed]; omega
section
variable {N : Nat} {x y c : IC} {a a' a2 : AAct} {H H' H2 : Mem} {r : Option (Out × AAct × Mem)} {id : Nat}
theorem evI_seq (h : evI P g F N x a H = some (.normal, a', H')) (h2 : evI P g F N y a' H' = r) : evI P g F N (.seq x y) a H = r := by
  simp only [evI, h]; exact h2
theorem evI_seq_ret (h : evI P g F N x a H = some (.ret, a', H')) : evI P g F N (.seq x y) a H = some (.ret, a', H') := by simp only [evI, h]
theorem evI_seq_exit (h : evI P g F N x a H = some (.exit id, a', H')) : evI P g F N (.seq x y) a H = some (.exit id, a', H') := by simp only [evI, h]
theorem evI_block_exit (h : evI P g F N c a H = some (.exit id, a', H')) : evI P g F N (.block id c) a H = some (.normal, a', H') := by simp only [evI, h, if_true]
theorem evI_block_ret (h : evI P g F N c a H = some (.ret, a', H')) : evI P g F N (.block id c) a H = some (.ret, a', H') := by simp only [evI, h]
theorem evI_block (h : evI P g F N c a H = some (.normal, a', H')) : evI P g F N (.block id c) a H = some (.normal, a', H') := by simp only [evI, h]
theorem evI_loop {lv : List Tmp} (h : loopA (fun a H => evI P g F N c a H) (some lv) N (a.keepT lv) H = r) : evI P g F N (.loop (some lv) c) a H = r := h
theorem evI_true {v : IArg} (hv : a.evI g v = .bool true) (h : evI P g F N x a H = r) : evI P g F N (.cond v x y) a H = r := by simp only [evI, hv]; exact h
theorem evI_false {v : IArg} (hv : a.evI g v = .bool false) (h : evI P g F N y a H = r) : evI P g F N (.cond v x y) a H = r := by simp only [evI, hv]; exact h
end
section
variable {T : FuncId → Option IF} {N n f m : Nat} {i : IF} {args : List AV} {H H1 H2 : Mem} {a : AAct} {v v' : AV}
theorem evF_ret (hl : g.lib f = none) (hT : T f = some i) (hm : max args.length i.n = m) (hb : evI P g (evFI P g T N n) N i.c ⟨m, idx 0 args, []⟩ H = some (.ret, a, H1)) (hd : a.d = []) (hr : resI i.res a H1 = some v) (hz : finish (g.keep f) H v H1 = (v', H2)) :
    evFI P g T N (n + 1) f args H = some (.ret v', H2) := by
  simp only [evFI, hl, hT, hm, hb, hd, List.isEmpty_nil, if_true, hr, Option.map_some, hz]
theorem evF_nrm (hl : g.lib f = none) (hT : T f = some i) (hm : max args.length i.n = m) (hb : evI P g (evFI P g T N n) N i.c ⟨m, idx 0 args, []⟩ H = some (.normal, a, H1)) (hd : a.d = []) (hr : resI i.res a H1 = some v) (hz : finish (g.keep f) H v H1 = (v', H2)) :
    evFI P g T N (n + 1) f args H = some (.ret v', H2) := by
  simp only [evFI, hl, hT, hm, hb, hd, List.isEmpty_nil, if_true, hr, Option.map_some, hz]
end
theorem fin_len {keep : Bool} {v : AV} {H0 H1 : Mem} (hf : (if keep then some v else frz H0.length H1 12 v) = some v) (hlen : H1.length = H0.length) : finish keep H0 v H1 = (v, H1) := by
  unfold finish
  rw [hf]
  simp only []
  split
  · rw [List.take_of_length_le (by omega)]
  · rfl
def pure (x : AV) : Bool := low 0 x
theorem pureL_low {x : List AV} (h : lowL 0 x = true) (n : Nat) : lowL n x = true := lowL_mono (Nat.zero_le n) h
theorem lowL_app (n : Nat) : ∀ (a b : List AV), lowL n (a ++ b) = (lowL n a && lowL n b)
  | [], b => by simp [lowL]
  | x :: a, b => by simp [lowL, lowL_app n a b, Bool.and_assoc]
end Go.Proofs.YtmnajffpmbidiaaGreatDoor.Ev
