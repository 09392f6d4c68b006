/- The types of this seat, as the calculus wants them. Printed by a program of this session. -/
import Derived.Test.YtgjeemfggfhibaaGreatDoorFwC
import Derived.Test.YtgjeemfggfhibaaGreatDoorProg
namespace Go.Proofs.YtgjeemfggfhibaaGreatDoorFw
open Go Go.RowKit
def tabL : List (TypeId × TI) := [(2, ⟨.int .i64, 1, 8, [.int .i64 0]⟩),
  (3, ⟨.int .i64, 1, 8, [.int .i64 0]⟩),
  (4, ⟨.bool, 1, 1, [.bool false]⟩),
  (5, ⟨.int .u8, 1, 1, [.int .u8 0]⟩),
  (9, ⟨.str, 1, 16, [.str []]⟩),
  (12, ⟨.int .u64, 1, 8, [.int .u64 0]⟩),
  (21, ⟨.int .i32, 1, 4, [.int .i32 0]⟩),
  (22, ⟨.slice 3, 1, 24, [.row .own 1 []]⟩),
  (27, ⟨.slice 9, 1, 24, [.row .own 1 []]⟩),
  (28, ⟨.slice 30, 1, 24, [.row .own 3 []]⟩),
  (29, ⟨.struct [(0, 9), (1, 27), (2, 28)], 3, 64, [.str [], .row .own 1 [], .row .own 3 []]⟩),
  (30, ⟨.struct [(0, 9), (1, 27), (2, 28)], 3, 64, [.str [], .row .own 1 [], .row .own 3 []]⟩),
  (37, ⟨.slice 63, 1, 24, [.row .own 17 []]⟩),
  (39, ⟨.slice 73, 1, 24, [.row .own 3 []]⟩),
  (42, ⟨.other, 1, 8, [.dead]⟩),
  (43, ⟨.struct [(0, 39), (1, 3), (2, 4)], 3, 40, [.row .own 3 [], .int .i64 0, .bool false]⟩),
  (44, ⟨.struct [(0, 39), (1, 3), (2, 4)], 3, 40, [.row .own 3 [], .int .i64 0, .bool false]⟩),
  (47, ⟨.other, 1, 8, [.dead]⟩),
  (48, ⟨.struct [(0, 39), (1, 4)], 2, 32, [.row .own 3 [], .bool false]⟩),
  (49, ⟨.struct [(0, 39), (1, 4)], 2, 32, [.row .own 3 [], .bool false]⟩),
  (57, ⟨.slice 59, 1, 24, [.row .own 4 []]⟩),
  (58, ⟨.struct [(0, 3), (1, 3), (2, 9), (3, 57)], 4, 56, [.int .i64 0, .int .i64 0, .str [], .row .own 4 []]⟩),
  (59, ⟨.struct [(0, 3), (1, 3), (2, 9), (3, 57)], 4, 56, [.int .i64 0, .int .i64 0, .str [], .row .own 4 []]⟩),
  (60, ⟨.struct [(0, 3), (1, 3), (2, 59)], 6, 72, [.int .i64 0, .int .i64 0, .int .i64 0, .int .i64 0, .str [], .row .own 4 []]⟩),
  (61, ⟨.struct [(0, 3), (1, 3), (2, 59)], 6, 72, [.int .i64 0, .int .i64 0, .int .i64 0, .int .i64 0, .str [], .row .own 4 []]⟩),
  (62, ⟨.struct [(0, 3), (1, 9), (2, 3), (3, 61), (9, 61), (15, 3), (16, 57)], 17, 208, [.int .i64 0, .str [], .int .i64 0, .int .i64 0, .int .i64 0, .int .i64 0, .int .i64 0, .str [], .row .own 4 [], .int .i64 0, .int .i64 0, .int .i64 0, .int .i64 0, .str [], .row .own 4 [], .int .i64 0, .row .own 4 []]⟩),
  (63, ⟨.struct [(0, 3), (1, 9), (2, 3), (3, 61), (9, 61), (15, 3), (16, 57)], 17, 208, [.int .i64 0, .str [], .int .i64 0, .int .i64 0, .int .i64 0, .int .i64 0, .int .i64 0, .str [], .row .own 4 [], .int .i64 0, .int .i64 0, .int .i64 0, .int .i64 0, .str [], .row .own 4 [], .int .i64 0, .row .own 4 []]⟩),
  (64, ⟨.struct [(0, 3), (1, 3), (2, 3)], 3, 24, [.int .i64 0, .int .i64 0, .int .i64 0]⟩),
  (65, ⟨.struct [(0, 3), (1, 3), (2, 3)], 3, 24, [.int .i64 0, .int .i64 0, .int .i64 0]⟩),
  (66, ⟨.struct [(0, 3), (1, 65), (4, 65), (7, 3)], 8, 64, [.int .i64 0, .int .i64 0, .int .i64 0, .int .i64 0, .int .i64 0, .int .i64 0, .int .i64 0, .int .i64 0]⟩),
  (67, ⟨.struct [(0, 3), (1, 65), (4, 65), (7, 3)], 8, 64, [.int .i64 0, .int .i64 0, .int .i64 0, .int .i64 0, .int .i64 0, .int .i64 0, .int .i64 0, .int .i64 0]⟩),
  (72, ⟨.struct [(0, 3), (1, 3), (2, 9)], 3, 32, [.int .i64 0, .int .i64 0, .str []]⟩),
  (73, ⟨.struct [(0, 3), (1, 3), (2, 9)], 3, 32, [.int .i64 0, .int .i64 0, .str []]⟩),
  (80, ⟨.other, 1, 8, [.dead]⟩),
  (81, ⟨.struct [(0, 27), (1, 27), (2, 4)], 3, 56, [.row .own 1 [], .row .own 1 [], .bool false]⟩),
  (82, ⟨.struct [(0, 27), (1, 27), (2, 4)], 3, 56, [.row .own 1 [], .row .own 1 [], .bool false]⟩),
  (116, ⟨.slice 5, 1, 24, [.row .own 1 []]⟩),
  (122, ⟨.int .u64, 1, 8, [.int .u64 0]⟩),
  (126, ⟨.slice 39, 1, 24, [.row .own 1 []]⟩),
  (135, ⟨.other, 1, 8, [.dead]⟩),
  (136, ⟨.struct [(0, 135), (1, 116)], 2, 32, [.dead, .row .own 1 []]⟩),
  (137, ⟨.struct [(0, 135), (1, 116)], 2, 32, [.dead, .row .own 1 []]⟩),
  (146, ⟨.int .i64, 1, 8, [.int .i64 0]⟩),
  (154, ⟨.int .u32, 1, 4, [.int .u32 0]⟩),
  (156, ⟨.int .u64, 1, 8, [.int .u64 0]⟩),
  (158, ⟨.other, 1, 8, [.dead]⟩),
  (160, ⟨.int .u64, 1, 8, [.int .u64 0]⟩),
  (164, ⟨.other, 1, 8, [.dead]⟩),
  (166, ⟨.arr 24 5, 24, 24, [.int .u8 0, .int .u8 0, .int .u8 0, .int .u8 0, .int .u8 0, .int .u8 0, .int .u8 0, .int .u8 0, .int .u8 0, .int .u8 0, .int .u8 0, .int .u8 0, .int .u8 0, .int .u8 0, .int .u8 0, .int .u8 0, .int .u8 0, .int .u8 0, .int .u8 0, .int .u8 0, .int .u8 0, .int .u8 0, .int .u8 0, .int .u8 0]⟩),
  (173, ⟨.int .i64, 1, 8, [.int .i64 0]⟩),
  (176, ⟨.other, 1, 8, [.dead]⟩),
  (179, ⟨.other, 1, 8, [.dead]⟩),
  (182, ⟨.arr 20 156, 20, 160, [.int .u64 0, .int .u64 0, .int .u64 0, .int .u64 0, .int .u64 0, .int .u64 0, .int .u64 0, .int .u64 0, .int .u64 0, .int .u64 0, .int .u64 0, .int .u64 0, .int .u64 0, .int .u64 0, .int .u64 0, .int .u64 0, .int .u64 0, .int .u64 0, .int .u64 0, .int .u64 0]⟩),
  (183, ⟨.arr 65 5, 65, 65, [.int .u8 0, .int .u8 0, .int .u8 0, .int .u8 0, .int .u8 0, .int .u8 0, .int .u8 0, .int .u8 0, .int .u8 0, .int .u8 0, .int .u8 0, .int .u8 0, .int .u8 0, .int .u8 0, .int .u8 0, .int .u8 0, .int .u8 0, .int .u8 0, .int .u8 0, .int .u8 0, .int .u8 0, .int .u8 0, .int .u8 0, .int .u8 0, .int .u8 0, .int .u8 0, .int .u8 0, .int .u8 0, .int .u8 0, .int .u8 0, .int .u8 0, .int .u8 0, .int .u8 0, .int .u8 0, .int .u8 0, .int .u8 0, .int .u8 0, .int .u8 0, .int .u8 0, .int .u8 0, .int .u8 0, .int .u8 0, .int .u8 0, .int .u8 0, .int .u8 0, .int .u8 0, .int .u8 0, .int .u8 0, .int .u8 0, .int .u8 0, .int .u8 0, .int .u8 0, .int .u8 0, .int .u8 0, .int .u8 0, .int .u8 0, .int .u8 0, .int .u8 0, .int .u8 0, .int .u8 0, .int .u8 0, .int .u8 0, .int .u8 0, .int .u8 0, .int .u8 0]⟩),
  (186, ⟨.struct [(0, 9), (1, 9), (2, 140)], 3, 48, [.str [], .str [], .nilI]⟩),
  (187, ⟨.struct [(0, 9), (1, 9), (2, 140)], 3, 48, [.str [], .str [], .nilI]⟩),
  (189, ⟨.other, 1, 8, [.dead]⟩),
  (190, ⟨.struct [(0, 9)], 1, 16, [.str []]⟩),
  (191, ⟨.struct [(0, 9)], 1, 16, [.str []]⟩),
  (192, ⟨.arr 32 5, 32, 32, [.int .u8 0, .int .u8 0, .int .u8 0, .int .u8 0, .int .u8 0, .int .u8 0, .int .u8 0, .int .u8 0, .int .u8 0, .int .u8 0, .int .u8 0, .int .u8 0, .int .u8 0, .int .u8 0, .int .u8 0, .int .u8 0, .int .u8 0, .int .u8 0, .int .u8 0, .int .u8 0, .int .u8 0, .int .u8 0, .int .u8 0, .int .u8 0, .int .u8 0, .int .u8 0, .int .u8 0, .int .u8 0, .int .u8 0, .int .u8 0, .int .u8 0, .int .u8 0]⟩),
  (193, ⟨.arr 64 5, 64, 64, [.int .u8 0, .int .u8 0, .int .u8 0, .int .u8 0, .int .u8 0, .int .u8 0, .int .u8 0, .int .u8 0, .int .u8 0, .int .u8 0, .int .u8 0, .int .u8 0, .int .u8 0, .int .u8 0, .int .u8 0, .int .u8 0, .int .u8 0, .int .u8 0, .int .u8 0, .int .u8 0, .int .u8 0, .int .u8 0, .int .u8 0, .int .u8 0, .int .u8 0, .int .u8 0, .int .u8 0, .int .u8 0, .int .u8 0, .int .u8 0, .int .u8 0, .int .u8 0, .int .u8 0, .int .u8 0, .int .u8 0, .int .u8 0, .int .u8 0, .int .u8 0, .int .u8 0, .int .u8 0, .int .u8 0, .int .u8 0, .int .u8 0, .int .u8 0, .int .u8 0, .int .u8 0, .int .u8 0, .int .u8 0, .int .u8 0, .int .u8 0, .int .u8 0, .int .u8 0, .int .u8 0, .int .u8 0, .int .u8 0, .int .u8 0, .int .u8 0, .int .u8 0, .int .u8 0, .int .u8 0, .int .u8 0, .int .u8 0, .int .u8 0, .int .u8 0]⟩)]
def tab : Tab := lookT tabL
theorem mixed : Tryz.prog.follows .mixedOrders = true := by kernel_rfl
theorem tabOk : TabOk Tryz.prog tab := tabOk_of (by kernel_rfl)
theorem tab_2 : tab 2 = some ⟨.int .i64, 1, 8, [.int .i64 0]⟩ := rfl
theorem tab_3 : tab 3 = some ⟨.int .i64, 1, 8, [.int .i64 0]⟩ := rfl
theorem tab_4 : tab 4 = some ⟨.bool, 1, 1, [.bool false]⟩ := rfl
theorem tab_5 : tab 5 = some ⟨.int .u8, 1, 1, [.int .u8 0]⟩ := rfl
theorem tab_9 : tab 9 = some ⟨.str, 1, 16, [.str []]⟩ := rfl
theorem tab_12 : tab 12 = some ⟨.int .u64, 1, 8, [.int .u64 0]⟩ := rfl
theorem tab_21 : tab 21 = some ⟨.int .i32, 1, 4, [.int .i32 0]⟩ := rfl
theorem tab_22 : tab 22 = some ⟨.slice 3, 1, 24, [.row .own 1 []]⟩ := rfl
theorem tab_27 : tab 27 = some ⟨.slice 9, 1, 24, [.row .own 1 []]⟩ := rfl
theorem tab_28 : tab 28 = some ⟨.slice 30, 1, 24, [.row .own 3 []]⟩ := rfl
theorem tab_29 : tab 29 = some ⟨.struct [(0, 9), (1, 27), (2, 28)], 3, 64, [.str [], .row .own 1 [], .row .own 3 []]⟩ := rfl
theorem tab_30 : tab 30 = some ⟨.struct [(0, 9), (1, 27), (2, 28)], 3, 64, [.str [], .row .own 1 [], .row .own 3 []]⟩ := rfl
theorem tab_37 : tab 37 = some ⟨.slice 63, 1, 24, [.row .own 17 []]⟩ := rfl
theorem tab_39 : tab 39 = some ⟨.slice 73, 1, 24, [.row .own 3 []]⟩ := rfl
theorem tab_42 : tab 42 = some ⟨.other, 1, 8, [.dead]⟩ := rfl
theorem tab_43 : tab 43 = some ⟨.struct [(0, 39), (1, 3), (2, 4)], 3, 40, [.row .own 3 [], .int .i64 0, .bool false]⟩ := rfl
theorem tab_44 : tab 44 = some ⟨.struct [(0, 39), (1, 3), (2, 4)], 3, 40, [.row .own 3 [], .int .i64 0, .bool false]⟩ := rfl
theorem tab_47 : tab 47 = some ⟨.other, 1, 8, [.dead]⟩ := rfl
theorem tab_48 : tab 48 = some ⟨.struct [(0, 39), (1, 4)], 2, 32, [.row .own 3 [], .bool false]⟩ := rfl
theorem tab_49 : tab 49 = some ⟨.struct [(0, 39), (1, 4)], 2, 32, [.row .own 3 [], .bool false]⟩ := rfl
theorem tab_57 : tab 57 = some ⟨.slice 59, 1, 24, [.row .own 4 []]⟩ := rfl
theorem tab_58 : tab 58 = some ⟨.struct [(0, 3), (1, 3), (2, 9), (3, 57)], 4, 56, [.int .i64 0, .int .i64 0, .str [], .row .own 4 []]⟩ := rfl
theorem tab_59 : tab 59 = some ⟨.struct [(0, 3), (1, 3), (2, 9), (3, 57)], 4, 56, [.int .i64 0, .int .i64 0, .str [], .row .own 4 []]⟩ := rfl
theorem tab_60 : tab 60 = some ⟨.struct [(0, 3), (1, 3), (2, 59)], 6, 72, [.int .i64 0, .int .i64 0, .int .i64 0, .int .i64 0, .str [], .row .own 4 []]⟩ := rfl
theorem tab_61 : tab 61 = some ⟨.struct [(0, 3), (1, 3), (2, 59)], 6, 72, [.int .i64 0, .int .i64 0, .int .i64 0, .int .i64 0, .str [], .row .own 4 []]⟩ := rfl
theorem tab_62 : tab 62 = some ⟨.struct [(0, 3), (1, 9), (2, 3), (3, 61), (9, 61), (15, 3), (16, 57)], 17, 208, [.int .i64 0, .str [], .int .i64 0, .int .i64 0, .int .i64 0, .int .i64 0, .int .i64 0, .str [], .row .own 4 [], .int .i64 0, .int .i64 0, .int .i64 0, .int .i64 0, .str [], .row .own 4 [], .int .i64 0, .row .own 4 []]⟩ := rfl
theorem tab_63 : tab 63 = some ⟨.struct [(0, 3), (1, 9), (2, 3), (3, 61), (9, 61), (15, 3), (16, 57)], 17, 208, [.int .i64 0, .str [], .int .i64 0, .int .i64 0, .int .i64 0, .int .i64 0, .int .i64 0, .str [], .row .own 4 [], .int .i64 0, .int .i64 0, .int .i64 0, .int .i64 0, .str [], .row .own 4 [], .int .i64 0, .row .own 4 []]⟩ := rfl
theorem tab_64 : tab 64 = some ⟨.struct [(0, 3), (1, 3), (2, 3)], 3, 24, [.int .i64 0, .int .i64 0, .int .i64 0]⟩ := rfl
theorem tab_65 : tab 65 = some ⟨.struct [(0, 3), (1, 3), (2, 3)], 3, 24, [.int .i64 0, .int .i64 0, .int .i64 0]⟩ := rfl
theorem tab_66 : tab 66 = some ⟨.struct [(0, 3), (1, 65), (4, 65), (7, 3)], 8, 64, [.int .i64 0, .int .i64 0, .int .i64 0, .int .i64 0, .int .i64 0, .int .i64 0, .int .i64 0, .int .i64 0]⟩ := rfl
theorem tab_67 : tab 67 = some ⟨.struct [(0, 3), (1, 65), (4, 65), (7, 3)], 8, 64, [.int .i64 0, .int .i64 0, .int .i64 0, .int .i64 0, .int .i64 0, .int .i64 0, .int .i64 0, .int .i64 0]⟩ := rfl
theorem tab_72 : tab 72 = some ⟨.struct [(0, 3), (1, 3), (2, 9)], 3, 32, [.int .i64 0, .int .i64 0, .str []]⟩ := rfl
theorem tab_73 : tab 73 = some ⟨.struct [(0, 3), (1, 3), (2, 9)], 3, 32, [.int .i64 0, .int .i64 0, .str []]⟩ := rfl
theorem tab_80 : tab 80 = some ⟨.other, 1, 8, [.dead]⟩ := rfl
theorem tab_81 : tab 81 = some ⟨.struct [(0, 27), (1, 27), (2, 4)], 3, 56, [.row .own 1 [], .row .own 1 [], .bool false]⟩ := rfl
theorem tab_82 : tab 82 = some ⟨.struct [(0, 27), (1, 27), (2, 4)], 3, 56, [.row .own 1 [], .row .own 1 [], .bool false]⟩ := rfl
theorem tab_116 : tab 116 = some ⟨.slice 5, 1, 24, [.row .own 1 []]⟩ := rfl
theorem tab_122 : tab 122 = some ⟨.int .u64, 1, 8, [.int .u64 0]⟩ := rfl
theorem tab_126 : tab 126 = some ⟨.slice 39, 1, 24, [.row .own 1 []]⟩ := rfl
theorem tab_135 : tab 135 = some ⟨.other, 1, 8, [.dead]⟩ := rfl
theorem tab_136 : tab 136 = some ⟨.struct [(0, 135), (1, 116)], 2, 32, [.dead, .row .own 1 []]⟩ := rfl
theorem tab_137 : tab 137 = some ⟨.struct [(0, 135), (1, 116)], 2, 32, [.dead, .row .own 1 []]⟩ := rfl
theorem tab_146 : tab 146 = some ⟨.int .i64, 1, 8, [.int .i64 0]⟩ := rfl
theorem tab_154 : tab 154 = some ⟨.int .u32, 1, 4, [.int .u32 0]⟩ := rfl
theorem tab_156 : tab 156 = some ⟨.int .u64, 1, 8, [.int .u64 0]⟩ := rfl
theorem tab_158 : tab 158 = some ⟨.other, 1, 8, [.dead]⟩ := rfl
theorem tab_160 : tab 160 = some ⟨.int .u64, 1, 8, [.int .u64 0]⟩ := rfl
theorem tab_164 : tab 164 = some ⟨.other, 1, 8, [.dead]⟩ := rfl
theorem tab_166 : tab 166 = some ⟨.arr 24 5, 24, 24, [.int .u8 0, .int .u8 0, .int .u8 0, .int .u8 0, .int .u8 0, .int .u8 0, .int .u8 0, .int .u8 0, .int .u8 0, .int .u8 0, .int .u8 0, .int .u8 0, .int .u8 0, .int .u8 0, .int .u8 0, .int .u8 0, .int .u8 0, .int .u8 0, .int .u8 0, .int .u8 0, .int .u8 0, .int .u8 0, .int .u8 0, .int .u8 0]⟩ := rfl
theorem tab_173 : tab 173 = some ⟨.int .i64, 1, 8, [.int .i64 0]⟩ := rfl
theorem tab_176 : tab 176 = some ⟨.other, 1, 8, [.dead]⟩ := rfl
theorem tab_179 : tab 179 = some ⟨.other, 1, 8, [.dead]⟩ := rfl
theorem tab_182 : tab 182 = some ⟨.arr 20 156, 20, 160, [.int .u64 0, .int .u64 0, .int .u64 0, .int .u64 0, .int .u64 0, .int .u64 0, .int .u64 0, .int .u64 0, .int .u64 0, .int .u64 0, .int .u64 0, .int .u64 0, .int .u64 0, .int .u64 0, .int .u64 0, .int .u64 0, .int .u64 0, .int .u64 0, .int .u64 0, .int .u64 0]⟩ := rfl
theorem tab_183 : tab 183 = some ⟨.arr 65 5, 65, 65, [.int .u8 0, .int .u8 0, .int .u8 0, .int .u8 0, .int .u8 0, .int .u8 0, .int .u8 0, .int .u8 0, .int .u8 0, .int .u8 0, .int .u8 0, .int .u8 0, .int .u8 0, .int .u8 0, .int .u8 0, .int .u8 0, .int .u8 0, .int .u8 0, .int .u8 0, .int .u8 0, .int .u8 0, .int .u8 0, .int .u8 0, .int .u8 0, .int .u8 0, .int .u8 0, .int .u8 0, .int .u8 0, .int .u8 0, .int .u8 0, .int .u8 0, .int .u8 0, .int .u8 0, .int .u8 0, .int .u8 0, .int .u8 0, .int .u8 0, .int .u8 0, .int .u8 0, .int .u8 0, .int .u8 0, .int .u8 0, .int .u8 0, .int .u8 0, .int .u8 0, .int .u8 0, .int .u8 0, .int .u8 0, .int .u8 0, .int .u8 0, .int .u8 0, .int .u8 0, .int .u8 0, .int .u8 0, .int .u8 0, .int .u8 0, .int .u8 0, .int .u8 0, .int .u8 0, .int .u8 0, .int .u8 0, .int .u8 0, .int .u8 0, .int .u8 0, .int .u8 0]⟩ := rfl
theorem tab_186 : tab 186 = some ⟨.struct [(0, 9), (1, 9), (2, 140)], 3, 48, [.str [], .str [], .nilI]⟩ := rfl
theorem tab_187 : tab 187 = some ⟨.struct [(0, 9), (1, 9), (2, 140)], 3, 48, [.str [], .str [], .nilI]⟩ := rfl
theorem tab_189 : tab 189 = some ⟨.other, 1, 8, [.dead]⟩ := rfl
theorem tab_190 : tab 190 = some ⟨.struct [(0, 9)], 1, 16, [.str []]⟩ := rfl
theorem tab_191 : tab 191 = some ⟨.struct [(0, 9)], 1, 16, [.str []]⟩ := rfl
theorem tab_192 : tab 192 = some ⟨.arr 32 5, 32, 32, [.int .u8 0, .int .u8 0, .int .u8 0, .int .u8 0, .int .u8 0, .int .u8 0, .int .u8 0, .int .u8 0, .int .u8 0, .int .u8 0, .int .u8 0, .int .u8 0, .int .u8 0, .int .u8 0, .int .u8 0, .int .u8 0, .int .u8 0, .int .u8 0, .int .u8 0, .int .u8 0, .int .u8 0, .int .u8 0, .int .u8 0, .int .u8 0, .int .u8 0, .int .u8 0, .int .u8 0, .int .u8 0, .int .u8 0, .int .u8 0, .int .u8 0, .int .u8 0]⟩ := rfl
theorem tab_193 : tab 193 = some ⟨.arr 64 5, 64, 64, [.int .u8 0, .int .u8 0, .int .u8 0, .int .u8 0, .int .u8 0, .int .u8 0, .int .u8 0, .int .u8 0, .int .u8 0, .int .u8 0, .int .u8 0, .int .u8 0, .int .u8 0, .int .u8 0, .int .u8 0, .int .u8 0, .int .u8 0, .int .u8 0, .int .u8 0, .int .u8 0, .int .u8 0, .int .u8 0, .int .u8 0, .int .u8 0, .int .u8 0, .int .u8 0, .int .u8 0, .int .u8 0, .int .u8 0, .int .u8 0, .int .u8 0, .int .u8 0, .int .u8 0, .int .u8 0, .int .u8 0, .int .u8 0, .int .u8 0, .int .u8 0, .int .u8 0, .int .u8 0, .int .u8 0, .int .u8 0, .int .u8 0, .int .u8 0, .int .u8 0, .int .u8 0, .int .u8 0, .int .u8 0, .int .u8 0, .int .u8 0, .int .u8 0, .int .u8 0, .int .u8 0, .int .u8 0, .int .u8 0, .int .u8 0, .int .u8 0, .int .u8 0, .int .u8 0, .int .u8 0, .int .u8 0, .int .u8 0, .int .u8 0, .int .u8 0]⟩ := rfl
attribute [go_sem] tab_2 tab_3 tab_4 tab_5 tab_9 tab_12 tab_21 tab_22 tab_27 tab_28 tab_29 tab_30 tab_37 tab_39 tab_42 tab_43 tab_44 tab_47 tab_48 tab_49 tab_57 tab_58 tab_59 tab_60 tab_61 tab_62 tab_63 tab_64 tab_65 tab_66 tab_67 tab_72 tab_73 tab_80 tab_81 tab_82 tab_116 tab_122 tab_126 tab_135 tab_136 tab_137 tab_146 tab_154 tab_156 tab_158 tab_160 tab_164 tab_166 tab_173 tab_176 tab_179 tab_182 tab_183 tab_186 tab_187 tab_189 tab_190 tab_191 tab_192 tab_193
structure Held (q : Prop) : Prop where
  out : q
theorem run_ {p q : Prop} (h : q) (k : Held q → p := by (intro hq; (repeat (first | refine RunsA.sq ?_ | refine RunsA.bk ?_ | refine RunsA.sk ?_ | refine RunsA.ex ?_ | refine RunsA.rt ?_ | refine At.n ?_ | refine At.x ?_ | refine At.r ?_ | refine At.bn ?_ | refine At.br ?_ | refine At.bx ?_ | refine At.by_ rfl ?_ | refine At.kx ?_ | refine At.kr ?_ | refine At.kn ?_ | refine At.er ?_ | refine At.en ?_ | (refine RunsA.rq tabOk fun J hJ => ?_; simp only [go_sem, ↓reduceIte, Nat.reduceAdd, Nat.reduceSub, Nat.reduceMul, Nat.reduceLT, Nat.reduceLeDiff, Nat.reduceEqDiff, Nat.reduceBEq, Int.reduceToNat]; (try simp (disch := omega) only [wrap_id]); (repeat refine ⟨by omega, ?_⟩); refine hJ _ _ (RunsL.nil ?_); clear hJ J) | (refine RunsA.dq mixed tabOk (by kernel_rfl) fun J hJ => ?_; simp only [go_sem, ↓reduceIte, Nat.reduceAdd, Nat.reduceSub, Nat.reduceMul, Nat.reduceLT, Nat.reduceLeDiff, Nat.reduceEqDiff, Nat.reduceBEq, Int.reduceToNat]; (try simp (disch := omega) only [wrap_id]); (repeat refine ⟨by omega, ?_⟩); refine hJ _ _ (QRuns.nil ?_); clear hJ J))); exact hq.out)) : p := k ⟨h⟩
theorem run1_ {a1 p q : Prop} (f1 : a1) (h : q) (k : a1 → Held q → p := by (intro f1 hq; (repeat (first | refine RunsA.sq ?_ | refine RunsA.bk ?_ | refine RunsA.sk ?_ | refine RunsA.ex ?_ | refine RunsA.rt ?_ | refine At.n ?_ | refine At.x ?_ | refine At.r ?_ | refine At.bn ?_ | refine At.br ?_ | refine At.bx ?_ | refine At.by_ rfl ?_ | refine At.kx ?_ | refine At.kr ?_ | refine At.kn ?_ | refine At.er ?_ | refine At.en ?_ | (refine RunsA.rq tabOk fun J hJ => ?_; simp only [go_sem, ↓reduceIte, Nat.reduceAdd, Nat.reduceSub, Nat.reduceMul, Nat.reduceLT, Nat.reduceLeDiff, Nat.reduceEqDiff, Nat.reduceBEq, Int.reduceToNat, f1]; (try simp (disch := omega) only [wrap_id]); (repeat refine ⟨by omega, ?_⟩); refine hJ _ _ (RunsL.nil ?_); clear hJ J) | (refine RunsA.dq mixed tabOk (by kernel_rfl) fun J hJ => ?_; simp only [go_sem, ↓reduceIte, Nat.reduceAdd, Nat.reduceSub, Nat.reduceMul, Nat.reduceLT, Nat.reduceLeDiff, Nat.reduceEqDiff, Nat.reduceBEq, Int.reduceToNat, f1]; (try simp (disch := omega) only [wrap_id]); (repeat refine ⟨by omega, ?_⟩); refine hJ _ _ (QRuns.nil ?_); clear hJ J))); exact hq.out)) : p := k f1 ⟨h⟩
theorem run2_ {a1 a2 p q : Prop} (f1 : a1) (f2 : a2) (h : q) (k : a1 → a2 → Held q → p := by (intro f1 f2 hq; (repeat (first | refine RunsA.sq ?_ | refine RunsA.bk ?_ | refine RunsA.sk ?_ | refine RunsA.ex ?_ | refine RunsA.rt ?_ | refine At.n ?_ | refine At.x ?_ | refine At.r ?_ | refine At.bn ?_ | refine At.br ?_ | refine At.bx ?_ | refine At.by_ rfl ?_ | refine At.kx ?_ | refine At.kr ?_ | refine At.kn ?_ | refine At.er ?_ | refine At.en ?_ | (refine RunsA.rq tabOk fun J hJ => ?_; simp only [go_sem, ↓reduceIte, Nat.reduceAdd, Nat.reduceSub, Nat.reduceMul, Nat.reduceLT, Nat.reduceLeDiff, Nat.reduceEqDiff, Nat.reduceBEq, Int.reduceToNat, f1, f2]; (try simp (disch := omega) only [wrap_id]); (repeat refine ⟨by omega, ?_⟩); refine hJ _ _ (RunsL.nil ?_); clear hJ J) | (refine RunsA.dq mixed tabOk (by kernel_rfl) fun J hJ => ?_; simp only [go_sem, ↓reduceIte, Nat.reduceAdd, Nat.reduceSub, Nat.reduceMul, Nat.reduceLT, Nat.reduceLeDiff, Nat.reduceEqDiff, Nat.reduceBEq, Int.reduceToNat, f1, f2]; (try simp (disch := omega) only [wrap_id]); (repeat refine ⟨by omega, ?_⟩); refine hJ _ _ (QRuns.nil ?_); clear hJ J))); exact hq.out)) : p := k f1 f2 ⟨h⟩
theorem run3_ {a1 a2 a3 p q : Prop} (f1 : a1) (f2 : a2) (f3 : a3) (h : q) (k : a1 → a2 → a3 → Held q → p := by (intro f1 f2 f3 hq; (repeat (first | refine RunsA.sq ?_ | refine RunsA.bk ?_ | refine RunsA.sk ?_ | refine RunsA.ex ?_ | refine RunsA.rt ?_ | refine At.n ?_ | refine At.x ?_ | refine At.r ?_ | refine At.bn ?_ | refine At.br ?_ | refine At.bx ?_ | refine At.by_ rfl ?_ | refine At.kx ?_ | refine At.kr ?_ | refine At.kn ?_ | refine At.er ?_ | refine At.en ?_ | (refine RunsA.rq tabOk fun J hJ => ?_; simp only [go_sem, ↓reduceIte, Nat.reduceAdd, Nat.reduceSub, Nat.reduceMul, Nat.reduceLT, Nat.reduceLeDiff, Nat.reduceEqDiff, Nat.reduceBEq, Int.reduceToNat, f1, f2, f3]; (try simp (disch := omega) only [wrap_id]); (repeat refine ⟨by omega, ?_⟩); refine hJ _ _ (RunsL.nil ?_); clear hJ J) | (refine RunsA.dq mixed tabOk (by kernel_rfl) fun J hJ => ?_; simp only [go_sem, ↓reduceIte, Nat.reduceAdd, Nat.reduceSub, Nat.reduceMul, Nat.reduceLT, Nat.reduceLeDiff, Nat.reduceEqDiff, Nat.reduceBEq, Int.reduceToNat, f1, f2, f3]; (try simp (disch := omega) only [wrap_id]); (repeat refine ⟨by omega, ?_⟩); refine hJ _ _ (QRuns.nil ?_); clear hJ J))); exact hq.out)) : p := k f1 f2 f3 ⟨h⟩
theorem step_ {p q : Prop} (h : q) (k : Held q → p := by (intro hq; (first | refine RunsA.sq ?_ | refine RunsA.bk ?_ | refine RunsA.sk ?_ | refine RunsA.ex ?_ | refine RunsA.rt ?_ | refine At.n ?_ | refine At.x ?_ | refine At.r ?_ | refine At.bn ?_ | refine At.br ?_ | refine At.bx ?_ | refine At.by_ rfl ?_ | refine At.kx ?_ | refine At.kr ?_ | refine At.kn ?_ | refine At.er ?_ | refine At.en ?_); exact hq.out)) : p := k ⟨h⟩
end Go.Proofs.YtgjeemfggfhibaaGreatDoorFw
