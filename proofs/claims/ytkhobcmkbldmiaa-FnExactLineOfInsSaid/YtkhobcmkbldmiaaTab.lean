/- The types of this seat, as the calculus wants them. Printed by a program of this session. -/
import Derived.Test.YtkhobcmkbldmiaaFwC
import Derived.Test.YtkhobcmkbldmiaaProg
namespace Go.Proofs.YtkhobcmkbldmiaaFw
open Go Go.RowKit

def tabL : List (TypeId × TI) := [(2, ⟨.int .i64, 1, 8, [.int .i64 0]⟩),
  (3, ⟨.int .i64, 1, 8, [.int .i64 0]⟩),
  (4, ⟨.bool, 1, 1, [.bool false]⟩),
  (5, ⟨.int .u8, 1, 1, [.int .u8 0]⟩),
  (9, ⟨.str, 1, 16, [.str []]⟩),
  (12, ⟨.int .u64, 1, 8, [.int .u64 0]⟩),
  (21, ⟨.int .i32, 1, 4, [.int .i32 0]⟩),
  (22, ⟨.slice 9, 1, 24, [.row .own 1 []]⟩),
  (23, ⟨.slice 25, 1, 24, [.row .own 3 []]⟩),
  (24, ⟨.struct [(0, 9), (1, 22), (2, 23)], 3, 64, [.str [], .row .own 1 [], .row .own 3 []]⟩),
  (25, ⟨.struct [(0, 9), (1, 22), (2, 23)], 3, 64, [.str [], .row .own 1 [], .row .own 3 []]⟩),
  (28, ⟨.slice 30, 1, 24, [.row .own 3 []]⟩),
  (29, ⟨.struct [(0, 9), (1, 22), (2, 28)], 3, 64, [.str [], .row .own 1 [], .row .own 3 []]⟩),
  (30, ⟨.struct [(0, 9), (1, 22), (2, 28)], 3, 64, [.str [], .row .own 1 [], .row .own 3 []]⟩),
  (37, ⟨.slice 3, 1, 24, [.row .own 1 []]⟩),
  (43, ⟨.struct [(0, 3), (1, 3), (2, 3)], 3, 24, [.int .i64 0, .int .i64 0, .int .i64 0]⟩),
  (44, ⟨.struct [(0, 3), (1, 3), (2, 3)], 3, 24, [.int .i64 0, .int .i64 0, .int .i64 0]⟩),
  (45, ⟨.struct [(0, 3), (1, 44), (4, 44), (7, 3)], 8, 64, [.int .i64 0, .int .i64 0, .int .i64 0, .int .i64 0, .int .i64 0, .int .i64 0, .int .i64 0, .int .i64 0]⟩),
  (46, ⟨.struct [(0, 3), (1, 44), (4, 44), (7, 3)], 8, 64, [.int .i64 0, .int .i64 0, .int .i64 0, .int .i64 0, .int .i64 0, .int .i64 0, .int .i64 0, .int .i64 0]⟩),
  (47, ⟨.slice 49, 1, 24, [.row .own 4 []]⟩),
  (48, ⟨.struct [(0, 3), (1, 3), (2, 9), (3, 47)], 4, 56, [.int .i64 0, .int .i64 0, .str [], .row .own 4 []]⟩),
  (49, ⟨.struct [(0, 3), (1, 3), (2, 9), (3, 47)], 4, 56, [.int .i64 0, .int .i64 0, .str [], .row .own 4 []]⟩),
  (50, ⟨.struct [(0, 3), (1, 3), (2, 49)], 6, 72, [.int .i64 0, .int .i64 0, .int .i64 0, .int .i64 0, .str [], .row .own 4 []]⟩),
  (51, ⟨.struct [(0, 3), (1, 3), (2, 49)], 6, 72, [.int .i64 0, .int .i64 0, .int .i64 0, .int .i64 0, .str [], .row .own 4 []]⟩),
  (52, ⟨.struct [(0, 3), (1, 9), (2, 3), (3, 51), (9, 51), (15, 3), (16, 47)], 17, 208, [.int .i64 0, .str [], .int .i64 0, .int .i64 0, .int .i64 0, .int .i64 0, .int .i64 0, .str [], .row .own 4 [], .int .i64 0, .int .i64 0, .int .i64 0, .int .i64 0, .str [], .row .own 4 [], .int .i64 0, .row .own 4 []]⟩),
  (53, ⟨.struct [(0, 3), (1, 9), (2, 3), (3, 51), (9, 51), (15, 3), (16, 47)], 17, 208, [.int .i64 0, .str [], .int .i64 0, .int .i64 0, .int .i64 0, .int .i64 0, .int .i64 0, .str [], .row .own 4 [], .int .i64 0, .int .i64 0, .int .i64 0, .int .i64 0, .str [], .row .own 4 [], .int .i64 0, .row .own 4 []]⟩),
  (55, ⟨.struct [(0, 3), (1, 3), (2, 3)], 3, 24, [.int .i64 0, .int .i64 0, .int .i64 0]⟩),
  (56, ⟨.struct [(0, 3), (1, 55), (4, 55), (7, 3)], 8, 64, [.int .i64 0, .int .i64 0, .int .i64 0, .int .i64 0, .int .i64 0, .int .i64 0, .int .i64 0, .int .i64 0]⟩),
  (57, ⟨.struct [(0, 3), (1, 55), (4, 55), (7, 3)], 8, 64, [.int .i64 0, .int .i64 0, .int .i64 0, .int .i64 0, .int .i64 0, .int .i64 0, .int .i64 0, .int .i64 0]⟩),
  (63, ⟨.slice 53, 1, 24, [.row .own 17 []]⟩),
  (87, ⟨.other, 1, 8, [.dead]⟩),
  (88, ⟨.struct [(0, 22), (1, 22), (2, 4)], 3, 56, [.row .own 1 [], .row .own 1 [], .bool false]⟩),
  (89, ⟨.struct [(0, 22), (1, 22), (2, 4)], 3, 56, [.row .own 1 [], .row .own 1 [], .bool false]⟩),
  (95, ⟨.slice 5, 1, 24, [.row .own 1 []]⟩),
  (109, ⟨.int .u64, 1, 8, [.int .u64 0]⟩),
  (114, ⟨.int .i64, 1, 8, [.int .i64 0]⟩),
  (123, ⟨.int .u32, 1, 4, [.int .u32 0]⟩),
  (125, ⟨.int .u64, 1, 8, [.int .u64 0]⟩),
  (126, ⟨.int .u64, 1, 8, [.int .u64 0]⟩),
  (130, ⟨.other, 1, 8, [.dead]⟩),
  (132, ⟨.other, 1, 8, [.dead]⟩),
  (145, ⟨.other, 1, 8, [.dead]⟩)]
def tab : Tab := lookT tabL
theorem mixed : Go.Proofs.Try.prog.follows .mixedOrders = true := by kernel_rfl
theorem tabOk : TabOk Go.Proofs.Try.prog tab := tabOk_of (by kernel_rfl)
theorem tab_2 : tab 2 = some ⟨.int .i64, 1, 8, [.int .i64 0]⟩ := rfl
theorem tab_3 : tab 3 = some ⟨.int .i64, 1, 8, [.int .i64 0]⟩ := rfl
theorem tab_4 : tab 4 = some ⟨.bool, 1, 1, [.bool false]⟩ := rfl
theorem tab_5 : tab 5 = some ⟨.int .u8, 1, 1, [.int .u8 0]⟩ := rfl
theorem tab_9 : tab 9 = some ⟨.str, 1, 16, [.str []]⟩ := rfl
theorem tab_12 : tab 12 = some ⟨.int .u64, 1, 8, [.int .u64 0]⟩ := rfl
theorem tab_21 : tab 21 = some ⟨.int .i32, 1, 4, [.int .i32 0]⟩ := rfl
theorem tab_22 : tab 22 = some ⟨.slice 9, 1, 24, [.row .own 1 []]⟩ := rfl
theorem tab_23 : tab 23 = some ⟨.slice 25, 1, 24, [.row .own 3 []]⟩ := rfl
theorem tab_24 : tab 24 = some ⟨.struct [(0, 9), (1, 22), (2, 23)], 3, 64, [.str [], .row .own 1 [], .row .own 3 []]⟩ := rfl
theorem tab_25 : tab 25 = some ⟨.struct [(0, 9), (1, 22), (2, 23)], 3, 64, [.str [], .row .own 1 [], .row .own 3 []]⟩ := rfl
theorem tab_28 : tab 28 = some ⟨.slice 30, 1, 24, [.row .own 3 []]⟩ := rfl
theorem tab_29 : tab 29 = some ⟨.struct [(0, 9), (1, 22), (2, 28)], 3, 64, [.str [], .row .own 1 [], .row .own 3 []]⟩ := rfl
theorem tab_30 : tab 30 = some ⟨.struct [(0, 9), (1, 22), (2, 28)], 3, 64, [.str [], .row .own 1 [], .row .own 3 []]⟩ := rfl
theorem tab_37 : tab 37 = some ⟨.slice 3, 1, 24, [.row .own 1 []]⟩ := rfl
theorem tab_43 : tab 43 = some ⟨.struct [(0, 3), (1, 3), (2, 3)], 3, 24, [.int .i64 0, .int .i64 0, .int .i64 0]⟩ := rfl
theorem tab_44 : tab 44 = some ⟨.struct [(0, 3), (1, 3), (2, 3)], 3, 24, [.int .i64 0, .int .i64 0, .int .i64 0]⟩ := rfl
theorem tab_45 : tab 45 = some ⟨.struct [(0, 3), (1, 44), (4, 44), (7, 3)], 8, 64, [.int .i64 0, .int .i64 0, .int .i64 0, .int .i64 0, .int .i64 0, .int .i64 0, .int .i64 0, .int .i64 0]⟩ := rfl
theorem tab_46 : tab 46 = some ⟨.struct [(0, 3), (1, 44), (4, 44), (7, 3)], 8, 64, [.int .i64 0, .int .i64 0, .int .i64 0, .int .i64 0, .int .i64 0, .int .i64 0, .int .i64 0, .int .i64 0]⟩ := rfl
theorem tab_47 : tab 47 = some ⟨.slice 49, 1, 24, [.row .own 4 []]⟩ := rfl
theorem tab_48 : tab 48 = some ⟨.struct [(0, 3), (1, 3), (2, 9), (3, 47)], 4, 56, [.int .i64 0, .int .i64 0, .str [], .row .own 4 []]⟩ := rfl
theorem tab_49 : tab 49 = some ⟨.struct [(0, 3), (1, 3), (2, 9), (3, 47)], 4, 56, [.int .i64 0, .int .i64 0, .str [], .row .own 4 []]⟩ := rfl
theorem tab_50 : tab 50 = some ⟨.struct [(0, 3), (1, 3), (2, 49)], 6, 72, [.int .i64 0, .int .i64 0, .int .i64 0, .int .i64 0, .str [], .row .own 4 []]⟩ := rfl
theorem tab_51 : tab 51 = some ⟨.struct [(0, 3), (1, 3), (2, 49)], 6, 72, [.int .i64 0, .int .i64 0, .int .i64 0, .int .i64 0, .str [], .row .own 4 []]⟩ := rfl
theorem tab_52 : tab 52 = some ⟨.struct [(0, 3), (1, 9), (2, 3), (3, 51), (9, 51), (15, 3), (16, 47)], 17, 208, [.int .i64 0, .str [], .int .i64 0, .int .i64 0, .int .i64 0, .int .i64 0, .int .i64 0, .str [], .row .own 4 [], .int .i64 0, .int .i64 0, .int .i64 0, .int .i64 0, .str [], .row .own 4 [], .int .i64 0, .row .own 4 []]⟩ := rfl
theorem tab_53 : tab 53 = some ⟨.struct [(0, 3), (1, 9), (2, 3), (3, 51), (9, 51), (15, 3), (16, 47)], 17, 208, [.int .i64 0, .str [], .int .i64 0, .int .i64 0, .int .i64 0, .int .i64 0, .int .i64 0, .str [], .row .own 4 [], .int .i64 0, .int .i64 0, .int .i64 0, .int .i64 0, .str [], .row .own 4 [], .int .i64 0, .row .own 4 []]⟩ := rfl
theorem tab_55 : tab 55 = some ⟨.struct [(0, 3), (1, 3), (2, 3)], 3, 24, [.int .i64 0, .int .i64 0, .int .i64 0]⟩ := rfl
theorem tab_56 : tab 56 = some ⟨.struct [(0, 3), (1, 55), (4, 55), (7, 3)], 8, 64, [.int .i64 0, .int .i64 0, .int .i64 0, .int .i64 0, .int .i64 0, .int .i64 0, .int .i64 0, .int .i64 0]⟩ := rfl
theorem tab_57 : tab 57 = some ⟨.struct [(0, 3), (1, 55), (4, 55), (7, 3)], 8, 64, [.int .i64 0, .int .i64 0, .int .i64 0, .int .i64 0, .int .i64 0, .int .i64 0, .int .i64 0, .int .i64 0]⟩ := rfl
theorem tab_63 : tab 63 = some ⟨.slice 53, 1, 24, [.row .own 17 []]⟩ := rfl
theorem tab_87 : tab 87 = some ⟨.other, 1, 8, [.dead]⟩ := rfl
theorem tab_88 : tab 88 = some ⟨.struct [(0, 22), (1, 22), (2, 4)], 3, 56, [.row .own 1 [], .row .own 1 [], .bool false]⟩ := rfl
theorem tab_89 : tab 89 = some ⟨.struct [(0, 22), (1, 22), (2, 4)], 3, 56, [.row .own 1 [], .row .own 1 [], .bool false]⟩ := rfl
theorem tab_95 : tab 95 = some ⟨.slice 5, 1, 24, [.row .own 1 []]⟩ := rfl
theorem tab_109 : tab 109 = some ⟨.int .u64, 1, 8, [.int .u64 0]⟩ := rfl
theorem tab_114 : tab 114 = some ⟨.int .i64, 1, 8, [.int .i64 0]⟩ := rfl
theorem tab_123 : tab 123 = some ⟨.int .u32, 1, 4, [.int .u32 0]⟩ := rfl
theorem tab_125 : tab 125 = some ⟨.int .u64, 1, 8, [.int .u64 0]⟩ := rfl
theorem tab_126 : tab 126 = some ⟨.int .u64, 1, 8, [.int .u64 0]⟩ := rfl
theorem tab_130 : tab 130 = some ⟨.other, 1, 8, [.dead]⟩ := rfl
theorem tab_132 : tab 132 = some ⟨.other, 1, 8, [.dead]⟩ := rfl
theorem tab_145 : tab 145 = some ⟨.other, 1, 8, [.dead]⟩ := rfl
attribute [go_sem] tab_2 tab_3 tab_4 tab_5 tab_9 tab_12 tab_21 tab_22 tab_23 tab_24 tab_25 tab_28 tab_29 tab_30 tab_37 tab_43 tab_44 tab_45 tab_46 tab_47 tab_48 tab_49 tab_50 tab_51 tab_52 tab_53 tab_55 tab_56 tab_57 tab_63 tab_87 tab_88 tab_89 tab_95 tab_109 tab_114 tab_123 tab_125 tab_126 tab_130 tab_132 tab_145

end Go.Proofs.YtkhobcmkbldmiaaFw
