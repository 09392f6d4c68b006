/- The types of this seat, as the calculus wants them. Printed by a program of this session. -/
import Derived.Test.YtedmpcmfcnfclaaFwC
import Derived.Test.YtedmpcmfcnfclaaProg
namespace Go.Proofs.YtedmpcmfcnfclaaFw
open Go Go.RowKit

def tabL : List (TypeId × TI) := [(2, ⟨.int .i64, 1, 8, [.int .i64 0]⟩),
  (3, ⟨.int .i64, 1, 8, [.int .i64 0]⟩),
  (4, ⟨.bool, 1, 1, [.bool false]⟩),
  (5, ⟨.int .u8, 1, 1, [.int .u8 0]⟩),
  (9, ⟨.str, 1, 16, [.str []]⟩),
  (12, ⟨.int .u64, 1, 8, [.int .u64 0]⟩),
  (21, ⟨.int .i32, 1, 4, [.int .i32 0]⟩),
  (22, ⟨.slice 9, 1, 24, [.row .own 1 []]⟩),
  (23, ⟨.slice 25, 1, 24, [.row .own 3 []]⟩),
  (24, ⟨.struct [(0, 9), (1, 22), (2, 23)], 3, 64, [.str [], .row .own 1 [], .row .own 3 []]⟩),
  (25, ⟨.struct [(0, 9), (1, 22), (2, 23)], 3, 64, [.str [], .row .own 1 [], .row .own 3 []]⟩),
  (28, ⟨.slice 30, 1, 24, [.row .own 3 []]⟩),
  (29, ⟨.struct [(0, 9), (1, 22), (2, 28)], 3, 64, [.str [], .row .own 1 [], .row .own 3 []]⟩),
  (30, ⟨.struct [(0, 9), (1, 22), (2, 28)], 3, 64, [.str [], .row .own 1 [], .row .own 3 []]⟩),
  (34, ⟨.slice 3, 1, 24, [.row .own 1 []]⟩),
  (35, ⟨.slice 86, 1, 24, [.row .own 17 []]⟩),
  (43, ⟨.slice 5, 1, 24, [.row .own 1 []]⟩),
  (47, ⟨.slice 54, 1, 24, [.row .own 3 []]⟩),
  (53, ⟨.struct [(0, 9), (1, 3), (2, 3)], 3, 32, [.str [], .int .i64 0, .int .i64 0]⟩),
  (54, ⟨.struct [(0, 9), (1, 3), (2, 3)], 3, 32, [.str [], .int .i64 0, .int .i64 0]⟩),
  (66, ⟨.other, 1, 8, [.dead]⟩),
  (67, ⟨.struct [(0, 22), (1, 22), (2, 4)], 3, 56, [.row .own 1 [], .row .own 1 [], .bool false]⟩),
  (68, ⟨.struct [(0, 22), (1, 22), (2, 4)], 3, 56, [.row .own 1 [], .row .own 1 [], .bool false]⟩),
  (74, ⟨.struct [(0, 3), (1, 3), (2, 3)], 3, 24, [.int .i64 0, .int .i64 0, .int .i64 0]⟩),
  (75, ⟨.struct [(0, 3), (1, 3), (2, 3)], 3, 24, [.int .i64 0, .int .i64 0, .int .i64 0]⟩),
  (76, ⟨.struct [(0, 3), (1, 75), (4, 75), (7, 3)], 8, 64, [.int .i64 0, .int .i64 0, .int .i64 0, .int .i64 0, .int .i64 0, .int .i64 0, .int .i64 0, .int .i64 0]⟩),
  (77, ⟨.struct [(0, 3), (1, 75), (4, 75), (7, 3)], 8, 64, [.int .i64 0, .int .i64 0, .int .i64 0, .int .i64 0, .int .i64 0, .int .i64 0, .int .i64 0, .int .i64 0]⟩),
  (80, ⟨.slice 82, 1, 24, [.row .own 4 []]⟩),
  (81, ⟨.struct [(0, 3), (1, 3), (2, 9), (3, 80)], 4, 56, [.int .i64 0, .int .i64 0, .str [], .row .own 4 []]⟩),
  (82, ⟨.struct [(0, 3), (1, 3), (2, 9), (3, 80)], 4, 56, [.int .i64 0, .int .i64 0, .str [], .row .own 4 []]⟩),
  (83, ⟨.struct [(0, 3), (1, 3), (2, 82)], 6, 72, [.int .i64 0, .int .i64 0, .int .i64 0, .int .i64 0, .str [], .row .own 4 []]⟩),
  (84, ⟨.struct [(0, 3), (1, 3), (2, 82)], 6, 72, [.int .i64 0, .int .i64 0, .int .i64 0, .int .i64 0, .str [], .row .own 4 []]⟩),
  (85, ⟨.struct [(0, 3), (1, 9), (2, 3), (3, 84), (9, 84), (15, 3), (16, 80)], 17, 208, [.int .i64 0, .str [], .int .i64 0, .int .i64 0, .int .i64 0, .int .i64 0, .int .i64 0, .str [], .row .own 4 [], .int .i64 0, .int .i64 0, .int .i64 0, .int .i64 0, .str [], .row .own 4 [], .int .i64 0, .row .own 4 []]⟩),
  (86, ⟨.struct [(0, 3), (1, 9), (2, 3), (3, 84), (9, 84), (15, 3), (16, 80)], 17, 208, [.int .i64 0, .str [], .int .i64 0, .int .i64 0, .int .i64 0, .int .i64 0, .int .i64 0, .str [], .row .own 4 [], .int .i64 0, .int .i64 0, .int .i64 0, .int .i64 0, .str [], .row .own 4 [], .int .i64 0, .row .own 4 []]⟩),
  (92, ⟨.other, 1, 8, [.dead]⟩),
  (118, ⟨.struct [(0, 43), (1, 3), (2, 3)], 3, 40, [.row .own 1 [], .int .i64 0, .int .i64 0]⟩),
  (119, ⟨.struct [(0, 43), (1, 3), (2, 3)], 3, 40, [.row .own 1 [], .int .i64 0, .int .i64 0]⟩),
  (122, ⟨.other, 1, 8, [.dead]⟩),
  (127, ⟨.int .u64, 1, 8, [.int .u64 0]⟩),
  (136, ⟨.int .i64, 1, 8, [.int .i64 0]⟩),
  (145, ⟨.int .u32, 1, 4, [.int .u32 0]⟩),
  (147, ⟨.int .u64, 1, 8, [.int .u64 0]⟩),
  (148, ⟨.int .u64, 1, 8, [.int .u64 0]⟩),
  (152, ⟨.other, 1, 8, [.dead]⟩),
  (154, ⟨.other, 1, 8, [.dead]⟩),
  (167, ⟨.other, 1, 8, [.dead]⟩)]
def tab : Tab := lookT tabL
theorem mixed : Try.prog.follows .mixedOrders = true := by kernel_rfl
theorem tabOk : TabOk Try.prog tab := tabOk_of (by kernel_rfl)
theorem tab_2 : tab 2 = some ⟨.int .i64, 1, 8, [.int .i64 0]⟩ := rfl
theorem tab_3 : tab 3 = some ⟨.int .i64, 1, 8, [.int .i64 0]⟩ := rfl
theorem tab_4 : tab 4 = some ⟨.bool, 1, 1, [.bool false]⟩ := rfl
theorem tab_5 : tab 5 = some ⟨.int .u8, 1, 1, [.int .u8 0]⟩ := rfl
theorem tab_9 : tab 9 = some ⟨.str, 1, 16, [.str []]⟩ := rfl
theorem tab_12 : tab 12 = some ⟨.int .u64, 1, 8, [.int .u64 0]⟩ := rfl
theorem tab_21 : tab 21 = some ⟨.int .i32, 1, 4, [.int .i32 0]⟩ := rfl
theorem tab_22 : tab 22 = some ⟨.slice 9, 1, 24, [.row .own 1 []]⟩ := rfl
theorem tab_23 : tab 23 = some ⟨.slice 25, 1, 24, [.row .own 3 []]⟩ := rfl
theorem tab_24 : tab 24 = some ⟨.struct [(0, 9), (1, 22), (2, 23)], 3, 64, [.str [], .row .own 1 [], .row .own 3 []]⟩ := rfl
theorem tab_25 : tab 25 = some ⟨.struct [(0, 9), (1, 22), (2, 23)], 3, 64, [.str [], .row .own 1 [], .row .own 3 []]⟩ := rfl
theorem tab_28 : tab 28 = some ⟨.slice 30, 1, 24, [.row .own 3 []]⟩ := rfl
theorem tab_29 : tab 29 = some ⟨.struct [(0, 9), (1, 22), (2, 28)], 3, 64, [.str [], .row .own 1 [], .row .own 3 []]⟩ := rfl
theorem tab_30 : tab 30 = some ⟨.struct [(0, 9), (1, 22), (2, 28)], 3, 64, [.str [], .row .own 1 [], .row .own 3 []]⟩ := rfl
theorem tab_34 : tab 34 = some ⟨.slice 3, 1, 24, [.row .own 1 []]⟩ := rfl
theorem tab_35 : tab 35 = some ⟨.slice 86, 1, 24, [.row .own 17 []]⟩ := rfl
theorem tab_43 : tab 43 = some ⟨.slice 5, 1, 24, [.row .own 1 []]⟩ := rfl
theorem tab_47 : tab 47 = some ⟨.slice 54, 1, 24, [.row .own 3 []]⟩ := rfl
theorem tab_53 : tab 53 = some ⟨.struct [(0, 9), (1, 3), (2, 3)], 3, 32, [.str [], .int .i64 0, .int .i64 0]⟩ := rfl
theorem tab_54 : tab 54 = some ⟨.struct [(0, 9), (1, 3), (2, 3)], 3, 32, [.str [], .int .i64 0, .int .i64 0]⟩ := rfl
theorem tab_66 : tab 66 = some ⟨.other, 1, 8, [.dead]⟩ := rfl
theorem tab_67 : tab 67 = some ⟨.struct [(0, 22), (1, 22), (2, 4)], 3, 56, [.row .own 1 [], .row .own 1 [], .bool false]⟩ := rfl
theorem tab_68 : tab 68 = some ⟨.struct [(0, 22), (1, 22), (2, 4)], 3, 56, [.row .own 1 [], .row .own 1 [], .bool false]⟩ := rfl
theorem tab_74 : tab 74 = some ⟨.struct [(0, 3), (1, 3), (2, 3)], 3, 24, [.int .i64 0, .int .i64 0, .int .i64 0]⟩ := rfl
theorem tab_75 : tab 75 = some ⟨.struct [(0, 3), (1, 3), (2, 3)], 3, 24, [.int .i64 0, .int .i64 0, .int .i64 0]⟩ := rfl
theorem tab_76 : tab 76 = some ⟨.struct [(0, 3), (1, 75), (4, 75), (7, 3)], 8, 64, [.int .i64 0, .int .i64 0, .int .i64 0, .int .i64 0, .int .i64 0, .int .i64 0, .int .i64 0, .int .i64 0]⟩ := rfl
theorem tab_77 : tab 77 = some ⟨.struct [(0, 3), (1, 75), (4, 75), (7, 3)], 8, 64, [.int .i64 0, .int .i64 0, .int .i64 0, .int .i64 0, .int .i64 0, .int .i64 0, .int .i64 0, .int .i64 0]⟩ := rfl
theorem tab_80 : tab 80 = some ⟨.slice 82, 1, 24, [.row .own 4 []]⟩ := rfl
theorem tab_81 : tab 81 = some ⟨.struct [(0, 3), (1, 3), (2, 9), (3, 80)], 4, 56, [.int .i64 0, .int .i64 0, .str [], .row .own 4 []]⟩ := rfl
theorem tab_82 : tab 82 = some ⟨.struct [(0, 3), (1, 3), (2, 9), (3, 80)], 4, 56, [.int .i64 0, .int .i64 0, .str [], .row .own 4 []]⟩ := rfl
theorem tab_83 : tab 83 = some ⟨.struct [(0, 3), (1, 3), (2, 82)], 6, 72, [.int .i64 0, .int .i64 0, .int .i64 0, .int .i64 0, .str [], .row .own 4 []]⟩ := rfl
theorem tab_84 : tab 84 = some ⟨.struct [(0, 3), (1, 3), (2, 82)], 6, 72, [.int .i64 0, .int .i64 0, .int .i64 0, .int .i64 0, .str [], .row .own 4 []]⟩ := rfl
theorem tab_85 : tab 85 = some ⟨.struct [(0, 3), (1, 9), (2, 3), (3, 84), (9, 84), (15, 3), (16, 80)], 17, 208, [.int .i64 0, .str [], .int .i64 0, .int .i64 0, .int .i64 0, .int .i64 0, .int .i64 0, .str [], .row .own 4 [], .int .i64 0, .int .i64 0, .int .i64 0, .int .i64 0, .str [], .row .own 4 [], .int .i64 0, .row .own 4 []]⟩ := rfl
theorem tab_86 : tab 86 = some ⟨.struct [(0, 3), (1, 9), (2, 3), (3, 84), (9, 84), (15, 3), (16, 80)], 17, 208, [.int .i64 0, .str [], .int .i64 0, .int .i64 0, .int .i64 0, .int .i64 0, .int .i64 0, .str [], .row .own 4 [], .int .i64 0, .int .i64 0, .int .i64 0, .int .i64 0, .str [], .row .own 4 [], .int .i64 0, .row .own 4 []]⟩ := rfl
theorem tab_92 : tab 92 = some ⟨.other, 1, 8, [.dead]⟩ := rfl
theorem tab_118 : tab 118 = some ⟨.struct [(0, 43), (1, 3), (2, 3)], 3, 40, [.row .own 1 [], .int .i64 0, .int .i64 0]⟩ := rfl
theorem tab_119 : tab 119 = some ⟨.struct [(0, 43), (1, 3), (2, 3)], 3, 40, [.row .own 1 [], .int .i64 0, .int .i64 0]⟩ := rfl
theorem tab_122 : tab 122 = some ⟨.other, 1, 8, [.dead]⟩ := rfl
theorem tab_127 : tab 127 = some ⟨.int .u64, 1, 8, [.int .u64 0]⟩ := rfl
theorem tab_136 : tab 136 = some ⟨.int .i64, 1, 8, [.int .i64 0]⟩ := rfl
theorem tab_145 : tab 145 = some ⟨.int .u32, 1, 4, [.int .u32 0]⟩ := rfl
theorem tab_147 : tab 147 = some ⟨.int .u64, 1, 8, [.int .u64 0]⟩ := rfl
theorem tab_148 : tab 148 = some ⟨.int .u64, 1, 8, [.int .u64 0]⟩ := rfl
theorem tab_152 : tab 152 = some ⟨.other, 1, 8, [.dead]⟩ := rfl
theorem tab_154 : tab 154 = some ⟨.other, 1, 8, [.dead]⟩ := rfl
theorem tab_167 : tab 167 = some ⟨.other, 1, 8, [.dead]⟩ := rfl
attribute [go_sem] tab_2 tab_3 tab_4 tab_5 tab_9 tab_12 tab_21 tab_22 tab_23 tab_24 tab_25 tab_28 tab_29 tab_30 tab_34 tab_35 tab_43 tab_47 tab_53 tab_54 tab_66 tab_67 tab_68 tab_74 tab_75 tab_76 tab_77 tab_80 tab_81 tab_82 tab_83 tab_84 tab_85 tab_86 tab_92 tab_118 tab_119 tab_122 tab_127 tab_136 tab_145 tab_147 tab_148 tab_152 tab_154 tab_167

end Go.Proofs.YtedmpcmfcnfclaaFw
