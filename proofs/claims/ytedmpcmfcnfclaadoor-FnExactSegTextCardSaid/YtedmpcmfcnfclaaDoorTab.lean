/- The types of this seat, as the calculus wants them. Printed by a program of this session. -/
import Derived.Test.YtedmpcmfcnfclaaDoorFwC
import Derived.Test.YtedmpcmfcnfclaaDoorProg
namespace Go.Proofs.YtedmpcmfcnfclaaDoorFw
open Go Go.RowKit

def tabL : List (TypeId × TI) := [(2, ⟨.int .i64, 1, 8, [.int .i64 0]⟩),
  (3, ⟨.int .i64, 1, 8, [.int .i64 0]⟩),
  (4, ⟨.bool, 1, 1, [.bool false]⟩),
  (5, ⟨.int .u8, 1, 1, [.int .u8 0]⟩),
  (9, ⟨.str, 1, 16, [.str []]⟩),
  (12, ⟨.int .u64, 1, 8, [.int .u64 0]⟩),
  (21, ⟨.int .i32, 1, 4, [.int .i32 0]⟩),
  (22, ⟨.slice 9, 1, 24, [.row .own 1 []]⟩),
  (23, ⟨.slice 25, 1, 24, [.row .own 3 []]⟩),
  (24, ⟨.struct [(0, 9), (1, 22), (2, 23)], 3, 64, [.str [], .row .own 1 [], .row .own 3 []]⟩),
  (25, ⟨.struct [(0, 9), (1, 22), (2, 23)], 3, 64, [.str [], .row .own 1 [], .row .own 3 []]⟩),
  (28, ⟨.slice 30, 1, 24, [.row .own 3 []]⟩),
  (29, ⟨.struct [(0, 9), (1, 22), (2, 28)], 3, 64, [.str [], .row .own 1 [], .row .own 3 []]⟩),
  (30, ⟨.struct [(0, 9), (1, 22), (2, 28)], 3, 64, [.str [], .row .own 1 [], .row .own 3 []]⟩),
  (38, ⟨.slice 49, 1, 24, [.row .own 3 []]⟩),
  (44, ⟨.other, 1, 8, [.dead]⟩),
  (45, ⟨.struct [(0, 22), (1, 22), (2, 4)], 3, 56, [.row .own 1 [], .row .own 1 [], .bool false]⟩),
  (46, ⟨.struct [(0, 22), (1, 22), (2, 4)], 3, 56, [.row .own 1 [], .row .own 1 [], .bool false]⟩),
  (48, ⟨.struct [(0, 3), (1, 3), (2, 9)], 3, 32, [.int .i64 0, .int .i64 0, .str []]⟩),
  (49, ⟨.struct [(0, 3), (1, 3), (2, 9)], 3, 32, [.int .i64 0, .int .i64 0, .str []]⟩),
  (56, ⟨.slice 38, 1, 24, [.row .own 1 []]⟩),
  (61, ⟨.slice 5, 1, 24, [.row .own 1 []]⟩),
  (62, ⟨.int .u64, 1, 8, [.int .u64 0]⟩),
  (65, ⟨.other, 1, 8, [.dead]⟩),
  (66, ⟨.struct [(0, 65), (1, 61)], 2, 32, [.dead, .row .own 1 []]⟩),
  (67, ⟨.struct [(0, 65), (1, 61)], 2, 32, [.dead, .row .own 1 []]⟩),
  (77, ⟨.other, 1, 8, [.dead]⟩),
  (82, ⟨.int .i64, 1, 8, [.int .i64 0]⟩),
  (91, ⟨.int .u32, 1, 4, [.int .u32 0]⟩),
  (93, ⟨.int .u64, 1, 8, [.int .u64 0]⟩),
  (101, ⟨.int .u64, 1, 8, [.int .u64 0]⟩),
  (105, ⟨.other, 1, 8, [.dead]⟩),
  (111, ⟨.other, 1, 8, [.dead]⟩)]
def tab : Tab := lookT tabL
theorem mixed : Tryd.prog.follows .mixedOrders = true := by kernel_rfl
theorem tabOk : TabOk Tryd.prog tab := tabOk_of (by kernel_rfl)
theorem tab_2 : tab 2 = some ⟨.int .i64, 1, 8, [.int .i64 0]⟩ := rfl
theorem tab_3 : tab 3 = some ⟨.int .i64, 1, 8, [.int .i64 0]⟩ := rfl
theorem tab_4 : tab 4 = some ⟨.bool, 1, 1, [.bool false]⟩ := rfl
theorem tab_5 : tab 5 = some ⟨.int .u8, 1, 1, [.int .u8 0]⟩ := rfl
theorem tab_9 : tab 9 = some ⟨.str, 1, 16, [.str []]⟩ := rfl
theorem tab_12 : tab 12 = some ⟨.int .u64, 1, 8, [.int .u64 0]⟩ := rfl
theorem tab_21 : tab 21 = some ⟨.int .i32, 1, 4, [.int .i32 0]⟩ := rfl
theorem tab_22 : tab 22 = some ⟨.slice 9, 1, 24, [.row .own 1 []]⟩ := rfl
theorem tab_23 : tab 23 = some ⟨.slice 25, 1, 24, [.row .own 3 []]⟩ := rfl
theorem tab_24 : tab 24 = some ⟨.struct [(0, 9), (1, 22), (2, 23)], 3, 64, [.str [], .row .own 1 [], .row .own 3 []]⟩ := rfl
theorem tab_25 : tab 25 = some ⟨.struct [(0, 9), (1, 22), (2, 23)], 3, 64, [.str [], .row .own 1 [], .row .own 3 []]⟩ := rfl
theorem tab_28 : tab 28 = some ⟨.slice 30, 1, 24, [.row .own 3 []]⟩ := rfl
theorem tab_29 : tab 29 = some ⟨.struct [(0, 9), (1, 22), (2, 28)], 3, 64, [.str [], .row .own 1 [], .row .own 3 []]⟩ := rfl
theorem tab_30 : tab 30 = some ⟨.struct [(0, 9), (1, 22), (2, 28)], 3, 64, [.str [], .row .own 1 [], .row .own 3 []]⟩ := rfl
theorem tab_38 : tab 38 = some ⟨.slice 49, 1, 24, [.row .own 3 []]⟩ := rfl
theorem tab_44 : tab 44 = some ⟨.other, 1, 8, [.dead]⟩ := rfl
theorem tab_45 : tab 45 = some ⟨.struct [(0, 22), (1, 22), (2, 4)], 3, 56, [.row .own 1 [], .row .own 1 [], .bool false]⟩ := rfl
theorem tab_46 : tab 46 = some ⟨.struct [(0, 22), (1, 22), (2, 4)], 3, 56, [.row .own 1 [], .row .own 1 [], .bool false]⟩ := rfl
theorem tab_48 : tab 48 = some ⟨.struct [(0, 3), (1, 3), (2, 9)], 3, 32, [.int .i64 0, .int .i64 0, .str []]⟩ := rfl
theorem tab_49 : tab 49 = some ⟨.struct [(0, 3), (1, 3), (2, 9)], 3, 32, [.int .i64 0, .int .i64 0, .str []]⟩ := rfl
theorem tab_56 : tab 56 = some ⟨.slice 38, 1, 24, [.row .own 1 []]⟩ := rfl
theorem tab_61 : tab 61 = some ⟨.slice 5, 1, 24, [.row .own 1 []]⟩ := rfl
theorem tab_62 : tab 62 = some ⟨.int .u64, 1, 8, [.int .u64 0]⟩ := rfl
theorem tab_65 : tab 65 = some ⟨.other, 1, 8, [.dead]⟩ := rfl
theorem tab_66 : tab 66 = some ⟨.struct [(0, 65), (1, 61)], 2, 32, [.dead, .row .own 1 []]⟩ := rfl
theorem tab_67 : tab 67 = some ⟨.struct [(0, 65), (1, 61)], 2, 32, [.dead, .row .own 1 []]⟩ := rfl
theorem tab_77 : tab 77 = some ⟨.other, 1, 8, [.dead]⟩ := rfl
theorem tab_82 : tab 82 = some ⟨.int .i64, 1, 8, [.int .i64 0]⟩ := rfl
theorem tab_91 : tab 91 = some ⟨.int .u32, 1, 4, [.int .u32 0]⟩ := rfl
theorem tab_93 : tab 93 = some ⟨.int .u64, 1, 8, [.int .u64 0]⟩ := rfl
theorem tab_101 : tab 101 = some ⟨.int .u64, 1, 8, [.int .u64 0]⟩ := rfl
theorem tab_105 : tab 105 = some ⟨.other, 1, 8, [.dead]⟩ := rfl
theorem tab_111 : tab 111 = some ⟨.other, 1, 8, [.dead]⟩ := rfl
attribute [go_sem] tab_2 tab_3 tab_4 tab_5 tab_9 tab_12 tab_21 tab_22 tab_23 tab_24 tab_25 tab_28 tab_29 tab_30 tab_38 tab_44 tab_45 tab_46 tab_48 tab_49 tab_56 tab_61 tab_62 tab_65 tab_66 tab_67 tab_77 tab_82 tab_91 tab_93 tab_101 tab_105 tab_111

end Go.Proofs.YtedmpcmfcnfclaaDoorFw
