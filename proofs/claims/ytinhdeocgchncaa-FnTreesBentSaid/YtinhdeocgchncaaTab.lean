/- The types of this seat, as the calculus wants them. Printed by a program of this session. -/
import Derived.Test.YtinhdeocgchncaaFwC
import Derived.Test.YtinhdeocgchncaaProg
namespace Go.Proofs.YtinhdeocgchncaaFw
open Go Go.RowKit

def tabL : List (TypeId × TI) := [(2, ⟨.int .i64, 1, 8, [.int .i64 0]⟩),
  (3, ⟨.int .i64, 1, 8, [.int .i64 0]⟩),
  (4, ⟨.bool, 1, 1, [.bool false]⟩),
  (5, ⟨.int .u8, 1, 1, [.int .u8 0]⟩),
  (9, ⟨.str, 1, 16, [.str []]⟩),
  (12, ⟨.int .u64, 1, 8, [.int .u64 0]⟩),
  (21, ⟨.int .i32, 1, 4, [.int .i32 0]⟩),
  (22, ⟨.slice 5, 1, 24, [.row .own 1 []]⟩),
  (24, ⟨.slice 9, 1, 24, [.row .own 1 []]⟩),
  (25, ⟨.slice 27, 1, 24, [.row .own 3 []]⟩),
  (26, ⟨.struct [(0, 9), (1, 24), (2, 25)], 3, 64, [.str [], .row .own 1 [], .row .own 3 []]⟩),
  (27, ⟨.struct [(0, 9), (1, 24), (2, 25)], 3, 64, [.str [], .row .own 1 [], .row .own 3 []]⟩),
  (28, ⟨.slice 3, 1, 24, [.row .own 1 []]⟩),
  (31, ⟨.slice 38, 1, 24, [.row .own 3 []]⟩),
  (37, ⟨.struct [(0, 9), (1, 3), (2, 3)], 3, 32, [.str [], .int .i64 0, .int .i64 0]⟩),
  (38, ⟨.struct [(0, 9), (1, 3), (2, 3)], 3, 32, [.str [], .int .i64 0, .int .i64 0]⟩),
  (46, ⟨.other, 1, 8, [.dead]⟩),
  (62, ⟨.struct [(0, 22), (1, 3), (2, 3)], 3, 40, [.row .own 1 [], .int .i64 0, .int .i64 0]⟩),
  (63, ⟨.struct [(0, 22), (1, 3), (2, 3)], 3, 40, [.row .own 1 [], .int .i64 0, .int .i64 0]⟩),
  (67, ⟨.other, 1, 8, [.dead]⟩),
  (70, ⟨.other, 1, 8, [.dead]⟩),
  (71, ⟨.struct [(0, 24), (1, 24), (2, 4)], 3, 56, [.row .own 1 [], .row .own 1 [], .bool false]⟩),
  (72, ⟨.struct [(0, 24), (1, 24), (2, 4)], 3, 56, [.row .own 1 [], .row .own 1 [], .bool false]⟩),
  (76, ⟨.int .u64, 1, 8, [.int .u64 0]⟩),
  (86, ⟨.int .i64, 1, 8, [.int .i64 0]⟩),
  (95, ⟨.int .u32, 1, 4, [.int .u32 0]⟩),
  (97, ⟨.int .u64, 1, 8, [.int .u64 0]⟩),
  (98, ⟨.int .u64, 1, 8, [.int .u64 0]⟩),
  (102, ⟨.other, 1, 8, [.dead]⟩),
  (104, ⟨.other, 1, 8, [.dead]⟩),
  (117, ⟨.other, 1, 8, [.dead]⟩)]
def tab : Tab := lookT tabL
theorem mixed : Try.prog.follows .mixedOrders = true := by kernel_rfl
theorem tabOk : TabOk Try.prog tab := tabOk_of (by kernel_rfl)
theorem tab_2 : tab 2 = some ⟨.int .i64, 1, 8, [.int .i64 0]⟩ := rfl
theorem tab_3 : tab 3 = some ⟨.int .i64, 1, 8, [.int .i64 0]⟩ := rfl
theorem tab_4 : tab 4 = some ⟨.bool, 1, 1, [.bool false]⟩ := rfl
theorem tab_5 : tab 5 = some ⟨.int .u8, 1, 1, [.int .u8 0]⟩ := rfl
theorem tab_9 : tab 9 = some ⟨.str, 1, 16, [.str []]⟩ := rfl
theorem tab_12 : tab 12 = some ⟨.int .u64, 1, 8, [.int .u64 0]⟩ := rfl
theorem tab_21 : tab 21 = some ⟨.int .i32, 1, 4, [.int .i32 0]⟩ := rfl
theorem tab_22 : tab 22 = some ⟨.slice 5, 1, 24, [.row .own 1 []]⟩ := rfl
theorem tab_24 : tab 24 = some ⟨.slice 9, 1, 24, [.row .own 1 []]⟩ := rfl
theorem tab_25 : tab 25 = some ⟨.slice 27, 1, 24, [.row .own 3 []]⟩ := rfl
theorem tab_26 : tab 26 = some ⟨.struct [(0, 9), (1, 24), (2, 25)], 3, 64, [.str [], .row .own 1 [], .row .own 3 []]⟩ := rfl
theorem tab_27 : tab 27 = some ⟨.struct [(0, 9), (1, 24), (2, 25)], 3, 64, [.str [], .row .own 1 [], .row .own 3 []]⟩ := rfl
theorem tab_28 : tab 28 = some ⟨.slice 3, 1, 24, [.row .own 1 []]⟩ := rfl
theorem tab_31 : tab 31 = some ⟨.slice 38, 1, 24, [.row .own 3 []]⟩ := rfl
theorem tab_37 : tab 37 = some ⟨.struct [(0, 9), (1, 3), (2, 3)], 3, 32, [.str [], .int .i64 0, .int .i64 0]⟩ := rfl
theorem tab_38 : tab 38 = some ⟨.struct [(0, 9), (1, 3), (2, 3)], 3, 32, [.str [], .int .i64 0, .int .i64 0]⟩ := rfl
theorem tab_46 : tab 46 = some ⟨.other, 1, 8, [.dead]⟩ := rfl
theorem tab_62 : tab 62 = some ⟨.struct [(0, 22), (1, 3), (2, 3)], 3, 40, [.row .own 1 [], .int .i64 0, .int .i64 0]⟩ := rfl
theorem tab_63 : tab 63 = some ⟨.struct [(0, 22), (1, 3), (2, 3)], 3, 40, [.row .own 1 [], .int .i64 0, .int .i64 0]⟩ := rfl
theorem tab_67 : tab 67 = some ⟨.other, 1, 8, [.dead]⟩ := rfl
theorem tab_70 : tab 70 = some ⟨.other, 1, 8, [.dead]⟩ := rfl
theorem tab_71 : tab 71 = some ⟨.struct [(0, 24), (1, 24), (2, 4)], 3, 56, [.row .own 1 [], .row .own 1 [], .bool false]⟩ := rfl
theorem tab_72 : tab 72 = some ⟨.struct [(0, 24), (1, 24), (2, 4)], 3, 56, [.row .own 1 [], .row .own 1 [], .bool false]⟩ := rfl
theorem tab_76 : tab 76 = some ⟨.int .u64, 1, 8, [.int .u64 0]⟩ := rfl
theorem tab_86 : tab 86 = some ⟨.int .i64, 1, 8, [.int .i64 0]⟩ := rfl
theorem tab_95 : tab 95 = some ⟨.int .u32, 1, 4, [.int .u32 0]⟩ := rfl
theorem tab_97 : tab 97 = some ⟨.int .u64, 1, 8, [.int .u64 0]⟩ := rfl
theorem tab_98 : tab 98 = some ⟨.int .u64, 1, 8, [.int .u64 0]⟩ := rfl
theorem tab_102 : tab 102 = some ⟨.other, 1, 8, [.dead]⟩ := rfl
theorem tab_104 : tab 104 = some ⟨.other, 1, 8, [.dead]⟩ := rfl
theorem tab_117 : tab 117 = some ⟨.other, 1, 8, [.dead]⟩ := rfl
attribute [go_sem] tab_2 tab_3 tab_4 tab_5 tab_9 tab_12 tab_21 tab_22 tab_24 tab_25 tab_26 tab_27 tab_28 tab_31 tab_37 tab_38 tab_46 tab_62 tab_63 tab_67 tab_70 tab_71 tab_72 tab_76 tab_86 tab_95 tab_97 tab_98 tab_102 tab_104 tab_117

end Go.Proofs.YtinhdeocgchncaaFw
