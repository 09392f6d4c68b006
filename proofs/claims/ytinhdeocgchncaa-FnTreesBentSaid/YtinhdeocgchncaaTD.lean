/- The types of this seat that hold plain data. Printed by a program of this session. -/
import Derived.Test.YtinhdeocgchncaaTab
namespace Go.Proofs.YtinhdeocgchncaaFw
open Go Go.RowKit

def tabDL : List (TypeId × TI) := [(2, ⟨.int .i64, 1, 8, [.int .i64 0]⟩),
  (3, ⟨.int .i64, 1, 8, [.int .i64 0]⟩),
  (4, ⟨.bool, 1, 1, [.bool false]⟩),
  (5, ⟨.int .u8, 1, 1, [.int .u8 0]⟩),
  (9, ⟨.str, 1, 16, [.str []]⟩),
  (12, ⟨.int .u64, 1, 8, [.int .u64 0]⟩),
  (21, ⟨.int .i32, 1, 4, [.int .i32 0]⟩),
  (22, ⟨.slice 5, 1, 24, [.row .own 1 []]⟩),
  (24, ⟨.slice 9, 1, 24, [.row .own 1 []]⟩),
  (25, ⟨.slice 27, 1, 24, [.row .own 3 []]⟩),
  (26, ⟨.struct [(0, 9), (1, 24), (2, 25)], 3, 64, [.str [], .row .own 1 [], .row .own 3 []]⟩),
  (27, ⟨.struct [(0, 9), (1, 24), (2, 25)], 3, 64, [.str [], .row .own 1 [], .row .own 3 []]⟩),
  (28, ⟨.slice 3, 1, 24, [.row .own 1 []]⟩),
  (31, ⟨.slice 38, 1, 24, [.row .own 3 []]⟩),
  (37, ⟨.struct [(0, 9), (1, 3), (2, 3)], 3, 32, [.str [], .int .i64 0, .int .i64 0]⟩),
  (38, ⟨.struct [(0, 9), (1, 3), (2, 3)], 3, 32, [.str [], .int .i64 0, .int .i64 0]⟩),
  (46, ⟨.other, 1, 8, [.dead]⟩),
  (62, ⟨.struct [(0, 22), (1, 3), (2, 3)], 3, 40, [.row .own 1 [], .int .i64 0, .int .i64 0]⟩),
  (63, ⟨.struct [(0, 22), (1, 3), (2, 3)], 3, 40, [.row .own 1 [], .int .i64 0, .int .i64 0]⟩),
  (67, ⟨.other, 1, 8, [.dead]⟩),
  (70, ⟨.other, 1, 8, [.dead]⟩),
  (71, ⟨.struct [(0, 24), (1, 24), (2, 4)], 3, 56, [.row .own 1 [], .row .own 1 [], .bool false]⟩),
  (72, ⟨.struct [(0, 24), (1, 24), (2, 4)], 3, 56, [.row .own 1 [], .row .own 1 [], .bool false]⟩),
  (76, ⟨.int .u64, 1, 8, [.int .u64 0]⟩),
  (86, ⟨.int .i64, 1, 8, [.int .i64 0]⟩),
  (95, ⟨.int .u32, 1, 4, [.int .u32 0]⟩),
  (97, ⟨.int .u64, 1, 8, [.int .u64 0]⟩),
  (98, ⟨.int .u64, 1, 8, [.int .u64 0]⟩),
  (102, ⟨.other, 1, 8, [.dead]⟩),
  (104, ⟨.other, 1, 8, [.dead]⟩),
  (117, ⟨.other, 1, 8, [.dead]⟩)]
def tabD : Tab := lookT tabDL
theorem tabDOk : TabOk Try.prog tabD := tabOk_of (by kernel_rfl)
theorem tabd_5 : tabD 5 = some ⟨.int .u8, 1, 1, [.int .u8 0]⟩ := rfl
theorem tabd_22 : tabD 22 = some ⟨.slice 5, 1, 24, [.row .own 1 []]⟩ := rfl
end Go.Proofs.YtinhdeocgchncaaFw
