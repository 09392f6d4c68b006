/- The types of this seat that hold plain data. Printed by a program of this session. -/
import Derived.Test.YtedmpcmfcnfclaaDoorTab
namespace Go.Proofs.YtedmpcmfcnfclaaDoorFw
open Go Go.RowKit

def tabDL : List (TypeId × TI) := [(2, ⟨.int .i64, 1, 8, [.int .i64 0]⟩),
  (3, ⟨.int .i64, 1, 8, [.int .i64 0]⟩),
  (4, ⟨.bool, 1, 1, [.bool false]⟩),
  (5, ⟨.int .u8, 1, 1, [.int .u8 0]⟩),
  (9, ⟨.str, 1, 16, [.str []]⟩),
  (12, ⟨.int .u64, 1, 8, [.int .u64 0]⟩),
  (21, ⟨.int .i32, 1, 4, [.int .i32 0]⟩),
  (22, ⟨.slice 9, 1, 24, [.row .own 1 []]⟩),
  (23, ⟨.slice 25, 1, 24, [.row .own 3 []]⟩),
  (24, ⟨.struct [(0, 9), (1, 22), (2, 23)], 3, 64, [.str [], .row .own 1 [], .row .own 3 []]⟩),
  (25, ⟨.struct [(0, 9), (1, 22), (2, 23)], 3, 64, [.str [], .row .own 1 [], .row .own 3 []]⟩),
  (28, ⟨.slice 30, 1, 24, [.row .own 3 []]⟩),
  (29, ⟨.struct [(0, 9), (1, 22), (2, 28)], 3, 64, [.str [], .row .own 1 [], .row .own 3 []]⟩),
  (30, ⟨.struct [(0, 9), (1, 22), (2, 28)], 3, 64, [.str [], .row .own 1 [], .row .own 3 []]⟩),
  (38, ⟨.slice 49, 1, 24, [.row .own 3 []]⟩),
  (44, ⟨.other, 1, 8, [.dead]⟩),
  (45, ⟨.struct [(0, 22), (1, 22), (2, 4)], 3, 56, [.row .own 1 [], .row .own 1 [], .bool false]⟩),
  (46, ⟨.struct [(0, 22), (1, 22), (2, 4)], 3, 56, [.row .own 1 [], .row .own 1 [], .bool false]⟩),
  (48, ⟨.struct [(0, 3), (1, 3), (2, 9)], 3, 32, [.int .i64 0, .int .i64 0, .str []]⟩),
  (49, ⟨.struct [(0, 3), (1, 3), (2, 9)], 3, 32, [.int .i64 0, .int .i64 0, .str []]⟩),
  (56, ⟨.slice 38, 1, 24, [.row .own 1 []]⟩),
  (61, ⟨.slice 5, 1, 24, [.row .own 1 []]⟩),
  (62, ⟨.int .u64, 1, 8, [.int .u64 0]⟩),
  (65, ⟨.other, 1, 8, [.dead]⟩),
  (77, ⟨.other, 1, 8, [.dead]⟩),
  (82, ⟨.int .i64, 1, 8, [.int .i64 0]⟩),
  (91, ⟨.int .u32, 1, 4, [.int .u32 0]⟩),
  (93, ⟨.int .u64, 1, 8, [.int .u64 0]⟩),
  (101, ⟨.int .u64, 1, 8, [.int .u64 0]⟩),
  (105, ⟨.other, 1, 8, [.dead]⟩),
  (111, ⟨.other, 1, 8, [.dead]⟩)]
def tabD : Tab := lookT tabDL
theorem tabDOk : TabOk Tryd.prog tabD := tabOk_of (by kernel_rfl)
theorem tabd_2 : tabD 2 = some ⟨.int .i64, 1, 8, [.int .i64 0]⟩ := rfl
theorem tabd_3 : tabD 3 = some ⟨.int .i64, 1, 8, [.int .i64 0]⟩ := rfl
theorem tabd_4 : tabD 4 = some ⟨.bool, 1, 1, [.bool false]⟩ := rfl
theorem tabd_5 : tabD 5 = some ⟨.int .u8, 1, 1, [.int .u8 0]⟩ := rfl
theorem tabd_9 : tabD 9 = some ⟨.str, 1, 16, [.str []]⟩ := rfl
theorem tabd_12 : tabD 12 = some ⟨.int .u64, 1, 8, [.int .u64 0]⟩ := rfl
theorem tabd_21 : tabD 21 = some ⟨.int .i32, 1, 4, [.int .i32 0]⟩ := rfl
theorem tabd_22 : tabD 22 = some ⟨.slice 9, 1, 24, [.row .own 1 []]⟩ := rfl
theorem tabd_23 : tabD 23 = some ⟨.slice 25, 1, 24, [.row .own 3 []]⟩ := rfl
theorem tabd_24 : tabD 24 = some ⟨.struct [(0, 9), (1, 22), (2, 23)], 3, 64, [.str [], .row .own 1 [], .row .own 3 []]⟩ := rfl
theorem tabd_25 : tabD 25 = some ⟨.struct [(0, 9), (1, 22), (2, 23)], 3, 64, [.str [], .row .own 1 [], .row .own 3 []]⟩ := rfl
theorem tabd_28 : tabD 28 = some ⟨.slice 30, 1, 24, [.row .own 3 []]⟩ := rfl
theorem tabd_29 : tabD 29 = some ⟨.struct [(0, 9), (1, 22), (2, 28)], 3, 64, [.str [], .row .own 1 [], .row .own 3 []]⟩ := rfl
theorem tabd_30 : tabD 30 = some ⟨.struct [(0, 9), (1, 22), (2, 28)], 3, 64, [.str [], .row .own 1 [], .row .own 3 []]⟩ := rfl
theorem tabd_38 : tabD 38 = some ⟨.slice 49, 1, 24, [.row .own 3 []]⟩ := rfl
theorem tabd_44 : tabD 44 = some ⟨.other, 1, 8, [.dead]⟩ := rfl
theorem tabd_45 : tabD 45 = some ⟨.struct [(0, 22), (1, 22), (2, 4)], 3, 56, [.row .own 1 [], .row .own 1 [], .bool false]⟩ := rfl
theorem tabd_46 : tabD 46 = some ⟨.struct [(0, 22), (1, 22), (2, 4)], 3, 56, [.row .own 1 [], .row .own 1 [], .bool false]⟩ := rfl
theorem tabd_48 : tabD 48 = some ⟨.struct [(0, 3), (1, 3), (2, 9)], 3, 32, [.int .i64 0, .int .i64 0, .str []]⟩ := rfl
theorem tabd_49 : tabD 49 = some ⟨.struct [(0, 3), (1, 3), (2, 9)], 3, 32, [.int .i64 0, .int .i64 0, .str []]⟩ := rfl
theorem tabd_56 : tabD 56 = some ⟨.slice 38, 1, 24, [.row .own 1 []]⟩ := rfl
theorem tabd_61 : tabD 61 = some ⟨.slice 5, 1, 24, [.row .own 1 []]⟩ := rfl
theorem tabd_62 : tabD 62 = some ⟨.int .u64, 1, 8, [.int .u64 0]⟩ := rfl
theorem tabd_65 : tabD 65 = some ⟨.other, 1, 8, [.dead]⟩ := rfl
theorem tabd_77 : tabD 77 = some ⟨.other, 1, 8, [.dead]⟩ := rfl
theorem tabd_82 : tabD 82 = some ⟨.int .i64, 1, 8, [.int .i64 0]⟩ := rfl
theorem tabd_91 : tabD 91 = some ⟨.int .u32, 1, 4, [.int .u32 0]⟩ := rfl
theorem tabd_93 : tabD 93 = some ⟨.int .u64, 1, 8, [.int .u64 0]⟩ := rfl
theorem tabd_101 : tabD 101 = some ⟨.int .u64, 1, 8, [.int .u64 0]⟩ := rfl
theorem tabd_105 : tabD 105 = some ⟨.other, 1, 8, [.dead]⟩ := rfl
theorem tabd_111 : tabD 111 = some ⟨.other, 1, 8, [.dead]⟩ := rfl

end Go.Proofs.YtedmpcmfcnfclaaDoorFw
