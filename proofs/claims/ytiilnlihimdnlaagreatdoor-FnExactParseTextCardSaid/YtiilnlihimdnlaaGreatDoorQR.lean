/- The types of this seat that hold plain data. Printed by a program of this session. -/
import Derived.Test.YtiilnlihimdnlaaGreatDoorTab
import Derived.Test.YtiilnlihimdnlaaGreatDoorQL
import Derived.Test.YtiilnlihimdnlaaGreatDoorFwD
import Derived.Test.YtiilnlihimdnlaaGreatDoorRows
import Derived.OpenShut
import Derived.ChangeOld
set_option linter.unusedVariables false
namespace Go.Proofs.YtiilnlihimdnlaaGreatDoorFw
open Go Go.RowKit
def tabDL : List (TypeId × TI) := [(2, ⟨.int .i64, 1, 8, [.int .i64 0]⟩),
 (3, ⟨.int .i64, 1, 8, [.int .i64 0]⟩),
 (4, ⟨.bool, 1, 1, [.bool false]⟩),
 (5, ⟨.int .u8, 1, 1, [.int .u8 0]⟩),
 (9, ⟨.str, 1, 16, [.str []]⟩),
 (12, ⟨.int .u64, 1, 8, [.int .u64 0]⟩),
 (21, ⟨.int .i32, 1, 4, [.int .i32 0]⟩),
 (22, ⟨.slice 9, 1, 24, [.row .own 1 []]⟩),
 (23, ⟨.slice 25, 1, 24, [.row .own 3 []]⟩),
 (24, ⟨.struct [(0, 9), (1, 22), (2, 23)], 3, 64, [.str [], .row .own 1 [], .row .own 3 []]⟩),
 (25, ⟨.struct [(0, 9), (1, 22), (2, 23)], 3, 64, [.str [], .row .own 1 [], .row .own 3 []]⟩),
 (31, ⟨.slice 33, 1, 24, [.row .own 4 []]⟩),
 (32, ⟨.struct [(0, 3), (1, 3), (2, 9), (3, 31)], 4, 56, [.int .i64 0, .int .i64 0, .str [], .row .own 4 []]⟩),
 (33, ⟨.struct [(0, 3), (1, 3), (2, 9), (3, 31)], 4, 56, [.int .i64 0, .int .i64 0, .str [], .row .own 4 []]⟩),
 (34, ⟨.struct [(0, 3), (1, 3), (2, 33)], 6, 72, [.int .i64 0, .int .i64 0, .int .i64 0, .int .i64 0, .str [], .row .own 4 []]⟩),
 (35, ⟨.struct [(0, 3), (1, 3), (2, 33)], 6, 72, [.int .i64 0, .int .i64 0, .int .i64 0, .int .i64 0, .str [], .row .own 4 []]⟩),
 (36, ⟨.struct [(0, 3), (1, 9), (2, 3), (3, 35), (9, 35), (15, 3), (16, 31)], 17, 208, [.int .i64 0, .str [], .int .i64 0, .int .i64 0, .int .i64 0, .int .i64 0, .int .i64 0, .str [], .row .own 4 [], .int .i64 0, .int .i64 0, .int .i64 0, .int .i64 0, .str [], .row .own 4 [], .int .i64 0, .row .own 4 []]⟩),
 (37, ⟨.struct [(0, 3), (1, 9), (2, 3), (3, 35), (9, 35), (15, 3), (16, 31)], 17, 208, [.int .i64 0, .str [], .int .i64 0, .int .i64 0, .int .i64 0, .int .i64 0, .int .i64 0, .str [], .row .own 4 [], .int .i64 0, .int .i64 0, .int .i64 0, .int .i64 0, .str [], .row .own 4 [], .int .i64 0, .row .own 4 []]⟩),
 (42, ⟨.slice 37, 1, 24, [.row .own 17 []]⟩),
 (47, ⟨.slice 74, 1, 24, [.row .own 3 []]⟩),
 (50, ⟨.other, 1, 8, [.dead]⟩),
 (51, ⟨.struct [(0, 47), (1, 3), (2, 4)], 3, 40, [.row .own 3 [], .int .i64 0, .bool false]⟩),
 (52, ⟨.struct [(0, 47), (1, 3), (2, 4)], 3, 40, [.row .own 3 [], .int .i64 0, .bool false]⟩),
 (55, ⟨.other, 1, 8, [.dead]⟩),
 (56, ⟨.struct [(0, 47), (1, 4)], 2, 32, [.row .own 3 [], .bool false]⟩),
 (57, ⟨.struct [(0, 47), (1, 4)], 2, 32, [.row .own 3 [], .bool false]⟩),
 (73, ⟨.struct [(0, 3), (1, 3), (2, 9)], 3, 32, [.int .i64 0, .int .i64 0, .str []]⟩),
 (74, ⟨.struct [(0, 3), (1, 3), (2, 9)], 3, 32, [.int .i64 0, .int .i64 0, .str []]⟩),
 (81, ⟨.other, 1, 8, [.dead]⟩),
 (82, ⟨.struct [(0, 22), (1, 22), (2, 4)], 3, 56, [.row .own 1 [], .row .own 1 [], .bool false]⟩),
 (83, ⟨.struct [(0, 22), (1, 22), (2, 4)], 3, 56, [.row .own 1 [], .row .own 1 [], .bool false]⟩),
 (103, ⟨.slice 5, 1, 24, [.row .own 1 []]⟩),
 (126, ⟨.int .u64, 1, 8, [.int .u64 0]⟩),
 (139, ⟨.int .i64, 1, 8, [.int .i64 0]⟩),
 (147, ⟨.int .u32, 1, 4, [.int .u32 0]⟩),
 (149, ⟨.int .u64, 1, 8, [.int .u64 0]⟩),
 (155, ⟨.int .u64, 1, 8, [.int .u64 0]⟩),
 (159, ⟨.other, 1, 8, [.dead]⟩),
 (163, ⟨.int .i64, 1, 8, [.int .i64 0]⟩),
 (166, ⟨.other, 1, 8, [.dead]⟩),
 (169, ⟨.other, 1, 8, [.dead]⟩),
 (172, ⟨.arr 256 5, 256, 256, [.int .u8 0, .int .u8 0, .int .u8 0, .int .u8 0, .int .u8 0, .int .u8 0, .int .u8 0, .int .u8 0, .int .u8 0, .int .u8 0, .int .u8 0, .int .u8 0, .int .u8 0, .int .u8 0, .int .u8 0, .int .u8 0, .int .u8 0, .int .u8 0, .int .u8 0, .int .u8 0, .int .u8 0, .int .u8 0, .int .u8 0, .int .u8 0, .int .u8 0, .int .u8 0, .int .u8 0, .int .u8 0, .int .u8 0, .int .u8 0, .int .u8 0, .int .u8 0, .int .u8 0, .int .u8 0, .int .u8 0, .int .u8 0, .int .u8 0, .int .u8 0, .int .u8 0, .int .u8 0, .int .u8 0, .int .u8 0, .int .u8 0, .int .u8 0, .int .u8 0, .int .u8 0, .int .u8 0, .int .u8 0, .int .u8 0, .int .u8 0, .int .u8 0, .int .u8 0, .int .u8 0, .int .u8 0, .int .u8 0, .int .u8 0, .int .u8 0, .int .u8 0, .int .u8 0, .int .u8 0, .int .u8 0, .int .u8 0, .int .u8 0, .int .u8 0, .int .u8 0, .int .u8 0, .int .u8 0, .int .u8 0, .int .u8 0, .int .u8 0, .int .u8 0, .int .u8 0, .int .u8 0, .int .u8 0, .int .u8 0, .int .u8 0, .int .u8 0, .int .u8 0, .int .u8 0, .int .u8 0, .int .u8 0, .int .u8 0, .int .u8 0, .int .u8 0, .int .u8 0, .int .u8 0, .int .u8 0, .int .u8 0, .int .u8 0, .int .u8 0, .int .u8 0, .int .u8 0, .int .u8 0, .int .u8 0, .int .u8 0, .int .u8 0, .int .u8 0, .int .u8 0, .int .u8 0, .int .u8 0, .int .u8 0, .int .u8 0, .int .u8 0, .int .u8 0, .int .u8 0, .int .u8 0, .int .u8 0, .int .u8 0, .int .u8 0, .int .u8 0, .int .u8 0, .int .u8 0, .int .u8 0, .int .u8 0, .int .u8 0, .int .u8 0, .int .u8 0, .int .u8 0, .int .u8 0, .int .u8 0, .int .u8 0, .int .u8 0, .int .u8 0, .int .u8 0, .int .u8 0, .int .u8 0, .int .u8 0, .int .u8 0, .int .u8 0, .int .u8 0, .int .u8 0, .int .u8 0, .int .u8 0, .int .u8 0, .int .u8 0, .int .u8 0, .int .u8 0, .int .u8 0, .int .u8 0, .int .u8 0, .int .u8 0, .int .u8 0, .int .u8 0, .int .u8 0, .int .u8 0, .int .u8 0, .int .u8 0, .int .u8 0, .int .u8 0, .int .u8 0, .int .u8 0, .int .u8 0, .int .u8 0, .int .u8 0, .int .u8 0, .int .u8 0, .int .u8 0, .int .u8 0, .int .u8 0, .int .u8 0, .int .u8 0, .int .u8 0, .int .u8 0, .int .u8 0, .int .u8 0, .int .u8 0, .int .u8 0, .int .u8 0, .int .u8 0, .int .u8 0, .int .u8 0, .int .u8 0, .int .u8 0, .int .u8 0, .int .u8 0, .int .u8 0, .int .u8 0, .int .u8 0, .int .u8 0, .int .u8 0, .int .u8 0, .int .u8 0, .int .u8 0, .int .u8 0, .int .u8 0, .int .u8 0, .int .u8 0, .int .u8 0, .int .u8 0, .int .u8 0, .int .u8 0, .int .u8 0, .int .u8 0, .int .u8 0, .int .u8 0, .int .u8 0, .int .u8 0, .int .u8 0, .int .u8 0, .int .u8 0, .int .u8 0, .int .u8 0, .int .u8 0, .int .u8 0, .int .u8 0, .int .u8 0, .int .u8 0, .int .u8 0, .int .u8 0, .int .u8 0, .int .u8 0, .int .u8 0, .int .u8 0, .int .u8 0, .int .u8 0, .int .u8 0, .int .u8 0, .int .u8 0, .int .u8 0, .int .u8 0, .int .u8 0, .int .u8 0, .int .u8 0, .int .u8 0, .int .u8 0, .int .u8 0, .int .u8 0, .int .u8 0, .int .u8 0, .int .u8 0, .int .u8 0, .int .u8 0, .int .u8 0, .int .u8 0, .int .u8 0, .int .u8 0, .int .u8 0, .int .u8 0, .int .u8 0, .int .u8 0, .int .u8 0, .int .u8 0, .int .u8 0, .int .u8 0, .int .u8 0, .int .u8 0, .int .u8 0, .int .u8 0, .int .u8 0, .int .u8 0, .int .u8 0, .int .u8 0, .int .u8 0, .int .u8 0, .int .u8 0, .int .u8 0]⟩),
 (173, ⟨.struct [(0, 5), (1, 5)], 2, 2, [.int .u8 0, .int .u8 0]⟩),
 (174, ⟨.struct [(0, 5), (1, 5)], 2, 2, [.int .u8 0, .int .u8 0]⟩),
 (175, ⟨.arr 16 174, 32, 32, [.int .u8 0, .int .u8 0, .int .u8 0, .int .u8 0, .int .u8 0, .int .u8 0, .int .u8 0, .int .u8 0, .int .u8 0, .int .u8 0, .int .u8 0, .int .u8 0, .int .u8 0, .int .u8 0, .int .u8 0, .int .u8 0, .int .u8 0, .int .u8 0, .int .u8 0, .int .u8 0, .int .u8 0, .int .u8 0, .int .u8 0, .int .u8 0, .int .u8 0, .int .u8 0, .int .u8 0, .int .u8 0, .int .u8 0, .int .u8 0, .int .u8 0, .int .u8 0]⟩),
 (183, ⟨.arr 24 5, 24, 24, [.int .u8 0, .int .u8 0, .int .u8 0, .int .u8 0, .int .u8 0, .int .u8 0, .int .u8 0, .int .u8 0, .int .u8 0, .int .u8 0, .int .u8 0, .int .u8 0, .int .u8 0, .int .u8 0, .int .u8 0, .int .u8 0, .int .u8 0, .int .u8 0, .int .u8 0, .int .u8 0, .int .u8 0, .int .u8 0, .int .u8 0, .int .u8 0]⟩),
 (187, ⟨.other, 1, 8, [.dead]⟩),
 (188, ⟨.other, 1, 8, [.dead]⟩),
 (189, ⟨.struct [(0, 9)], 1, 16, [.str []]⟩),
 (190, ⟨.struct [(0, 9)], 1, 16, [.str []]⟩),
 (192, ⟨.arr 20 149, 20, 160, [.int .u64 0, .int .u64 0, .int .u64 0, .int .u64 0, .int .u64 0, .int .u64 0, .int .u64 0, .int .u64 0, .int .u64 0, .int .u64 0, .int .u64 0, .int .u64 0, .int .u64 0, .int .u64 0, .int .u64 0, .int .u64 0, .int .u64 0, .int .u64 0, .int .u64 0, .int .u64 0]⟩),
 (193, ⟨.arr 65 5, 65, 65, [.int .u8 0, .int .u8 0, .int .u8 0, .int .u8 0, .int .u8 0, .int .u8 0, .int .u8 0, .int .u8 0, .int .u8 0, .int .u8 0, .int .u8 0, .int .u8 0, .int .u8 0, .int .u8 0, .int .u8 0, .int .u8 0, .int .u8 0, .int .u8 0, .int .u8 0, .int .u8 0, .int .u8 0, .int .u8 0, .int .u8 0, .int .u8 0, .int .u8 0, .int .u8 0, .int .u8 0, .int .u8 0, .int .u8 0, .int .u8 0, .int .u8 0, .int .u8 0, .int .u8 0, .int .u8 0, .int .u8 0, .int .u8 0, .int .u8 0, .int .u8 0, .int .u8 0, .int .u8 0, .int .u8 0, .int .u8 0, .int .u8 0, .int .u8 0, .int .u8 0, .int .u8 0, .int .u8 0, .int .u8 0, .int .u8 0, .int .u8 0, .int .u8 0, .int .u8 0, .int .u8 0, .int .u8 0, .int .u8 0, .int .u8 0, .int .u8 0, .int .u8 0, .int .u8 0, .int .u8 0, .int .u8 0, .int .u8 0, .int .u8 0, .int .u8 0, .int .u8 0]⟩),
 (194, ⟨.arr 32 5, 32, 32, [.int .u8 0, .int .u8 0, .int .u8 0, .int .u8 0, .int .u8 0, .int .u8 0, .int .u8 0, .int .u8 0, .int .u8 0, .int .u8 0, .int .u8 0, .int .u8 0, .int .u8 0, .int .u8 0, .int .u8 0, .int .u8 0, .int .u8 0, .int .u8 0, .int .u8 0, .int .u8 0, .int .u8 0, .int .u8 0, .int .u8 0, .int .u8 0, .int .u8 0, .int .u8 0, .int .u8 0, .int .u8 0, .int .u8 0, .int .u8 0, .int .u8 0, .int .u8 0]⟩),
 (195, ⟨.arr 64 5, 64, 64, [.int .u8 0, .int .u8 0, .int .u8 0, .int .u8 0, .int .u8 0, .int .u8 0, .int .u8 0, .int .u8 0, .int .u8 0, .int .u8 0, .int .u8 0, .int .u8 0, .int .u8 0, .int .u8 0, .int .u8 0, .int .u8 0, .int .u8 0, .int .u8 0, .int .u8 0, .int .u8 0, .int .u8 0, .int .u8 0, .int .u8 0, .int .u8 0, .int .u8 0, .int .u8 0, .int .u8 0, .int .u8 0, .int .u8 0, .int .u8 0, .int .u8 0, .int .u8 0, .int .u8 0, .int .u8 0, .int .u8 0, .int .u8 0, .int .u8 0, .int .u8 0, .int .u8 0, .int .u8 0, .int .u8 0, .int .u8 0, .int .u8 0, .int .u8 0, .int .u8 0, .int .u8 0, .int .u8 0, .int .u8 0, .int .u8 0, .int .u8 0, .int .u8 0, .int .u8 0, .int .u8 0, .int .u8 0, .int .u8 0, .int .u8 0, .int .u8 0, .int .u8 0, .int .u8 0, .int .u8 0, .int .u8 0, .int .u8 0, .int .u8 0, .int .u8 0]⟩)]
def tabD : Tab := lookT tabDL
theorem tabDOk : TabOk Tryz.prog tabD := tabOk_of (by kernel_rfl)
theorem tabd_9 : tabD 9 = some ⟨.str, 1, 16, [.str []]⟩ := rfl
end Go.Proofs.YtiilnlihimdnlaaGreatDoorFw
namespace Go.Proofs.YtiilnlihimdnlaaGreatDoorFw
open Go Go.RowKit
theorem tabWhole_ok : tabWhole tabDL = true := by kernel_rfl
theorem tabData_ok' : tabData tabDL = true := by kernel_rfl
end Go.Proofs.YtiilnlihimdnlaaGreatDoorFw
namespace Go.Proofs.YtiilnlihimdnlaaGreatDoor
open Go.ChangeShapes Go.WideShapes Go.ChangeAt Go.RowKit Go.Proofs.YtiilnlihimdnlaaGreatDoorFw
theorem own : ownKnob Tryz.prog.godebug = none := by kernel_rfl
theorem laidOut : laidOutB Tryz.prog = true := by kernel_rfl
end Go.Proofs.YtiilnlihimdnlaaGreatDoor
