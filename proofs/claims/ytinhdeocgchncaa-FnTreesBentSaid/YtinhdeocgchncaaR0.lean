/- What comes in: texts, numbers, trees of segments. -/
import Derived.Test.YtinhdeocgchncaaA2
import Derived.Test.YtinhdeocgchncaaTD
import Derived.Test.YtinhdeocgchncaaFwD
import Derived.Test.YtinhdeocgchncaaRows
import Derived.OpenShut
import Derived.ChangeOld
namespace Go.Proofs.YtinhdeocgchncaaFw
open Go Go.RowKit
set_option linter.unusedVariables false

theorem tabWhole_ok : tabWhole tabDL = true := by kernel_rfl
theorem tabData_ok' : tabData tabDL = true := by kernel_rfl

theorem reach_le : reachBytes ≤ 140737488355328 := by decide

end Go.Proofs.YtinhdeocgchncaaFw

namespace Go.Proofs.Ytinhdeocgchncaa
open Go.ChangeShapes Go.WideShapes Go.ChangeAt Go.RowKit Go.Proofs.YtinhdeocgchncaaFw
theorem own : ownKnob Try.prog.godebug = none := by kernel_rfl
theorem laidOut : laidOutB Try.prog = true := by kernel_rfl
end Go.Proofs.Ytinhdeocgchncaa
