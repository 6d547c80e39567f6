/-
  The constants of the document, a root behind the other, reckoned.
-/
import Derived.Test.YtpchnmcofkffiaaDoorRf3
import Derived.WalkKit
namespace Go.Proofs.YtpchnmcofkffiaaDoor
theorem root_2_3 : rootV 2 3 = 1116352408 := by kernel_rfl
theorem root_3_3 : rootV 3 3 = 1899447441 := by kernel_rfl
theorem root_5_3 : rootV 5 3 = 3049323471 := by kernel_rfl
theorem root_7_3 : rootV 7 3 = 3921009573 := by kernel_rfl
theorem root_11_3 : rootV 11 3 = 961987163 := by kernel_rfl
theorem root_13_3 : rootV 13 3 = 1508970993 := by kernel_rfl
theorem root_17_3 : rootV 17 3 = 2453635748 := by kernel_rfl
theorem root_19_3 : rootV 19 3 = 2870763221 := by kernel_rfl
theorem root_23_3 : rootV 23 3 = 3624381080 := by kernel_rfl
theorem root_29_3 : rootV 29 3 = 310598401 := by kernel_rfl
theorem root_31_3 : rootV 31 3 = 607225278 := by kernel_rfl
theorem root_37_3 : rootV 37 3 = 1426881987 := by kernel_rfl
end Go.Proofs.YtpchnmcofkffiaaDoor
