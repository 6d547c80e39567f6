/-
  The constants of the document, a root behind the other, reckoned.
-/
import Derived.Test.YtpchnmcofkffiaaDoorRf3
import Derived.WalkKit
namespace Go.Proofs.YtpchnmcofkffiaaDoor
theorem root_283_3 : rootV 283 3 = 2428436474 := by kernel_rfl
theorem root_293_3 : rootV 293 3 = 2756734187 := by kernel_rfl
theorem root_307_3 : rootV 307 3 = 3204031479 := by kernel_rfl
theorem root_311_3 : rootV 311 3 = 3329325298 := by kernel_rfl
theorem root_2_2 : rootV 2 2 = 1779033703 := by kernel_rfl
theorem root_3_2 : rootV 3 2 = 3144134277 := by kernel_rfl
theorem root_5_2 : rootV 5 2 = 1013904242 := by kernel_rfl
theorem root_7_2 : rootV 7 2 = 2773480762 := by kernel_rfl
theorem root_11_2 : rootV 11 2 = 1359893119 := by kernel_rfl
theorem root_13_2 : rootV 13 2 = 2600822924 := by kernel_rfl
theorem root_17_2 : rootV 17 2 = 528734635 := by kernel_rfl
theorem root_19_2 : rootV 19 2 = 1541459225 := by kernel_rfl
end Go.Proofs.YtpchnmcofkffiaaDoor
