/-
  The constants of the document, a root behind the other, reckoned.
-/
import Derived.Test.YtpchnmcofkffiaaDoorRf3
import Derived.WalkKit
namespace Go.Proofs.YtpchnmcofkffiaaDoor
theorem root_97_3 : rootV 97 3 = 2554220882 := by kernel_rfl
theorem root_101_3 : rootV 101 3 = 2821834349 := by kernel_rfl
theorem root_103_3 : rootV 103 3 = 2952996808 := by kernel_rfl
theorem root_107_3 : rootV 107 3 = 3210313671 := by kernel_rfl
theorem root_109_3 : rootV 109 3 = 3336571891 := by kernel_rfl
theorem root_113_3 : rootV 113 3 = 3584528711 := by kernel_rfl
theorem root_127_3 : rootV 127 3 = 113926993 := by kernel_rfl
theorem root_131_3 : rootV 131 3 = 338241895 := by kernel_rfl
theorem root_137_3 : rootV 137 3 = 666307205 := by kernel_rfl
theorem root_139_3 : rootV 139 3 = 773529912 := by kernel_rfl
theorem root_149_3 : rootV 149 3 = 1294757372 := by kernel_rfl
theorem root_151_3 : rootV 151 3 = 1396182291 := by kernel_rfl
end Go.Proofs.YtpchnmcofkffiaaDoor
