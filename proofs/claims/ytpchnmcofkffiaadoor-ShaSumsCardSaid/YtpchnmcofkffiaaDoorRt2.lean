/-
  The constants of the document, a root behind the other, reckoned.
-/
import Derived.Test.YtpchnmcofkffiaaDoorRf3
import Derived.WalkKit
namespace Go.Proofs.YtpchnmcofkffiaaDoor
theorem root_41_3 : rootV 41 3 = 1925078388 := by kernel_rfl
theorem root_43_3 : rootV 43 3 = 2162078206 := by kernel_rfl
theorem root_47_3 : rootV 47 3 = 2614888103 := by kernel_rfl
theorem root_53_3 : rootV 53 3 = 3248222580 := by kernel_rfl
theorem root_59_3 : rootV 59 3 = 3835390401 := by kernel_rfl
theorem root_61_3 : rootV 61 3 = 4022224774 := by kernel_rfl
theorem root_67_3 : rootV 67 3 = 264347078 := by kernel_rfl
theorem root_71_3 : rootV 71 3 = 604807628 := by kernel_rfl
theorem root_73_3 : rootV 73 3 = 770255983 := by kernel_rfl
theorem root_79_3 : rootV 79 3 = 1249150122 := by kernel_rfl
theorem root_83_3 : rootV 83 3 = 1555081692 := by kernel_rfl
theorem root_89_3 : rootV 89 3 = 1996064986 := by kernel_rfl
end Go.Proofs.YtpchnmcofkffiaaDoor
