/-
  The constants of the document, a root behind the other, reckoned.
-/
import Derived.Test.YtpchnmcofkffiaaDoorRf3
import Derived.WalkKit
namespace Go.Proofs.YtpchnmcofkffiaaDoor
theorem root_157_3 : rootV 157 3 = 1695183700 := by kernel_rfl
theorem root_163_3 : rootV 163 3 = 1986661051 := by kernel_rfl
theorem root_167_3 : rootV 167 3 = 2177026350 := by kernel_rfl
theorem root_173_3 : rootV 173 3 = 2456956037 := by kernel_rfl
theorem root_179_3 : rootV 179 3 = 2730485921 := by kernel_rfl
theorem root_181_3 : rootV 181 3 = 2820302411 := by kernel_rfl
theorem root_191_3 : rootV 191 3 = 3259730800 := by kernel_rfl
theorem root_193_3 : rootV 193 3 = 3345764771 := by kernel_rfl
theorem root_197_3 : rootV 197 3 = 3516065817 := by kernel_rfl
theorem root_199_3 : rootV 199 3 = 3600352804 := by kernel_rfl
theorem root_211_3 : rootV 211 3 = 4094571909 := by kernel_rfl
theorem root_223_3 : rootV 223 3 = 275423344 := by kernel_rfl
end Go.Proofs.YtpchnmcofkffiaaDoor
