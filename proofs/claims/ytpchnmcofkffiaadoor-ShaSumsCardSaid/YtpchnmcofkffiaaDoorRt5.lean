/-
  The constants of the document, a root behind the other, reckoned.
-/
import Derived.Test.YtpchnmcofkffiaaDoorRf3
import Derived.WalkKit
namespace Go.Proofs.YtpchnmcofkffiaaDoor
theorem root_227_3 : rootV 227 3 = 430227734 := by kernel_rfl
theorem root_229_3 : rootV 229 3 = 506948616 := by kernel_rfl
theorem root_233_3 : rootV 233 3 = 659060556 := by kernel_rfl
theorem root_239_3 : rootV 239 3 = 883997877 := by kernel_rfl
theorem root_241_3 : rootV 241 3 = 958139571 := by kernel_rfl
theorem root_251_3 : rootV 251 3 = 1322822218 := by kernel_rfl
theorem root_257_3 : rootV 257 3 = 1537002063 := by kernel_rfl
theorem root_263_3 : rootV 263 3 = 1747873779 := by kernel_rfl
theorem root_269_3 : rootV 269 3 = 1955562222 := by kernel_rfl
theorem root_271_3 : rootV 271 3 = 2024104815 := by kernel_rfl
theorem root_277_3 : rootV 277 3 = 2227730452 := by kernel_rfl
theorem root_281_3 : rootV 281 3 = 2361852424 := by kernel_rfl
end Go.Proofs.YtpchnmcofkffiaaDoor
