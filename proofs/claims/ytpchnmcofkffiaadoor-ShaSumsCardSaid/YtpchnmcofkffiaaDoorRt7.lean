/-
  The tables of the document hold what the program lays.
-/
import Derived.Test.YtpchnmcofkffiaaDoorRt1
import Derived.Test.YtpchnmcofkffiaaDoorRt2
import Derived.Test.YtpchnmcofkffiaaDoorRt3
import Derived.Test.YtpchnmcofkffiaaDoorRt4
import Derived.Test.YtpchnmcofkffiaaDoorRt5
import Derived.Test.YtpchnmcofkffiaaDoorRt6
import Derived.Test.YtpchnmcofkffiaaDoorRf5
namespace Go.Proofs.YtpchnmcofkffiaaDoor

theorem roots3 : ∀ i, i < 64 → rootV (pr i) 3 = kTab.getD i 0
  | 0, _ => root_2_3
  | 1, _ => root_3_3
  | 2, _ => root_5_3
  | 3, _ => root_7_3
  | 4, _ => root_11_3
  | 5, _ => root_13_3
  | 6, _ => root_17_3
  | 7, _ => root_19_3
  | 8, _ => root_23_3
  | 9, _ => root_29_3
  | 10, _ => root_31_3
  | 11, _ => root_37_3
  | 12, _ => root_41_3
  | 13, _ => root_43_3
  | 14, _ => root_47_3
  | 15, _ => root_53_3
  | 16, _ => root_59_3
  | 17, _ => root_61_3
  | 18, _ => root_67_3
  | 19, _ => root_71_3
  | 20, _ => root_73_3
  | 21, _ => root_79_3
  | 22, _ => root_83_3
  | 23, _ => root_89_3
  | 24, _ => root_97_3
  | 25, _ => root_101_3
  | 26, _ => root_103_3
  | 27, _ => root_107_3
  | 28, _ => root_109_3
  | 29, _ => root_113_3
  | 30, _ => root_127_3
  | 31, _ => root_131_3
  | 32, _ => root_137_3
  | 33, _ => root_139_3
  | 34, _ => root_149_3
  | 35, _ => root_151_3
  | 36, _ => root_157_3
  | 37, _ => root_163_3
  | 38, _ => root_167_3
  | 39, _ => root_173_3
  | 40, _ => root_179_3
  | 41, _ => root_181_3
  | 42, _ => root_191_3
  | 43, _ => root_193_3
  | 44, _ => root_197_3
  | 45, _ => root_199_3
  | 46, _ => root_211_3
  | 47, _ => root_223_3
  | 48, _ => root_227_3
  | 49, _ => root_229_3
  | 50, _ => root_233_3
  | 51, _ => root_239_3
  | 52, _ => root_241_3
  | 53, _ => root_251_3
  | 54, _ => root_257_3
  | 55, _ => root_263_3
  | 56, _ => root_269_3
  | 57, _ => root_271_3
  | 58, _ => root_277_3
  | 59, _ => root_281_3
  | 60, _ => root_283_3
  | 61, _ => root_293_3
  | 62, _ => root_307_3
  | 63, _ => root_311_3
  | n + 64, h => absurd h (by omega)
theorem roots2 : ∀ i, i < 8 → rootV (pr i) 2 = hFirst.list.getD i 0
  | 0, _ => root_2_2
  | 1, _ => root_3_2
  | 2, _ => root_5_2
  | 3, _ => root_7_2
  | 4, _ => root_11_2
  | 5, _ => root_13_2
  | 6, _ => root_17_2
  | 7, _ => root_19_2
  | n + 8, h => absurd h (by omega)
def tabK : Nat → List Nat
  | 0 => List.replicate 72 0
  | i + 1 => if i < 8 then ((tabK i).set i (kTab.getD i 0)).set (64 + i) (hFirst.list.getD i 0) else (tabK i).set i (kTab.getD i 0)
theorem tabK_is : ∀ i, i ≤ 64 → tabAt i = tabK i
  | 0, _ => rfl
  | i + 1, h => by
    rw [tabAt, tabK, tabK_is i (by omega), roots3 i (by omega)]
    split
    · rename_i h8
      rw [roots2 i h8]
    · rfl
set_option maxRecDepth 100000 in
theorem tab64 : tabAt 64 = kTab ++ hFirst.list := (tabK_is 64 (Nat.le_refl _)).trans (by decide +kernel)
end Go.Proofs.YtpchnmcofkffiaaDoor
