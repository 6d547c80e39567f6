/-
  The table's cells, as the program's text lays them, are what the checksum's steps ask for.
-/
import Derived.Test.YtpchnmcofkffiaaDoorCr3
import Derived.Lib.LaidTab
namespace Go.Proofs.YtpchnmcofkffiaaDoor
open Go.RowKit Go.SL

def halvesI : List Int := [0, 274646895, 549293790, 820201905, 1098587580, 1361435347, 1640403810, 1905808397, 2197175160, 2460548119, 2722870694, 2987750089, 3280807620, 3553878443, 3811616794, 4084100981]
theorem halves_same : ∀ i, i < 16 → halvesI.getD i 0 = ((tab i : Nat) : Int) := by decide

theorem table_of {W : World} (h : Lib.TabIs Tryd.prog W "armarium/crc.halves" .u32 halvesI) (hg : Tryd.prog.globalNamed "armarium/crc.halves" = some 0) : Table W := fun i hi => by
  have := h.cell hg i (by simpa [halvesI] using hi)
  rwa [halves_same i hi] at this

theorem knows_table {W : World} (h : Table W) : Knows [rest W fun _ => False] Table := fun w hE i hi => by
  rw [(hE.below 0 rfl).cell (cell_lt (h i hi))]
  exact h i hi
end Go.Proofs.YtpchnmcofkffiaaDoor
