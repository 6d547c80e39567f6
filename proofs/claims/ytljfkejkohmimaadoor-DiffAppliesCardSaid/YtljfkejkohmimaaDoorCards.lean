/-
  DERIVED. GIVEN WITH THE SEED: THE CARDS: each row of YtljfkejkohmimaaDoorRows.lean that lists a variable, with what it lists TIED to the program's text (the seventh form; the later family's looks); each row that meets fmt, with fmt's text TOLD by the authors' own Lean function (tested against real Go, not proved from fmt's source: count such statements apart). THE CARD IS WHAT COUNTS. Prove the row's statement (the work); the ties are given (YtljfkejkohmimaaDoorTie.lean); close each card by the builder's one call (the guide's Derived/Test/ToyasCard.lean, 'card_holds'). Laid BY PROGRAM, IN A SANDBOX (cutbox-door.mjs). By AI agents, Wed Nov 11 2026. No macro, syntax, notation, axiom, sorry.
-/
import Derived.Test.YtljfkejkohmimaaDoorRows
import GoSem.ClaimSeven
namespace Go.Proofs.YtljfkejkohmimaaDoor
namespace Rows

/-- THE TIED CARD OF 'armariumlaw28.DiffApplies'. -/
def diffAppliesCard : Claim7 := { stood := { row := diffAppliesRow, standIns := [], harness := (true, "cbd311ad0901c7d18ff441f7f4cff7009844c8820faea6b2f1c44e9dbac90517"), looks := false }, kinds := [], alts := [], laidByText := true, laidKinds := [.data, .pinned], laidTests := true, laidLooks := .later }
def DiffAppliesCardSaid : Prop := Claim7.holds Tryd.pinned (.plain (OpenSpec.ofChange diffAppliesSpec)) diffAppliesCard

/-- THE TIED CARD OF 'armariumlaw28.DiffRoad'. -/
def diffRoadCard : Claim7 := { stood := { row := diffRoadRow, standIns := [], harness := (true, "cbd311ad0901c7d18ff441f7f4cff7009844c8820faea6b2f1c44e9dbac90517"), looks := false }, kinds := [], alts := [], laidByText := true, laidKinds := [.data, .pinned], laidTests := true, laidLooks := .later }
def DiffRoadCardSaid : Prop := Claim7.holds Tryd.pinned (.plain (OpenSpec.ofChange diffRoadSpec)) diffRoadCard

/-- THE SECOND FORM's CARD OF 'armariumlaw28.DiffApplies'. -/
def diffAppliesUptoCard : Claim7 := { stood := { row := diffAppliesUptoRow, standIns := [], harness := (true, "cbd311ad0901c7d18ff441f7f4cff7009844c8820faea6b2f1c44e9dbac90517"), looks := false }, kinds := [], alts := [], laidByText := true, laidKinds := [.data, .pinned], laidTests := true, laidLooks := .later }
def DiffAppliesUptoCardSaid : Prop := Claim7.holds Tryd.pinned (.plain (OpenSpec.upto diffAppliesSpec)) diffAppliesUptoCard

/-- THE SECOND FORM's CARD OF 'armariumlaw28.DiffRoad'. -/
def diffRoadUptoCard : Claim7 := { stood := { row := diffRoadUptoRow, standIns := [], harness := (true, "cbd311ad0901c7d18ff441f7f4cff7009844c8820faea6b2f1c44e9dbac90517"), looks := false }, kinds := [], alts := [], laidByText := true, laidKinds := [.data, .pinned], laidTests := true, laidLooks := .later }
def DiffRoadUptoCardSaid : Prop := Claim7.holds Tryd.pinned (.plain (OpenSpec.upto diffRoadSpec)) diffRoadUptoCard
end Rows
end Go.Proofs.YtljfkejkohmimaaDoor
