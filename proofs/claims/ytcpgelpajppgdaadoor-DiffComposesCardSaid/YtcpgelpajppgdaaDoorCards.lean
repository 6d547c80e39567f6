/-
  DERIVED. GIVEN WITH THE SEED: THE CARDS: each row of YtcpgelpajppgdaaDoorRows.lean that lists a variable, with what it lists TIED to the program's text (the seventh form; the later family's looks); each row that meets fmt, with fmt's text TOLD by the authors' own Lean function (tested against real Go, not proved from fmt's source: count such statements apart). THE CARD IS WHAT COUNTS. Prove the row's statement (the work); the ties are given (YtcpgelpajppgdaaDoorTie.lean); close each card by the builder's one call (the guide's Derived/Test/ToyasCard.lean, 'card_holds'). Laid BY PROGRAM, IN A SANDBOX (cutbox-door.mjs). By AI agents, Wed Nov 11 2026. No macro, syntax, notation, axiom, sorry.
-/
import Derived.Test.YtcpgelpajppgdaaDoorRows
import GoSem.ClaimSeven
namespace Go.Proofs.YtcpgelpajppgdaaDoor
namespace Rows

/-- THE TIED CARD OF 'armariumlaw28.DiffTells'. -/
def diffTellsCard : Claim7 := { stood := { row := diffTellsRow, standIns := [], harness := (true, "7f6749c8db6a27c5c454186eaa193848f53964c4143eb37eaf848f3b846f3ace"), looks := false }, kinds := [], alts := [], laidByText := true, laidKinds := [.data, .pinned], laidTests := true, laidLooks := .later }
def DiffTellsCardSaid : Prop := Claim7.holds Tryd.pinned (.plain (OpenSpec.ofChange diffTellsSpec)) diffTellsCard

/-- THE TIED CARD OF 'armariumlaw28.DiffApplies'. -/
def diffAppliesCard : Claim7 := { stood := { row := diffAppliesRow, standIns := [], harness := (true, "7f6749c8db6a27c5c454186eaa193848f53964c4143eb37eaf848f3b846f3ace"), looks := false }, kinds := [], alts := [], laidByText := true, laidKinds := [.data, .pinned], laidTests := true, laidLooks := .later }
def DiffAppliesCardSaid : Prop := Claim7.holds Tryd.pinned (.plain (OpenSpec.ofChange diffAppliesSpec)) diffAppliesCard

/-- THE TIED CARD OF 'armariumlaw28.DiffComposes'. -/
def diffComposesCard : Claim7 := { stood := { row := diffComposesRow, standIns := [], harness := (true, "7f6749c8db6a27c5c454186eaa193848f53964c4143eb37eaf848f3b846f3ace"), looks := false }, kinds := [], alts := [], laidByText := true, laidKinds := [.data, .pinned], laidTests := true, laidLooks := .later }
def DiffComposesCardSaid : Prop := Claim7.holds Tryd.pinned (.plain (OpenSpec.ofChange diffComposesSpec)) diffComposesCard

/-- THE TIED CARD OF 'armariumlaw28.DiffBack'. -/
def diffBackCard : Claim7 := { stood := { row := diffBackRow, standIns := [], harness := (true, "7f6749c8db6a27c5c454186eaa193848f53964c4143eb37eaf848f3b846f3ace"), looks := false }, kinds := [], alts := [], laidByText := true, laidKinds := [.data, .pinned], laidTests := true, laidLooks := .later }
def DiffBackCardSaid : Prop := Claim7.holds Tryd.pinned (.plain (OpenSpec.ofChange diffBackSpec)) diffBackCard

/-- THE TIED CARD OF 'armariumlaw28.DiffRoad'. -/
def diffRoadCard : Claim7 := { stood := { row := diffRoadRow, standIns := [], harness := (true, "7f6749c8db6a27c5c454186eaa193848f53964c4143eb37eaf848f3b846f3ace"), looks := false }, kinds := [], alts := [], laidByText := true, laidKinds := [.data, .pinned], laidTests := true, laidLooks := .later }
def DiffRoadCardSaid : Prop := Claim7.holds Tryd.pinned (.plain (OpenSpec.ofChange diffRoadSpec)) diffRoadCard

/-- THE SECOND FORM's CARD OF 'armariumlaw28.DiffTells'. -/
def diffTellsUptoCard : Claim7 := { stood := { row := diffTellsUptoRow, standIns := [], harness := (true, "7f6749c8db6a27c5c454186eaa193848f53964c4143eb37eaf848f3b846f3ace"), looks := false }, kinds := [], alts := [], laidByText := true, laidKinds := [.data, .pinned], laidTests := true, laidLooks := .later }
def DiffTellsUptoCardSaid : Prop := Claim7.holds Tryd.pinned (.plain (OpenSpec.upto diffTellsSpec)) diffTellsUptoCard

/-- THE SECOND FORM's CARD OF 'armariumlaw28.DiffApplies'. -/
def diffAppliesUptoCard : Claim7 := { stood := { row := diffAppliesUptoRow, standIns := [], harness := (true, "7f6749c8db6a27c5c454186eaa193848f53964c4143eb37eaf848f3b846f3ace"), looks := false }, kinds := [], alts := [], laidByText := true, laidKinds := [.data, .pinned], laidTests := true, laidLooks := .later }
def DiffAppliesUptoCardSaid : Prop := Claim7.holds Tryd.pinned (.plain (OpenSpec.upto diffAppliesSpec)) diffAppliesUptoCard

/-- THE SECOND FORM's CARD OF 'armariumlaw28.DiffComposes'. -/
def diffComposesUptoCard : Claim7 := { stood := { row := diffComposesUptoRow, standIns := [], harness := (true, "7f6749c8db6a27c5c454186eaa193848f53964c4143eb37eaf848f3b846f3ace"), looks := false }, kinds := [], alts := [], laidByText := true, laidKinds := [.data, .pinned], laidTests := true, laidLooks := .later }
def DiffComposesUptoCardSaid : Prop := Claim7.holds Tryd.pinned (.plain (OpenSpec.upto diffComposesSpec)) diffComposesUptoCard

/-- THE SECOND FORM's CARD OF 'armariumlaw28.DiffBack'. -/
def diffBackUptoCard : Claim7 := { stood := { row := diffBackUptoRow, standIns := [], harness := (true, "7f6749c8db6a27c5c454186eaa193848f53964c4143eb37eaf848f3b846f3ace"), looks := false }, kinds := [], alts := [], laidByText := true, laidKinds := [.data, .pinned], laidTests := true, laidLooks := .later }
def DiffBackUptoCardSaid : Prop := Claim7.holds Tryd.pinned (.plain (OpenSpec.upto diffBackSpec)) diffBackUptoCard

/-- THE SECOND FORM's CARD OF 'armariumlaw28.DiffRoad'. -/
def diffRoadUptoCard : Claim7 := { stood := { row := diffRoadUptoRow, standIns := [], harness := (true, "7f6749c8db6a27c5c454186eaa193848f53964c4143eb37eaf848f3b846f3ace"), looks := false }, kinds := [], alts := [], laidByText := true, laidKinds := [.data, .pinned], laidTests := true, laidLooks := .later }
def DiffRoadUptoCardSaid : Prop := Claim7.holds Tryd.pinned (.plain (OpenSpec.upto diffRoadSpec)) diffRoadUptoCard
end Rows
end Go.Proofs.YtcpgelpajppgdaaDoor
