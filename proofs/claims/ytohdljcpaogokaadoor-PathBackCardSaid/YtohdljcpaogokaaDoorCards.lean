/-
  DERIVED. GIVEN WITH THE SEED: THE CARDS: each row of YtohdljcpaogokaaDoorRows.lean that lists a variable, with what it lists TIED to the program's text (the seventh form; the later family's looks); each row that meets fmt, with fmt's text TOLD by the authors' own Lean function (tested against real Go, not proved from fmt's source: count such statements apart). THE CARD IS WHAT COUNTS. Prove the row's statement (the work); the ties are given (YtohdljcpaogokaaDoorTie.lean); close each card by the builder's one call (the guide's Derived/Test/ToyasCard.lean, 'card_holds'). Laid BY PROGRAM, IN A SANDBOX (cutbox-door.mjs). By AI agents, Wed Nov 11 2026. No macro, syntax, notation, axiom, sorry.
-/
import Derived.Test.YtohdljcpaogokaaDoorRows
import GoSem.ClaimSeven
namespace Go.Proofs.YtohdljcpaogokaaDoor
namespace Rows

/-- THE TIED CARD OF 'armariumlaw19.PathTells'. -/
def pathTellsCard : Claim7 := { stood := { row := pathTellsRow, standIns := [], harness := (true, "c9e1f30c6c930458b5c6d016b2f2818df370bafd87ae3058351fd202ae0ccb70"), looks := false }, kinds := [], alts := [], laidByText := true, laidKinds := [.data, .pinned], laidTests := true, laidLooks := .later }
def PathTellsCardSaid : Prop := Claim7.holds Tryd.pinned (.plain (OpenSpec.ofChange pathTellsSpec)) pathTellsCard

/-- THE TIED CARD OF 'armariumlaw19.PathBack'. -/
def pathBackCard : Claim7 := { stood := { row := pathBackRow, standIns := [], harness := (true, "c9e1f30c6c930458b5c6d016b2f2818df370bafd87ae3058351fd202ae0ccb70"), looks := false }, kinds := [], alts := [], laidByText := true, laidKinds := [.data, .pinned], laidTests := true, laidLooks := .later }
def PathBackCardSaid : Prop := Claim7.holds Tryd.pinned (.plain (OpenSpec.ofChange pathBackSpec)) pathBackCard

/-- THE TIED CARD OF 'armariumlaw20.FoldBuilds'. -/
def foldBuildsCard : Claim7 := { stood := { row := foldBuildsRow, standIns := [], harness := (true, "c9e1f30c6c930458b5c6d016b2f2818df370bafd87ae3058351fd202ae0ccb70"), looks := false }, kinds := [], alts := [], laidByText := true, laidKinds := [.data, .pinned], laidTests := true, laidLooks := .later }
def FoldBuildsCardSaid : Prop := Claim7.holds Tryd.pinned (.plain (OpenSpec.ofChange foldBuildsSpec)) foldBuildsCard

/-- THE TIED CARD OF 'armariumlaw20.FoldBack'. -/
def foldBackCard : Claim7 := { stood := { row := foldBackRow, standIns := [], harness := (true, "c9e1f30c6c930458b5c6d016b2f2818df370bafd87ae3058351fd202ae0ccb70"), looks := false }, kinds := [], alts := [], laidByText := true, laidKinds := [.data, .pinned], laidTests := true, laidLooks := .later }
def FoldBackCardSaid : Prop := Claim7.holds Tryd.pinned (.plain (OpenSpec.ofChange foldBackSpec)) foldBackCard

/-- THE SECOND FORM's CARD OF 'armariumlaw19.PathTells'. -/
def pathTellsUptoCard : Claim7 := { stood := { row := pathTellsUptoRow, standIns := [], harness := (true, "c9e1f30c6c930458b5c6d016b2f2818df370bafd87ae3058351fd202ae0ccb70"), looks := false }, kinds := [], alts := [], laidByText := true, laidKinds := [.data, .pinned], laidTests := true, laidLooks := .later }
def PathTellsUptoCardSaid : Prop := Claim7.holds Tryd.pinned (.plain (OpenSpec.upto pathTellsSpec)) pathTellsUptoCard

/-- THE SECOND FORM's CARD OF 'armariumlaw19.PathBack'. -/
def pathBackUptoCard : Claim7 := { stood := { row := pathBackUptoRow, standIns := [], harness := (true, "c9e1f30c6c930458b5c6d016b2f2818df370bafd87ae3058351fd202ae0ccb70"), looks := false }, kinds := [], alts := [], laidByText := true, laidKinds := [.data, .pinned], laidTests := true, laidLooks := .later }
def PathBackUptoCardSaid : Prop := Claim7.holds Tryd.pinned (.plain (OpenSpec.upto pathBackSpec)) pathBackUptoCard

/-- THE SECOND FORM's CARD OF 'armariumlaw20.FoldBuilds'. -/
def foldBuildsUptoCard : Claim7 := { stood := { row := foldBuildsUptoRow, standIns := [], harness := (true, "c9e1f30c6c930458b5c6d016b2f2818df370bafd87ae3058351fd202ae0ccb70"), looks := false }, kinds := [], alts := [], laidByText := true, laidKinds := [.data, .pinned], laidTests := true, laidLooks := .later }
def FoldBuildsUptoCardSaid : Prop := Claim7.holds Tryd.pinned (.plain (OpenSpec.upto foldBuildsSpec)) foldBuildsUptoCard

/-- THE SECOND FORM's CARD OF 'armariumlaw20.FoldBack'. -/
def foldBackUptoCard : Claim7 := { stood := { row := foldBackUptoRow, standIns := [], harness := (true, "c9e1f30c6c930458b5c6d016b2f2818df370bafd87ae3058351fd202ae0ccb70"), looks := false }, kinds := [], alts := [], laidByText := true, laidKinds := [.data, .pinned], laidTests := true, laidLooks := .later }
def FoldBackUptoCardSaid : Prop := Claim7.holds Tryd.pinned (.plain (OpenSpec.upto foldBackSpec)) foldBackUptoCard
end Rows
end Go.Proofs.YtohdljcpaogokaaDoor
