/-
  DERIVED. GIVEN WITH THE SEED: THE CARDS: each row of YtehfbokkcamliaaDoorRows.lean that lists a variable, with what it lists TIED to the program's text (the seventh form; the later family's looks); each row that meets fmt, with fmt's text TOLD by the authors' own Lean function (tested against real Go, not proved from fmt's source: count such statements apart). THE CARD IS WHAT COUNTS. Prove the row's statement (the work); the ties are given (YtehfbokkcamliaaDoorTie.lean); close each card by the builder's one call (the guide's Derived/Test/ToyasCard.lean, 'card_holds'). Laid BY PROGRAM, IN A SANDBOX (cutbox-door.mjs). By AI agents, Wed Nov 11 2026. No macro, syntax, notation, axiom, sorry.
-/
import Derived.Test.YtehfbokkcamliaaDoorRows
import GoSem.ClaimSeven
namespace Go.Proofs.YtehfbokkcamliaaDoor
namespace Rows

/-- THE TIED CARD OF 'armariumlaw21.CutNeeds'. -/
def cutNeedsCard : Claim7 := { stood := { row := cutNeedsRow, standIns := [], harness := (true, "85a31733e1e4e35945514c432c18b2ceca230449d87af48eed46773c57a24c2f"), looks := false }, kinds := [], alts := [], laidByText := true, laidKinds := [.data, .data], laidTests := true, laidLooks := .later }
def CutNeedsCardSaid : Prop := Claim7.holds Tryd.pinned (.plain (OpenSpec.ofChange cutNeedsSpec)) cutNeedsCard

/-- THE TIED CARD OF 'armariumlaw21.CutCuts'. -/
def cutCutsCard : Claim7 := { stood := { row := cutCutsRow, standIns := [], harness := (true, "85a31733e1e4e35945514c432c18b2ceca230449d87af48eed46773c57a24c2f"), looks := false }, kinds := [], alts := [], laidByText := true, laidKinds := [.data, .data, .data, .pinned], laidTests := true, laidLooks := .later }
def CutCutsCardSaid : Prop := Claim7.holds Tryd.pinned (.plain (OpenSpec.ofChange cutCutsSpec)) cutCutsCard

/-- THE TIED CARD OF 'armariumlaw21.CutBack'. -/
def cutBackCard : Claim7 := { stood := { row := cutBackRow, standIns := [], harness := (true, "85a31733e1e4e35945514c432c18b2ceca230449d87af48eed46773c57a24c2f"), looks := false }, kinds := [], alts := [], laidByText := true, laidKinds := [.data, .data, .data, .pinned], laidTests := true, laidLooks := .later }
def CutBackCardSaid : Prop := Claim7.holds Tryd.pinned (.plain (OpenSpec.ofChange cutBackSpec)) cutBackCard

/-- THE SECOND FORM's CARD OF 'armariumlaw21.CutNeeds'. -/
def cutNeedsUptoCard : Claim7 := { stood := { row := cutNeedsUptoRow, standIns := [], harness := (true, "85a31733e1e4e35945514c432c18b2ceca230449d87af48eed46773c57a24c2f"), looks := false }, kinds := [], alts := [], laidByText := true, laidKinds := [.data, .data], laidTests := true, laidLooks := .later }
def CutNeedsUptoCardSaid : Prop := Claim7.holds Tryd.pinned (.plain (OpenSpec.upto cutNeedsSpec)) cutNeedsUptoCard

/-- THE SECOND FORM's CARD OF 'armariumlaw21.CutCuts'. -/
def cutCutsUptoCard : Claim7 := { stood := { row := cutCutsUptoRow, standIns := [], harness := (true, "85a31733e1e4e35945514c432c18b2ceca230449d87af48eed46773c57a24c2f"), looks := false }, kinds := [], alts := [], laidByText := true, laidKinds := [.data, .data, .data, .pinned], laidTests := true, laidLooks := .later }
def CutCutsUptoCardSaid : Prop := Claim7.holds Tryd.pinned (.plain (OpenSpec.upto cutCutsSpec)) cutCutsUptoCard

/-- THE SECOND FORM's CARD OF 'armariumlaw21.CutBack'. -/
def cutBackUptoCard : Claim7 := { stood := { row := cutBackUptoRow, standIns := [], harness := (true, "85a31733e1e4e35945514c432c18b2ceca230449d87af48eed46773c57a24c2f"), looks := false }, kinds := [], alts := [], laidByText := true, laidKinds := [.data, .data, .data, .pinned], laidTests := true, laidLooks := .later }
def CutBackUptoCardSaid : Prop := Claim7.holds Tryd.pinned (.plain (OpenSpec.upto cutBackSpec)) cutBackUptoCard
end Rows
end Go.Proofs.YtehfbokkcamliaaDoor
