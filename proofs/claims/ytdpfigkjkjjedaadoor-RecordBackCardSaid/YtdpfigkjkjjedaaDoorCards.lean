/-
  DERIVED. GIVEN WITH THE SEED: THE CARDS: each row of YtdpfigkjkjjedaaDoorRows.lean that lists a variable, with what it lists TIED to the program's text (the seventh form; the later family's looks); each row that meets fmt, with fmt's text TOLD by the authors' own Lean function (tested against real Go, not proved from fmt's source: count such statements apart). THE CARD IS WHAT COUNTS. Prove the row's statement (the work); the ties are given (YtdpfigkjkjjedaaDoorTie.lean); close each card by the builder's one call (the guide's Derived/Test/ToyasCard.lean, 'card_holds'). Laid BY PROGRAM, IN A SANDBOX (cutbox-door.mjs). By AI agents, Wed Nov 11 2026. No macro, syntax, notation, axiom, sorry.
-/
import Derived.Test.YtdpfigkjkjjedaaDoorRows
import GoSem.ClaimSeven
namespace Go.Proofs.YtdpfigkjkjjedaaDoor
namespace Rows

/-- THE TIED CARD OF 'armariumlaw05.SheetPuts'. -/
def sheetPutsCard : Claim7 := { stood := { row := sheetPutsRow, standIns := [], harness := (true, "09334c607a3051a7bca1d3f13543c7653f1c5ead3ff4a5f454c0a923c09a7b8e"), looks := false }, kinds := [], alts := [], laidByText := true, laidKinds := [.data], laidTests := true, laidLooks := .later }
def SheetPutsCardSaid : Prop := Claim7.holds Tryd.pinned (.plain (OpenSpec.ofChange sheetPutsSpec)) sheetPutsCard

/-- THE TIED CARD OF 'armariumlaw05.SheetCuts'. -/
def sheetCutsCard : Claim7 := { stood := { row := sheetCutsRow, standIns := [], harness := (true, "09334c607a3051a7bca1d3f13543c7653f1c5ead3ff4a5f454c0a923c09a7b8e"), looks := false }, kinds := [], alts := [], laidByText := true, laidKinds := [.data], laidTests := true, laidLooks := .later }
def SheetCutsCardSaid : Prop := Claim7.holds Tryd.pinned (.plain (OpenSpec.ofChange sheetCutsSpec)) sheetCutsCard

/-- THE TIED CARD OF 'armariumlaw05.SheetBack'. -/
def sheetBackCard : Claim7 := { stood := { row := sheetBackRow, standIns := [], harness := (true, "09334c607a3051a7bca1d3f13543c7653f1c5ead3ff4a5f454c0a923c09a7b8e"), looks := false }, kinds := [], alts := [], laidByText := true, laidKinds := [.data], laidTests := true, laidLooks := .later }
def SheetBackCardSaid : Prop := Claim7.holds Tryd.pinned (.plain (OpenSpec.ofChange sheetBackSpec)) sheetBackCard

/-- THE TIED CARD OF 'armariumlaw13.RecordSeals'. -/
def recordSealsCard : Claim7 := { stood := { row := recordSealsRow, standIns := [], harness := (true, "09334c607a3051a7bca1d3f13543c7653f1c5ead3ff4a5f454c0a923c09a7b8e"), looks := false }, kinds := [], alts := [], laidByText := true, laidKinds := [.data], laidTests := true, laidLooks := .later }
def RecordSealsCardSaid : Prop := Claim7.holds Tryd.pinned (.plain (OpenSpec.ofChange recordSealsSpec)) recordSealsCard

/-- THE TIED CARD OF 'armariumlaw13.RecordBack'. -/
def recordBackCard : Claim7 := { stood := { row := recordBackRow, standIns := [], harness := (true, "09334c607a3051a7bca1d3f13543c7653f1c5ead3ff4a5f454c0a923c09a7b8e"), looks := false }, kinds := [], alts := [], laidByText := true, laidKinds := [.data], laidTests := true, laidLooks := .later }
def RecordBackCardSaid : Prop := Claim7.holds Tryd.pinned (.plain (OpenSpec.ofChange recordBackSpec)) recordBackCard

/-- THE TIED CARD OF 'armariumlaw06.WalNil'. -/
def walNilCard : Claim7 := { stood := { row := walNilRow, standIns := [], harness := (true, "09334c607a3051a7bca1d3f13543c7653f1c5ead3ff4a5f454c0a923c09a7b8e"), looks := false }, kinds := [], alts := [], laidByText := true, laidKinds := [.data], laidTests := true, laidLooks := .later }
def WalNilCardSaid : Prop := Claim7.holds Tryd.pinned (.plain (OpenSpec.ofChange walNilSpec)) walNilCard

/-- THE TIED CARD OF 'armariumlaw06.WalKeeps'. -/
def walKeepsCard : Claim7 := { stood := { row := walKeepsRow, standIns := [], harness := (true, "09334c607a3051a7bca1d3f13543c7653f1c5ead3ff4a5f454c0a923c09a7b8e"), looks := false }, kinds := [], alts := [], laidByText := true, laidKinds := [.data], laidTests := true, laidLooks := .later }
def WalKeepsCardSaid : Prop := Claim7.holds Tryd.pinned (.plain (OpenSpec.ofChange walKeepsSpec)) walKeepsCard

/-- THE SECOND FORM's CARD OF 'armariumlaw05.SheetPuts'. -/
def sheetPutsUptoCard : Claim7 := { stood := { row := sheetPutsUptoRow, standIns := [], harness := (true, "09334c607a3051a7bca1d3f13543c7653f1c5ead3ff4a5f454c0a923c09a7b8e"), looks := false }, kinds := [], alts := [], laidByText := true, laidKinds := [.data], laidTests := true, laidLooks := .later }
def SheetPutsUptoCardSaid : Prop := Claim7.holds Tryd.pinned (.plain (OpenSpec.upto sheetPutsSpec)) sheetPutsUptoCard

/-- THE SECOND FORM's CARD OF 'armariumlaw05.SheetCuts'. -/
def sheetCutsUptoCard : Claim7 := { stood := { row := sheetCutsUptoRow, standIns := [], harness := (true, "09334c607a3051a7bca1d3f13543c7653f1c5ead3ff4a5f454c0a923c09a7b8e"), looks := false }, kinds := [], alts := [], laidByText := true, laidKinds := [.data], laidTests := true, laidLooks := .later }
def SheetCutsUptoCardSaid : Prop := Claim7.holds Tryd.pinned (.plain (OpenSpec.upto sheetCutsSpec)) sheetCutsUptoCard

/-- THE SECOND FORM's CARD OF 'armariumlaw05.SheetBack'. -/
def sheetBackUptoCard : Claim7 := { stood := { row := sheetBackUptoRow, standIns := [], harness := (true, "09334c607a3051a7bca1d3f13543c7653f1c5ead3ff4a5f454c0a923c09a7b8e"), looks := false }, kinds := [], alts := [], laidByText := true, laidKinds := [.data], laidTests := true, laidLooks := .later }
def SheetBackUptoCardSaid : Prop := Claim7.holds Tryd.pinned (.plain (OpenSpec.upto sheetBackSpec)) sheetBackUptoCard

/-- THE SECOND FORM's CARD OF 'armariumlaw13.RecordSeals'. -/
def recordSealsUptoCard : Claim7 := { stood := { row := recordSealsUptoRow, standIns := [], harness := (true, "09334c607a3051a7bca1d3f13543c7653f1c5ead3ff4a5f454c0a923c09a7b8e"), looks := false }, kinds := [], alts := [], laidByText := true, laidKinds := [.data], laidTests := true, laidLooks := .later }
def RecordSealsUptoCardSaid : Prop := Claim7.holds Tryd.pinned (.plain (OpenSpec.upto recordSealsSpec)) recordSealsUptoCard

/-- THE SECOND FORM's CARD OF 'armariumlaw13.RecordBack'. -/
def recordBackUptoCard : Claim7 := { stood := { row := recordBackUptoRow, standIns := [], harness := (true, "09334c607a3051a7bca1d3f13543c7653f1c5ead3ff4a5f454c0a923c09a7b8e"), looks := false }, kinds := [], alts := [], laidByText := true, laidKinds := [.data], laidTests := true, laidLooks := .later }
def RecordBackUptoCardSaid : Prop := Claim7.holds Tryd.pinned (.plain (OpenSpec.upto recordBackSpec)) recordBackUptoCard

/-- THE SECOND FORM's CARD OF 'armariumlaw06.WalNil'. -/
def walNilUptoCard : Claim7 := { stood := { row := walNilUptoRow, standIns := [], harness := (true, "09334c607a3051a7bca1d3f13543c7653f1c5ead3ff4a5f454c0a923c09a7b8e"), looks := false }, kinds := [], alts := [], laidByText := true, laidKinds := [.data], laidTests := true, laidLooks := .later }
def WalNilUptoCardSaid : Prop := Claim7.holds Tryd.pinned (.plain (OpenSpec.upto walNilSpec)) walNilUptoCard

/-- THE SECOND FORM's CARD OF 'armariumlaw06.WalKeeps'. -/
def walKeepsUptoCard : Claim7 := { stood := { row := walKeepsUptoRow, standIns := [], harness := (true, "09334c607a3051a7bca1d3f13543c7653f1c5ead3ff4a5f454c0a923c09a7b8e"), looks := false }, kinds := [], alts := [], laidByText := true, laidKinds := [.data], laidTests := true, laidLooks := .later }
def WalKeepsUptoCardSaid : Prop := Claim7.holds Tryd.pinned (.plain (OpenSpec.upto walKeepsSpec)) walKeepsUptoCard
end Rows
end Go.Proofs.YtdpfigkjkjjedaaDoor
