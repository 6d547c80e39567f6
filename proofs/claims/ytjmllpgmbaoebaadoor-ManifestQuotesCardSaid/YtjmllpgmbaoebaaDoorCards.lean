/-
  DERIVED. GIVEN WITH THE SEED: THE CARDS: each row of YtjmllpgmbaoebaaDoorRows.lean that lists a variable, with what it lists TIED to the program's text (the seventh form; the later family's looks); each row that meets fmt, with fmt's text TOLD by the authors' own Lean function (tested against real Go, not proved from fmt's source: count such statements apart). THE CARD IS WHAT COUNTS. Prove the row's statement (the work); the ties are given (YtjmllpgmbaoebaaDoorTie.lean); close each card by the builder's one call (the guide's Derived/Test/ToyasCard.lean, 'card_holds'). Laid BY PROGRAM, IN A SANDBOX (cutbox-door.mjs). By AI agents, Wed Nov 11 2026. No macro, syntax, notation, axiom, sorry.
-/
import Derived.Test.YtjmllpgmbaoebaaDoorRows
import GoSem.ClaimSeven
namespace Go.Proofs.YtjmllpgmbaoebaaDoor
namespace Rows

/-- THE TIED CARD OF 'armariumlaw20.FoldBuilds'. -/
def foldBuildsCard : Claim7 := { stood := { row := foldBuildsRow, standIns := [], harness := (true, "e676d3a71aa62c5dc582dfc4bd1606307613bc0392cf856e805ed55d55099d24"), looks := false }, kinds := [], alts := [], laidByText := true, laidKinds := [.data, .pinned], laidTests := true, laidLooks := .later }
def FoldBuildsCardSaid : Prop := Claim7.holds Tryd.pinned (.plain (OpenSpec.ofChange foldBuildsSpec)) foldBuildsCard

/-- THE TIED CARD OF 'armariumlaw20.FoldBack'. -/
def foldBackCard : Claim7 := { stood := { row := foldBackRow, standIns := [], harness := (true, "e676d3a71aa62c5dc582dfc4bd1606307613bc0392cf856e805ed55d55099d24"), looks := false }, kinds := [], alts := [], laidByText := true, laidKinds := [.data, .pinned], laidTests := true, laidLooks := .later }
def FoldBackCardSaid : Prop := Claim7.holds Tryd.pinned (.plain (OpenSpec.ofChange foldBackSpec)) foldBackCard

/-- THE TIED CARD OF 'armariumlaw30.ManifestQuotes'. -/
def manifestQuotesCard : Claim7 := { stood := { row := manifestQuotesRow, standIns := [], harness := (true, "e676d3a71aa62c5dc582dfc4bd1606307613bc0392cf856e805ed55d55099d24"), looks := false }, kinds := [], alts := [], laidByText := true, laidKinds := [.data, .pinned], laidTests := true, laidLooks := .later }
def ManifestQuotesCardSaid : Prop := Claim7.holds Tryd.pinned (.plain (OpenSpec.ofChange manifestQuotesSpec)) manifestQuotesCard

/-- THE TIED CARD OF 'armariumlaw30.ManifestBack'. -/
def manifestBackCard : Claim7 := { stood := { row := manifestBackRow, standIns := [], harness := (true, "e676d3a71aa62c5dc582dfc4bd1606307613bc0392cf856e805ed55d55099d24"), looks := false }, kinds := [], alts := [], laidByText := true, laidKinds := [.data, .pinned], laidTests := true, laidLooks := .later }
def ManifestBackCardSaid : Prop := Claim7.holds Tryd.pinned (.plain (OpenSpec.ofChange manifestBackSpec)) manifestBackCard

/-- THE TIED CARD OF 'armariumlaw30.ManifestPlain'. -/
def manifestPlainCard : Claim7 := { stood := { row := manifestPlainRow, standIns := [], harness := (true, "e676d3a71aa62c5dc582dfc4bd1606307613bc0392cf856e805ed55d55099d24"), looks := false }, kinds := [], alts := [], laidByText := true, laidKinds := [.data, .pinned], laidTests := true, laidLooks := .later }
def ManifestPlainCardSaid : Prop := Claim7.holds Tryd.pinned (.plain (OpenSpec.ofChange manifestPlainSpec)) manifestPlainCard

/-- THE SECOND FORM's CARD OF 'armariumlaw20.FoldBuilds'. -/
def foldBuildsUptoCard : Claim7 := { stood := { row := foldBuildsUptoRow, standIns := [], harness := (true, "e676d3a71aa62c5dc582dfc4bd1606307613bc0392cf856e805ed55d55099d24"), looks := false }, kinds := [], alts := [], laidByText := true, laidKinds := [.data, .pinned], laidTests := true, laidLooks := .later }
def FoldBuildsUptoCardSaid : Prop := Claim7.holds Tryd.pinned (.plain (OpenSpec.upto foldBuildsSpec)) foldBuildsUptoCard

/-- THE SECOND FORM's CARD OF 'armariumlaw20.FoldBack'. -/
def foldBackUptoCard : Claim7 := { stood := { row := foldBackUptoRow, standIns := [], harness := (true, "e676d3a71aa62c5dc582dfc4bd1606307613bc0392cf856e805ed55d55099d24"), looks := false }, kinds := [], alts := [], laidByText := true, laidKinds := [.data, .pinned], laidTests := true, laidLooks := .later }
def FoldBackUptoCardSaid : Prop := Claim7.holds Tryd.pinned (.plain (OpenSpec.upto foldBackSpec)) foldBackUptoCard

/-- THE SECOND FORM's CARD OF 'armariumlaw30.ManifestQuotes'. -/
def manifestQuotesUptoCard : Claim7 := { stood := { row := manifestQuotesUptoRow, standIns := [], harness := (true, "e676d3a71aa62c5dc582dfc4bd1606307613bc0392cf856e805ed55d55099d24"), looks := false }, kinds := [], alts := [], laidByText := true, laidKinds := [.data, .pinned], laidTests := true, laidLooks := .later }
def ManifestQuotesUptoCardSaid : Prop := Claim7.holds Tryd.pinned (.plain (OpenSpec.upto manifestQuotesSpec)) manifestQuotesUptoCard

/-- THE SECOND FORM's CARD OF 'armariumlaw30.ManifestBack'. -/
def manifestBackUptoCard : Claim7 := { stood := { row := manifestBackUptoRow, standIns := [], harness := (true, "e676d3a71aa62c5dc582dfc4bd1606307613bc0392cf856e805ed55d55099d24"), looks := false }, kinds := [], alts := [], laidByText := true, laidKinds := [.data, .pinned], laidTests := true, laidLooks := .later }
def ManifestBackUptoCardSaid : Prop := Claim7.holds Tryd.pinned (.plain (OpenSpec.upto manifestBackSpec)) manifestBackUptoCard

/-- THE SECOND FORM's CARD OF 'armariumlaw30.ManifestPlain'. -/
def manifestPlainUptoCard : Claim7 := { stood := { row := manifestPlainUptoRow, standIns := [], harness := (true, "e676d3a71aa62c5dc582dfc4bd1606307613bc0392cf856e805ed55d55099d24"), looks := false }, kinds := [], alts := [], laidByText := true, laidKinds := [.data, .pinned], laidTests := true, laidLooks := .later }
def ManifestPlainUptoCardSaid : Prop := Claim7.holds Tryd.pinned (.plain (OpenSpec.upto manifestPlainSpec)) manifestPlainUptoCard
end Rows
end Go.Proofs.YtjmllpgmbaoebaaDoor
