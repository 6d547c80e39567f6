/-
  DERIVED. GIVEN WITH THE SEED: THE CARDS: each row of YtjdignaddfhohaaDoorRows.lean that lists a variable, with what it lists TIED to the program's text (the seventh form; the later family's looks); each row that meets fmt, with fmt's text TOLD by the authors' own Lean function (tested against real Go, not proved from fmt's source: count such statements apart). THE CARD IS WHAT COUNTS. Prove the row's statement (the work); the ties are given (YtjdignaddfhohaaDoorTie.lean); close each card by the builder's one call (the guide's Derived/Test/ToyasCard.lean, 'card_holds'). Laid BY PROGRAM, IN A SANDBOX (cutbox-door.mjs). By AI agents, Wed Nov 11 2026. No macro, syntax, notation, axiom, sorry.
-/
import Derived.Test.YtjdignaddfhohaaDoorRows
import GoSem.ClaimSeven
namespace Go.Proofs.YtjdignaddfhohaaDoor
namespace Rows

/-- THE TIED CARD OF 'armariumlaw29.MergeChooses'. -/
def mergeChoosesCard : Claim7 := { stood := { row := mergeChoosesRow, standIns := [], harness := (true, "a1e4853ca7d0b82fd723faeefc50fafd44b139701dd336f8ae5368cd67b76d41"), looks := false }, kinds := [], alts := [], laidByText := true, laidKinds := [.data, .pinned], laidTests := true, laidLooks := .later }
def MergeChoosesCardSaid : Prop := Claim7.holds Tryd.pinned (.plain (OpenSpec.ofChange mergeChoosesSpec)) mergeChoosesCard

/-- THE TIED CARD OF 'armariumlaw29.MergeOne'. -/
def mergeOneCard : Claim7 := { stood := { row := mergeOneRow, standIns := [], harness := (true, "a1e4853ca7d0b82fd723faeefc50fafd44b139701dd336f8ae5368cd67b76d41"), looks := false }, kinds := [], alts := [], laidByText := true, laidKinds := [.data, .pinned], laidTests := true, laidLooks := .later }
def MergeOneCardSaid : Prop := Claim7.holds Tryd.pinned (.plain (OpenSpec.ofChange mergeOneSpec)) mergeOneCard

/-- THE TIED CARD OF 'armariumlaw29.MergeTwice'. -/
def mergeTwiceCard : Claim7 := { stood := { row := mergeTwiceRow, standIns := [], harness := (true, "a1e4853ca7d0b82fd723faeefc50fafd44b139701dd336f8ae5368cd67b76d41"), looks := false }, kinds := [], alts := [], laidByText := true, laidKinds := [.data, .pinned], laidTests := true, laidLooks := .later }
def MergeTwiceCardSaid : Prop := Claim7.holds Tryd.pinned (.plain (OpenSpec.ofChange mergeTwiceSpec)) mergeTwiceCard

/-- THE TIED CARD OF 'armariumlaw29.MergeSides'. -/
def mergeSidesCard : Claim7 := { stood := { row := mergeSidesRow, standIns := [], harness := (true, "a1e4853ca7d0b82fd723faeefc50fafd44b139701dd336f8ae5368cd67b76d41"), looks := false }, kinds := [], alts := [], laidByText := true, laidKinds := [.data, .pinned], laidTests := true, laidLooks := .later }
def MergeSidesCardSaid : Prop := Claim7.holds Tryd.pinned (.plain (OpenSpec.ofChange mergeSidesSpec)) mergeSidesCard

/-- THE SECOND FORM's CARD OF 'armariumlaw29.MergeChooses'. -/
def mergeChoosesUptoCard : Claim7 := { stood := { row := mergeChoosesUptoRow, standIns := [], harness := (true, "a1e4853ca7d0b82fd723faeefc50fafd44b139701dd336f8ae5368cd67b76d41"), looks := false }, kinds := [], alts := [], laidByText := true, laidKinds := [.data, .pinned], laidTests := true, laidLooks := .later }
def MergeChoosesUptoCardSaid : Prop := Claim7.holds Tryd.pinned (.plain (OpenSpec.upto mergeChoosesSpec)) mergeChoosesUptoCard

/-- THE SECOND FORM's CARD OF 'armariumlaw29.MergeOne'. -/
def mergeOneUptoCard : Claim7 := { stood := { row := mergeOneUptoRow, standIns := [], harness := (true, "a1e4853ca7d0b82fd723faeefc50fafd44b139701dd336f8ae5368cd67b76d41"), looks := false }, kinds := [], alts := [], laidByText := true, laidKinds := [.data, .pinned], laidTests := true, laidLooks := .later }
def MergeOneUptoCardSaid : Prop := Claim7.holds Tryd.pinned (.plain (OpenSpec.upto mergeOneSpec)) mergeOneUptoCard

/-- THE SECOND FORM's CARD OF 'armariumlaw29.MergeTwice'. -/
def mergeTwiceUptoCard : Claim7 := { stood := { row := mergeTwiceUptoRow, standIns := [], harness := (true, "a1e4853ca7d0b82fd723faeefc50fafd44b139701dd336f8ae5368cd67b76d41"), looks := false }, kinds := [], alts := [], laidByText := true, laidKinds := [.data, .pinned], laidTests := true, laidLooks := .later }
def MergeTwiceUptoCardSaid : Prop := Claim7.holds Tryd.pinned (.plain (OpenSpec.upto mergeTwiceSpec)) mergeTwiceUptoCard

/-- THE SECOND FORM's CARD OF 'armariumlaw29.MergeSides'. -/
def mergeSidesUptoCard : Claim7 := { stood := { row := mergeSidesUptoRow, standIns := [], harness := (true, "a1e4853ca7d0b82fd723faeefc50fafd44b139701dd336f8ae5368cd67b76d41"), looks := false }, kinds := [], alts := [], laidByText := true, laidKinds := [.data, .pinned], laidTests := true, laidLooks := .later }
def MergeSidesUptoCardSaid : Prop := Claim7.holds Tryd.pinned (.plain (OpenSpec.upto mergeSidesSpec)) mergeSidesUptoCard
end Rows
end Go.Proofs.YtjdignaddfhohaaDoor
