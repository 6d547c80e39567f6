/-
  NARROWER THAN 'FOR EVERY INPUT', by the rows' own cells (each row's printed sentence says how): SheetPuts: laid · SheetCuts: laid · SheetBack: laid · RecordSeals: laid · RecordBack: laid · WalNil: laid · WalKeeps: laid.
  DERIVED. THE GIVEN ROWS OF THIS SEAT. 7 by the template 'for every input the law returns true; each argument reads behind the call as it read before'; 0 by the template 'total and deterministic' (their statements: YtdpfigkjkjjedaaDoorTotals.lean).
  GIVEN WITH THE SEED: the statements are not yours to turn. If you find one false, say at which input.
  Laid BY PROGRAM, IN A SANDBOX (cutbox-rows.mjs): the forced cells as the released guide's own fill.sh prints them over the translation d09be62113615208… (all of the seat's roots in one cut). By AI agents, Wed Nov 11 2026. No macro, syntax, notation, axiom, sorry.
-/
import Derived.Test.YtdpfigkjkjjedaaDoorChecked
import GoSem.Claim
import GoSem.ClaimJoined
import GoSem.ClaimMapViews
import Derived.JoinedTies
import Derived.KernelRfl
namespace Go.Proofs.YtdpfigkjkjjedaaDoor
/- THE CELL 'sum', in the pinned program and in every row, IS THE sha256 OF THE DUMP (.gsa) THAT YtdpfigkjkjjedaaDoorProg.lean LOADS. Nothing in Lean hashes anything: it is a label: what it is worth is what the hold of that sum in a sandbox is worth. -/
noncomputable def Tryd.pinned : Pinned := { name := "ytdpfigkjkjjedaadoor", sum := "d09be621136152080c695a0a41e7ecf4d8389f45d8454e50170dc31734c646f4", checked := Tryd.checked }
namespace Rows
def none {H : Type} : Left H := { results := [], args := [] }

/- WHAT THE LISTED PACKAGE-LEVEL VARIABLES READ AS WHEN THE CALL BEGINS. Each datum BY PROGRAM (the guide's laid-datum.mjs) off the statement by which the dump's own 'gosem.cut.vars' lays the variable. In a bare row this is a premise. The card (YtdpfigkjkjjedaaDoorCards.lean) ties it to the program's text. -/
def laid_armarium_crc_halves {H : Type} : DataW H := .agg [.lit (.int .u32 0), .lit (.int .u32 274646895), .lit (.int .u32 549293790), .lit (.int .u32 820201905), .lit (.int .u32 1098587580), .lit (.int .u32 1361435347), .lit (.int .u32 1640403810), .lit (.int .u32 1905808397), .lit (.int .u32 2197175160), .lit (.int .u32 2460548119), .lit (.int .u32 2722870694), .lit (.int .u32 2987750089), .lit (.int .u32 3280807620), .lit (.int .u32 3553878443), .lit (.int .u32 3811616794), .lit (.int .u32 4084100981)]

/-- 'armariumlaw05.SheetPuts': WHATEVER THE INPUT: true; the input reads as it did. -/
def sheetPutsSpec : ChangeSpec := { name := "sheetPuts", fn := fun _ => fun
  | [d1, d2] => { results := [.lit (.bool true)], args := [d1, d2] }
  | _ => none }
def sheetPutsRow : OpenClaim := { program := "ytdpfigkjkjjedaadoor", sum := "d09be621136152080c695a0a41e7ecf4d8389f45d8454e50170dc31734c646f4", func := "armarium/armariumlaw05.SheetPuts", spec := "sheetPuts", inPlace := ["internal/abi.NoEscape", "internal/bytealg.MakeNoZero"], unfollowed := true, recurses := true, named := ["armarium/crc.halves"], apart := false, laid := [("armarium/crc.halves", laid_armarium_crc_halves)] }
def SheetPutsSaid : Prop := sheetPutsRow.holds Tryd.pinned (OpenSpec.ofChange sheetPutsSpec)

/-- ITS FALSE NEIGHBOUR: 'it returns false'. Refute it at one input. -/
def sheetPutsWrong : ChangeSpec := { name := "sheetPuts", fn := fun _ => fun
  | [d1, d2] => { results := [.lit (.bool false)], args := [d1, d2] }
  | _ => none }
def SheetPutsWrongFalsely : Prop := sheetPutsRow.holds Tryd.pinned (OpenSpec.ofChange sheetPutsWrong)

/-- 'armariumlaw05.SheetCuts': WHATEVER THE INPUT: true; the input reads as it did. -/
def sheetCutsSpec : ChangeSpec := { name := "sheetCuts", fn := fun _ => fun
  | [d1, d2, d3] => { results := [.lit (.bool true)], args := [d1, d2, d3] }
  | _ => none }
def sheetCutsRow : OpenClaim := { program := "ytdpfigkjkjjedaadoor", sum := "d09be621136152080c695a0a41e7ecf4d8389f45d8454e50170dc31734c646f4", func := "armarium/armariumlaw05.SheetCuts", spec := "sheetCuts", inPlace := ["internal/abi.NoEscape", "internal/bytealg.MakeNoZero"], unfollowed := true, recurses := true, named := ["armarium/crc.halves"], apart := false, laid := [("armarium/crc.halves", laid_armarium_crc_halves)] }
def SheetCutsSaid : Prop := sheetCutsRow.holds Tryd.pinned (OpenSpec.ofChange sheetCutsSpec)

/-- ITS FALSE NEIGHBOUR: 'it returns false'. Refute it at one input. -/
def sheetCutsWrong : ChangeSpec := { name := "sheetCuts", fn := fun _ => fun
  | [d1, d2, d3] => { results := [.lit (.bool false)], args := [d1, d2, d3] }
  | _ => none }
def SheetCutsWrongFalsely : Prop := sheetCutsRow.holds Tryd.pinned (OpenSpec.ofChange sheetCutsWrong)

/-- 'armariumlaw05.SheetBack': WHATEVER THE INPUT: true; the input reads as it did. -/
def sheetBackSpec : ChangeSpec := { name := "sheetBack", fn := fun _ => fun
  | [d1, d2, d3, d4, d5] => { results := [.lit (.bool true)], args := [d1, d2, d3, d4, d5] }
  | _ => none }
def sheetBackRow : OpenClaim := { program := "ytdpfigkjkjjedaadoor", sum := "d09be621136152080c695a0a41e7ecf4d8389f45d8454e50170dc31734c646f4", func := "armarium/armariumlaw05.SheetBack", spec := "sheetBack", inPlace := ["internal/abi.NoEscape", "internal/bytealg.MakeNoZero"], unfollowed := true, recurses := true, named := ["armarium/crc.halves"], apart := false, laid := [("armarium/crc.halves", laid_armarium_crc_halves)] }
def SheetBackSaid : Prop := sheetBackRow.holds Tryd.pinned (OpenSpec.ofChange sheetBackSpec)

/-- ITS FALSE NEIGHBOUR: 'it returns false'. Refute it at one input. -/
def sheetBackWrong : ChangeSpec := { name := "sheetBack", fn := fun _ => fun
  | [d1, d2, d3, d4, d5] => { results := [.lit (.bool false)], args := [d1, d2, d3, d4, d5] }
  | _ => none }
def SheetBackWrongFalsely : Prop := sheetBackRow.holds Tryd.pinned (OpenSpec.ofChange sheetBackWrong)

/-- 'armariumlaw13.RecordSeals': WHATEVER THE INPUT: true; the input reads as it did. -/
def recordSealsSpec : ChangeSpec := { name := "recordSeals", fn := fun _ => fun
  | [d1, d2, d3] => { results := [.lit (.bool true)], args := [d1, d2, d3] }
  | _ => none }
def recordSealsRow : OpenClaim := { program := "ytdpfigkjkjjedaadoor", sum := "d09be621136152080c695a0a41e7ecf4d8389f45d8454e50170dc31734c646f4", func := "armarium/armariumlaw13.RecordSeals", spec := "recordSeals", inPlace := ["internal/abi.NoEscape", "internal/bytealg.MakeNoZero"], unfollowed := true, recurses := true, named := ["armarium/crc.halves"], apart := false, laid := [("armarium/crc.halves", laid_armarium_crc_halves)] }
def RecordSealsSaid : Prop := recordSealsRow.holds Tryd.pinned (OpenSpec.ofChange recordSealsSpec)

/-- ITS FALSE NEIGHBOUR: 'it returns false'. Refute it at one input. -/
def recordSealsWrong : ChangeSpec := { name := "recordSeals", fn := fun _ => fun
  | [d1, d2, d3] => { results := [.lit (.bool false)], args := [d1, d2, d3] }
  | _ => none }
def RecordSealsWrongFalsely : Prop := recordSealsRow.holds Tryd.pinned (OpenSpec.ofChange recordSealsWrong)

/-- 'armariumlaw13.RecordBack': WHATEVER THE INPUT: true; the input reads as it did. -/
def recordBackSpec : ChangeSpec := { name := "recordBack", fn := fun _ => fun
  | [d1, d2, d3, d4, d5] => { results := [.lit (.bool true)], args := [d1, d2, d3, d4, d5] }
  | _ => none }
def recordBackRow : OpenClaim := { program := "ytdpfigkjkjjedaadoor", sum := "d09be621136152080c695a0a41e7ecf4d8389f45d8454e50170dc31734c646f4", func := "armarium/armariumlaw13.RecordBack", spec := "recordBack", inPlace := ["internal/abi.NoEscape", "internal/bytealg.MakeNoZero"], unfollowed := true, recurses := true, named := ["armarium/crc.halves"], apart := false, laid := [("armarium/crc.halves", laid_armarium_crc_halves)] }
def RecordBackSaid : Prop := recordBackRow.holds Tryd.pinned (OpenSpec.ofChange recordBackSpec)

/-- ITS FALSE NEIGHBOUR: 'it returns false'. Refute it at one input. -/
def recordBackWrong : ChangeSpec := { name := "recordBack", fn := fun _ => fun
  | [d1, d2, d3, d4, d5] => { results := [.lit (.bool false)], args := [d1, d2, d3, d4, d5] }
  | _ => none }
def RecordBackWrongFalsely : Prop := recordBackRow.holds Tryd.pinned (OpenSpec.ofChange recordBackWrong)

/-- 'armariumlaw06.WalNil': WHATEVER THE INPUT: true; the input reads as it did. -/
def walNilSpec : ChangeSpec := { name := "walNil", fn := fun _ => fun
  | [d1, d2] => { results := [.lit (.bool true)], args := [d1, d2] }
  | _ => none }
def walNilRow : OpenClaim := { program := "ytdpfigkjkjjedaadoor", sum := "d09be621136152080c695a0a41e7ecf4d8389f45d8454e50170dc31734c646f4", func := "armarium/armariumlaw06.WalNil", spec := "walNil", inPlace := ["internal/abi.NoEscape", "internal/bytealg.MakeNoZero"], unfollowed := true, recurses := true, named := ["armarium/crc.halves"], apart := false, laid := [("armarium/crc.halves", laid_armarium_crc_halves)] }
def WalNilSaid : Prop := walNilRow.holds Tryd.pinned (OpenSpec.ofChange walNilSpec)

/-- ITS FALSE NEIGHBOUR: 'it returns false'. Refute it at one input. -/
def walNilWrong : ChangeSpec := { name := "walNil", fn := fun _ => fun
  | [d1, d2] => { results := [.lit (.bool false)], args := [d1, d2] }
  | _ => none }
def WalNilWrongFalsely : Prop := walNilRow.holds Tryd.pinned (OpenSpec.ofChange walNilWrong)

/-- 'armariumlaw06.WalKeeps': WHATEVER THE INPUT: true; the input reads as it did. -/
def walKeepsSpec : ChangeSpec := { name := "walKeeps", fn := fun _ => fun
  | [d1, d2] => { results := [.lit (.bool true)], args := [d1, d2] }
  | _ => none }
def walKeepsRow : OpenClaim := { program := "ytdpfigkjkjjedaadoor", sum := "d09be621136152080c695a0a41e7ecf4d8389f45d8454e50170dc31734c646f4", func := "armarium/armariumlaw06.WalKeeps", spec := "walKeeps", inPlace := ["internal/abi.NoEscape", "internal/bytealg.MakeNoZero"], unfollowed := true, recurses := true, named := ["armarium/crc.halves"], apart := false, laid := [("armarium/crc.halves", laid_armarium_crc_halves)] }
def WalKeepsSaid : Prop := walKeepsRow.holds Tryd.pinned (OpenSpec.ofChange walKeepsSpec)

/-- ITS FALSE NEIGHBOUR: 'it returns false'. Refute it at one input. -/
def walKeepsWrong : ChangeSpec := { name := "walKeeps", fn := fun _ => fun
  | [d1, d2] => { results := [.lit (.bool false)], args := [d1, d2] }
  | _ => none }
def WalKeepsWrongFalsely : Prop := walKeepsRow.holds Tryd.pinned (OpenSpec.ofChange walKeepsWrong)

/- THE SECOND FORM. 'bulk': how many values and letters a reading holds, each counted each time it is reached (what is shared counts as often as it is met; a slice's spare places count too). A statement '..UptoSaid' is the law's where the arguments, and the package variables that the reading takes, are together of bulk at most 1048576: NARROWER than '..Said'. Prove '..Said' where nothing that the law and all that it calls make is longer than what came in: it says more and counts as full. Else prove '..UptoSaid'. A law counts once. -/
mutual
def uptoBulk {H : Type} : DataW H → Nat
  | .lit (.string bytes) => bytes.length + 1
  | .lit _ => 1
  | .nil => 1
  | .ptr d => uptoBulk d + 1
  | .slice elems spare => uptoBulkAll elems + uptoBulkAll spare + 1
  | .agg parts => uptoBulkAll parts + 1
  | .iface _ d => uptoBulk d + 1
  | .map entries => uptoBulkEntries entries + 1
  | .held _ => 1
def uptoBulkAll {H : Type} : List (DataW H) → Nat
  | [] => 0
  | d :: r => uptoBulk d + uptoBulkAll r
def uptoBulkEntries {H : Type} : List (Lit × DataW H) → Nat
  | [] => 0
  | x :: r => uptoBulkEntry x + uptoBulkEntries r
def uptoBulkEntry {H : Type} : Lit × DataW H → Nat
  | (.string bytes, d) => bytes.length + uptoBulk d + 1
  | (_, d) => uptoBulk d + 1
 end
def uptoSmall : (H : Type) → List (DataW H) → Bool := fun _ ds => decide (uptoBulkAll ds ≤ 1048576)
def OpenSpec.upto (s : _root_.Go.ChangeSpec) : _root_.Go.OpenSpec := { _root_.Go.OpenSpec.ofChange s with cond := some uptoSmall }

/-- 'armariumlaw05.SheetPuts', WHERE WHAT IT READS IS OF BULK AT MOST 1048576: true; the input reads as it did. -/
def sheetPutsUptoRow : OpenClaim := { program := "ytdpfigkjkjjedaadoor", sum := "d09be621136152080c695a0a41e7ecf4d8389f45d8454e50170dc31734c646f4", func := "armarium/armariumlaw05.SheetPuts", spec := "sheetPuts", inPlace := ["internal/abi.NoEscape", "internal/bytealg.MakeNoZero"], unfollowed := true, recurses := true, named := ["armarium/crc.halves"], apart := false, laid := [("armarium/crc.halves", laid_armarium_crc_halves)], narrowed := true }
def SheetPutsUptoSaid : Prop := sheetPutsUptoRow.holds Tryd.pinned (OpenSpec.upto sheetPutsSpec)

/-- 'armariumlaw05.SheetCuts', WHERE WHAT IT READS IS OF BULK AT MOST 1048576: true; the input reads as it did. -/
def sheetCutsUptoRow : OpenClaim := { program := "ytdpfigkjkjjedaadoor", sum := "d09be621136152080c695a0a41e7ecf4d8389f45d8454e50170dc31734c646f4", func := "armarium/armariumlaw05.SheetCuts", spec := "sheetCuts", inPlace := ["internal/abi.NoEscape", "internal/bytealg.MakeNoZero"], unfollowed := true, recurses := true, named := ["armarium/crc.halves"], apart := false, laid := [("armarium/crc.halves", laid_armarium_crc_halves)], narrowed := true }
def SheetCutsUptoSaid : Prop := sheetCutsUptoRow.holds Tryd.pinned (OpenSpec.upto sheetCutsSpec)

/-- 'armariumlaw05.SheetBack', WHERE WHAT IT READS IS OF BULK AT MOST 1048576: true; the input reads as it did. -/
def sheetBackUptoRow : OpenClaim := { program := "ytdpfigkjkjjedaadoor", sum := "d09be621136152080c695a0a41e7ecf4d8389f45d8454e50170dc31734c646f4", func := "armarium/armariumlaw05.SheetBack", spec := "sheetBack", inPlace := ["internal/abi.NoEscape", "internal/bytealg.MakeNoZero"], unfollowed := true, recurses := true, named := ["armarium/crc.halves"], apart := false, laid := [("armarium/crc.halves", laid_armarium_crc_halves)], narrowed := true }
def SheetBackUptoSaid : Prop := sheetBackUptoRow.holds Tryd.pinned (OpenSpec.upto sheetBackSpec)

/-- 'armariumlaw13.RecordSeals', WHERE WHAT IT READS IS OF BULK AT MOST 1048576: true; the input reads as it did. -/
def recordSealsUptoRow : OpenClaim := { program := "ytdpfigkjkjjedaadoor", sum := "d09be621136152080c695a0a41e7ecf4d8389f45d8454e50170dc31734c646f4", func := "armarium/armariumlaw13.RecordSeals", spec := "recordSeals", inPlace := ["internal/abi.NoEscape", "internal/bytealg.MakeNoZero"], unfollowed := true, recurses := true, named := ["armarium/crc.halves"], apart := false, laid := [("armarium/crc.halves", laid_armarium_crc_halves)], narrowed := true }
def RecordSealsUptoSaid : Prop := recordSealsUptoRow.holds Tryd.pinned (OpenSpec.upto recordSealsSpec)

/-- 'armariumlaw13.RecordBack', WHERE WHAT IT READS IS OF BULK AT MOST 1048576: true; the input reads as it did. -/
def recordBackUptoRow : OpenClaim := { program := "ytdpfigkjkjjedaadoor", sum := "d09be621136152080c695a0a41e7ecf4d8389f45d8454e50170dc31734c646f4", func := "armarium/armariumlaw13.RecordBack", spec := "recordBack", inPlace := ["internal/abi.NoEscape", "internal/bytealg.MakeNoZero"], unfollowed := true, recurses := true, named := ["armarium/crc.halves"], apart := false, laid := [("armarium/crc.halves", laid_armarium_crc_halves)], narrowed := true }
def RecordBackUptoSaid : Prop := recordBackUptoRow.holds Tryd.pinned (OpenSpec.upto recordBackSpec)

/-- 'armariumlaw06.WalNil', WHERE WHAT IT READS IS OF BULK AT MOST 1048576: true; the input reads as it did. -/
def walNilUptoRow : OpenClaim := { program := "ytdpfigkjkjjedaadoor", sum := "d09be621136152080c695a0a41e7ecf4d8389f45d8454e50170dc31734c646f4", func := "armarium/armariumlaw06.WalNil", spec := "walNil", inPlace := ["internal/abi.NoEscape", "internal/bytealg.MakeNoZero"], unfollowed := true, recurses := true, named := ["armarium/crc.halves"], apart := false, laid := [("armarium/crc.halves", laid_armarium_crc_halves)], narrowed := true }
def WalNilUptoSaid : Prop := walNilUptoRow.holds Tryd.pinned (OpenSpec.upto walNilSpec)

/-- 'armariumlaw06.WalKeeps', WHERE WHAT IT READS IS OF BULK AT MOST 1048576: true; the input reads as it did. -/
def walKeepsUptoRow : OpenClaim := { program := "ytdpfigkjkjjedaadoor", sum := "d09be621136152080c695a0a41e7ecf4d8389f45d8454e50170dc31734c646f4", func := "armarium/armariumlaw06.WalKeeps", spec := "walKeeps", inPlace := ["internal/abi.NoEscape", "internal/bytealg.MakeNoZero"], unfollowed := true, recurses := true, named := ["armarium/crc.halves"], apart := false, laid := [("armarium/crc.halves", laid_armarium_crc_halves)], narrowed := true }
def WalKeepsUptoSaid : Prop := walKeepsUptoRow.holds Tryd.pinned (OpenSpec.upto walKeepsSpec)

end Rows
end Go.Proofs.YtdpfigkjkjjedaaDoor
