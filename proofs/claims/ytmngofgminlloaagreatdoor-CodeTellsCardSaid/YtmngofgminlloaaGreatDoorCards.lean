/-
  DERIVED. GIVEN WITH THE SEED: THE CARDS: each row of YtmngofgminlloaaGreatDoorRows.lean that lists a variable, with what it lists TIED to the program's text (the seventh form; the later family's looks); each row that meets fmt, with fmt's text TOLD by the authors' own Lean function (tested against real Go, not proved from fmt's source: count such statements apart). THE CARD IS WHAT COUNTS. Prove the row's statement (the work); the ties are given (YtmngofgminlloaaGreatDoorTie.lean); close each card by the builder's one call (the guide's Derived/Test/ToyasCard.lean, 'card_holds'). Laid BY PROGRAM, IN A SANDBOX (cutbox-door.mjs). By AI agents, Wed Nov 11 2026. No macro, syntax, notation, axiom, sorry.
-/
import Derived.Test.YtmngofgminlloaaGreatDoorRows
import GoSem.ClaimSeven
namespace Go.Proofs.YtmngofgminlloaaGreatDoor
namespace Rows

/-- THE TIED CARD OF 'tourlaw5.ParsePrints'. -/
def parsePrintsCard : Claim7 := { stood := { row := parsePrintsRow, standIns := [], harness := (true, "927d6b63b338232549856b2600b207b8f35beedab55975acef0c13d03cee21d6"), looks := true }, kinds := [], alts := [], laidByText := true, laidKinds := [.data, .data, .data, .data, .sentinel, .sentinel, .listed, .data, .pinned], laidTests := true, laidLooks := .later }
def ParsePrintsCardSaid : Prop := Claim7.holds Tryz.pinned (.plain (OpenSpec.ofChange parsePrintsSpec)) parsePrintsCard

/-- THE TIED CARD OF 'tourlaw5.TypesTell'. -/
def typesTellCard : Claim7 := { stood := { row := typesTellRow, standIns := [], harness := (true, "927d6b63b338232549856b2600b207b8f35beedab55975acef0c13d03cee21d6"), looks := true }, kinds := [], alts := [], laidByText := true, laidKinds := [.data, .data, .data, .data, .sentinel, .sentinel, .listed, .data, .pinned], laidTests := true, laidLooks := .later }
def TypesTellCardSaid : Prop := Claim7.holds Tryz.pinned (.plain (OpenSpec.ofChange typesTellSpec)) typesTellCard

/-- THE TIED CARD OF 'tourlaw5.TypesScripts'. -/
def typesScriptsCard : Claim7 := { stood := { row := typesScriptsRow, standIns := [], harness := (true, "927d6b63b338232549856b2600b207b8f35beedab55975acef0c13d03cee21d6"), looks := true }, kinds := [], alts := [], laidByText := true, laidKinds := [.data, .data, .data, .data, .sentinel, .sentinel, .listed, .data, .pinned], laidTests := true, laidLooks := .later }
def TypesScriptsCardSaid : Prop := Claim7.holds Tryz.pinned (.plain (OpenSpec.ofChange typesScriptsSpec)) typesScriptsCard

/-- THE TIED CARD OF 'tourlaw5.ParseTells'. -/
def parseTellsCard : Claim7 := { stood := { row := parseTellsRow, standIns := [], harness := (true, "927d6b63b338232549856b2600b207b8f35beedab55975acef0c13d03cee21d6"), looks := true }, kinds := [], alts := [], laidByText := true, laidKinds := [.data, .data, .data, .data, .sentinel, .sentinel, .listed, .data, .pinned], laidTests := true, laidLooks := .later }
def ParseTellsCardSaid : Prop := Claim7.holds Tryz.pinned (.plain (OpenSpec.ofChange parseTellsSpec)) parseTellsCard

/-- THE TIED CARD OF 'tourlaw5.ParseScripts'. -/
def parseScriptsCard : Claim7 := { stood := { row := parseScriptsRow, standIns := [], harness := (true, "927d6b63b338232549856b2600b207b8f35beedab55975acef0c13d03cee21d6"), looks := true }, kinds := [], alts := [], laidByText := true, laidKinds := [.data, .data, .data, .data, .sentinel, .sentinel, .listed, .data, .pinned], laidTests := true, laidLooks := .later }
def ParseScriptsCardSaid : Prop := Claim7.holds Tryz.pinned (.plain (OpenSpec.ofChange parseScriptsSpec)) parseScriptsCard

/-- THE TIED CARD OF 'tourkeep5.TypesNames'. -/
def typesNamesCard : Claim7 := { stood := { row := typesNamesRow, standIns := [], harness := (true, "927d6b63b338232549856b2600b207b8f35beedab55975acef0c13d03cee21d6"), looks := true }, kinds := [], alts := [], laidByText := true, laidKinds := [.data, .data, .data, .data, .sentinel, .sentinel, .listed, .data, .pinned], laidTests := true, laidLooks := .later }
def TypesNamesCardSaid : Prop := Claim7.holds Tryz.pinned (.plain (OpenSpec.ofChange typesNamesSpec)) typesNamesCard

/-- THE TIED CARD OF 'tourlaw5.CodeTells'. -/
def codeTellsCard : Claim7 := { stood := { row := codeTellsRow, standIns := [], harness := (true, "927d6b63b338232549856b2600b207b8f35beedab55975acef0c13d03cee21d6"), looks := true }, kinds := [], alts := [], laidByText := true, laidKinds := [.data, .data, .data, .data, .sentinel, .sentinel, .listed, .data, .pinned], laidTests := true, laidLooks := .later }
def CodeTellsCardSaid : Prop := Claim7.holds Tryz.pinned (.plain (OpenSpec.ofChange codeTellsSpec)) codeTellsCard

/-- THE TIED CARD OF 'tourlaw5.VmStarts'. -/
def vmStartsCard : Claim7 := { stood := { row := vmStartsRow, standIns := [], harness := (true, "927d6b63b338232549856b2600b207b8f35beedab55975acef0c13d03cee21d6"), looks := true }, kinds := [], alts := [], laidByText := true, laidKinds := [.data, .data, .data, .data, .sentinel, .sentinel, .listed, .data, .pinned], laidTests := true, laidLooks := .later }
def VmStartsCardSaid : Prop := Claim7.holds Tryz.pinned (.plain (OpenSpec.ofChange vmStartsSpec)) vmStartsCard

/-- THE TIED CARD OF 'tourlaw5.CoTells'. -/
def coTellsCard : Claim7 := { stood := { row := coTellsRow, standIns := [], harness := (true, "927d6b63b338232549856b2600b207b8f35beedab55975acef0c13d03cee21d6"), looks := true }, kinds := [], alts := [], laidByText := true, laidKinds := [.data, .data, .data, .data, .sentinel, .sentinel, .listed, .data, .pinned], laidTests := true, laidLooks := .later }
def CoTellsCardSaid : Prop := Claim7.holds Tryz.pinned (.plain (OpenSpec.ofChange coTellsSpec)) coTellsCard

/-- THE SECOND FORM's CARD OF 'tourlaw5.ParsePrints'. -/
def parsePrintsUptoCard : Claim7 := { stood := { row := parsePrintsUptoRow, standIns := [], harness := (true, "927d6b63b338232549856b2600b207b8f35beedab55975acef0c13d03cee21d6"), looks := true }, kinds := [], alts := [], laidByText := true, laidKinds := [.data, .data, .data, .data, .sentinel, .sentinel, .listed, .data, .pinned], laidTests := true, laidLooks := .later }
def ParsePrintsUptoCardSaid : Prop := Claim7.holds Tryz.pinned (.plain (OpenSpec.upto parsePrintsSpec)) parsePrintsUptoCard

/-- THE SECOND FORM's CARD OF 'tourlaw5.TypesTell'. -/
def typesTellUptoCard : Claim7 := { stood := { row := typesTellUptoRow, standIns := [], harness := (true, "927d6b63b338232549856b2600b207b8f35beedab55975acef0c13d03cee21d6"), looks := true }, kinds := [], alts := [], laidByText := true, laidKinds := [.data, .data, .data, .data, .sentinel, .sentinel, .listed, .data, .pinned], laidTests := true, laidLooks := .later }
def TypesTellUptoCardSaid : Prop := Claim7.holds Tryz.pinned (.plain (OpenSpec.upto typesTellSpec)) typesTellUptoCard

/-- THE SECOND FORM's CARD OF 'tourlaw5.TypesScripts'. -/
def typesScriptsUptoCard : Claim7 := { stood := { row := typesScriptsUptoRow, standIns := [], harness := (true, "927d6b63b338232549856b2600b207b8f35beedab55975acef0c13d03cee21d6"), looks := true }, kinds := [], alts := [], laidByText := true, laidKinds := [.data, .data, .data, .data, .sentinel, .sentinel, .listed, .data, .pinned], laidTests := true, laidLooks := .later }
def TypesScriptsUptoCardSaid : Prop := Claim7.holds Tryz.pinned (.plain (OpenSpec.upto typesScriptsSpec)) typesScriptsUptoCard

/-- THE SECOND FORM's CARD OF 'tourlaw5.ParseTells'. -/
def parseTellsUptoCard : Claim7 := { stood := { row := parseTellsUptoRow, standIns := [], harness := (true, "927d6b63b338232549856b2600b207b8f35beedab55975acef0c13d03cee21d6"), looks := true }, kinds := [], alts := [], laidByText := true, laidKinds := [.data, .data, .data, .data, .sentinel, .sentinel, .listed, .data, .pinned], laidTests := true, laidLooks := .later }
def ParseTellsUptoCardSaid : Prop := Claim7.holds Tryz.pinned (.plain (OpenSpec.upto parseTellsSpec)) parseTellsUptoCard

/-- THE SECOND FORM's CARD OF 'tourlaw5.ParseScripts'. -/
def parseScriptsUptoCard : Claim7 := { stood := { row := parseScriptsUptoRow, standIns := [], harness := (true, "927d6b63b338232549856b2600b207b8f35beedab55975acef0c13d03cee21d6"), looks := true }, kinds := [], alts := [], laidByText := true, laidKinds := [.data, .data, .data, .data, .sentinel, .sentinel, .listed, .data, .pinned], laidTests := true, laidLooks := .later }
def ParseScriptsUptoCardSaid : Prop := Claim7.holds Tryz.pinned (.plain (OpenSpec.upto parseScriptsSpec)) parseScriptsUptoCard

/-- THE SECOND FORM's CARD OF 'tourkeep5.TypesNames'. -/
def typesNamesUptoCard : Claim7 := { stood := { row := typesNamesUptoRow, standIns := [], harness := (true, "927d6b63b338232549856b2600b207b8f35beedab55975acef0c13d03cee21d6"), looks := true }, kinds := [], alts := [], laidByText := true, laidKinds := [.data, .data, .data, .data, .sentinel, .sentinel, .listed, .data, .pinned], laidTests := true, laidLooks := .later }
def TypesNamesUptoCardSaid : Prop := Claim7.holds Tryz.pinned (.plain (OpenSpec.upto typesNamesSpec)) typesNamesUptoCard

/-- THE SECOND FORM's CARD OF 'tourlaw5.CodeTells'. -/
def codeTellsUptoCard : Claim7 := { stood := { row := codeTellsUptoRow, standIns := [], harness := (true, "927d6b63b338232549856b2600b207b8f35beedab55975acef0c13d03cee21d6"), looks := true }, kinds := [], alts := [], laidByText := true, laidKinds := [.data, .data, .data, .data, .sentinel, .sentinel, .listed, .data, .pinned], laidTests := true, laidLooks := .later }
def CodeTellsUptoCardSaid : Prop := Claim7.holds Tryz.pinned (.plain (OpenSpec.upto codeTellsSpec)) codeTellsUptoCard

/-- THE SECOND FORM's CARD OF 'tourlaw5.VmStarts'. -/
def vmStartsUptoCard : Claim7 := { stood := { row := vmStartsUptoRow, standIns := [], harness := (true, "927d6b63b338232549856b2600b207b8f35beedab55975acef0c13d03cee21d6"), looks := true }, kinds := [], alts := [], laidByText := true, laidKinds := [.data, .data, .data, .data, .sentinel, .sentinel, .listed, .data, .pinned], laidTests := true, laidLooks := .later }
def VmStartsUptoCardSaid : Prop := Claim7.holds Tryz.pinned (.plain (OpenSpec.upto vmStartsSpec)) vmStartsUptoCard

/-- THE SECOND FORM's CARD OF 'tourlaw5.CoTells'. -/
def coTellsUptoCard : Claim7 := { stood := { row := coTellsUptoRow, standIns := [], harness := (true, "927d6b63b338232549856b2600b207b8f35beedab55975acef0c13d03cee21d6"), looks := true }, kinds := [], alts := [], laidByText := true, laidKinds := [.data, .data, .data, .data, .sentinel, .sentinel, .listed, .data, .pinned], laidTests := true, laidLooks := .later }
def CoTellsUptoCardSaid : Prop := Claim7.holds Tryz.pinned (.plain (OpenSpec.upto coTellsSpec)) coTellsUptoCard
end Rows
end Go.Proofs.YtmngofgminlloaaGreatDoor
