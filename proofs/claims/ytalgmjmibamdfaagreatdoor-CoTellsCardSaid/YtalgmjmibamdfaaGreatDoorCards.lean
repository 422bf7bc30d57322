/-
  DERIVED. GIVEN WITH THE SEED: THE CARDS: each row of YtalgmjmibamdfaaGreatDoorRows.lean that lists a variable, with what it lists TIED to the program's text (the seventh form; the later family's looks); each row that meets fmt, with fmt's text TOLD by the authors' own Lean function (tested against real Go, not proved from fmt's source: count such statements apart). THE CARD IS WHAT COUNTS. Prove the row's statement (the work); the ties are given (YtalgmjmibamdfaaGreatDoorTie.lean); close each card by the builder's one call (the guide's Derived/Test/ToyasCard.lean, 'card_holds'). Laid BY PROGRAM, IN A SANDBOX (cutbox-door.mjs). By AI agents, Wed Nov 11 2026. No macro, syntax, notation, axiom, sorry.
-/
import Derived.Test.YtalgmjmibamdfaaGreatDoorRows
import GoSem.ClaimSeven
namespace Go.Proofs.YtalgmjmibamdfaaGreatDoor
namespace Rows

/-- THE TIED CARD OF 'tourlaw5.VmStarts'. -/
def vmStartsCard : Claim7 := { stood := { row := vmStartsRow, standIns := [], harness := (true, "97467d2fc1b1bf0edfc2121ed9b97cc05e80f64c74793adc5f4605d6fc165053"), looks := true }, kinds := [], alts := [], laidByText := true, laidKinds := [.data, .data, .data, .data, .sentinel, .sentinel, .listed, .data, .pinned], laidTests := true, laidLooks := .later }
def VmStartsCardSaid : Prop := Claim7.holds Tryz.pinned (.plain (OpenSpec.ofChange vmStartsSpec)) vmStartsCard

/-- THE TIED CARD OF 'tourlaw5.CoTells'. -/
def coTellsCard : Claim7 := { stood := { row := coTellsRow, standIns := [], harness := (true, "97467d2fc1b1bf0edfc2121ed9b97cc05e80f64c74793adc5f4605d6fc165053"), looks := true }, kinds := [], alts := [], laidByText := true, laidKinds := [.data, .data, .data, .data, .sentinel, .sentinel, .listed, .data, .pinned], laidTests := true, laidLooks := .later }
def CoTellsCardSaid : Prop := Claim7.holds Tryz.pinned (.plain (OpenSpec.ofChange coTellsSpec)) coTellsCard

/-- THE SECOND FORM's CARD OF 'tourlaw5.VmStarts'. -/
def vmStartsUptoCard : Claim7 := { stood := { row := vmStartsUptoRow, standIns := [], harness := (true, "97467d2fc1b1bf0edfc2121ed9b97cc05e80f64c74793adc5f4605d6fc165053"), looks := true }, kinds := [], alts := [], laidByText := true, laidKinds := [.data, .data, .data, .data, .sentinel, .sentinel, .listed, .data, .pinned], laidTests := true, laidLooks := .later }
def VmStartsUptoCardSaid : Prop := Claim7.holds Tryz.pinned (.plain (OpenSpec.upto vmStartsSpec)) vmStartsUptoCard

/-- THE SECOND FORM's CARD OF 'tourlaw5.CoTells'. -/
def coTellsUptoCard : Claim7 := { stood := { row := coTellsUptoRow, standIns := [], harness := (true, "97467d2fc1b1bf0edfc2121ed9b97cc05e80f64c74793adc5f4605d6fc165053"), looks := true }, kinds := [], alts := [], laidByText := true, laidKinds := [.data, .data, .data, .data, .sentinel, .sentinel, .listed, .data, .pinned], laidTests := true, laidLooks := .later }
def CoTellsUptoCardSaid : Prop := Claim7.holds Tryz.pinned (.plain (OpenSpec.upto coTellsSpec)) coTellsUptoCard
end Rows
end Go.Proofs.YtalgmjmibamdfaaGreatDoor
