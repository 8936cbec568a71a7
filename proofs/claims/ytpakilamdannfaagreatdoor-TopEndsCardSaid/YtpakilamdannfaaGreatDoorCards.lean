/-
  DERIVED. GIVEN WITH THE SEED: THE CARDS: each row of YtpakilamdannfaaGreatDoorRows.lean that lists a variable, with what it lists TIED to the program's text (the seventh form; the later family's looks); each row that meets fmt, with fmt's text TOLD by the authors' own Lean function (tested against real Go, not proved from fmt's source: count such statements apart). THE CARD IS WHAT COUNTS. Prove the row's statement (the work); the ties are given (YtpakilamdannfaaGreatDoorTie.lean); close each card by the builder's one call (the guide's Derived/Test/ToyasCard.lean, 'card_holds'). Laid BY PROGRAM, IN A SANDBOX (cutbox-door.mjs). By AI agents, Wed Nov 11 2026. No macro, syntax, notation, axiom, sorry.
-/
import Derived.Test.YtpakilamdannfaaGreatDoorRows
import GoSem.ClaimSeven
namespace Go.Proofs.YtpakilamdannfaaGreatDoor
namespace Rows

/-- THE TIED CARD OF 'kibitzerlaw22.PerftEnds'. -/
def perftEndsCard : Claim7 := { stood := { row := perftEndsRow, standIns := [], harness := (true, "479d53d1b6a57a72afbcb76b341e62d84c5c7b7339c18570a0e2d1c2cb63d584"), looks := true }, kinds := [], alts := [], laidByText := true, laidKinds := [.data], laidTests := true, laidLooks := .later }
def PerftEndsCardSaid : Prop := Claim7.holds Tryz.pinned (.plain (OpenSpec.ofChange perftEndsSpec)) perftEndsCard

/-- THE TIED CARD OF 'kibitzertop.TopMoves'. -/
def topMovesCard : Claim7 := { stood := { row := topMovesRow, standIns := [], harness := (true, "479d53d1b6a57a72afbcb76b341e62d84c5c7b7339c18570a0e2d1c2cb63d584"), looks := true }, kinds := [], alts := [], laidByText := true, laidKinds := [.data], laidTests := true, laidLooks := .later }
def TopMovesCardSaid : Prop := Claim7.holds Tryz.pinned (.plain (OpenSpec.ofChange topMovesSpec)) topMovesCard

/-- THE TIED CARD OF 'kibitzertop.TopEnds'. -/
def topEndsCard : Claim7 := { stood := { row := topEndsRow, standIns := [], harness := (true, "479d53d1b6a57a72afbcb76b341e62d84c5c7b7339c18570a0e2d1c2cb63d584"), looks := true }, kinds := [], alts := [], laidByText := true, laidKinds := [.data], laidTests := true, laidLooks := .later }
def TopEndsCardSaid : Prop := Claim7.holds Tryz.pinned (.plain (OpenSpec.ofChange topEndsSpec)) topEndsCard

/-- THE SECOND FORM's CARD OF 'kibitzerlaw22.PerftEnds'. -/
def perftEndsUptoCard : Claim7 := { stood := { row := perftEndsUptoRow, standIns := [], harness := (true, "479d53d1b6a57a72afbcb76b341e62d84c5c7b7339c18570a0e2d1c2cb63d584"), looks := true }, kinds := [], alts := [], laidByText := true, laidKinds := [.data], laidTests := true, laidLooks := .later }
def PerftEndsUptoCardSaid : Prop := Claim7.holds Tryz.pinned (.plain (OpenSpec.upto perftEndsSpec)) perftEndsUptoCard

/-- THE SECOND FORM's CARD OF 'kibitzertop.TopMoves'. -/
def topMovesUptoCard : Claim7 := { stood := { row := topMovesUptoRow, standIns := [], harness := (true, "479d53d1b6a57a72afbcb76b341e62d84c5c7b7339c18570a0e2d1c2cb63d584"), looks := true }, kinds := [], alts := [], laidByText := true, laidKinds := [.data], laidTests := true, laidLooks := .later }
def TopMovesUptoCardSaid : Prop := Claim7.holds Tryz.pinned (.plain (OpenSpec.upto topMovesSpec)) topMovesUptoCard

/-- THE SECOND FORM's CARD OF 'kibitzertop.TopEnds'. -/
def topEndsUptoCard : Claim7 := { stood := { row := topEndsUptoRow, standIns := [], harness := (true, "479d53d1b6a57a72afbcb76b341e62d84c5c7b7339c18570a0e2d1c2cb63d584"), looks := true }, kinds := [], alts := [], laidByText := true, laidKinds := [.data], laidTests := true, laidLooks := .later }
def TopEndsUptoCardSaid : Prop := Claim7.holds Tryz.pinned (.plain (OpenSpec.upto topEndsSpec)) topEndsUptoCard
end Rows
end Go.Proofs.YtpakilamdannfaaGreatDoor
