/-
  DERIVED. GIVEN WITH THE SEED: THE CARDS: each row of YtafomaiaobfkfaaGreatDoorRows.lean that lists a variable, with what it lists TIED to the program's text (the seventh form; the later family's looks); each row that meets fmt, with fmt's text TOLD by the authors' own Lean function (tested against real Go, not proved from fmt's source: count such statements apart). THE CARD IS WHAT COUNTS. Prove the row's statement (the work); the ties are given (YtafomaiaobfkfaaGreatDoorTie.lean); close each card by the builder's one call (the guide's Derived/Test/ToyasCard.lean, 'card_holds'). Laid BY PROGRAM, IN A SANDBOX (cutbox-door.mjs). By AI agents, Wed Nov 11 2026. No macro, syntax, notation, axiom, sorry.
-/
import Derived.Test.YtafomaiaobfkfaaGreatDoorRows
import GoSem.ClaimSeven
namespace Go.Proofs.YtafomaiaobfkfaaGreatDoor
namespace Rows

/-- THE TIED CARD OF 'antiquarylaw14.LexerReadsAsSpecified'. -/
def lexerReadsAsSpecifiedCard : Claim7 := { stood := { row := lexerReadsAsSpecifiedRow, standIns := [], harness := (true, "3b2e5ad1b1c469a99f43264d921e232119544a6b7fd97d191efd7f7016a51555"), looks := true }, kinds := [], alts := [], laidByText := true, laidKinds := [.data, .data, .data, .sentinel, .sentinel, .listed, .data], laidTests := true, laidLooks := .later }
def LexerReadsAsSpecifiedCardSaid : Prop := Claim7.holds Tryz.pinned (.plain (OpenSpec.ofChange lexerReadsAsSpecifiedSpec)) lexerReadsAsSpecifiedCard

/-- THE TIED CARD OF 'antiquarylaw14.LexerIsLocal'. -/
def lexerIsLocalCard : Claim7 := { stood := { row := lexerIsLocalRow, standIns := [], harness := (true, "3b2e5ad1b1c469a99f43264d921e232119544a6b7fd97d191efd7f7016a51555"), looks := true }, kinds := [], alts := [], laidByText := true, laidKinds := [.data, .data, .data, .sentinel, .sentinel, .listed, .data], laidTests := true, laidLooks := .later }
def LexerIsLocalCardSaid : Prop := Claim7.holds Tryz.pinned (.plain (OpenSpec.ofChange lexerIsLocalSpec)) lexerIsLocalCard

/-- THE TIED CARD OF 'antiquarylaw14.LexerNumbersAreExact'. -/
def lexerNumbersAreExactCard : Claim7 := { stood := { row := lexerNumbersAreExactRow, standIns := [], harness := (true, "3b2e5ad1b1c469a99f43264d921e232119544a6b7fd97d191efd7f7016a51555"), looks := true }, kinds := [], alts := [], laidByText := true, laidKinds := [.data, .data, .data, .sentinel, .sentinel, .listed, .data], laidTests := true, laidLooks := .later }
def LexerNumbersAreExactCardSaid : Prop := Claim7.holds Tryz.pinned (.plain (OpenSpec.ofChange lexerNumbersAreExactSpec)) lexerNumbersAreExactCard

/-- THE TIED CARD OF 'antiquarylaw14.LexerWritesAsSpecified'. -/
def lexerWritesAsSpecifiedCard : Claim7 := { stood := { row := lexerWritesAsSpecifiedRow, standIns := [], harness := (true, "3b2e5ad1b1c469a99f43264d921e232119544a6b7fd97d191efd7f7016a51555"), looks := true }, kinds := [], alts := [], laidByText := true, laidKinds := [.data, .data, .data, .sentinel, .sentinel, .listed, .data], laidTests := true, laidLooks := .later }
def LexerWritesAsSpecifiedCardSaid : Prop := Claim7.holds Tryz.pinned (.plain (OpenSpec.ofChange lexerWritesAsSpecifiedSpec)) lexerWritesAsSpecifiedCard

/-- THE TIED CARD OF 'antiquarylaw14.LexerForgetsSpace'. -/
def lexerForgetsSpaceCard : Claim7 := { stood := { row := lexerForgetsSpaceRow, standIns := [], harness := (true, "3b2e5ad1b1c469a99f43264d921e232119544a6b7fd97d191efd7f7016a51555"), looks := true }, kinds := [], alts := [], laidByText := true, laidKinds := [.data, .data, .data, .sentinel, .sentinel, .listed, .data], laidTests := true, laidLooks := .later }
def LexerForgetsSpaceCardSaid : Prop := Claim7.holds Tryz.pinned (.plain (OpenSpec.ofChange lexerForgetsSpaceSpec)) lexerForgetsSpaceCard

/-- THE TIED CARD OF 'antiquarylaw14.LexerCovers'. -/
def lexerCoversCard : Claim7 := { stood := { row := lexerCoversRow, standIns := [], harness := (true, "3b2e5ad1b1c469a99f43264d921e232119544a6b7fd97d191efd7f7016a51555"), looks := true }, kinds := [], alts := [], laidByText := true, laidKinds := [.data, .data, .data, .sentinel, .sentinel, .listed, .data], laidTests := true, laidLooks := .later }
def LexerCoversCardSaid : Prop := Claim7.holds Tryz.pinned (.plain (OpenSpec.ofChange lexerCoversSpec)) lexerCoversCard

/-- THE SECOND FORM's CARD OF 'antiquarylaw14.LexerReadsAsSpecified'. -/
def lexerReadsAsSpecifiedUptoCard : Claim7 := { stood := { row := lexerReadsAsSpecifiedUptoRow, standIns := [], harness := (true, "3b2e5ad1b1c469a99f43264d921e232119544a6b7fd97d191efd7f7016a51555"), looks := true }, kinds := [], alts := [], laidByText := true, laidKinds := [.data, .data, .data, .sentinel, .sentinel, .listed, .data], laidTests := true, laidLooks := .later }
def LexerReadsAsSpecifiedUptoCardSaid : Prop := Claim7.holds Tryz.pinned (.plain (OpenSpec.upto lexerReadsAsSpecifiedSpec)) lexerReadsAsSpecifiedUptoCard

/-- THE SECOND FORM's CARD OF 'antiquarylaw14.LexerIsLocal'. -/
def lexerIsLocalUptoCard : Claim7 := { stood := { row := lexerIsLocalUptoRow, standIns := [], harness := (true, "3b2e5ad1b1c469a99f43264d921e232119544a6b7fd97d191efd7f7016a51555"), looks := true }, kinds := [], alts := [], laidByText := true, laidKinds := [.data, .data, .data, .sentinel, .sentinel, .listed, .data], laidTests := true, laidLooks := .later }
def LexerIsLocalUptoCardSaid : Prop := Claim7.holds Tryz.pinned (.plain (OpenSpec.upto lexerIsLocalSpec)) lexerIsLocalUptoCard

/-- THE SECOND FORM's CARD OF 'antiquarylaw14.LexerNumbersAreExact'. -/
def lexerNumbersAreExactUptoCard : Claim7 := { stood := { row := lexerNumbersAreExactUptoRow, standIns := [], harness := (true, "3b2e5ad1b1c469a99f43264d921e232119544a6b7fd97d191efd7f7016a51555"), looks := true }, kinds := [], alts := [], laidByText := true, laidKinds := [.data, .data, .data, .sentinel, .sentinel, .listed, .data], laidTests := true, laidLooks := .later }
def LexerNumbersAreExactUptoCardSaid : Prop := Claim7.holds Tryz.pinned (.plain (OpenSpec.upto lexerNumbersAreExactSpec)) lexerNumbersAreExactUptoCard

/-- THE SECOND FORM's CARD OF 'antiquarylaw14.LexerWritesAsSpecified'. -/
def lexerWritesAsSpecifiedUptoCard : Claim7 := { stood := { row := lexerWritesAsSpecifiedUptoRow, standIns := [], harness := (true, "3b2e5ad1b1c469a99f43264d921e232119544a6b7fd97d191efd7f7016a51555"), looks := true }, kinds := [], alts := [], laidByText := true, laidKinds := [.data, .data, .data, .sentinel, .sentinel, .listed, .data], laidTests := true, laidLooks := .later }
def LexerWritesAsSpecifiedUptoCardSaid : Prop := Claim7.holds Tryz.pinned (.plain (OpenSpec.upto lexerWritesAsSpecifiedSpec)) lexerWritesAsSpecifiedUptoCard

/-- THE SECOND FORM's CARD OF 'antiquarylaw14.LexerForgetsSpace'. -/
def lexerForgetsSpaceUptoCard : Claim7 := { stood := { row := lexerForgetsSpaceUptoRow, standIns := [], harness := (true, "3b2e5ad1b1c469a99f43264d921e232119544a6b7fd97d191efd7f7016a51555"), looks := true }, kinds := [], alts := [], laidByText := true, laidKinds := [.data, .data, .data, .sentinel, .sentinel, .listed, .data], laidTests := true, laidLooks := .later }
def LexerForgetsSpaceUptoCardSaid : Prop := Claim7.holds Tryz.pinned (.plain (OpenSpec.upto lexerForgetsSpaceSpec)) lexerForgetsSpaceUptoCard

/-- THE SECOND FORM's CARD OF 'antiquarylaw14.LexerCovers'. -/
def lexerCoversUptoCard : Claim7 := { stood := { row := lexerCoversUptoRow, standIns := [], harness := (true, "3b2e5ad1b1c469a99f43264d921e232119544a6b7fd97d191efd7f7016a51555"), looks := true }, kinds := [], alts := [], laidByText := true, laidKinds := [.data, .data, .data, .sentinel, .sentinel, .listed, .data], laidTests := true, laidLooks := .later }
def LexerCoversUptoCardSaid : Prop := Claim7.holds Tryz.pinned (.plain (OpenSpec.upto lexerCoversSpec)) lexerCoversUptoCard
end Rows
end Go.Proofs.YtafomaiaobfkfaaGreatDoor
