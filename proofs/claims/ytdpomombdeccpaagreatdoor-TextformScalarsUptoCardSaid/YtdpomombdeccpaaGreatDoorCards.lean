/-
  DERIVED. GIVEN WITH THE SEED: THE CARDS: each row of YtdpomombdeccpaaGreatDoorRows.lean that lists a variable, with what it lists TIED to the program's text (the seventh form; the later family's looks); each row that meets fmt, with fmt's text TOLD by the authors' own Lean function (tested against real Go, not proved from fmt's source: count such statements apart). THE CARD IS WHAT COUNTS. Prove the row's statement (the work); the ties are given (YtdpomombdeccpaaGreatDoorTie.lean); close each card by the builder's one call (the guide's Derived/Test/ToyasCard.lean, 'card_holds'). Laid BY PROGRAM, IN A SANDBOX (cutbox-door.mjs). By AI agents, Wed Nov 11 2026. No macro, syntax, notation, axiom, sorry.
-/
import Derived.Test.YtdpomombdeccpaaGreatDoorRows
import GoSem.ClaimSeven
namespace Go.Proofs.YtdpomombdeccpaaGreatDoor
namespace Rows

/-- THE TIED CARD OF 'wireschemalaw33.TextformPrints'. -/
def textformPrintsCard : Claim7 := { stood := { row := textformPrintsRow, standIns := [], harness := (true, "b6b72af821e5287043eb80d0e072d403a5c3ef16e1eba8e6584057b82704fd87"), looks := true }, kinds := [], alts := [], laidByText := true, laidKinds := [.data, .data, .data, .sentinel, .sentinel], laidTests := true, laidLooks := .later }
def TextformPrintsCardSaid : Prop := Claim7.holds Tryz.pinned (.plain (OpenSpec.ofChange textformPrintsSpec)) textformPrintsCard

/-- THE TIED CARD OF 'wireschemalaw33.TextformScalars'. -/
def textformScalarsCard : Claim7 := { stood := { row := textformScalarsRow, standIns := [], harness := (true, "b6b72af821e5287043eb80d0e072d403a5c3ef16e1eba8e6584057b82704fd87"), looks := true }, kinds := [], alts := [], laidByText := true, laidKinds := [.data, .data, .data, .sentinel, .sentinel], laidTests := true, laidLooks := .later }
def TextformScalarsCardSaid : Prop := Claim7.holds Tryz.pinned (.plain (OpenSpec.ofChange textformScalarsSpec)) textformScalarsCard

/-- THE SECOND FORM's CARD OF 'wireschemalaw33.TextformPrints'. -/
def textformPrintsUptoCard : Claim7 := { stood := { row := textformPrintsUptoRow, standIns := [], harness := (true, "b6b72af821e5287043eb80d0e072d403a5c3ef16e1eba8e6584057b82704fd87"), looks := true }, kinds := [], alts := [], laidByText := true, laidKinds := [.data, .data, .data, .sentinel, .sentinel], laidTests := true, laidLooks := .later }
def TextformPrintsUptoCardSaid : Prop := Claim7.holds Tryz.pinned (.plain (OpenSpec.upto textformPrintsSpec)) textformPrintsUptoCard

/-- THE SECOND FORM's CARD OF 'wireschemalaw33.TextformScalars'. -/
def textformScalarsUptoCard : Claim7 := { stood := { row := textformScalarsUptoRow, standIns := [], harness := (true, "b6b72af821e5287043eb80d0e072d403a5c3ef16e1eba8e6584057b82704fd87"), looks := true }, kinds := [], alts := [], laidByText := true, laidKinds := [.data, .data, .data, .sentinel, .sentinel], laidTests := true, laidLooks := .later }
def TextformScalarsUptoCardSaid : Prop := Claim7.holds Tryz.pinned (.plain (OpenSpec.upto textformScalarsSpec)) textformScalarsUptoCard
end Rows
end Go.Proofs.YtdpomombdeccpaaGreatDoor
