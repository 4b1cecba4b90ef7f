/-
  DERIVED. GIVEN WITH THE SEED: THE CARDS: each row of YtlokalcjcoploaaGreatDoorRows.lean that lists a variable, with what it lists TIED to the program's text (the seventh form; the later family's looks); each row that meets fmt, with fmt's text TOLD by the authors' own Lean function (tested against real Go, not proved from fmt's source: count such statements apart). THE CARD IS WHAT COUNTS. Prove the row's statement (the work); the ties are given (YtlokalcjcoploaaGreatDoorTie.lean); close each card by the builder's one call (the guide's Derived/Test/ToyasCard.lean, 'card_holds'). Laid BY PROGRAM, IN A SANDBOX (cutbox-door.mjs). By AI agents, Wed Nov 11 2026. No macro, syntax, notation, axiom, sorry.
-/
import Derived.Test.YtlokalcjcoploaaGreatDoorRows
import GoSem.ClaimSeven
namespace Go.Proofs.YtlokalcjcoploaaGreatDoor
namespace Rows

/-- THE TIED CARD OF 'wireschemalaw55.GatewayEscapes'. -/
def gatewayEscapesCard : Claim7 := { stood := { row := gatewayEscapesRow, standIns := [], harness := (true, "ed98c6e671970379a81a1729cb231c3a82f9404a130486b6a3819d96544321bd"), looks := true }, kinds := [], alts := [], laidByText := true, laidKinds := [.data, .data, .data, .data, .sentinel, .sentinel, .data, .data, .pinned], laidTests := true, laidLooks := .later }
def GatewayEscapesCardSaid : Prop := Claim7.holds Tryz.pinned (.plain (OpenSpec.ofChange gatewayEscapesSpec)) gatewayEscapesCard

/-- THE TIED CARD OF 'wireschemalaw55.GatewayMatches'. -/
def gatewayMatchesCard : Claim7 := { stood := { row := gatewayMatchesRow, standIns := [], harness := (true, "ed98c6e671970379a81a1729cb231c3a82f9404a130486b6a3819d96544321bd"), looks := true }, kinds := [], alts := [], laidByText := true, laidKinds := [.data, .data, .data, .data, .sentinel, .sentinel, .data, .data, .pinned], laidTests := true, laidLooks := .later }
def GatewayMatchesCardSaid : Prop := Claim7.holds Tryz.pinned (.plain (OpenSpec.ofChange gatewayMatchesSpec)) gatewayMatchesCard

/-- THE TIED CARD OF 'wireschemalaw55.GatewayPercent'. -/
def gatewayPercentCard : Claim7 := { stood := { row := gatewayPercentRow, standIns := [], harness := (true, "ed98c6e671970379a81a1729cb231c3a82f9404a130486b6a3819d96544321bd"), looks := true }, kinds := [], alts := [], laidByText := true, laidKinds := [.data, .data, .data, .data, .sentinel, .sentinel, .data, .data, .pinned], laidTests := true, laidLooks := .later }
def GatewayPercentCardSaid : Prop := Claim7.holds Tryz.pinned (.plain (OpenSpec.ofChange gatewayPercentSpec)) gatewayPercentCard

/-- THE SECOND FORM's CARD OF 'wireschemalaw55.GatewayEscapes'. -/
def gatewayEscapesUptoCard : Claim7 := { stood := { row := gatewayEscapesUptoRow, standIns := [], harness := (true, "ed98c6e671970379a81a1729cb231c3a82f9404a130486b6a3819d96544321bd"), looks := true }, kinds := [], alts := [], laidByText := true, laidKinds := [.data, .data, .data, .data, .sentinel, .sentinel, .data, .data, .pinned], laidTests := true, laidLooks := .later }
def GatewayEscapesUptoCardSaid : Prop := Claim7.holds Tryz.pinned (.plain (OpenSpec.upto gatewayEscapesSpec)) gatewayEscapesUptoCard

/-- THE SECOND FORM's CARD OF 'wireschemalaw55.GatewayMatches'. -/
def gatewayMatchesUptoCard : Claim7 := { stood := { row := gatewayMatchesUptoRow, standIns := [], harness := (true, "ed98c6e671970379a81a1729cb231c3a82f9404a130486b6a3819d96544321bd"), looks := true }, kinds := [], alts := [], laidByText := true, laidKinds := [.data, .data, .data, .data, .sentinel, .sentinel, .data, .data, .pinned], laidTests := true, laidLooks := .later }
def GatewayMatchesUptoCardSaid : Prop := Claim7.holds Tryz.pinned (.plain (OpenSpec.upto gatewayMatchesSpec)) gatewayMatchesUptoCard

/-- THE SECOND FORM's CARD OF 'wireschemalaw55.GatewayPercent'. -/
def gatewayPercentUptoCard : Claim7 := { stood := { row := gatewayPercentUptoRow, standIns := [], harness := (true, "ed98c6e671970379a81a1729cb231c3a82f9404a130486b6a3819d96544321bd"), looks := true }, kinds := [], alts := [], laidByText := true, laidKinds := [.data, .data, .data, .data, .sentinel, .sentinel, .data, .data, .pinned], laidTests := true, laidLooks := .later }
def GatewayPercentUptoCardSaid : Prop := Claim7.holds Tryz.pinned (.plain (OpenSpec.upto gatewayPercentSpec)) gatewayPercentUptoCard
end Rows
end Go.Proofs.YtlokalcjcoploaaGreatDoor
