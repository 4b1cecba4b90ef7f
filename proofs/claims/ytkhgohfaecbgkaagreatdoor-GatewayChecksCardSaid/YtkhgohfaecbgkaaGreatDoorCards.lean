/-
  DERIVED. GIVEN WITH THE SEED: THE CARDS: each row of YtkhgohfaecbgkaaGreatDoorRows.lean that lists a variable, with what it lists TIED to the program's text (the seventh form; the later family's looks); each row that meets fmt, with fmt's text TOLD by the authors' own Lean function (tested against real Go, not proved from fmt's source: count such statements apart). THE CARD IS WHAT COUNTS. Prove the row's statement (the work); the ties are given (YtkhgohfaecbgkaaGreatDoorTie.lean); close each card by the builder's one call (the guide's Derived/Test/ToyasCard.lean, 'card_holds'). Laid BY PROGRAM, IN A SANDBOX (cutbox-door.mjs). By AI agents, Wed Nov 11 2026. No macro, syntax, notation, axiom, sorry.
-/
import Derived.Test.YtkhgohfaecbgkaaGreatDoorRows
import GoSem.ClaimSeven
namespace Go.Proofs.YtkhgohfaecbgkaaGreatDoor
namespace Rows

/-- THE TIED CARD OF 'wireschemalaw55.GatewayChecks'. -/
def gatewayChecksCard : Claim7 := { stood := { row := gatewayChecksRow, standIns := [], harness := (true, "843586abac1552ab39caaa7ef3e1efb0cd860d5ea464a80839fdf41e77b93c67"), looks := true }, kinds := [], alts := [], laidByText := true, laidKinds := [.data, .data, .data, .data, .sentinel, .sentinel, .data, .data, .pinned], laidTests := true, laidLooks := .later }
def GatewayChecksCardSaid : Prop := Claim7.holds Tryz.pinned (.plain (OpenSpec.ofChange gatewayChecksSpec)) gatewayChecksCard

/-- THE TIED CARD OF 'wireschemalaw55.GatewayMatches'. -/
def gatewayMatchesCard : Claim7 := { stood := { row := gatewayMatchesRow, standIns := [], harness := (true, "843586abac1552ab39caaa7ef3e1efb0cd860d5ea464a80839fdf41e77b93c67"), looks := true }, kinds := [], alts := [], laidByText := true, laidKinds := [.data, .data, .data, .data, .sentinel, .sentinel, .data, .data, .pinned], laidTests := true, laidLooks := .later }
def GatewayMatchesCardSaid : Prop := Claim7.holds Tryz.pinned (.plain (OpenSpec.ofChange gatewayMatchesSpec)) gatewayMatchesCard

/-- THE TIED CARD OF 'wireschemalaw55.GatewayOne'. -/
def gatewayOneCard : Claim7 := { stood := { row := gatewayOneRow, standIns := [], harness := (true, "843586abac1552ab39caaa7ef3e1efb0cd860d5ea464a80839fdf41e77b93c67"), looks := true }, kinds := [], alts := [], laidByText := true, laidKinds := [.data, .data, .data, .data, .sentinel, .sentinel, .data, .data, .pinned], laidTests := true, laidLooks := .later }
def GatewayOneCardSaid : Prop := Claim7.holds Tryz.pinned (.plain (OpenSpec.ofChange gatewayOneSpec)) gatewayOneCard

/-- THE SECOND FORM's CARD OF 'wireschemalaw55.GatewayChecks'. -/
def gatewayChecksUptoCard : Claim7 := { stood := { row := gatewayChecksUptoRow, standIns := [], harness := (true, "843586abac1552ab39caaa7ef3e1efb0cd860d5ea464a80839fdf41e77b93c67"), looks := true }, kinds := [], alts := [], laidByText := true, laidKinds := [.data, .data, .data, .data, .sentinel, .sentinel, .data, .data, .pinned], laidTests := true, laidLooks := .later }
def GatewayChecksUptoCardSaid : Prop := Claim7.holds Tryz.pinned (.plain (OpenSpec.upto gatewayChecksSpec)) gatewayChecksUptoCard

/-- THE SECOND FORM's CARD OF 'wireschemalaw55.GatewayMatches'. -/
def gatewayMatchesUptoCard : Claim7 := { stood := { row := gatewayMatchesUptoRow, standIns := [], harness := (true, "843586abac1552ab39caaa7ef3e1efb0cd860d5ea464a80839fdf41e77b93c67"), looks := true }, kinds := [], alts := [], laidByText := true, laidKinds := [.data, .data, .data, .data, .sentinel, .sentinel, .data, .data, .pinned], laidTests := true, laidLooks := .later }
def GatewayMatchesUptoCardSaid : Prop := Claim7.holds Tryz.pinned (.plain (OpenSpec.upto gatewayMatchesSpec)) gatewayMatchesUptoCard

/-- THE SECOND FORM's CARD OF 'wireschemalaw55.GatewayOne'. -/
def gatewayOneUptoCard : Claim7 := { stood := { row := gatewayOneUptoRow, standIns := [], harness := (true, "843586abac1552ab39caaa7ef3e1efb0cd860d5ea464a80839fdf41e77b93c67"), looks := true }, kinds := [], alts := [], laidByText := true, laidKinds := [.data, .data, .data, .data, .sentinel, .sentinel, .data, .data, .pinned], laidTests := true, laidLooks := .later }
def GatewayOneUptoCardSaid : Prop := Claim7.holds Tryz.pinned (.plain (OpenSpec.upto gatewayOneSpec)) gatewayOneUptoCard
end Rows
end Go.Proofs.YtkhgohfaecbgkaaGreatDoor
