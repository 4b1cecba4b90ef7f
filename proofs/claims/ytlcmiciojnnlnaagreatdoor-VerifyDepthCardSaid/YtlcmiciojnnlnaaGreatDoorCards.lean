/-
  DERIVED. GIVEN WITH THE SEED: THE CARDS: each row of YtlcmiciojnnlnaaGreatDoorRows.lean that lists a variable, with what it lists TIED to the program's text (the seventh form; the later family's looks); each row that meets fmt, with fmt's text TOLD by the authors' own Lean function (tested against real Go, not proved from fmt's source: count such statements apart). THE CARD IS WHAT COUNTS. Prove the row's statement (the work); the ties are given (YtlcmiciojnnlnaaGreatDoorTie.lean); close each card by the builder's one call (the guide's Derived/Test/ToyasCard.lean, 'card_holds'). Laid BY PROGRAM, IN A SANDBOX (cutbox-door.mjs). By AI agents, Wed Nov 11 2026. No macro, syntax, notation, axiom, sorry.
-/
import Derived.Test.YtlcmiciojnnlnaaGreatDoorRows
import GoSem.ClaimSeven
namespace Go.Proofs.YtlcmiciojnnlnaaGreatDoor
namespace Rows

/-- THE TIED CARD OF 'wireschemalaw26.VerifyCanon'. -/
def verifyCanonCard : Claim7 := { stood := { row := verifyCanonRow, standIns := [], harness := (true, "919027e524a1984941eac46505047802ce53bae57bf2573f124e107f273bc644"), looks := true }, kinds := [], alts := [], laidByText := true, laidKinds := [.data, .pinned], laidTests := true, laidLooks := .later }
def VerifyCanonCardSaid : Prop := Claim7.holds Tryz.pinned (.plain (OpenSpec.ofChange verifyCanonSpec)) verifyCanonCard

/-- THE TIED CARD OF 'wireschemalaw26.VerifyDepth'. -/
def verifyDepthCard : Claim7 := { stood := { row := verifyDepthRow, standIns := [], harness := (true, "919027e524a1984941eac46505047802ce53bae57bf2573f124e107f273bc644"), looks := true }, kinds := [], alts := [], laidByText := true, laidKinds := [.data, .pinned], laidTests := true, laidLooks := .later }
def VerifyDepthCardSaid : Prop := Claim7.holds Tryz.pinned (.plain (OpenSpec.ofChange verifyDepthSpec)) verifyDepthCard

/-- THE SECOND FORM's CARD OF 'wireschemalaw26.VerifyCanon'. -/
def verifyCanonUptoCard : Claim7 := { stood := { row := verifyCanonUptoRow, standIns := [], harness := (true, "919027e524a1984941eac46505047802ce53bae57bf2573f124e107f273bc644"), looks := true }, kinds := [], alts := [], laidByText := true, laidKinds := [.data, .pinned], laidTests := true, laidLooks := .later }
def VerifyCanonUptoCardSaid : Prop := Claim7.holds Tryz.pinned (.plain (OpenSpec.upto verifyCanonSpec)) verifyCanonUptoCard

/-- THE SECOND FORM's CARD OF 'wireschemalaw26.VerifyDepth'. -/
def verifyDepthUptoCard : Claim7 := { stood := { row := verifyDepthUptoRow, standIns := [], harness := (true, "919027e524a1984941eac46505047802ce53bae57bf2573f124e107f273bc644"), looks := true }, kinds := [], alts := [], laidByText := true, laidKinds := [.data, .pinned], laidTests := true, laidLooks := .later }
def VerifyDepthUptoCardSaid : Prop := Claim7.holds Tryz.pinned (.plain (OpenSpec.upto verifyDepthSpec)) verifyDepthUptoCard
end Rows
end Go.Proofs.YtlcmiciojnnlnaaGreatDoor
