/-
  DERIVED. GIVEN WITH THE SEED: THE CARDS: each row of YtkcbmobdpenngaaDoorRows.lean that lists a variable, with what it lists TIED to the program's text (the seventh form; the later family's looks); each row that meets fmt, with fmt's text TOLD by the authors' own Lean function (tested against real Go, not proved from fmt's source: count such statements apart). THE CARD IS WHAT COUNTS. Prove the row's statement (the work); the ties are given (YtkcbmobdpenngaaDoorTie.lean); close each card by the builder's one call (the guide's Derived/Test/ToyasCard.lean, 'card_holds'). Laid BY PROGRAM, IN A SANDBOX (cutbox-door.mjs). By AI agents, Wed Nov 11 2026. No macro, syntax, notation, axiom, sorry.
-/
import Derived.Test.YtkcbmobdpenngaaDoorRows
import GoSem.ClaimSeven
namespace Go.Proofs.YtkcbmobdpenngaaDoor
namespace Rows

/-- THE TIED CARD OF 'wireschemalaw16.OrderLast'. -/
def orderLastCard : Claim7 := { stood := { row := orderLastRow, standIns := [], harness := (true, "d1a64c61a22aa9ec9b8cfc2ba108df74ef72e5f308aa1a102fc03c3d3569f8ac"), looks := true }, kinds := [], alts := [], laidByText := true, laidKinds := [.data, .pinned], laidTests := true, laidLooks := .later }
def OrderLastCardSaid : Prop := Claim7.holds Tryd.pinned (.plain (OpenSpec.ofChange orderLastSpec)) orderLastCard

/-- THE TIED CARD OF 'wireschemalaw16.OrderSorts'. -/
def orderSortsCard : Claim7 := { stood := { row := orderSortsRow, standIns := [], harness := (true, "d1a64c61a22aa9ec9b8cfc2ba108df74ef72e5f308aa1a102fc03c3d3569f8ac"), looks := true }, kinds := [], alts := [], laidByText := true, laidKinds := [.data, .pinned], laidTests := true, laidLooks := .later }
def OrderSortsCardSaid : Prop := Claim7.holds Tryd.pinned (.plain (OpenSpec.ofChange orderSortsSpec)) orderSortsCard

/-- THE SECOND FORM's CARD OF 'wireschemalaw16.OrderLast'. -/
def orderLastUptoCard : Claim7 := { stood := { row := orderLastUptoRow, standIns := [], harness := (true, "d1a64c61a22aa9ec9b8cfc2ba108df74ef72e5f308aa1a102fc03c3d3569f8ac"), looks := true }, kinds := [], alts := [], laidByText := true, laidKinds := [.data, .pinned], laidTests := true, laidLooks := .later }
def OrderLastUptoCardSaid : Prop := Claim7.holds Tryd.pinned (.plain (OpenSpec.upto orderLastSpec)) orderLastUptoCard

/-- THE SECOND FORM's CARD OF 'wireschemalaw16.OrderSorts'. -/
def orderSortsUptoCard : Claim7 := { stood := { row := orderSortsUptoRow, standIns := [], harness := (true, "d1a64c61a22aa9ec9b8cfc2ba108df74ef72e5f308aa1a102fc03c3d3569f8ac"), looks := true }, kinds := [], alts := [], laidByText := true, laidKinds := [.data, .pinned], laidTests := true, laidLooks := .later }
def OrderSortsUptoCardSaid : Prop := Claim7.holds Tryd.pinned (.plain (OpenSpec.upto orderSortsSpec)) orderSortsUptoCard
end Rows
end Go.Proofs.YtkcbmobdpenngaaDoor
