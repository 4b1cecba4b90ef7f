/-
  DERIVED. GIVEN WITH THE SEED: THE CARDS: each row of YtlgpoapedgodoaaDoorRows.lean that lists a variable, with what it lists TIED to the program's text (the seventh form; the later family's looks); each row that meets fmt, with fmt's text TOLD by the authors' own Lean function (tested against real Go, not proved from fmt's source: count such statements apart). THE CARD IS WHAT COUNTS. Prove the row's statement (the work); the ties are given (YtlgpoapedgodoaaDoorTie.lean); close each card by the builder's one call (the guide's Derived/Test/ToyasCard.lean, 'card_holds'). Laid BY PROGRAM, IN A SANDBOX (cutbox-door.mjs). By AI agents, Wed Nov 11 2026. No macro, syntax, notation, axiom, sorry.
-/
import Derived.Test.YtlgpoapedgodoaaDoorRows
import GoSem.ClaimSeven
namespace Go.Proofs.YtlgpoapedgodoaaDoor
namespace Rows

/-- THE TIED CARD OF 'wireschemalaw16.OrderKeys'. -/
def orderKeysCard : Claim7 := { stood := { row := orderKeysRow, standIns := [], harness := (true, "9b9e4a15404b6d51ce14534966bcd97e20c66929ee7820cbcc65174a85472f5f"), looks := true }, kinds := [], alts := [], laidByText := true, laidKinds := [.data, .pinned], laidTests := true, laidLooks := .later }
def OrderKeysCardSaid : Prop := Claim7.holds Tryd.pinned (.plain (OpenSpec.ofChange orderKeysSpec)) orderKeysCard

/-- THE TIED CARD OF 'wireschemalaw16.OrderTotal'. -/
def orderTotalCard : Claim7 := { stood := { row := orderTotalRow, standIns := [], harness := (true, "9b9e4a15404b6d51ce14534966bcd97e20c66929ee7820cbcc65174a85472f5f"), looks := true }, kinds := [], alts := [], laidByText := true, laidKinds := [.data, .pinned], laidTests := true, laidLooks := .later }
def OrderTotalCardSaid : Prop := Claim7.holds Tryd.pinned (.plain (OpenSpec.ofChange orderTotalSpec)) orderTotalCard

/-- THE TIED CARD OF 'wireschemalaw16.OrderCompares'. -/
def orderComparesCard : Claim7 := { stood := { row := orderComparesRow, standIns := [], harness := (true, "9b9e4a15404b6d51ce14534966bcd97e20c66929ee7820cbcc65174a85472f5f"), looks := true }, kinds := [], alts := [], laidByText := true, laidKinds := [.data, .pinned], laidTests := true, laidLooks := .later }
def OrderComparesCardSaid : Prop := Claim7.holds Tryd.pinned (.plain (OpenSpec.ofChange orderComparesSpec)) orderComparesCard

/-- THE TIED CARD OF 'wireschemalaw16.OrderUnkeys'. -/
def orderUnkeysCard : Claim7 := { stood := { row := orderUnkeysRow, standIns := [], harness := (true, "9b9e4a15404b6d51ce14534966bcd97e20c66929ee7820cbcc65174a85472f5f"), looks := true }, kinds := [], alts := [], laidByText := true, laidKinds := [.data, .pinned], laidTests := true, laidLooks := .later }
def OrderUnkeysCardSaid : Prop := Claim7.holds Tryd.pinned (.plain (OpenSpec.ofChange orderUnkeysSpec)) orderUnkeysCard

/-- THE TIED CARD OF 'wireschemalaw16.OrderKeyBack'. -/
def orderKeyBackCard : Claim7 := { stood := { row := orderKeyBackRow, standIns := [], harness := (true, "9b9e4a15404b6d51ce14534966bcd97e20c66929ee7820cbcc65174a85472f5f"), looks := true }, kinds := [], alts := [], laidByText := true, laidKinds := [.data, .pinned], laidTests := true, laidLooks := .later }
def OrderKeyBackCardSaid : Prop := Claim7.holds Tryd.pinned (.plain (OpenSpec.ofChange orderKeyBackSpec)) orderKeyBackCard

/-- THE TIED CARD OF 'wireschemalaw16.OrderLast'. -/
def orderLastCard : Claim7 := { stood := { row := orderLastRow, standIns := [], harness := (true, "9b9e4a15404b6d51ce14534966bcd97e20c66929ee7820cbcc65174a85472f5f"), looks := true }, kinds := [], alts := [], laidByText := true, laidKinds := [.data, .pinned], laidTests := true, laidLooks := .later }
def OrderLastCardSaid : Prop := Claim7.holds Tryd.pinned (.plain (OpenSpec.ofChange orderLastSpec)) orderLastCard

/-- THE TIED CARD OF 'wireschemalaw16.OrderSorts'. -/
def orderSortsCard : Claim7 := { stood := { row := orderSortsRow, standIns := [], harness := (true, "9b9e4a15404b6d51ce14534966bcd97e20c66929ee7820cbcc65174a85472f5f"), looks := true }, kinds := [], alts := [], laidByText := true, laidKinds := [.data, .pinned], laidTests := true, laidLooks := .later }
def OrderSortsCardSaid : Prop := Claim7.holds Tryd.pinned (.plain (OpenSpec.ofChange orderSortsSpec)) orderSortsCard

/-- THE SECOND FORM's CARD OF 'wireschemalaw16.OrderKeys'. -/
def orderKeysUptoCard : Claim7 := { stood := { row := orderKeysUptoRow, standIns := [], harness := (true, "9b9e4a15404b6d51ce14534966bcd97e20c66929ee7820cbcc65174a85472f5f"), looks := true }, kinds := [], alts := [], laidByText := true, laidKinds := [.data, .pinned], laidTests := true, laidLooks := .later }
def OrderKeysUptoCardSaid : Prop := Claim7.holds Tryd.pinned (.plain (OpenSpec.upto orderKeysSpec)) orderKeysUptoCard

/-- THE SECOND FORM's CARD OF 'wireschemalaw16.OrderTotal'. -/
def orderTotalUptoCard : Claim7 := { stood := { row := orderTotalUptoRow, standIns := [], harness := (true, "9b9e4a15404b6d51ce14534966bcd97e20c66929ee7820cbcc65174a85472f5f"), looks := true }, kinds := [], alts := [], laidByText := true, laidKinds := [.data, .pinned], laidTests := true, laidLooks := .later }
def OrderTotalUptoCardSaid : Prop := Claim7.holds Tryd.pinned (.plain (OpenSpec.upto orderTotalSpec)) orderTotalUptoCard

/-- THE SECOND FORM's CARD OF 'wireschemalaw16.OrderCompares'. -/
def orderComparesUptoCard : Claim7 := { stood := { row := orderComparesUptoRow, standIns := [], harness := (true, "9b9e4a15404b6d51ce14534966bcd97e20c66929ee7820cbcc65174a85472f5f"), looks := true }, kinds := [], alts := [], laidByText := true, laidKinds := [.data, .pinned], laidTests := true, laidLooks := .later }
def OrderComparesUptoCardSaid : Prop := Claim7.holds Tryd.pinned (.plain (OpenSpec.upto orderComparesSpec)) orderComparesUptoCard

/-- THE SECOND FORM's CARD OF 'wireschemalaw16.OrderUnkeys'. -/
def orderUnkeysUptoCard : Claim7 := { stood := { row := orderUnkeysUptoRow, standIns := [], harness := (true, "9b9e4a15404b6d51ce14534966bcd97e20c66929ee7820cbcc65174a85472f5f"), looks := true }, kinds := [], alts := [], laidByText := true, laidKinds := [.data, .pinned], laidTests := true, laidLooks := .later }
def OrderUnkeysUptoCardSaid : Prop := Claim7.holds Tryd.pinned (.plain (OpenSpec.upto orderUnkeysSpec)) orderUnkeysUptoCard

/-- THE SECOND FORM's CARD OF 'wireschemalaw16.OrderKeyBack'. -/
def orderKeyBackUptoCard : Claim7 := { stood := { row := orderKeyBackUptoRow, standIns := [], harness := (true, "9b9e4a15404b6d51ce14534966bcd97e20c66929ee7820cbcc65174a85472f5f"), looks := true }, kinds := [], alts := [], laidByText := true, laidKinds := [.data, .pinned], laidTests := true, laidLooks := .later }
def OrderKeyBackUptoCardSaid : Prop := Claim7.holds Tryd.pinned (.plain (OpenSpec.upto orderKeyBackSpec)) orderKeyBackUptoCard

/-- THE SECOND FORM's CARD OF 'wireschemalaw16.OrderLast'. -/
def orderLastUptoCard : Claim7 := { stood := { row := orderLastUptoRow, standIns := [], harness := (true, "9b9e4a15404b6d51ce14534966bcd97e20c66929ee7820cbcc65174a85472f5f"), looks := true }, kinds := [], alts := [], laidByText := true, laidKinds := [.data, .pinned], laidTests := true, laidLooks := .later }
def OrderLastUptoCardSaid : Prop := Claim7.holds Tryd.pinned (.plain (OpenSpec.upto orderLastSpec)) orderLastUptoCard

/-- THE SECOND FORM's CARD OF 'wireschemalaw16.OrderSorts'. -/
def orderSortsUptoCard : Claim7 := { stood := { row := orderSortsUptoRow, standIns := [], harness := (true, "9b9e4a15404b6d51ce14534966bcd97e20c66929ee7820cbcc65174a85472f5f"), looks := true }, kinds := [], alts := [], laidByText := true, laidKinds := [.data, .pinned], laidTests := true, laidLooks := .later }
def OrderSortsUptoCardSaid : Prop := Claim7.holds Tryd.pinned (.plain (OpenSpec.upto orderSortsSpec)) orderSortsUptoCard
end Rows
end Go.Proofs.YtlgpoapedgodoaaDoor
