/- Part 11 of the texts that prove TextformScalarsEnd. -/
import Derived.Test.YtdpomombdeccpaaGreatDoorTextformScalarsEndP3
import Derived.Test.YtdpomombdeccpaaGreatDoorTextformScalarsEndP6
import Derived.Test.YtdpomombdeccpaaGreatDoorTextformScalarsEndP7
import Derived.Test.YtdpomombdeccpaaGreatDoorTextformScalarsEndP8
import Derived.Test.YtdpomombdeccpaaGreatDoorTextformScalarsEndP9
namespace Go.Proofs.YtdpomombdeccpaaGreatDoor.Lift
open Go.RowKit
set_option linter.unusedVariables false
set_option linter.unusedSimpArgs false
set_option linter.unnecessarySimpa false
set_option linter.unusedSectionVars false
set_option maxRecDepth 100000
noncomputable def tbl : Tbl := (62, 68, .from_ .skip 0, []) :: tabG Tryz.prog (tl1 ++ tl2 ++ tl3 ++ tl4)
theorem tbl_ok : TblOK Tryz.prog tbl := by
 intro g x hm
 rcases List.mem_cons.1 hm with h | h
 ·cases h; exact cc_ok
 ·exact tab_ok (by simp only [List.all_append]; rw [tl1_ok, tl2_ok, tl3_ok, tl4_ok]; rfl) g x h
def mode0 (f : Nat) (md : Bool) : Bool := if [210, 121, 175].contains f then true else if [171, 217].contains f then md else false
def powC : List AV := (List.range 20).map fun i => AV.v (.int .u64 ((10 ^ i : Nat) : Int))
def glP : List (Nat × List AV) := [(1, powC)]
def known1 (r : AV) : AV := .agg [.glob 1, .tuple powC, r]
def knI : List AV := [known1 (.v (.string ⟨#[45, 53]⟩)), .v (.int .i64 (-5))]
def kn0 : List AV := [(.agg [(.sl [[(.v (.string ⟨#[97, 46, 77]⟩)), (.sl [[(.v (.int .i64 1)), (.v (.string ⟨#[110]⟩)), (.v (.string ⟨#[]⟩)), (.v (.int .i64 2)), (.v (.int .i64 0)), (.v (.int .i64 2)), (.v (.int .i64 (-1))), (.v (.int .i64 (-1)))], [(.v (.int .i64 2)), (.v (.string ⟨#[108]⟩)), (.v (.string ⟨#[]⟩)), (.v (.int .i64 4)), (.v (.int .i64 0)), (.v (.int .i64 7)), (.v (.int .i64 (-1))), (.v (.int .i64 (-1)))]] .full), (.v (.int .i64 0))]] .full), .nil]), (.v (.int .i64 0)), (.agg [(.v (.int .i64 10)), (.v (.int .u64 0)), (.v (.string ⟨#[]⟩)), .nil, .nil, (.sl [[(.v (.int .i64 1)), (.v (.int .i64 2)), (.v (.int .u64 18446744073709551611)), (.v (.string ⟨#[]⟩)), .nil, .nil, .nil, .nil], [(.v (.int .i64 2)), (.v (.int .i64 11)), (.v (.int .u64 0)), (.v (.string ⟨#[]⟩)), (.sl [[(.v (.int .i64 7)), (.v (.int .u64 0)), (.v (.string ⟨#[97]⟩)), .nil, .nil, .nil, .nil], [(.v (.int .i64 7)), (.v (.int .u64 0)), (.v (.string ⟨#[98]⟩)), .nil, .nil, .nil, .nil]] .full), .nil, .nil, .nil]] .full), .nil])]
def kr0 : AV := (.v (.int .i64 0))
def kn1 : List AV := [(.agg [(.sl [[(.v (.string ⟨#[97, 46, 77]⟩)), (.sl [[(.v (.int .i64 1)), (.v (.string ⟨#[110]⟩)), (.v (.string ⟨#[]⟩)), (.v (.int .i64 2)), (.v (.int .i64 0)), (.v (.int .i64 2)), (.v (.int .i64 (-1))), (.v (.int .i64 (-1)))], [(.v (.int .i64 2)), (.v (.string ⟨#[108]⟩)), (.v (.string ⟨#[]⟩)), (.v (.int .i64 4)), (.v (.int .i64 0)), (.v (.int .i64 7)), (.v (.int .i64 (-1))), (.v (.int .i64 (-1)))]] .full), (.v (.int .i64 0))]] .full), .nil]), (.v (.string ⟨#[97, 46, 77]⟩)), (.agg [(.v (.int .i64 10)), (.v (.int .u64 0)), (.v (.string ⟨#[]⟩)), .nil, .nil, (.sl [[(.v (.int .i64 1)), (.v (.int .i64 2)), (.v (.int .u64 18446744073709551611)), (.v (.string ⟨#[]⟩)), .nil, .nil, .nil, .nil], [(.v (.int .i64 2)), (.v (.int .i64 11)), (.v (.int .u64 0)), (.v (.string ⟨#[]⟩)), (.sl [[(.v (.int .i64 7)), (.v (.int .u64 0)), (.v (.string ⟨#[97]⟩)), .nil, .nil, .nil, .nil], [(.v (.int .i64 7)), (.v (.int .u64 0)), (.v (.string ⟨#[98]⟩)), .nil, .nil, .nil, .nil]] .full), .nil, .nil, .nil]] .full), .nil])]
def kr1 : AV := (.tuple [(.v (.string ⟨#[110, 58, 32, 45, 53, 10, 108, 58, 32, 34, 97, 34, 10, 108, 58, 32, 34, 98, 34, 10]⟩)), (.v (.int .i64 0))])
def kn2 : List AV := [(.agg [(.sl [[(.v (.string ⟨#[97, 46, 77]⟩)), (.sl [[(.v (.int .i64 1)), (.v (.string ⟨#[110]⟩)), (.v (.string ⟨#[]⟩)), (.v (.int .i64 2)), (.v (.int .i64 0)), (.v (.int .i64 2)), (.v (.int .i64 (-1))), (.v (.int .i64 (-1)))], [(.v (.int .i64 2)), (.v (.string ⟨#[108]⟩)), (.v (.string ⟨#[]⟩)), (.v (.int .i64 4)), (.v (.int .i64 0)), (.v (.int .i64 7)), (.v (.int .i64 (-1))), (.v (.int .i64 (-1)))]] .full), (.v (.int .i64 0))]] .full), .nil]), (.v (.string ⟨#[97, 46, 77]⟩)), (.agg [(.v (.int .i64 10)), (.v (.int .u64 0)), (.v (.string ⟨#[]⟩)), .nil, .nil, (.sl [[(.v (.int .i64 1)), (.v (.int .i64 2)), (.v (.int .u64 18446744073709551611)), (.v (.string ⟨#[]⟩)), .nil, .nil, .nil, .nil], [(.v (.int .i64 2)), (.v (.int .i64 11)), (.v (.int .u64 0)), (.v (.string ⟨#[]⟩)), (.sl [[(.v (.int .i64 7)), (.v (.int .u64 0)), (.v (.string ⟨#[97]⟩)), .nil, .nil, .nil, .nil], [(.v (.int .i64 7)), (.v (.int .u64 0)), (.v (.string ⟨#[98]⟩)), .nil, .nil, .nil, .nil]] .full), .nil, .nil, .nil]] .full), .nil])]
def kr2 : AV := (.tuple [(.v (.string ⟨#[110, 58, 32, 45, 53, 32, 108, 58, 32, 34, 97, 34, 32, 108, 58, 32, 34, 98, 34]⟩)), (.v (.int .i64 0))])
def kn3 : List AV := [(.agg [(.sl [[(.v (.string ⟨#[97, 46, 77]⟩)), (.sl [[(.v (.int .i64 1)), (.v (.string ⟨#[110]⟩)), (.v (.string ⟨#[]⟩)), (.v (.int .i64 2)), (.v (.int .i64 0)), (.v (.int .i64 2)), (.v (.int .i64 (-1))), (.v (.int .i64 (-1)))], [(.v (.int .i64 2)), (.v (.string ⟨#[108]⟩)), (.v (.string ⟨#[]⟩)), (.v (.int .i64 4)), (.v (.int .i64 0)), (.v (.int .i64 7)), (.v (.int .i64 (-1))), (.v (.int .i64 (-1)))]] .full), (.v (.int .i64 0))]] .full), .nil]), (.v (.string ⟨#[97, 46, 77]⟩)), (.v (.string ⟨#[108, 58, 32, 34, 97, 34, 10, 110, 58, 32, 45, 53, 10, 108, 58, 32, 34, 98, 34, 10]⟩)), (.agg [(.v (.int .i64 65536)), (.v (.int .i64 16)), (.v (.int .i64 4096)), (.v (.int .i64 4096))])]
def kr3 : AV := (.tuple [(.agg [(.v (.int .i64 10)), (.v (.int .u64 0)), (.v (.string ⟨#[]⟩)), .nil, .nil, (.sl [[(.v (.int .i64 1)), (.v (.int .i64 2)), (.v (.int .u64 18446744073709551611)), (.v (.string ⟨#[]⟩)), .nil, .nil, .nil, .nil], [(.v (.int .i64 2)), (.v (.int .i64 11)), (.v (.int .u64 0)), (.v (.string ⟨#[]⟩)), (.sl [[(.v (.int .i64 7)), (.v (.int .u64 0)), (.v (.string ⟨#[97]⟩)), .nil, .nil, .nil, .nil], [(.v (.int .i64 7)), (.v (.int .u64 0)), (.v (.string ⟨#[98]⟩)), .nil, .nil, .nil, .nil]] .no), .nil, .nil, .nil]] .no), .nil]), (.v (.int .i64 0)), (.v (.int .i64 0))])
def kn4 : List AV := [(.agg [(.sl [[(.v (.string ⟨#[97, 46, 77]⟩)), (.sl [[(.v (.int .i64 1)), (.v (.string ⟨#[110]⟩)), (.v (.string ⟨#[]⟩)), (.v (.int .i64 2)), (.v (.int .i64 0)), (.v (.int .i64 2)), (.v (.int .i64 (-1))), (.v (.int .i64 (-1)))], [(.v (.int .i64 2)), (.v (.string ⟨#[108]⟩)), (.v (.string ⟨#[]⟩)), (.v (.int .i64 4)), (.v (.int .i64 0)), (.v (.int .i64 7)), (.v (.int .i64 (-1))), (.v (.int .i64 (-1)))]] .full), (.v (.int .i64 0))]] .full), .nil]), (.v (.string ⟨#[97, 46, 77]⟩)), (.v (.string ⟨#[110, 58, 32, 49, 10, 110, 58, 32, 49, 10]⟩)), (.agg [(.v (.int .i64 65536)), (.v (.int .i64 16)), (.v (.int .i64 4096)), (.v (.int .i64 4096))])]
def kr4 : AV := (.tuple [(.agg [(.v (.int .i64 0)), (.v (.int .u64 0)), (.v (.string ⟨#[]⟩)), .nil, .nil, .nil, .nil]), (.v (.int .i64 2)), (.v (.int .i64 9))])
noncomputable def tbk0 : Tbl := (76, 0, knC knI, []) :: tbl
noncomputable def tbk1 : Tbl := (58, 0, knC (known1 kr0 :: kn0), []) :: tbk0
noncomputable def tbk2 : Tbl := (7, 0, knC (known1 kr1 :: kn1), []) :: tbk1
noncomputable def tbk3 : Tbl := (9, 0, knC (known1 kr2 :: kn2), []) :: tbk2
noncomputable def tbk4 : Tbl := (24, 0, knC (known1 kr3 :: kn3), []) :: tbk3
noncomputable def tbk5 : Tbl := (24, 0, knC (known1 kr4 :: kn4), []) :: tbk4
end Go.Proofs.YtdpomombdeccpaaGreatDoor.Lift
