/-
  DERIVED. GIVEN WITH THE SEED: THE CARDS: each row of YtobdcokhmpaooaaDoorRows.lean that lists a variable, with what it lists TIED to the program's text (the seventh form; the later family's looks); each row that meets fmt, with fmt's text TOLD by the authors' own Lean function (tested against real Go, not proved from fmt's source: count such statements apart). THE CARD IS WHAT COUNTS. Prove the row's statement (the work); the ties are given (YtobdcokhmpaooaaDoorTie.lean); close each card by the builder's one call (the guide's Derived/Test/ToyasCard.lean, 'card_holds'). Laid BY PROGRAM, IN A SANDBOX (cutbox-door.mjs). By AI agents, Wed Nov 11 2026. No macro, syntax, notation, axiom, sorry.
-/
import Derived.Test.YtobdcokhmpaooaaDoorRows
import GoSem.ClaimSeven
namespace Go.Proofs.YtobdcokhmpaooaaDoor
namespace Rows

/-- THE TIED CARD OF 'hasplaw4.MemPlays'. -/
def memPlaysCard : Claim7 := { stood := { row := memPlaysRow, standIns := [], harness := (true, "339851ea750ec63565624679652a107f66e5dedc20f7f0e658e45f0fdac54409"), looks := true }, kinds := [], alts := [], laidByText := true, laidKinds := [.handle], laidTests := true, laidLooks := .later }
def MemPlaysCardSaid : Prop := Claim7.holds Tryd.pinned (.plain (OpenSpec.ofChange memPlaysSpec)) memPlaysCard

/-- THE TIED CARD OF 'hasplaw5.AccessPlays'. -/
def accessPlaysCard : Claim7 := { stood := { row := accessPlaysRow, standIns := [], harness := (true, "339851ea750ec63565624679652a107f66e5dedc20f7f0e658e45f0fdac54409"), looks := true }, kinds := [], alts := [], laidByText := true, laidKinds := [.handle], laidTests := true, laidLooks := .later }
def AccessPlaysCardSaid : Prop := Claim7.holds Tryd.pinned (.plain (OpenSpec.ofChange accessPlaysSpec)) accessPlaysCard

/-- THE SECOND FORM's CARD OF 'hasplaw4.MemPlays'. -/
def memPlaysUptoCard : Claim7 := { stood := { row := memPlaysUptoRow, standIns := [], harness := (true, "339851ea750ec63565624679652a107f66e5dedc20f7f0e658e45f0fdac54409"), looks := true }, kinds := [], alts := [], laidByText := true, laidKinds := [.handle], laidTests := true, laidLooks := .later }
def MemPlaysUptoCardSaid : Prop := Claim7.holds Tryd.pinned (.plain (OpenSpec.upto memPlaysSpec)) memPlaysUptoCard

/-- THE SECOND FORM's CARD OF 'hasplaw5.AccessPlays'. -/
def accessPlaysUptoCard : Claim7 := { stood := { row := accessPlaysUptoRow, standIns := [], harness := (true, "339851ea750ec63565624679652a107f66e5dedc20f7f0e658e45f0fdac54409"), looks := true }, kinds := [], alts := [], laidByText := true, laidKinds := [.handle], laidTests := true, laidLooks := .later }
def AccessPlaysUptoCardSaid : Prop := Claim7.holds Tryd.pinned (.plain (OpenSpec.upto accessPlaysSpec)) accessPlaysUptoCard
end Rows
end Go.Proofs.YtobdcokhmpaooaaDoor
