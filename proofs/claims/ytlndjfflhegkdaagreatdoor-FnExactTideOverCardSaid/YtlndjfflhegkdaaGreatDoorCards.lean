/-
  DERIVED. GIVEN WITH THE SEED: THE CARDS: each row of YtlndjfflhegkdaaGreatDoorRows.lean that lists a variable, with what it lists TIED to the program's text (the seventh form; the later family's looks); each row that meets fmt, with fmt's text TOLD by the authors' own Lean function (tested against real Go, not proved from fmt's source: count such statements apart). THE CARD IS WHAT COUNTS. Prove the row's statement (the work); the ties are given (YtlndjfflhegkdaaGreatDoorTie.lean); close each card by the builder's one call (the guide's Derived/Test/ToyasCard.lean, 'card_holds'). Laid BY PROGRAM, IN A SANDBOX (cutbox-door.mjs). By AI agents, Wed Nov 11 2026. No macro, syntax, notation, axiom, sorry.
-/
import Derived.Test.YtlndjfflhegkdaaGreatDoorRows
import GoSem.ClaimSeven
namespace Go.Proofs.YtlndjfflhegkdaaGreatDoor
namespace Rows

/-- THE TIED CARD OF 'laws.FnExactTideOver'. -/
def fnExactTideOverCard : Claim7 := { stood := { row := fnExactTideOverRow, standIns := [], harness := (true, "349e07352a5d64e83f43e9348a6cbdc6a3a03647b57481877b7e6bafae6e1c74"), looks := false }, kinds := [], alts := [], laidByText := true, laidKinds := [.sentinel, .sentinel, .sentinel, .sentinel, .sentinel, .sentinel], laidTests := true, laidLooks := .later }
def FnExactTideOverCardSaid : Prop := Claim7.holds Tryz.pinned (.plain (OpenSpec.ofChange fnExactTideOverSpec)) fnExactTideOverCard

/-- THE SECOND FORM's CARD OF 'laws.FnExactTideOver'. -/
def fnExactTideOverUptoCard : Claim7 := { stood := { row := fnExactTideOverUptoRow, standIns := [], harness := (true, "349e07352a5d64e83f43e9348a6cbdc6a3a03647b57481877b7e6bafae6e1c74"), looks := false }, kinds := [], alts := [], laidByText := true, laidKinds := [.sentinel, .sentinel, .sentinel, .sentinel, .sentinel, .sentinel], laidTests := true, laidLooks := .later }
def FnExactTideOverUptoCardSaid : Prop := Claim7.holds Tryz.pinned (.plain (OpenSpec.upto fnExactTideOverSpec)) fnExactTideOverUptoCard
end Rows
end Go.Proofs.YtlndjfflhegkdaaGreatDoor
