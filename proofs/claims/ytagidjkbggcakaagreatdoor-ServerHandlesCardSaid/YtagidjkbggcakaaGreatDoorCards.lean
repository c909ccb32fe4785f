/-
  DERIVED. GIVEN WITH THE SEED: THE CARDS: each row of YtagidjkbggcakaaGreatDoorRows.lean that lists a variable, with what it lists TIED to the program's text (the seventh form; the later family's looks); each row that meets fmt, with fmt's text TOLD by the authors' own Lean function (tested against real Go, not proved from fmt's source: count such statements apart). THE CARD IS WHAT COUNTS. Prove the row's statement (the work); the ties are given (YtagidjkbggcakaaGreatDoorTie.lean); close each card by the builder's one call (the guide's Derived/Test/ToyasCard.lean, 'card_holds'). Laid BY PROGRAM, IN A SANDBOX (cutbox-door.mjs). By AI agents, Wed Nov 11 2026. No macro, syntax, notation, axiom, sorry.
-/
import Derived.Test.YtagidjkbggcakaaGreatDoorRows
import GoSem.ClaimSeven
namespace Go.Proofs.YtagidjkbggcakaaGreatDoor
namespace Rows

/-- THE TIED CARD OF 'cloakroomlaw28.ServerHandles'. -/
def serverHandlesCard : Claim7 := { stood := { row := serverHandlesRow, standIns := [], harness := (true, "74925286079a1d23da7f8b0105ffc040c261921fd8daf146a3112e8f3647d444"), looks := false }, kinds := [], alts := [], laidByText := true, laidKinds := [.data, .data], laidTests := true, laidLooks := .later }
def ServerHandlesCardSaid : Prop := Claim7.holds Tryz.pinned (.plain (OpenSpec.ofChange serverHandlesSpec)) serverHandlesCard

/-- THE SECOND FORM's CARD OF 'cloakroomlaw28.ServerHandles'. -/
def serverHandlesUptoCard : Claim7 := { stood := { row := serverHandlesUptoRow, standIns := [], harness := (true, "74925286079a1d23da7f8b0105ffc040c261921fd8daf146a3112e8f3647d444"), looks := false }, kinds := [], alts := [], laidByText := true, laidKinds := [.data, .data], laidTests := true, laidLooks := .later }
def ServerHandlesUptoCardSaid : Prop := Claim7.holds Tryz.pinned (.plain (OpenSpec.upto serverHandlesSpec)) serverHandlesUptoCard
end Rows
end Go.Proofs.YtagidjkbggcakaaGreatDoor
