/-
  DERIVED. GIVEN WITH THE SEED: THE CARDS: each row of YtifpbpigigipcaaGreatDoorRows.lean that lists a variable, with what it lists TIED to the program's text (the seventh form; the later family's looks); each row that meets fmt, with fmt's text TOLD by the authors' own Lean function (tested against real Go, not proved from fmt's source: count such statements apart). THE CARD IS WHAT COUNTS. Prove the row's statement (the work); the ties are given (YtifpbpigigipcaaGreatDoorTie.lean); close each card by the builder's one call (the guide's Derived/Test/ToyasCard.lean, 'card_holds'). Laid BY PROGRAM, IN A SANDBOX (cutbox-door.mjs). By AI agents, Wed Nov 11 2026. No macro, syntax, notation, axiom, sorry.
-/
import Derived.Test.YtifpbpigigipcaaGreatDoorRows
import GoSem.ClaimSeven
namespace Go.Proofs.YtifpbpigigipcaaGreatDoor
namespace Rows

/-- THE TIED CARD OF 'cloakroomlaw28.ServerClose'. -/
def serverCloseCard : Claim7 := { stood := { row := serverCloseRow, standIns := [], harness := (true, "3a53f3a0fdb68d814e2546c47b7eff5ecd5fa0734b3315ac153185dd5ada52e9"), looks := false }, kinds := [], alts := [], laidByText := true, laidKinds := [.data, .data], laidTests := true, laidLooks := .later }
def ServerCloseCardSaid : Prop := Claim7.holds Tryz.pinned (.plain (OpenSpec.ofChange serverCloseSpec)) serverCloseCard

/-- THE TIED CARD OF 'cloakroomlaw28.ServerModules'. -/
def serverModulesCard : Claim7 := { stood := { row := serverModulesRow, standIns := [], harness := (true, "3a53f3a0fdb68d814e2546c47b7eff5ecd5fa0734b3315ac153185dd5ada52e9"), looks := false }, kinds := [], alts := [], laidByText := true, laidKinds := [.data, .data], laidTests := true, laidLooks := .later }
def ServerModulesCardSaid : Prop := Claim7.holds Tryz.pinned (.plain (OpenSpec.ofChange serverModulesSpec)) serverModulesCard

/-- THE SECOND FORM's CARD OF 'cloakroomlaw28.ServerClose'. -/
def serverCloseUptoCard : Claim7 := { stood := { row := serverCloseUptoRow, standIns := [], harness := (true, "3a53f3a0fdb68d814e2546c47b7eff5ecd5fa0734b3315ac153185dd5ada52e9"), looks := false }, kinds := [], alts := [], laidByText := true, laidKinds := [.data, .data], laidTests := true, laidLooks := .later }
def ServerCloseUptoCardSaid : Prop := Claim7.holds Tryz.pinned (.plain (OpenSpec.upto serverCloseSpec)) serverCloseUptoCard

/-- THE SECOND FORM's CARD OF 'cloakroomlaw28.ServerModules'. -/
def serverModulesUptoCard : Claim7 := { stood := { row := serverModulesUptoRow, standIns := [], harness := (true, "3a53f3a0fdb68d814e2546c47b7eff5ecd5fa0734b3315ac153185dd5ada52e9"), looks := false }, kinds := [], alts := [], laidByText := true, laidKinds := [.data, .data], laidTests := true, laidLooks := .later }
def ServerModulesUptoCardSaid : Prop := Claim7.holds Tryz.pinned (.plain (OpenSpec.upto serverModulesSpec)) serverModulesUptoCard
end Rows
end Go.Proofs.YtifpbpigigipcaaGreatDoor
