/-
  DERIVED. GIVEN WITH THE SEED: THE CARDS: each row of YtfeojipiejbagaaGreatDoorRows.lean that lists a variable, with what it lists TIED to the program's text (the seventh form; the later family's looks); each row that meets fmt, with fmt's text TOLD by the authors' own Lean function (tested against real Go, not proved from fmt's source: count such statements apart). THE CARD IS WHAT COUNTS. Prove the row's statement (the work); the ties are given (YtfeojipiejbagaaGreatDoorTie.lean); close each card by the builder's one call (the guide's Derived/Test/ToyasCard.lean, 'card_holds'). Laid BY PROGRAM, IN A SANDBOX (cutbox-door.mjs). By AI agents, Wed Nov 11 2026. No macro, syntax, notation, axiom, sorry.
-/
import Derived.Test.YtfeojipiejbagaaGreatDoorRows
import GoSem.ClaimSeven
namespace Go.Proofs.YtfeojipiejbagaaGreatDoor
namespace Rows

/-- THE TIED CARD OF 'cloakroomlaw28.ServerCancels'. -/
def serverCancelsCard : Claim7 := { stood := { row := serverCancelsRow, standIns := [], harness := (true, "f103011e8081e6b5342bf0a05698148dff60b914c0b3ec33aeb671bc829e1532"), looks := false }, kinds := [], alts := [], laidByText := true, laidKinds := [.data, .data], laidTests := true, laidLooks := .later }
def ServerCancelsCardSaid : Prop := Claim7.holds Tryz.pinned (.plain (OpenSpec.ofChange serverCancelsSpec)) serverCancelsCard

/-- THE TIED CARD OF 'cloakroomlaw28.ServerLate'. -/
def serverLateCard : Claim7 := { stood := { row := serverLateRow, standIns := [], harness := (true, "f103011e8081e6b5342bf0a05698148dff60b914c0b3ec33aeb671bc829e1532"), looks := false }, kinds := [], alts := [], laidByText := true, laidKinds := [.data, .data], laidTests := true, laidLooks := .later }
def ServerLateCardSaid : Prop := Claim7.holds Tryz.pinned (.plain (OpenSpec.ofChange serverLateSpec)) serverLateCard

/-- THE TIED CARD OF 'cloakroomlaw28.ServerModules'. -/
def serverModulesCard : Claim7 := { stood := { row := serverModulesRow, standIns := [], harness := (true, "f103011e8081e6b5342bf0a05698148dff60b914c0b3ec33aeb671bc829e1532"), looks := false }, kinds := [], alts := [], laidByText := true, laidKinds := [.data, .data], laidTests := true, laidLooks := .later }
def ServerModulesCardSaid : Prop := Claim7.holds Tryz.pinned (.plain (OpenSpec.ofChange serverModulesSpec)) serverModulesCard

/-- THE SECOND FORM's CARD OF 'cloakroomlaw28.ServerCancels'. -/
def serverCancelsUptoCard : Claim7 := { stood := { row := serverCancelsUptoRow, standIns := [], harness := (true, "f103011e8081e6b5342bf0a05698148dff60b914c0b3ec33aeb671bc829e1532"), looks := false }, kinds := [], alts := [], laidByText := true, laidKinds := [.data, .data], laidTests := true, laidLooks := .later }
def ServerCancelsUptoCardSaid : Prop := Claim7.holds Tryz.pinned (.plain (OpenSpec.upto serverCancelsSpec)) serverCancelsUptoCard

/-- THE SECOND FORM's CARD OF 'cloakroomlaw28.ServerLate'. -/
def serverLateUptoCard : Claim7 := { stood := { row := serverLateUptoRow, standIns := [], harness := (true, "f103011e8081e6b5342bf0a05698148dff60b914c0b3ec33aeb671bc829e1532"), looks := false }, kinds := [], alts := [], laidByText := true, laidKinds := [.data, .data], laidTests := true, laidLooks := .later }
def ServerLateUptoCardSaid : Prop := Claim7.holds Tryz.pinned (.plain (OpenSpec.upto serverLateSpec)) serverLateUptoCard

/-- THE SECOND FORM's CARD OF 'cloakroomlaw28.ServerModules'. -/
def serverModulesUptoCard : Claim7 := { stood := { row := serverModulesUptoRow, standIns := [], harness := (true, "f103011e8081e6b5342bf0a05698148dff60b914c0b3ec33aeb671bc829e1532"), looks := false }, kinds := [], alts := [], laidByText := true, laidKinds := [.data, .data], laidTests := true, laidLooks := .later }
def ServerModulesUptoCardSaid : Prop := Claim7.holds Tryz.pinned (.plain (OpenSpec.upto serverModulesSpec)) serverModulesUptoCard
end Rows
end Go.Proofs.YtfeojipiejbagaaGreatDoor
