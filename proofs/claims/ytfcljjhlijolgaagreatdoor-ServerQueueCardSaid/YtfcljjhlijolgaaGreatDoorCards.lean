/-
  DERIVED. GIVEN WITH THE SEED: THE CARDS: each row of YtfcljjhlijolgaaGreatDoorRows.lean that lists a variable, with what it lists TIED to the program's text (the seventh form; the later family's looks); each row that meets fmt, with fmt's text TOLD by the authors' own Lean function (tested against real Go, not proved from fmt's source: count such statements apart). THE CARD IS WHAT COUNTS. Prove the row's statement (the work); the ties are given (YtfcljjhlijolgaaGreatDoorTie.lean); close each card by the builder's one call (the guide's Derived/Test/ToyasCard.lean, 'card_holds'). Laid BY PROGRAM, IN A SANDBOX (cutbox-door.mjs). By AI agents, Wed Nov 11 2026. No macro, syntax, notation, axiom, sorry.
-/
import Derived.Test.YtfcljjhlijolgaaGreatDoorRows
import GoSem.ClaimSeven
namespace Go.Proofs.YtfcljjhlijolgaaGreatDoor
namespace Rows

/-- THE TIED CARD OF 'cloakroomtop.TopReads'. -/
def topReadsCard : Claim7 := { stood := { row := topReadsRow, standIns := [], harness := (true, "34fa7890942a5859727b2863b86f0dc625530302953ce95b5905c61d30cd137f"), looks := false }, kinds := [], alts := [], laidByText := true, laidKinds := [.data, .data], laidTests := true, laidLooks := .later }
def TopReadsCardSaid : Prop := Claim7.holds Tryz.pinned (.plain (OpenSpec.ofChange topReadsSpec)) topReadsCard

/-- THE TIED CARD OF 'cloakroomtop.TopLate'. -/
def topLateCard : Claim7 := { stood := { row := topLateRow, standIns := [], harness := (true, "34fa7890942a5859727b2863b86f0dc625530302953ce95b5905c61d30cd137f"), looks := false }, kinds := [], alts := [], laidByText := true, laidKinds := [.data, .data], laidTests := true, laidLooks := .later }
def TopLateCardSaid : Prop := Claim7.holds Tryz.pinned (.plain (OpenSpec.ofChange topLateSpec)) topLateCard

/-- THE TIED CARD OF 'cloakroomlaw28.ServerNames'. -/
def serverNamesCard : Claim7 := { stood := { row := serverNamesRow, standIns := [], harness := (true, "34fa7890942a5859727b2863b86f0dc625530302953ce95b5905c61d30cd137f"), looks := false }, kinds := [], alts := [], laidByText := true, laidKinds := [.data, .data], laidTests := true, laidLooks := .later }
def ServerNamesCardSaid : Prop := Claim7.holds Tryz.pinned (.plain (OpenSpec.ofChange serverNamesSpec)) serverNamesCard

/-- THE TIED CARD OF 'cloakroomlaw28.ServerQueue'. -/
def serverQueueCard : Claim7 := { stood := { row := serverQueueRow, standIns := [], harness := (true, "34fa7890942a5859727b2863b86f0dc625530302953ce95b5905c61d30cd137f"), looks := false }, kinds := [], alts := [], laidByText := true, laidKinds := [.data, .data], laidTests := true, laidLooks := .later }
def ServerQueueCardSaid : Prop := Claim7.holds Tryz.pinned (.plain (OpenSpec.ofChange serverQueueSpec)) serverQueueCard

/-- THE TIED CARD OF 'cloakroomtop.TopEnds'. -/
def topEndsCard : Claim7 := { stood := { row := topEndsRow, standIns := [], harness := (true, "34fa7890942a5859727b2863b86f0dc625530302953ce95b5905c61d30cd137f"), looks := false }, kinds := [], alts := [], laidByText := true, laidKinds := [.data, .data], laidTests := true, laidLooks := .later }
def TopEndsCardSaid : Prop := Claim7.holds Tryz.pinned (.plain (OpenSpec.ofChange topEndsSpec)) topEndsCard

/-- THE TIED CARD OF 'cloakroomtop.TopCancels'. -/
def topCancelsCard : Claim7 := { stood := { row := topCancelsRow, standIns := [], harness := (true, "34fa7890942a5859727b2863b86f0dc625530302953ce95b5905c61d30cd137f"), looks := false }, kinds := [], alts := [], laidByText := true, laidKinds := [.data, .data], laidTests := true, laidLooks := .later }
def TopCancelsCardSaid : Prop := Claim7.holds Tryz.pinned (.plain (OpenSpec.ofChange topCancelsSpec)) topCancelsCard

/-- THE TIED CARD OF 'cloakroomtop.TopTokens'. -/
def topTokensCard : Claim7 := { stood := { row := topTokensRow, standIns := [], harness := (true, "34fa7890942a5859727b2863b86f0dc625530302953ce95b5905c61d30cd137f"), looks := false }, kinds := [], alts := [], laidByText := true, laidKinds := [.data, .data], laidTests := true, laidLooks := .later }
def TopTokensCardSaid : Prop := Claim7.holds Tryz.pinned (.plain (OpenSpec.ofChange topTokensSpec)) topTokensCard

/-- THE SECOND FORM's CARD OF 'cloakroomtop.TopReads'. -/
def topReadsUptoCard : Claim7 := { stood := { row := topReadsUptoRow, standIns := [], harness := (true, "34fa7890942a5859727b2863b86f0dc625530302953ce95b5905c61d30cd137f"), looks := false }, kinds := [], alts := [], laidByText := true, laidKinds := [.data, .data], laidTests := true, laidLooks := .later }
def TopReadsUptoCardSaid : Prop := Claim7.holds Tryz.pinned (.plain (OpenSpec.upto topReadsSpec)) topReadsUptoCard

/-- THE SECOND FORM's CARD OF 'cloakroomtop.TopLate'. -/
def topLateUptoCard : Claim7 := { stood := { row := topLateUptoRow, standIns := [], harness := (true, "34fa7890942a5859727b2863b86f0dc625530302953ce95b5905c61d30cd137f"), looks := false }, kinds := [], alts := [], laidByText := true, laidKinds := [.data, .data], laidTests := true, laidLooks := .later }
def TopLateUptoCardSaid : Prop := Claim7.holds Tryz.pinned (.plain (OpenSpec.upto topLateSpec)) topLateUptoCard

/-- THE SECOND FORM's CARD OF 'cloakroomlaw28.ServerNames'. -/
def serverNamesUptoCard : Claim7 := { stood := { row := serverNamesUptoRow, standIns := [], harness := (true, "34fa7890942a5859727b2863b86f0dc625530302953ce95b5905c61d30cd137f"), looks := false }, kinds := [], alts := [], laidByText := true, laidKinds := [.data, .data], laidTests := true, laidLooks := .later }
def ServerNamesUptoCardSaid : Prop := Claim7.holds Tryz.pinned (.plain (OpenSpec.upto serverNamesSpec)) serverNamesUptoCard

/-- THE SECOND FORM's CARD OF 'cloakroomlaw28.ServerQueue'. -/
def serverQueueUptoCard : Claim7 := { stood := { row := serverQueueUptoRow, standIns := [], harness := (true, "34fa7890942a5859727b2863b86f0dc625530302953ce95b5905c61d30cd137f"), looks := false }, kinds := [], alts := [], laidByText := true, laidKinds := [.data, .data], laidTests := true, laidLooks := .later }
def ServerQueueUptoCardSaid : Prop := Claim7.holds Tryz.pinned (.plain (OpenSpec.upto serverQueueSpec)) serverQueueUptoCard

/-- THE SECOND FORM's CARD OF 'cloakroomtop.TopEnds'. -/
def topEndsUptoCard : Claim7 := { stood := { row := topEndsUptoRow, standIns := [], harness := (true, "34fa7890942a5859727b2863b86f0dc625530302953ce95b5905c61d30cd137f"), looks := false }, kinds := [], alts := [], laidByText := true, laidKinds := [.data, .data], laidTests := true, laidLooks := .later }
def TopEndsUptoCardSaid : Prop := Claim7.holds Tryz.pinned (.plain (OpenSpec.upto topEndsSpec)) topEndsUptoCard

/-- THE SECOND FORM's CARD OF 'cloakroomtop.TopCancels'. -/
def topCancelsUptoCard : Claim7 := { stood := { row := topCancelsUptoRow, standIns := [], harness := (true, "34fa7890942a5859727b2863b86f0dc625530302953ce95b5905c61d30cd137f"), looks := false }, kinds := [], alts := [], laidByText := true, laidKinds := [.data, .data], laidTests := true, laidLooks := .later }
def TopCancelsUptoCardSaid : Prop := Claim7.holds Tryz.pinned (.plain (OpenSpec.upto topCancelsSpec)) topCancelsUptoCard

/-- THE SECOND FORM's CARD OF 'cloakroomtop.TopTokens'. -/
def topTokensUptoCard : Claim7 := { stood := { row := topTokensUptoRow, standIns := [], harness := (true, "34fa7890942a5859727b2863b86f0dc625530302953ce95b5905c61d30cd137f"), looks := false }, kinds := [], alts := [], laidByText := true, laidKinds := [.data, .data], laidTests := true, laidLooks := .later }
def TopTokensUptoCardSaid : Prop := Claim7.holds Tryz.pinned (.plain (OpenSpec.upto topTokensSpec)) topTokensUptoCard
end Rows
end Go.Proofs.YtfcljjhlijolgaaGreatDoor
