/-
  No cell of these rows narrows 'for every input' (looked for: loops, veiled, ifaces, maps, wideKeys, modest, calm, conditions, laid).
  DERIVED. THE GIVEN ROWS OF THIS SEAT. 8 by the template 'for every input the law returns true; each argument reads behind the call as it read before'; 0 by the template 'total and deterministic' (their statements: YtpelnanckmjoaaaTotals.lean).
  GIVEN WITH THE SEED: the statements are not yours to turn. If you find one false, say at which input.
  Laid BY PROGRAM, IN A SANDBOX (cutbox-rows.mjs): the forced cells as the released guide's own fill.sh prints them over the translation 9051f571250d54da… (all of the seat's roots in one cut). By AI agents, Wed Nov 11 2026. No macro, syntax, notation, axiom, sorry.
-/
import Derived.Test.YtpelnanckmjoaaaChecked
import GoSem.Claim
import GoSem.ClaimJoined
import GoSem.ClaimMapViews
import Derived.JoinedTies
import Derived.KernelRfl
namespace Go.Proofs.Ytpelnanckmjoaaa
/- THE CELL 'sum', in the pinned program and in every row, IS THE sha256 OF THE DUMP (.gsa) THAT YtpelnanckmjoaaaProg.lean LOADS. Nothing in Lean hashes anything: it is a label: what it is worth is what the hold of that sum in a sandbox is worth. -/
noncomputable def Try.pinned : Pinned := { name := "ytpelnanckmjoaaa", sum := "9051f571250d54daebfbd12f9419af68435f1009ff8b3f1a1a295a17ca0d245d", checked := Try.checked }
namespace Rows
def none {H : Type} : Left H := { results := [], args := [] }

/-- 'cloakroomlaw6.CodeTakes': WHATEVER THE INPUT: true; the input reads as it did. -/
def codeTakesSpec : ChangeSpec := { name := "codeTakes", fn := fun _ => fun
  | [d] => { results := [.lit (.bool true)], args := [d] }
  | _ => none }
def codeTakesRow : OpenClaim := { program := "ytpelnanckmjoaaa", sum := "9051f571250d54daebfbd12f9419af68435f1009ff8b3f1a1a295a17ca0d245d", func := "cloakroom/cloakroomlaw6.CodeTakes", spec := "codeTakes", unfollowed := true, recurses := true, apart := false }
def CodeTakesSaid : Prop := codeTakesRow.holds Try.pinned (OpenSpec.ofChange codeTakesSpec)

/-- ITS FALSE NEIGHBOUR: 'it returns false'. Refute it at one input. -/
def codeTakesWrong : ChangeSpec := { name := "codeTakes", fn := fun _ => fun
  | [d] => { results := [.lit (.bool false)], args := [d] }
  | _ => none }
def CodeTakesWrongFalsely : Prop := codeTakesRow.holds Try.pinned (OpenSpec.ofChange codeTakesWrong)

/-- 'cloakroomlaw6.CodeTurned': WHATEVER THE INPUT: true; the input reads as it did. -/
def codeTurnedSpec : ChangeSpec := { name := "codeTurned", fn := fun _ => fun
  | [d1, d2, d3] => { results := [.lit (.bool true)], args := [d1, d2, d3] }
  | _ => none }
def codeTurnedRow : OpenClaim := { program := "ytpelnanckmjoaaa", sum := "9051f571250d54daebfbd12f9419af68435f1009ff8b3f1a1a295a17ca0d245d", func := "cloakroom/cloakroomlaw6.CodeTurned", spec := "codeTurned", unfollowed := true, recurses := true, apart := false }
def CodeTurnedSaid : Prop := codeTurnedRow.holds Try.pinned (OpenSpec.ofChange codeTurnedSpec)

/-- ITS FALSE NEIGHBOUR: 'it returns false'. Refute it at one input. -/
def codeTurnedWrong : ChangeSpec := { name := "codeTurned", fn := fun _ => fun
  | [d1, d2, d3] => { results := [.lit (.bool false)], args := [d1, d2, d3] }
  | _ => none }
def CodeTurnedWrongFalsely : Prop := codeTurnedRow.holds Try.pinned (OpenSpec.ofChange codeTurnedWrong)

/-- 'cloakroomlaw6.CodePuts': WHATEVER THE INPUT: true; the input reads as it did. -/
def codePutsSpec : ChangeSpec := { name := "codePuts", fn := fun _ => fun
  | [d1, d2, d3] => { results := [.lit (.bool true)], args := [d1, d2, d3] }
  | _ => none }
def codePutsRow : OpenClaim := { program := "ytpelnanckmjoaaa", sum := "9051f571250d54daebfbd12f9419af68435f1009ff8b3f1a1a295a17ca0d245d", func := "cloakroom/cloakroomlaw6.CodePuts", spec := "codePuts", unfollowed := true, recurses := true, apart := false }
def CodePutsSaid : Prop := codePutsRow.holds Try.pinned (OpenSpec.ofChange codePutsSpec)

/-- ITS FALSE NEIGHBOUR: 'it returns false'. Refute it at one input. -/
def codePutsWrong : ChangeSpec := { name := "codePuts", fn := fun _ => fun
  | [d1, d2, d3] => { results := [.lit (.bool false)], args := [d1, d2, d3] }
  | _ => none }
def CodePutsWrongFalsely : Prop := codePutsRow.holds Try.pinned (OpenSpec.ofChange codePutsWrong)

/-- 'cloakroomlaw6.CodeNest': WHATEVER THE INPUT: true; the input reads as it did. -/
def codeNestSpec : ChangeSpec := { name := "codeNest", fn := fun _ => fun
  | [d1, d2] => { results := [.lit (.bool true)], args := [d1, d2] }
  | _ => none }
def codeNestRow : OpenClaim := { program := "ytpelnanckmjoaaa", sum := "9051f571250d54daebfbd12f9419af68435f1009ff8b3f1a1a295a17ca0d245d", func := "cloakroom/cloakroomlaw6.CodeNest", spec := "codeNest", unfollowed := true, recurses := true, apart := false }
def CodeNestSaid : Prop := codeNestRow.holds Try.pinned (OpenSpec.ofChange codeNestSpec)

/-- ITS FALSE NEIGHBOUR: 'it returns false'. Refute it at one input. -/
def codeNestWrong : ChangeSpec := { name := "codeNest", fn := fun _ => fun
  | [d1, d2] => { results := [.lit (.bool false)], args := [d1, d2] }
  | _ => none }
def CodeNestWrongFalsely : Prop := codeNestRow.holds Try.pinned (OpenSpec.ofChange codeNestWrong)

/-- 'cloakroomlaw6.CodeForms': WHATEVER THE INPUT: true; the input reads as it did. -/
def codeFormsSpec : ChangeSpec := { name := "codeForms", fn := fun _ => fun
  | [] => { results := [.lit (.bool true)], args := [] }
  | _ => none }
def codeFormsRow : OpenClaim := { program := "ytpelnanckmjoaaa", sum := "9051f571250d54daebfbd12f9419af68435f1009ff8b3f1a1a295a17ca0d245d", func := "cloakroom/cloakroomlaw6.CodeForms", spec := "codeForms", unfollowed := true, recurses := true, apart := false }
def CodeFormsSaid : Prop := codeFormsRow.holds Try.pinned (OpenSpec.ofChange codeFormsSpec)

/-- ITS FALSE NEIGHBOUR: 'it returns false'. Refute it at one input. -/
def codeFormsWrong : ChangeSpec := { name := "codeForms", fn := fun _ => fun
  | [] => { results := [.lit (.bool false)], args := [] }
  | _ => none }
def CodeFormsWrongFalsely : Prop := codeFormsRow.holds Try.pinned (OpenSpec.ofChange codeFormsWrong)

/-- 'cloakroomlaw25.HandleNever': WHATEVER THE INPUT: true; the input reads as it did. -/
def handleNeverSpec : ChangeSpec := { name := "handleNever", fn := fun _ => fun
  | [d] => { results := [.lit (.bool true)], args := [d] }
  | _ => none }
def handleNeverRow : OpenClaim := { program := "ytpelnanckmjoaaa", sum := "9051f571250d54daebfbd12f9419af68435f1009ff8b3f1a1a295a17ca0d245d", func := "cloakroom/cloakroomlaw25.HandleNever", spec := "handleNever", unfollowed := true, recurses := true, apart := false }
def HandleNeverSaid : Prop := handleNeverRow.holds Try.pinned (OpenSpec.ofChange handleNeverSpec)

/-- ITS FALSE NEIGHBOUR: 'it returns false'. Refute it at one input. -/
def handleNeverWrong : ChangeSpec := { name := "handleNever", fn := fun _ => fun
  | [d] => { results := [.lit (.bool false)], args := [d] }
  | _ => none }
def HandleNeverWrongFalsely : Prop := handleNeverRow.holds Try.pinned (OpenSpec.ofChange handleNeverWrong)

/-- 'cloakroomlaw25.HandleRoom': WHATEVER THE INPUT: true; the input reads as it did. -/
def handleRoomSpec : ChangeSpec := { name := "handleRoom", fn := fun _ => fun
  | [d1, d2] => { results := [.lit (.bool true)], args := [d1, d2] }
  | _ => none }
def handleRoomRow : OpenClaim := { program := "ytpelnanckmjoaaa", sum := "9051f571250d54daebfbd12f9419af68435f1009ff8b3f1a1a295a17ca0d245d", func := "cloakroom/cloakroomlaw25.HandleRoom", spec := "handleRoom", unfollowed := true, recurses := true, apart := false }
def HandleRoomSaid : Prop := handleRoomRow.holds Try.pinned (OpenSpec.ofChange handleRoomSpec)

/-- ITS FALSE NEIGHBOUR: 'it returns false'. Refute it at one input. -/
def handleRoomWrong : ChangeSpec := { name := "handleRoom", fn := fun _ => fun
  | [d1, d2] => { results := [.lit (.bool false)], args := [d1, d2] }
  | _ => none }
def HandleRoomWrongFalsely : Prop := handleRoomRow.holds Try.pinned (OpenSpec.ofChange handleRoomWrong)

/-- 'cloakroomlaw25.HandleAll': WHATEVER THE INPUT: true; the input reads as it did. -/
def handleAllSpec : ChangeSpec := { name := "handleAll", fn := fun _ => fun
  | [d] => { results := [.lit (.bool true)], args := [d] }
  | _ => none }
def handleAllRow : OpenClaim := { program := "ytpelnanckmjoaaa", sum := "9051f571250d54daebfbd12f9419af68435f1009ff8b3f1a1a295a17ca0d245d", func := "cloakroom/cloakroomlaw25.HandleAll", spec := "handleAll", inPlace := ["maps.clone"], unfollowed := true, recurses := true, apart := false }
def HandleAllSaid : Prop := handleAllRow.holds Try.pinned (OpenSpec.ofChange handleAllSpec)

/-- ITS FALSE NEIGHBOUR: 'it returns false'. Refute it at one input. -/
def handleAllWrong : ChangeSpec := { name := "handleAll", fn := fun _ => fun
  | [d] => { results := [.lit (.bool false)], args := [d] }
  | _ => none }
def HandleAllWrongFalsely : Prop := handleAllRow.holds Try.pinned (OpenSpec.ofChange handleAllWrong)

/- THE SECOND FORM. 'bulk': how many values and letters a reading holds, each counted each time it is reached (what is shared counts as often as it is met; a slice's spare places count too). A statement '..UptoSaid' is the law's where the arguments, and the package variables that the reading takes, are together of bulk at most 1048576: NARROWER than '..Said'. Prove '..Said' where nothing that the law and all that it calls make is longer than what came in: it says more and counts as full. Else prove '..UptoSaid'. A law counts once. -/
mutual
def uptoBulk {H : Type} : DataW H → Nat
  | .lit (.string bytes) => bytes.length + 1
  | .lit _ => 1
  | .nil => 1
  | .ptr d => uptoBulk d + 1
  | .slice elems spare => uptoBulkAll elems + uptoBulkAll spare + 1
  | .agg parts => uptoBulkAll parts + 1
  | .iface _ d => uptoBulk d + 1
  | .map entries => uptoBulkEntries entries + 1
  | .held _ => 1
def uptoBulkAll {H : Type} : List (DataW H) → Nat
  | [] => 0
  | d :: r => uptoBulk d + uptoBulkAll r
def uptoBulkEntries {H : Type} : List (Lit × DataW H) → Nat
  | [] => 0
  | x :: r => uptoBulkEntry x + uptoBulkEntries r
def uptoBulkEntry {H : Type} : Lit × DataW H → Nat
  | (.string bytes, d) => bytes.length + uptoBulk d + 1
  | (_, d) => uptoBulk d + 1
 end
def uptoSmall : (H : Type) → List (DataW H) → Bool := fun _ ds => decide (uptoBulkAll ds ≤ 1048576)
def OpenSpec.upto (s : _root_.Go.ChangeSpec) : _root_.Go.OpenSpec := { _root_.Go.OpenSpec.ofChange s with cond := some uptoSmall }

/-- 'cloakroomlaw6.CodeTakes', WHERE WHAT IT READS IS OF BULK AT MOST 1048576: true; the input reads as it did. -/
def codeTakesUptoRow : OpenClaim := { program := "ytpelnanckmjoaaa", sum := "9051f571250d54daebfbd12f9419af68435f1009ff8b3f1a1a295a17ca0d245d", func := "cloakroom/cloakroomlaw6.CodeTakes", spec := "codeTakes", unfollowed := true, recurses := true, apart := false, narrowed := true }
def CodeTakesUptoSaid : Prop := codeTakesUptoRow.holds Try.pinned (OpenSpec.upto codeTakesSpec)

/-- 'cloakroomlaw6.CodeTurned', WHERE WHAT IT READS IS OF BULK AT MOST 1048576: true; the input reads as it did. -/
def codeTurnedUptoRow : OpenClaim := { program := "ytpelnanckmjoaaa", sum := "9051f571250d54daebfbd12f9419af68435f1009ff8b3f1a1a295a17ca0d245d", func := "cloakroom/cloakroomlaw6.CodeTurned", spec := "codeTurned", unfollowed := true, recurses := true, apart := false, narrowed := true }
def CodeTurnedUptoSaid : Prop := codeTurnedUptoRow.holds Try.pinned (OpenSpec.upto codeTurnedSpec)

/-- 'cloakroomlaw6.CodePuts', WHERE WHAT IT READS IS OF BULK AT MOST 1048576: true; the input reads as it did. -/
def codePutsUptoRow : OpenClaim := { program := "ytpelnanckmjoaaa", sum := "9051f571250d54daebfbd12f9419af68435f1009ff8b3f1a1a295a17ca0d245d", func := "cloakroom/cloakroomlaw6.CodePuts", spec := "codePuts", unfollowed := true, recurses := true, apart := false, narrowed := true }
def CodePutsUptoSaid : Prop := codePutsUptoRow.holds Try.pinned (OpenSpec.upto codePutsSpec)

/-- 'cloakroomlaw6.CodeNest', WHERE WHAT IT READS IS OF BULK AT MOST 1048576: true; the input reads as it did. -/
def codeNestUptoRow : OpenClaim := { program := "ytpelnanckmjoaaa", sum := "9051f571250d54daebfbd12f9419af68435f1009ff8b3f1a1a295a17ca0d245d", func := "cloakroom/cloakroomlaw6.CodeNest", spec := "codeNest", unfollowed := true, recurses := true, apart := false, narrowed := true }
def CodeNestUptoSaid : Prop := codeNestUptoRow.holds Try.pinned (OpenSpec.upto codeNestSpec)

/-- 'cloakroomlaw6.CodeForms', WHERE WHAT IT READS IS OF BULK AT MOST 1048576: true; the input reads as it did. -/
def codeFormsUptoRow : OpenClaim := { program := "ytpelnanckmjoaaa", sum := "9051f571250d54daebfbd12f9419af68435f1009ff8b3f1a1a295a17ca0d245d", func := "cloakroom/cloakroomlaw6.CodeForms", spec := "codeForms", unfollowed := true, recurses := true, apart := false, narrowed := true }
def CodeFormsUptoSaid : Prop := codeFormsUptoRow.holds Try.pinned (OpenSpec.upto codeFormsSpec)

/-- 'cloakroomlaw25.HandleNever', WHERE WHAT IT READS IS OF BULK AT MOST 1048576: true; the input reads as it did. -/
def handleNeverUptoRow : OpenClaim := { program := "ytpelnanckmjoaaa", sum := "9051f571250d54daebfbd12f9419af68435f1009ff8b3f1a1a295a17ca0d245d", func := "cloakroom/cloakroomlaw25.HandleNever", spec := "handleNever", unfollowed := true, recurses := true, apart := false, narrowed := true }
def HandleNeverUptoSaid : Prop := handleNeverUptoRow.holds Try.pinned (OpenSpec.upto handleNeverSpec)

/-- 'cloakroomlaw25.HandleRoom', WHERE WHAT IT READS IS OF BULK AT MOST 1048576: true; the input reads as it did. -/
def handleRoomUptoRow : OpenClaim := { program := "ytpelnanckmjoaaa", sum := "9051f571250d54daebfbd12f9419af68435f1009ff8b3f1a1a295a17ca0d245d", func := "cloakroom/cloakroomlaw25.HandleRoom", spec := "handleRoom", unfollowed := true, recurses := true, apart := false, narrowed := true }
def HandleRoomUptoSaid : Prop := handleRoomUptoRow.holds Try.pinned (OpenSpec.upto handleRoomSpec)

/-- 'cloakroomlaw25.HandleAll', WHERE WHAT IT READS IS OF BULK AT MOST 1048576: true; the input reads as it did. -/
def handleAllUptoRow : OpenClaim := { program := "ytpelnanckmjoaaa", sum := "9051f571250d54daebfbd12f9419af68435f1009ff8b3f1a1a295a17ca0d245d", func := "cloakroom/cloakroomlaw25.HandleAll", spec := "handleAll", inPlace := ["maps.clone"], unfollowed := true, recurses := true, apart := false, narrowed := true }
def HandleAllUptoSaid : Prop := handleAllUptoRow.holds Try.pinned (OpenSpec.upto handleAllSpec)

end Rows
end Go.Proofs.Ytpelnanckmjoaaa
