/-
  No cell of these rows narrows 'for every input' (looked for: loops, veiled, ifaces, maps, wideKeys, modest, calm, conditions, laid).
  DERIVED. THE GIVEN ROWS OF THIS SEAT. 4 by the template 'for every input the law returns true; each argument reads behind the call as it read before'; 0 by the template 'total and deterministic' (their statements: YtpelnanckmjoaaaGreatTotals.lean).
  GIVEN WITH THE SEED: the statements are not yours to turn. If you find one false, say at which input.
  Laid BY PROGRAM, IN A SANDBOX (cutbox-rows.mjs): the forced cells as the released guide's own fill.sh prints them over the translation bbb2f34ba282adfd… (all of the seat's roots in one cut). By AI agents, Wed Nov 11 2026. No macro, syntax, notation, axiom, sorry.
-/
import Derived.Test.YtpelnanckmjoaaaGreatChecked
import GoSem.Claim
import GoSem.ClaimJoined
import GoSem.ClaimMapViews
import Derived.JoinedTies
import Derived.KernelRfl
namespace Go.Proofs.YtpelnanckmjoaaaGreat
/- THE CELL 'sum', in the pinned program and in every row, IS THE sha256 OF THE DUMP (.gsa) THAT YtpelnanckmjoaaaGreatProg.lean LOADS. Nothing in Lean hashes anything: it is a label: what it is worth is what the hold of that sum in a sandbox is worth. -/
noncomputable def Tryz.pinned : Pinned := { name := "ytpelnanckmjoaaagreat", sum := "bbb2f34ba282adfd0c621701b6b388efa8797c29f07ad0249e4a523f71e73e01", checked := Tryz.checked }
namespace Rows
def none {H : Type} : Left H := { results := [], args := [] }

/-- 'cloakroomlaw8.ModTakes': WHATEVER THE INPUT: true; the input reads as it did. -/
def modTakesSpec : ChangeSpec := { name := "modTakes", fn := fun _ => fun
  | [d] => { results := [.lit (.bool true)], args := [d] }
  | _ => none }
def modTakesRow : OpenClaim := { program := "ytpelnanckmjoaaagreat", sum := "bbb2f34ba282adfd0c621701b6b388efa8797c29f07ad0249e4a523f71e73e01", func := "cloakroom/cloakroomlaw8.ModTakes", spec := "modTakes", unfollowed := true, recurses := true, apart := false }
def ModTakesSaid : Prop := modTakesRow.holds Tryz.pinned (OpenSpec.ofChange modTakesSpec)

/-- ITS FALSE NEIGHBOUR: 'it returns false'. Refute it at one input. -/
def modTakesWrong : ChangeSpec := { name := "modTakes", fn := fun _ => fun
  | [d] => { results := [.lit (.bool false)], args := [d] }
  | _ => none }
def ModTakesWrongFalsely : Prop := modTakesRow.holds Tryz.pinned (OpenSpec.ofChange modTakesWrong)

/-- 'cloakroomlaw8.ModTurned': WHATEVER THE INPUT: true; the input reads as it did. -/
def modTurnedSpec : ChangeSpec := { name := "modTurned", fn := fun _ => fun
  | [d1, d2, d3, d4] => { results := [.lit (.bool true)], args := [d1, d2, d3, d4] }
  | _ => none }
def modTurnedRow : OpenClaim := { program := "ytpelnanckmjoaaagreat", sum := "bbb2f34ba282adfd0c621701b6b388efa8797c29f07ad0249e4a523f71e73e01", func := "cloakroom/cloakroomlaw8.ModTurned", spec := "modTurned", unfollowed := true, recurses := true, apart := false }
def ModTurnedSaid : Prop := modTurnedRow.holds Tryz.pinned (OpenSpec.ofChange modTurnedSpec)

/-- ITS FALSE NEIGHBOUR: 'it returns false'. Refute it at one input. -/
def modTurnedWrong : ChangeSpec := { name := "modTurned", fn := fun _ => fun
  | [d1, d2, d3, d4] => { results := [.lit (.bool false)], args := [d1, d2, d3, d4] }
  | _ => none }
def ModTurnedWrongFalsely : Prop := modTurnedRow.holds Tryz.pinned (OpenSpec.ofChange modTurnedWrong)

/-- 'cloakroomlaw8.ModCut': WHATEVER THE INPUT: true; the input reads as it did. -/
def modCutSpec : ChangeSpec := { name := "modCut", fn := fun _ => fun
  | [d1, d2] => { results := [.lit (.bool true)], args := [d1, d2] }
  | _ => none }
def modCutRow : OpenClaim := { program := "ytpelnanckmjoaaagreat", sum := "bbb2f34ba282adfd0c621701b6b388efa8797c29f07ad0249e4a523f71e73e01", func := "cloakroom/cloakroomlaw8.ModCut", spec := "modCut", unfollowed := true, recurses := true, apart := false }
def ModCutSaid : Prop := modCutRow.holds Tryz.pinned (OpenSpec.ofChange modCutSpec)

/-- ITS FALSE NEIGHBOUR: 'it returns false'. Refute it at one input. -/
def modCutWrong : ChangeSpec := { name := "modCut", fn := fun _ => fun
  | [d1, d2] => { results := [.lit (.bool false)], args := [d1, d2] }
  | _ => none }
def ModCutWrongFalsely : Prop := modCutRow.holds Tryz.pinned (OpenSpec.ofChange modCutWrong)

/-- 'cloakroomlaw8.ModForms': WHATEVER THE INPUT: true; the input reads as it did. -/
def modFormsSpec : ChangeSpec := { name := "modForms", fn := fun _ => fun
  | [] => { results := [.lit (.bool true)], args := [] }
  | _ => none }
def modFormsRow : OpenClaim := { program := "ytpelnanckmjoaaagreat", sum := "bbb2f34ba282adfd0c621701b6b388efa8797c29f07ad0249e4a523f71e73e01", func := "cloakroom/cloakroomlaw8.ModForms", spec := "modForms", unfollowed := true, recurses := true, apart := false }
def ModFormsSaid : Prop := modFormsRow.holds Tryz.pinned (OpenSpec.ofChange modFormsSpec)

/-- ITS FALSE NEIGHBOUR: 'it returns false'. Refute it at one input. -/
def modFormsWrong : ChangeSpec := { name := "modForms", fn := fun _ => fun
  | [] => { results := [.lit (.bool false)], args := [] }
  | _ => none }
def ModFormsWrongFalsely : Prop := modFormsRow.holds Tryz.pinned (OpenSpec.ofChange modFormsWrong)

/- THE SECOND FORM. 'bulk': how many values and letters a reading holds, each counted each time it is reached (what is shared counts as often as it is met; a slice's spare places count too). A statement '..UptoSaid' is the law's where the arguments, and the package variables that the reading takes, are together of bulk at most 1048576: NARROWER than '..Said'. Prove '..Said' where nothing that the law and all that it calls make is longer than what came in: it says more and counts as full. Else prove '..UptoSaid'. A law counts once. -/
mutual
def uptoBulk {H : Type} : DataW H → Nat
  | .lit (.string bytes) => bytes.length + 1
  | .lit _ => 1
  | .nil => 1
  | .ptr d => uptoBulk d + 1
  | .slice elems spare => uptoBulkAll elems + uptoBulkAll spare + 1
  | .agg parts => uptoBulkAll parts + 1
  | .iface _ d => uptoBulk d + 1
  | .map entries => uptoBulkEntries entries + 1
  | .held _ => 1
def uptoBulkAll {H : Type} : List (DataW H) → Nat
  | [] => 0
  | d :: r => uptoBulk d + uptoBulkAll r
def uptoBulkEntries {H : Type} : List (Lit × DataW H) → Nat
  | [] => 0
  | x :: r => uptoBulkEntry x + uptoBulkEntries r
def uptoBulkEntry {H : Type} : Lit × DataW H → Nat
  | (.string bytes, d) => bytes.length + uptoBulk d + 1
  | (_, d) => uptoBulk d + 1
 end
def uptoSmall : (H : Type) → List (DataW H) → Bool := fun _ ds => decide (uptoBulkAll ds ≤ 1048576)
def OpenSpec.upto (s : _root_.Go.ChangeSpec) : _root_.Go.OpenSpec := { _root_.Go.OpenSpec.ofChange s with cond := some uptoSmall }

/-- 'cloakroomlaw8.ModTakes', WHERE WHAT IT READS IS OF BULK AT MOST 1048576: true; the input reads as it did. -/
def modTakesUptoRow : OpenClaim := { program := "ytpelnanckmjoaaagreat", sum := "bbb2f34ba282adfd0c621701b6b388efa8797c29f07ad0249e4a523f71e73e01", func := "cloakroom/cloakroomlaw8.ModTakes", spec := "modTakes", unfollowed := true, recurses := true, apart := false, narrowed := true }
def ModTakesUptoSaid : Prop := modTakesUptoRow.holds Tryz.pinned (OpenSpec.upto modTakesSpec)

/-- 'cloakroomlaw8.ModTurned', WHERE WHAT IT READS IS OF BULK AT MOST 1048576: true; the input reads as it did. -/
def modTurnedUptoRow : OpenClaim := { program := "ytpelnanckmjoaaagreat", sum := "bbb2f34ba282adfd0c621701b6b388efa8797c29f07ad0249e4a523f71e73e01", func := "cloakroom/cloakroomlaw8.ModTurned", spec := "modTurned", unfollowed := true, recurses := true, apart := false, narrowed := true }
def ModTurnedUptoSaid : Prop := modTurnedUptoRow.holds Tryz.pinned (OpenSpec.upto modTurnedSpec)

/-- 'cloakroomlaw8.ModCut', WHERE WHAT IT READS IS OF BULK AT MOST 1048576: true; the input reads as it did. -/
def modCutUptoRow : OpenClaim := { program := "ytpelnanckmjoaaagreat", sum := "bbb2f34ba282adfd0c621701b6b388efa8797c29f07ad0249e4a523f71e73e01", func := "cloakroom/cloakroomlaw8.ModCut", spec := "modCut", unfollowed := true, recurses := true, apart := false, narrowed := true }
def ModCutUptoSaid : Prop := modCutUptoRow.holds Tryz.pinned (OpenSpec.upto modCutSpec)

/-- 'cloakroomlaw8.ModForms', WHERE WHAT IT READS IS OF BULK AT MOST 1048576: true; the input reads as it did. -/
def modFormsUptoRow : OpenClaim := { program := "ytpelnanckmjoaaagreat", sum := "bbb2f34ba282adfd0c621701b6b388efa8797c29f07ad0249e4a523f71e73e01", func := "cloakroom/cloakroomlaw8.ModForms", spec := "modForms", unfollowed := true, recurses := true, apart := false, narrowed := true }
def ModFormsUptoSaid : Prop := modFormsUptoRow.holds Tryz.pinned (OpenSpec.upto modFormsSpec)

end Rows
end Go.Proofs.YtpelnanckmjoaaaGreat
