/-
  No cell of these rows narrows 'for every input' (looked for: loops, veiled, ifaces, maps, wideKeys, modest, calm, conditions, laid).
  DERIVED. THE GIVEN ROWS OF THIS SEAT. 3 by the template 'for every input the law returns true; each argument reads behind the call as it read before'; 0 by the template 'total and deterministic' (their statements: YtfidembfkbjelaaTotals.lean).
  GIVEN WITH THE SEED: the statements are not yours to turn. If you find one false, say at which input.
  Laid BY PROGRAM, IN A SANDBOX (cutbox-rows.mjs): the forced cells as the released guide's own fill.sh prints them over the translation a290cee284fe7809… (all of the seat's roots in one cut). By AI agents, Wed Nov 11 2026. No macro, syntax, notation, axiom, sorry.
-/
import Derived.Test.YtfidembfkbjelaaChecked
import GoSem.Claim
import GoSem.ClaimJoined
import GoSem.ClaimMapViews
import Derived.JoinedTies
import Derived.KernelRfl
namespace Go.Proofs.Ytfidembfkbjelaa
/- THE CELL 'sum', in the pinned program and in every row, IS THE sha256 OF THE DUMP (.gsa) THAT YtfidembfkbjelaaProg.lean LOADS. Nothing in Lean hashes anything: it is a label: what it is worth is what the hold of that sum in a sandbox is worth. -/
noncomputable def Try.pinned : Pinned := { name := "ytfidembfkbjelaa", sum := "a290cee284fe78097035d43bbeb70a771252651113fe899c4015855b2ca54b37", checked := Try.checked }
namespace Rows
def none {H : Type} : Left H := { results := [], args := [] }

/-- 'cloakroomlaw25.HandleNever': WHATEVER THE INPUT: true; the input reads as it did. -/
def handleNeverSpec : ChangeSpec := { name := "handleNever", fn := fun _ => fun
  | [d] => { results := [.lit (.bool true)], args := [d] }
  | _ => none }
def handleNeverRow : OpenClaim := { program := "ytfidembfkbjelaa", sum := "a290cee284fe78097035d43bbeb70a771252651113fe899c4015855b2ca54b37", func := "cloakroom/cloakroomlaw25.HandleNever", spec := "handleNever", unfollowed := true, recurses := true, apart := false }
def HandleNeverSaid : Prop := handleNeverRow.holds Try.pinned (OpenSpec.ofChange handleNeverSpec)

/-- ITS FALSE NEIGHBOUR: 'it returns false'. Refute it at one input. -/
def handleNeverWrong : ChangeSpec := { name := "handleNever", fn := fun _ => fun
  | [d] => { results := [.lit (.bool false)], args := [d] }
  | _ => none }
def HandleNeverWrongFalsely : Prop := handleNeverRow.holds Try.pinned (OpenSpec.ofChange handleNeverWrong)

/-- 'cloakroomlaw25.HandleRoom': WHATEVER THE INPUT: true; the input reads as it did. -/
def handleRoomSpec : ChangeSpec := { name := "handleRoom", fn := fun _ => fun
  | [d1, d2] => { results := [.lit (.bool true)], args := [d1, d2] }
  | _ => none }
def handleRoomRow : OpenClaim := { program := "ytfidembfkbjelaa", sum := "a290cee284fe78097035d43bbeb70a771252651113fe899c4015855b2ca54b37", func := "cloakroom/cloakroomlaw25.HandleRoom", spec := "handleRoom", unfollowed := true, recurses := true, apart := false }
def HandleRoomSaid : Prop := handleRoomRow.holds Try.pinned (OpenSpec.ofChange handleRoomSpec)

/-- ITS FALSE NEIGHBOUR: 'it returns false'. Refute it at one input. -/
def handleRoomWrong : ChangeSpec := { name := "handleRoom", fn := fun _ => fun
  | [d1, d2] => { results := [.lit (.bool false)], args := [d1, d2] }
  | _ => none }
def HandleRoomWrongFalsely : Prop := handleRoomRow.holds Try.pinned (OpenSpec.ofChange handleRoomWrong)

/-- 'cloakroomlaw25.HandleAll': WHATEVER THE INPUT: true; the input reads as it did. -/
def handleAllSpec : ChangeSpec := { name := "handleAll", fn := fun _ => fun
  | [d] => { results := [.lit (.bool true)], args := [d] }
  | _ => none }
def handleAllRow : OpenClaim := { program := "ytfidembfkbjelaa", sum := "a290cee284fe78097035d43bbeb70a771252651113fe899c4015855b2ca54b37", func := "cloakroom/cloakroomlaw25.HandleAll", spec := "handleAll", inPlace := ["maps.clone"], unfollowed := true, recurses := true, apart := false }
def HandleAllSaid : Prop := handleAllRow.holds Try.pinned (OpenSpec.ofChange handleAllSpec)

/-- ITS FALSE NEIGHBOUR: 'it returns false'. Refute it at one input. -/
def handleAllWrong : ChangeSpec := { name := "handleAll", fn := fun _ => fun
  | [d] => { results := [.lit (.bool false)], args := [d] }
  | _ => none }
def HandleAllWrongFalsely : Prop := handleAllRow.holds Try.pinned (OpenSpec.ofChange handleAllWrong)

/- THE SECOND FORM. 'bulk': how many values and letters a reading holds, each counted each time it is reached (what is shared counts as often as it is met; a slice's spare places count too). A statement '..UptoSaid' is the law's where the arguments, and the package variables that the reading takes, are together of bulk at most 1048576: NARROWER than '..Said'. Prove '..Said' where nothing that the law and all that it calls make is longer than what came in: it says more and counts as full. Else prove '..UptoSaid'. A law counts once. -/
mutual
def uptoBulk {H : Type} : DataW H → Nat
  | .lit (.string bytes) => bytes.length + 1
  | .lit _ => 1
  | .nil => 1
  | .ptr d => uptoBulk d + 1
  | .slice elems spare => uptoBulkAll elems + uptoBulkAll spare + 1
  | .agg parts => uptoBulkAll parts + 1
  | .iface _ d => uptoBulk d + 1
  | .map entries => uptoBulkEntries entries + 1
  | .held _ => 1
def uptoBulkAll {H : Type} : List (DataW H) → Nat
  | [] => 0
  | d :: r => uptoBulk d + uptoBulkAll r
def uptoBulkEntries {H : Type} : List (Lit × DataW H) → Nat
  | [] => 0
  | x :: r => uptoBulkEntry x + uptoBulkEntries r
def uptoBulkEntry {H : Type} : Lit × DataW H → Nat
  | (.string bytes, d) => bytes.length + uptoBulk d + 1
  | (_, d) => uptoBulk d + 1
 end
def uptoSmall : (H : Type) → List (DataW H) → Bool := fun _ ds => decide (uptoBulkAll ds ≤ 1048576)
def OpenSpec.upto (s : _root_.Go.ChangeSpec) : _root_.Go.OpenSpec := { _root_.Go.OpenSpec.ofChange s with cond := some uptoSmall }

/-- 'cloakroomlaw25.HandleNever', WHERE WHAT IT READS IS OF BULK AT MOST 1048576: true; the input reads as it did. -/
def handleNeverUptoRow : OpenClaim := { program := "ytfidembfkbjelaa", sum := "a290cee284fe78097035d43bbeb70a771252651113fe899c4015855b2ca54b37", func := "cloakroom/cloakroomlaw25.HandleNever", spec := "handleNever", unfollowed := true, recurses := true, apart := false, narrowed := true }
def HandleNeverUptoSaid : Prop := handleNeverUptoRow.holds Try.pinned (OpenSpec.upto handleNeverSpec)

/-- 'cloakroomlaw25.HandleRoom', WHERE WHAT IT READS IS OF BULK AT MOST 1048576: true; the input reads as it did. -/
def handleRoomUptoRow : OpenClaim := { program := "ytfidembfkbjelaa", sum := "a290cee284fe78097035d43bbeb70a771252651113fe899c4015855b2ca54b37", func := "cloakroom/cloakroomlaw25.HandleRoom", spec := "handleRoom", unfollowed := true, recurses := true, apart := false, narrowed := true }
def HandleRoomUptoSaid : Prop := handleRoomUptoRow.holds Try.pinned (OpenSpec.upto handleRoomSpec)

/-- 'cloakroomlaw25.HandleAll', WHERE WHAT IT READS IS OF BULK AT MOST 1048576: true; the input reads as it did. -/
def handleAllUptoRow : OpenClaim := { program := "ytfidembfkbjelaa", sum := "a290cee284fe78097035d43bbeb70a771252651113fe899c4015855b2ca54b37", func := "cloakroom/cloakroomlaw25.HandleAll", spec := "handleAll", inPlace := ["maps.clone"], unfollowed := true, recurses := true, apart := false, narrowed := true }
def HandleAllUptoSaid : Prop := handleAllUptoRow.holds Try.pinned (OpenSpec.upto handleAllSpec)

end Rows
end Go.Proofs.Ytfidembfkbjelaa
