/-
  No cell of these rows narrows 'for every input' (looked for: loops, veiled, ifaces, maps, wideKeys, modest, calm, conditions, laid).
  DERIVED. THE GIVEN ROWS OF THIS SEAT. 10 by the template 'for every input the law returns true; each argument reads behind the call as it read before'; 0 by the template 'total and deterministic' (their statements: YtkjcmmniicgbmaaTotals.lean).
  GIVEN WITH THE SEED: the statements are not yours to turn. If you find one false, say at which input.
  Laid BY PROGRAM, IN A SANDBOX (cutbox-rows.mjs): the forced cells as the released guide's own fill.sh prints them over the translation d496ecf20dcc12f6… (all of the seat's roots in one cut). By AI agents, Wed Nov 11 2026. No macro, syntax, notation, axiom, sorry.
-/
import Derived.Test.YtkjcmmniicgbmaaChecked
import GoSem.Claim
import GoSem.ClaimJoined
import GoSem.ClaimMapViews
import Derived.JoinedTies
import Derived.KernelRfl
namespace Go.Proofs.Ytkjcmmniicgbmaa
/- THE CELL 'sum', in the pinned program and in every row, IS THE sha256 OF THE DUMP (.gsa) THAT YtkjcmmniicgbmaaProg.lean LOADS. Nothing in Lean hashes anything: it is a label: what it is worth is what the hold of that sum in a sandbox is worth. -/
noncomputable def Try.pinned : Pinned := { name := "ytkjcmmniicgbmaa", sum := "d496ecf20dcc12f60f120e74812b7b8169a807c88b3fe88d68df51871de57c3b", checked := Try.checked }
namespace Rows
def none {H : Type} : Left H := { results := [], args := [] }

/-- 'cloakroomlaw7.SectSplits': WHATEVER THE INPUT: true; the input reads as it did. -/
def sectSplitsSpec : ChangeSpec := { name := "sectSplits", fn := fun _ => fun
  | [d1, d2] => { results := [.lit (.bool true)], args := [d1, d2] }
  | _ => none }
def sectSplitsRow : OpenClaim := { program := "ytkjcmmniicgbmaa", sum := "d496ecf20dcc12f60f120e74812b7b8169a807c88b3fe88d68df51871de57c3b", func := "cloakroom/cloakroomlaw7.SectSplits", spec := "sectSplits", apart := false }
def SectSplitsSaid : Prop := sectSplitsRow.holds Try.pinned (OpenSpec.ofChange sectSplitsSpec)

/-- ITS FALSE NEIGHBOUR: 'it returns false'. Refute it at one input. -/
def sectSplitsWrong : ChangeSpec := { name := "sectSplits", fn := fun _ => fun
  | [d1, d2] => { results := [.lit (.bool false)], args := [d1, d2] }
  | _ => none }
def SectSplitsWrongFalsely : Prop := sectSplitsRow.holds Try.pinned (OpenSpec.ofChange sectSplitsWrong)

/-- 'cloakroomlaw7.SectBack': WHATEVER THE INPUT: true; the input reads as it did. -/
def sectBackSpec : ChangeSpec := { name := "sectBack", fn := fun _ => fun
  | [d] => { results := [.lit (.bool true)], args := [d] }
  | _ => none }
def sectBackRow : OpenClaim := { program := "ytkjcmmniicgbmaa", sum := "d496ecf20dcc12f60f120e74812b7b8169a807c88b3fe88d68df51871de57c3b", func := "cloakroom/cloakroomlaw7.SectBack", spec := "sectBack", apart := false }
def SectBackSaid : Prop := sectBackRow.holds Try.pinned (OpenSpec.ofChange sectBackSpec)

/-- ITS FALSE NEIGHBOUR: 'it returns false'. Refute it at one input. -/
def sectBackWrong : ChangeSpec := { name := "sectBack", fn := fun _ => fun
  | [d] => { results := [.lit (.bool false)], args := [d] }
  | _ => none }
def SectBackWrongFalsely : Prop := sectBackRow.holds Try.pinned (OpenSpec.ofChange sectBackWrong)

/-- 'cloakroomlaw7.SectGo': WHATEVER THE INPUT: true; the input reads as it did. -/
def sectGoSpec : ChangeSpec := { name := "sectGo", fn := fun _ => fun
  | [d] => { results := [.lit (.bool true)], args := [d] }
  | _ => none }
def sectGoRow : OpenClaim := { program := "ytkjcmmniicgbmaa", sum := "d496ecf20dcc12f60f120e74812b7b8169a807c88b3fe88d68df51871de57c3b", func := "cloakroom/cloakroomlaw7.SectGo", spec := "sectGo", apart := false }
def SectGoSaid : Prop := sectGoRow.holds Try.pinned (OpenSpec.ofChange sectGoSpec)

/-- ITS FALSE NEIGHBOUR: 'it returns false'. Refute it at one input. -/
def sectGoWrong : ChangeSpec := { name := "sectGo", fn := fun _ => fun
  | [d] => { results := [.lit (.bool false)], args := [d] }
  | _ => none }
def SectGoWrongFalsely : Prop := sectGoRow.holds Try.pinned (OpenSpec.ofChange sectGoWrong)

/-- 'cloakroomlaw7.SectForms': WHATEVER THE INPUT: true; the input reads as it did. -/
def sectFormsSpec : ChangeSpec := { name := "sectForms", fn := fun _ => fun
  | [] => { results := [.lit (.bool true)], args := [] }
  | _ => none }
def sectFormsRow : OpenClaim := { program := "ytkjcmmniicgbmaa", sum := "d496ecf20dcc12f60f120e74812b7b8169a807c88b3fe88d68df51871de57c3b", func := "cloakroom/cloakroomlaw7.SectForms", spec := "sectForms", apart := false }
def SectFormsSaid : Prop := sectFormsRow.holds Try.pinned (OpenSpec.ofChange sectFormsSpec)

/-- ITS FALSE NEIGHBOUR: 'it returns false'. Refute it at one input. -/
def sectFormsWrong : ChangeSpec := { name := "sectForms", fn := fun _ => fun
  | [] => { results := [.lit (.bool false)], args := [] }
  | _ => none }
def SectFormsWrongFalsely : Prop := sectFormsRow.holds Try.pinned (OpenSpec.ofChange sectFormsWrong)

/-- 'cloakroomlaw7.SectTwice': WHATEVER THE INPUT: true; the input reads as it did. -/
def sectTwiceSpec : ChangeSpec := { name := "sectTwice", fn := fun _ => fun
  | [d1, d2] => { results := [.lit (.bool true)], args := [d1, d2] }
  | _ => none }
def sectTwiceRow : OpenClaim := { program := "ytkjcmmniicgbmaa", sum := "d496ecf20dcc12f60f120e74812b7b8169a807c88b3fe88d68df51871de57c3b", func := "cloakroom/cloakroomlaw7.SectTwice", spec := "sectTwice", apart := false }
def SectTwiceSaid : Prop := sectTwiceRow.holds Try.pinned (OpenSpec.ofChange sectTwiceSpec)

/-- ITS FALSE NEIGHBOUR: 'it returns false'. Refute it at one input. -/
def sectTwiceWrong : ChangeSpec := { name := "sectTwice", fn := fun _ => fun
  | [d1, d2] => { results := [.lit (.bool false)], args := [d1, d2] }
  | _ => none }
def SectTwiceWrongFalsely : Prop := sectTwiceRow.holds Try.pinned (OpenSpec.ofChange sectTwiceWrong)

/-- 'cloakroomlaw4.TypesAll': WHATEVER THE INPUT: true; the input reads as it did. -/
def typesAllSpec : ChangeSpec := { name := "typesAll", fn := fun _ => fun
  | [d1, d2] => { results := [.lit (.bool true)], args := [d1, d2] }
  | _ => none }
def typesAllRow : OpenClaim := { program := "ytkjcmmniicgbmaa", sum := "d496ecf20dcc12f60f120e74812b7b8169a807c88b3fe88d68df51871de57c3b", func := "cloakroom/cloakroomlaw4.TypesAll", spec := "typesAll", apart := false }
def TypesAllSaid : Prop := typesAllRow.holds Try.pinned (OpenSpec.ofChange typesAllSpec)

/-- ITS FALSE NEIGHBOUR: 'it returns false'. Refute it at one input. -/
def typesAllWrong : ChangeSpec := { name := "typesAll", fn := fun _ => fun
  | [d1, d2] => { results := [.lit (.bool false)], args := [d1, d2] }
  | _ => none }
def TypesAllWrongFalsely : Prop := typesAllRow.holds Try.pinned (OpenSpec.ofChange typesAllWrong)

/-- 'cloakroomlaw4.TypesPuts': WHATEVER THE INPUT: true; the input reads as it did. -/
def typesPutsSpec : ChangeSpec := { name := "typesPuts", fn := fun _ => fun
  | [d1, d2, d3, d4] => { results := [.lit (.bool true)], args := [d1, d2, d3, d4] }
  | _ => none }
def typesPutsRow : OpenClaim := { program := "ytkjcmmniicgbmaa", sum := "d496ecf20dcc12f60f120e74812b7b8169a807c88b3fe88d68df51871de57c3b", func := "cloakroom/cloakroomlaw4.TypesPuts", spec := "typesPuts", apart := false }
def TypesPutsSaid : Prop := typesPutsRow.holds Try.pinned (OpenSpec.ofChange typesPutsSpec)

/-- ITS FALSE NEIGHBOUR: 'it returns false'. Refute it at one input. -/
def typesPutsWrong : ChangeSpec := { name := "typesPuts", fn := fun _ => fun
  | [d1, d2, d3, d4] => { results := [.lit (.bool false)], args := [d1, d2, d3, d4] }
  | _ => none }
def TypesPutsWrongFalsely : Prop := typesPutsRow.holds Try.pinned (OpenSpec.ofChange typesPutsWrong)

/-- 'cloakroomlaw4.TypesBack': WHATEVER THE INPUT: true; the input reads as it did. -/
def typesBackSpec : ChangeSpec := { name := "typesBack", fn := fun _ => fun
  | [d1, d2, d3, d4] => { results := [.lit (.bool true)], args := [d1, d2, d3, d4] }
  | _ => none }
def typesBackRow : OpenClaim := { program := "ytkjcmmniicgbmaa", sum := "d496ecf20dcc12f60f120e74812b7b8169a807c88b3fe88d68df51871de57c3b", func := "cloakroom/cloakroomlaw4.TypesBack", spec := "typesBack", apart := false }
def TypesBackSaid : Prop := typesBackRow.holds Try.pinned (OpenSpec.ofChange typesBackSpec)

/-- ITS FALSE NEIGHBOUR: 'it returns false'. Refute it at one input. -/
def typesBackWrong : ChangeSpec := { name := "typesBack", fn := fun _ => fun
  | [d1, d2, d3, d4] => { results := [.lit (.bool false)], args := [d1, d2, d3, d4] }
  | _ => none }
def TypesBackWrongFalsely : Prop := typesBackRow.holds Try.pinned (OpenSpec.ofChange typesBackWrong)

/-- 'cloakroomlaw4.TypesForms': WHATEVER THE INPUT: true; the input reads as it did. -/
def typesFormsSpec : ChangeSpec := { name := "typesForms", fn := fun _ => fun
  | [] => { results := [.lit (.bool true)], args := [] }
  | _ => none }
def typesFormsRow : OpenClaim := { program := "ytkjcmmniicgbmaa", sum := "d496ecf20dcc12f60f120e74812b7b8169a807c88b3fe88d68df51871de57c3b", func := "cloakroom/cloakroomlaw4.TypesForms", spec := "typesForms", apart := false }
def TypesFormsSaid : Prop := typesFormsRow.holds Try.pinned (OpenSpec.ofChange typesFormsSpec)

/-- ITS FALSE NEIGHBOUR: 'it returns false'. Refute it at one input. -/
def typesFormsWrong : ChangeSpec := { name := "typesForms", fn := fun _ => fun
  | [] => { results := [.lit (.bool false)], args := [] }
  | _ => none }
def TypesFormsWrongFalsely : Prop := typesFormsRow.holds Try.pinned (OpenSpec.ofChange typesFormsWrong)

/-- 'cloakroomlaw4.TypesOne': WHATEVER THE INPUT: true; the input reads as it did. -/
def typesOneSpec : ChangeSpec := { name := "typesOne", fn := fun _ => fun
  | [d1, d2, d3, d4] => { results := [.lit (.bool true)], args := [d1, d2, d3, d4] }
  | _ => none }
def typesOneRow : OpenClaim := { program := "ytkjcmmniicgbmaa", sum := "d496ecf20dcc12f60f120e74812b7b8169a807c88b3fe88d68df51871de57c3b", func := "cloakroom/cloakroomlaw4.TypesOne", spec := "typesOne", apart := false }
def TypesOneSaid : Prop := typesOneRow.holds Try.pinned (OpenSpec.ofChange typesOneSpec)

/-- ITS FALSE NEIGHBOUR: 'it returns false'. Refute it at one input. -/
def typesOneWrong : ChangeSpec := { name := "typesOne", fn := fun _ => fun
  | [d1, d2, d3, d4] => { results := [.lit (.bool false)], args := [d1, d2, d3, d4] }
  | _ => none }
def TypesOneWrongFalsely : Prop := typesOneRow.holds Try.pinned (OpenSpec.ofChange typesOneWrong)

/- THE SECOND FORM. 'bulk': how many values and letters a reading holds, each counted each time it is reached (what is shared counts as often as it is met; a slice's spare places count too). A statement '..UptoSaid' is the law's where the arguments, and the package variables that the reading takes, are together of bulk at most 1048576: NARROWER than '..Said'. Prove '..Said' where nothing that the law and all that it calls make is longer than what came in: it says more and counts as full. Else prove '..UptoSaid'. A law counts once. -/
mutual
def uptoBulk {H : Type} : DataW H → Nat
  | .lit (.string bytes) => bytes.length + 1
  | .lit _ => 1
  | .nil => 1
  | .ptr d => uptoBulk d + 1
  | .slice elems spare => uptoBulkAll elems + uptoBulkAll spare + 1
  | .agg parts => uptoBulkAll parts + 1
  | .iface _ d => uptoBulk d + 1
  | .map entries => uptoBulkEntries entries + 1
  | .held _ => 1
def uptoBulkAll {H : Type} : List (DataW H) → Nat
  | [] => 0
  | d :: r => uptoBulk d + uptoBulkAll r
def uptoBulkEntries {H : Type} : List (Lit × DataW H) → Nat
  | [] => 0
  | x :: r => uptoBulkEntry x + uptoBulkEntries r
def uptoBulkEntry {H : Type} : Lit × DataW H → Nat
  | (.string bytes, d) => bytes.length + uptoBulk d + 1
  | (_, d) => uptoBulk d + 1
 end
def uptoSmall : (H : Type) → List (DataW H) → Bool := fun _ ds => decide (uptoBulkAll ds ≤ 1048576)
def OpenSpec.upto (s : _root_.Go.ChangeSpec) : _root_.Go.OpenSpec := { _root_.Go.OpenSpec.ofChange s with cond := some uptoSmall }

/-- 'cloakroomlaw7.SectSplits', WHERE WHAT IT READS IS OF BULK AT MOST 1048576: true; the input reads as it did. -/
def sectSplitsUptoRow : OpenClaim := { program := "ytkjcmmniicgbmaa", sum := "d496ecf20dcc12f60f120e74812b7b8169a807c88b3fe88d68df51871de57c3b", func := "cloakroom/cloakroomlaw7.SectSplits", spec := "sectSplits", apart := false, narrowed := true }
def SectSplitsUptoSaid : Prop := sectSplitsUptoRow.holds Try.pinned (OpenSpec.upto sectSplitsSpec)

/-- 'cloakroomlaw7.SectBack', WHERE WHAT IT READS IS OF BULK AT MOST 1048576: true; the input reads as it did. -/
def sectBackUptoRow : OpenClaim := { program := "ytkjcmmniicgbmaa", sum := "d496ecf20dcc12f60f120e74812b7b8169a807c88b3fe88d68df51871de57c3b", func := "cloakroom/cloakroomlaw7.SectBack", spec := "sectBack", apart := false, narrowed := true }
def SectBackUptoSaid : Prop := sectBackUptoRow.holds Try.pinned (OpenSpec.upto sectBackSpec)

/-- 'cloakroomlaw7.SectGo', WHERE WHAT IT READS IS OF BULK AT MOST 1048576: true; the input reads as it did. -/
def sectGoUptoRow : OpenClaim := { program := "ytkjcmmniicgbmaa", sum := "d496ecf20dcc12f60f120e74812b7b8169a807c88b3fe88d68df51871de57c3b", func := "cloakroom/cloakroomlaw7.SectGo", spec := "sectGo", apart := false, narrowed := true }
def SectGoUptoSaid : Prop := sectGoUptoRow.holds Try.pinned (OpenSpec.upto sectGoSpec)

/-- 'cloakroomlaw7.SectForms', WHERE WHAT IT READS IS OF BULK AT MOST 1048576: true; the input reads as it did. -/
def sectFormsUptoRow : OpenClaim := { program := "ytkjcmmniicgbmaa", sum := "d496ecf20dcc12f60f120e74812b7b8169a807c88b3fe88d68df51871de57c3b", func := "cloakroom/cloakroomlaw7.SectForms", spec := "sectForms", apart := false, narrowed := true }
def SectFormsUptoSaid : Prop := sectFormsUptoRow.holds Try.pinned (OpenSpec.upto sectFormsSpec)

/-- 'cloakroomlaw7.SectTwice', WHERE WHAT IT READS IS OF BULK AT MOST 1048576: true; the input reads as it did. -/
def sectTwiceUptoRow : OpenClaim := { program := "ytkjcmmniicgbmaa", sum := "d496ecf20dcc12f60f120e74812b7b8169a807c88b3fe88d68df51871de57c3b", func := "cloakroom/cloakroomlaw7.SectTwice", spec := "sectTwice", apart := false, narrowed := true }
def SectTwiceUptoSaid : Prop := sectTwiceUptoRow.holds Try.pinned (OpenSpec.upto sectTwiceSpec)

/-- 'cloakroomlaw4.TypesAll', WHERE WHAT IT READS IS OF BULK AT MOST 1048576: true; the input reads as it did. -/
def typesAllUptoRow : OpenClaim := { program := "ytkjcmmniicgbmaa", sum := "d496ecf20dcc12f60f120e74812b7b8169a807c88b3fe88d68df51871de57c3b", func := "cloakroom/cloakroomlaw4.TypesAll", spec := "typesAll", apart := false, narrowed := true }
def TypesAllUptoSaid : Prop := typesAllUptoRow.holds Try.pinned (OpenSpec.upto typesAllSpec)

/-- 'cloakroomlaw4.TypesPuts', WHERE WHAT IT READS IS OF BULK AT MOST 1048576: true; the input reads as it did. -/
def typesPutsUptoRow : OpenClaim := { program := "ytkjcmmniicgbmaa", sum := "d496ecf20dcc12f60f120e74812b7b8169a807c88b3fe88d68df51871de57c3b", func := "cloakroom/cloakroomlaw4.TypesPuts", spec := "typesPuts", apart := false, narrowed := true }
def TypesPutsUptoSaid : Prop := typesPutsUptoRow.holds Try.pinned (OpenSpec.upto typesPutsSpec)

/-- 'cloakroomlaw4.TypesBack', WHERE WHAT IT READS IS OF BULK AT MOST 1048576: true; the input reads as it did. -/
def typesBackUptoRow : OpenClaim := { program := "ytkjcmmniicgbmaa", sum := "d496ecf20dcc12f60f120e74812b7b8169a807c88b3fe88d68df51871de57c3b", func := "cloakroom/cloakroomlaw4.TypesBack", spec := "typesBack", apart := false, narrowed := true }
def TypesBackUptoSaid : Prop := typesBackUptoRow.holds Try.pinned (OpenSpec.upto typesBackSpec)

/-- 'cloakroomlaw4.TypesForms', WHERE WHAT IT READS IS OF BULK AT MOST 1048576: true; the input reads as it did. -/
def typesFormsUptoRow : OpenClaim := { program := "ytkjcmmniicgbmaa", sum := "d496ecf20dcc12f60f120e74812b7b8169a807c88b3fe88d68df51871de57c3b", func := "cloakroom/cloakroomlaw4.TypesForms", spec := "typesForms", apart := false, narrowed := true }
def TypesFormsUptoSaid : Prop := typesFormsUptoRow.holds Try.pinned (OpenSpec.upto typesFormsSpec)

/-- 'cloakroomlaw4.TypesOne', WHERE WHAT IT READS IS OF BULK AT MOST 1048576: true; the input reads as it did. -/
def typesOneUptoRow : OpenClaim := { program := "ytkjcmmniicgbmaa", sum := "d496ecf20dcc12f60f120e74812b7b8169a807c88b3fe88d68df51871de57c3b", func := "cloakroom/cloakroomlaw4.TypesOne", spec := "typesOne", apart := false, narrowed := true }
def TypesOneUptoSaid : Prop := typesOneUptoRow.holds Try.pinned (OpenSpec.upto typesOneSpec)

end Rows
end Go.Proofs.Ytkjcmmniicgbmaa
