/-
  No cell of these rows narrows 'for every input' (looked for: loops, veiled, ifaces, maps, wideKeys, modest, calm, conditions, laid).
  DERIVED. THE GIVEN ROWS OF THIS SEAT. 12 by the template 'for every input the law returns true; each argument reads behind the call as it read before'; 0 by the template 'total and deterministic' (their statements: YtejiebbbodealaaTotals.lean).
  GIVEN WITH THE SEED: the statements are not yours to turn. If you find one false, say at which input.
  Laid BY PROGRAM, IN A SANDBOX (cutbox-rows.mjs): the forced cells as the released guide's own fill.sh prints them over the translation e63177bfca44ae00… (all of the seat's roots in one cut). By AI agents, Wed Nov 11 2026. No macro, syntax, notation, axiom, sorry.
-/
import Derived.Test.YtejiebbbodealaaChecked
import GoSem.Claim
import GoSem.ClaimJoined
import GoSem.ClaimMapViews
import Derived.JoinedTies
import Derived.KernelRfl
namespace Go.Proofs.Ytejiebbbodealaa
/- THE CELL 'sum', in the pinned program and in every row, IS THE sha256 OF THE DUMP (.gsa) THAT YtejiebbbodealaaProg.lean LOADS. Nothing in Lean hashes anything: it is a label: what it is worth is what the hold of that sum in a sandbox is worth. -/
noncomputable def Try.pinned : Pinned := { name := "ytejiebbbodealaa", sum := "e63177bfca44ae000ab14bc5685daea8d01b29224e96253988932389804fd5ce", checked := Try.checked }
namespace Rows
def none {H : Type} : Left H := { results := [], args := [] }

/-- 'cloakroomlaw1.LebPuts': WHATEVER THE INPUT: true; the input reads as it did. -/
def lebPutsSpec : ChangeSpec := { name := "lebPuts", fn := fun _ => fun
  | [d1, d2, d3] => { results := [.lit (.bool true)], args := [d1, d2, d3] }
  | _ => none }
def lebPutsRow : OpenClaim := { program := "ytejiebbbodealaa", sum := "e63177bfca44ae000ab14bc5685daea8d01b29224e96253988932389804fd5ce", func := "cloakroom/cloakroomlaw1.LebPuts", spec := "lebPuts", apart := false }
def LebPutsSaid : Prop := lebPutsRow.holds Try.pinned (OpenSpec.ofChange lebPutsSpec)

/-- ITS FALSE NEIGHBOUR: 'it returns false'. Refute it at one input. -/
def lebPutsWrong : ChangeSpec := { name := "lebPuts", fn := fun _ => fun
  | [d1, d2, d3] => { results := [.lit (.bool false)], args := [d1, d2, d3] }
  | _ => none }
def LebPutsWrongFalsely : Prop := lebPutsRow.holds Try.pinned (OpenSpec.ofChange lebPutsWrong)

/-- 'cloakroomlaw1.LebShort': WHATEVER THE INPUT: true; the input reads as it did. -/
def lebShortSpec : ChangeSpec := { name := "lebShort", fn := fun _ => fun
  | [d1, d2] => { results := [.lit (.bool true)], args := [d1, d2] }
  | _ => none }
def lebShortRow : OpenClaim := { program := "ytejiebbbodealaa", sum := "e63177bfca44ae000ab14bc5685daea8d01b29224e96253988932389804fd5ce", func := "cloakroom/cloakroomlaw1.LebShort", spec := "lebShort", apart := false }
def LebShortSaid : Prop := lebShortRow.holds Try.pinned (OpenSpec.ofChange lebShortSpec)

/-- ITS FALSE NEIGHBOUR: 'it returns false'. Refute it at one input. -/
def lebShortWrong : ChangeSpec := { name := "lebShort", fn := fun _ => fun
  | [d1, d2] => { results := [.lit (.bool false)], args := [d1, d2] }
  | _ => none }
def LebShortWrongFalsely : Prop := lebShortRow.holds Try.pinned (OpenSpec.ofChange lebShortWrong)

/-- 'cloakroomlaw1.LebLong': WHATEVER THE INPUT: true; the input reads as it did. -/
def lebLongSpec : ChangeSpec := { name := "lebLong", fn := fun _ => fun
  | [d1, d2, d3] => { results := [.lit (.bool true)], args := [d1, d2, d3] }
  | _ => none }
def lebLongRow : OpenClaim := { program := "ytejiebbbodealaa", sum := "e63177bfca44ae000ab14bc5685daea8d01b29224e96253988932389804fd5ce", func := "cloakroom/cloakroomlaw1.LebLong", spec := "lebLong", apart := false }
def LebLongSaid : Prop := lebLongRow.holds Try.pinned (OpenSpec.ofChange lebLongSpec)

/-- ITS FALSE NEIGHBOUR: 'it returns false'. Refute it at one input. -/
def lebLongWrong : ChangeSpec := { name := "lebLong", fn := fun _ => fun
  | [d1, d2, d3] => { results := [.lit (.bool false)], args := [d1, d2, d3] }
  | _ => none }
def LebLongWrongFalsely : Prop := lebLongRow.holds Try.pinned (OpenSpec.ofChange lebLongWrong)

/-- 'cloakroomlaw1.LebReads': WHATEVER THE INPUT: true; the input reads as it did. -/
def lebReadsSpec : ChangeSpec := { name := "lebReads", fn := fun _ => fun
  | [d] => { results := [.lit (.bool true)], args := [d] }
  | _ => none }
def lebReadsRow : OpenClaim := { program := "ytejiebbbodealaa", sum := "e63177bfca44ae000ab14bc5685daea8d01b29224e96253988932389804fd5ce", func := "cloakroom/cloakroomlaw1.LebReads", spec := "lebReads", apart := false }
def LebReadsSaid : Prop := lebReadsRow.holds Try.pinned (OpenSpec.ofChange lebReadsSpec)

/-- ITS FALSE NEIGHBOUR: 'it returns false'. Refute it at one input. -/
def lebReadsWrong : ChangeSpec := { name := "lebReads", fn := fun _ => fun
  | [d] => { results := [.lit (.bool false)], args := [d] }
  | _ => none }
def LebReadsWrongFalsely : Prop := lebReadsRow.holds Try.pinned (OpenSpec.ofChange lebReadsWrong)

/-- 'cloakroomlaw1.LebBack': WHATEVER THE INPUT: true; the input reads as it did. -/
def lebBackSpec : ChangeSpec := { name := "lebBack", fn := fun _ => fun
  | [d1, d2, d3, d4] => { results := [.lit (.bool true)], args := [d1, d2, d3, d4] }
  | _ => none }
def lebBackRow : OpenClaim := { program := "ytejiebbbodealaa", sum := "e63177bfca44ae000ab14bc5685daea8d01b29224e96253988932389804fd5ce", func := "cloakroom/cloakroomlaw1.LebBack", spec := "lebBack", apart := false }
def LebBackSaid : Prop := lebBackRow.holds Try.pinned (OpenSpec.ofChange lebBackSpec)

/-- ITS FALSE NEIGHBOUR: 'it returns false'. Refute it at one input. -/
def lebBackWrong : ChangeSpec := { name := "lebBack", fn := fun _ => fun
  | [d1, d2, d3, d4] => { results := [.lit (.bool false)], args := [d1, d2, d3, d4] }
  | _ => none }
def LebBackWrongFalsely : Prop := lebBackRow.holds Try.pinned (OpenSpec.ofChange lebBackWrong)

/-- 'cloakroomlaw7.SectSplits': WHATEVER THE INPUT: true; the input reads as it did. -/
def sectSplitsSpec : ChangeSpec := { name := "sectSplits", fn := fun _ => fun
  | [d1, d2] => { results := [.lit (.bool true)], args := [d1, d2] }
  | _ => none }
def sectSplitsRow : OpenClaim := { program := "ytejiebbbodealaa", sum := "e63177bfca44ae000ab14bc5685daea8d01b29224e96253988932389804fd5ce", func := "cloakroom/cloakroomlaw7.SectSplits", spec := "sectSplits", apart := false }
def SectSplitsSaid : Prop := sectSplitsRow.holds Try.pinned (OpenSpec.ofChange sectSplitsSpec)

/-- ITS FALSE NEIGHBOUR: 'it returns false'. Refute it at one input. -/
def sectSplitsWrong : ChangeSpec := { name := "sectSplits", fn := fun _ => fun
  | [d1, d2] => { results := [.lit (.bool false)], args := [d1, d2] }
  | _ => none }
def SectSplitsWrongFalsely : Prop := sectSplitsRow.holds Try.pinned (OpenSpec.ofChange sectSplitsWrong)

/-- 'cloakroomlaw7.SectBack': WHATEVER THE INPUT: true; the input reads as it did. -/
def sectBackSpec : ChangeSpec := { name := "sectBack", fn := fun _ => fun
  | [d] => { results := [.lit (.bool true)], args := [d] }
  | _ => none }
def sectBackRow : OpenClaim := { program := "ytejiebbbodealaa", sum := "e63177bfca44ae000ab14bc5685daea8d01b29224e96253988932389804fd5ce", func := "cloakroom/cloakroomlaw7.SectBack", spec := "sectBack", apart := false }
def SectBackSaid : Prop := sectBackRow.holds Try.pinned (OpenSpec.ofChange sectBackSpec)

/-- ITS FALSE NEIGHBOUR: 'it returns false'. Refute it at one input. -/
def sectBackWrong : ChangeSpec := { name := "sectBack", fn := fun _ => fun
  | [d] => { results := [.lit (.bool false)], args := [d] }
  | _ => none }
def SectBackWrongFalsely : Prop := sectBackRow.holds Try.pinned (OpenSpec.ofChange sectBackWrong)

/-- 'cloakroomlaw7.SectGo': WHATEVER THE INPUT: true; the input reads as it did. -/
def sectGoSpec : ChangeSpec := { name := "sectGo", fn := fun _ => fun
  | [d] => { results := [.lit (.bool true)], args := [d] }
  | _ => none }
def sectGoRow : OpenClaim := { program := "ytejiebbbodealaa", sum := "e63177bfca44ae000ab14bc5685daea8d01b29224e96253988932389804fd5ce", func := "cloakroom/cloakroomlaw7.SectGo", spec := "sectGo", apart := false }
def SectGoSaid : Prop := sectGoRow.holds Try.pinned (OpenSpec.ofChange sectGoSpec)

/-- ITS FALSE NEIGHBOUR: 'it returns false'. Refute it at one input. -/
def sectGoWrong : ChangeSpec := { name := "sectGo", fn := fun _ => fun
  | [d] => { results := [.lit (.bool false)], args := [d] }
  | _ => none }
def SectGoWrongFalsely : Prop := sectGoRow.holds Try.pinned (OpenSpec.ofChange sectGoWrong)

/-- 'cloakroomlaw4.TypesAll': WHATEVER THE INPUT: true; the input reads as it did. -/
def typesAllSpec : ChangeSpec := { name := "typesAll", fn := fun _ => fun
  | [d1, d2] => { results := [.lit (.bool true)], args := [d1, d2] }
  | _ => none }
def typesAllRow : OpenClaim := { program := "ytejiebbbodealaa", sum := "e63177bfca44ae000ab14bc5685daea8d01b29224e96253988932389804fd5ce", func := "cloakroom/cloakroomlaw4.TypesAll", spec := "typesAll", apart := false }
def TypesAllSaid : Prop := typesAllRow.holds Try.pinned (OpenSpec.ofChange typesAllSpec)

/-- ITS FALSE NEIGHBOUR: 'it returns false'. Refute it at one input. -/
def typesAllWrong : ChangeSpec := { name := "typesAll", fn := fun _ => fun
  | [d1, d2] => { results := [.lit (.bool false)], args := [d1, d2] }
  | _ => none }
def TypesAllWrongFalsely : Prop := typesAllRow.holds Try.pinned (OpenSpec.ofChange typesAllWrong)

/-- 'cloakroomlaw4.TypesPuts': WHATEVER THE INPUT: true; the input reads as it did. -/
def typesPutsSpec : ChangeSpec := { name := "typesPuts", fn := fun _ => fun
  | [d1, d2, d3, d4] => { results := [.lit (.bool true)], args := [d1, d2, d3, d4] }
  | _ => none }
def typesPutsRow : OpenClaim := { program := "ytejiebbbodealaa", sum := "e63177bfca44ae000ab14bc5685daea8d01b29224e96253988932389804fd5ce", func := "cloakroom/cloakroomlaw4.TypesPuts", spec := "typesPuts", apart := false }
def TypesPutsSaid : Prop := typesPutsRow.holds Try.pinned (OpenSpec.ofChange typesPutsSpec)

/-- ITS FALSE NEIGHBOUR: 'it returns false'. Refute it at one input. -/
def typesPutsWrong : ChangeSpec := { name := "typesPuts", fn := fun _ => fun
  | [d1, d2, d3, d4] => { results := [.lit (.bool false)], args := [d1, d2, d3, d4] }
  | _ => none }
def TypesPutsWrongFalsely : Prop := typesPutsRow.holds Try.pinned (OpenSpec.ofChange typesPutsWrong)

/-- 'cloakroomlaw4.TypesBack': WHATEVER THE INPUT: true; the input reads as it did. -/
def typesBackSpec : ChangeSpec := { name := "typesBack", fn := fun _ => fun
  | [d1, d2, d3, d4] => { results := [.lit (.bool true)], args := [d1, d2, d3, d4] }
  | _ => none }
def typesBackRow : OpenClaim := { program := "ytejiebbbodealaa", sum := "e63177bfca44ae000ab14bc5685daea8d01b29224e96253988932389804fd5ce", func := "cloakroom/cloakroomlaw4.TypesBack", spec := "typesBack", apart := false }
def TypesBackSaid : Prop := typesBackRow.holds Try.pinned (OpenSpec.ofChange typesBackSpec)

/-- ITS FALSE NEIGHBOUR: 'it returns false'. Refute it at one input. -/
def typesBackWrong : ChangeSpec := { name := "typesBack", fn := fun _ => fun
  | [d1, d2, d3, d4] => { results := [.lit (.bool false)], args := [d1, d2, d3, d4] }
  | _ => none }
def TypesBackWrongFalsely : Prop := typesBackRow.holds Try.pinned (OpenSpec.ofChange typesBackWrong)

/-- 'cloakroomlaw4.TypesOne': WHATEVER THE INPUT: true; the input reads as it did. -/
def typesOneSpec : ChangeSpec := { name := "typesOne", fn := fun _ => fun
  | [d1, d2, d3, d4] => { results := [.lit (.bool true)], args := [d1, d2, d3, d4] }
  | _ => none }
def typesOneRow : OpenClaim := { program := "ytejiebbbodealaa", sum := "e63177bfca44ae000ab14bc5685daea8d01b29224e96253988932389804fd5ce", func := "cloakroom/cloakroomlaw4.TypesOne", spec := "typesOne", apart := false }
def TypesOneSaid : Prop := typesOneRow.holds Try.pinned (OpenSpec.ofChange typesOneSpec)

/-- ITS FALSE NEIGHBOUR: 'it returns false'. Refute it at one input. -/
def typesOneWrong : ChangeSpec := { name := "typesOne", fn := fun _ => fun
  | [d1, d2, d3, d4] => { results := [.lit (.bool false)], args := [d1, d2, d3, d4] }
  | _ => none }
def TypesOneWrongFalsely : Prop := typesOneRow.holds Try.pinned (OpenSpec.ofChange typesOneWrong)

/- THE SECOND FORM. 'bulk': how many values and letters a reading holds, each counted each time it is reached (what is shared counts as often as it is met; a slice's spare places count too). A statement '..UptoSaid' is the law's where the arguments, and the package variables that the reading takes, are together of bulk at most 1048576: NARROWER than '..Said'. Prove '..Said' where nothing that the law and all that it calls make is longer than what came in: it says more and counts as full. Else prove '..UptoSaid'. A law counts once. -/
mutual
def uptoBulk {H : Type} : DataW H → Nat
  | .lit (.string bytes) => bytes.length + 1
  | .lit _ => 1
  | .nil => 1
  | .ptr d => uptoBulk d + 1
  | .slice elems spare => uptoBulkAll elems + uptoBulkAll spare + 1
  | .agg parts => uptoBulkAll parts + 1
  | .iface _ d => uptoBulk d + 1
  | .map entries => uptoBulkEntries entries + 1
  | .held _ => 1
def uptoBulkAll {H : Type} : List (DataW H) → Nat
  | [] => 0
  | d :: r => uptoBulk d + uptoBulkAll r
def uptoBulkEntries {H : Type} : List (Lit × DataW H) → Nat
  | [] => 0
  | x :: r => uptoBulkEntry x + uptoBulkEntries r
def uptoBulkEntry {H : Type} : Lit × DataW H → Nat
  | (.string bytes, d) => bytes.length + uptoBulk d + 1
  | (_, d) => uptoBulk d + 1
 end
def uptoSmall : (H : Type) → List (DataW H) → Bool := fun _ ds => decide (uptoBulkAll ds ≤ 1048576)
def OpenSpec.upto (s : _root_.Go.ChangeSpec) : _root_.Go.OpenSpec := { _root_.Go.OpenSpec.ofChange s with cond := some uptoSmall }

/-- 'cloakroomlaw1.LebPuts', WHERE WHAT IT READS IS OF BULK AT MOST 1048576: true; the input reads as it did. -/
def lebPutsUptoRow : OpenClaim := { program := "ytejiebbbodealaa", sum := "e63177bfca44ae000ab14bc5685daea8d01b29224e96253988932389804fd5ce", func := "cloakroom/cloakroomlaw1.LebPuts", spec := "lebPuts", apart := false, narrowed := true }
def LebPutsUptoSaid : Prop := lebPutsUptoRow.holds Try.pinned (OpenSpec.upto lebPutsSpec)

/-- 'cloakroomlaw1.LebShort', WHERE WHAT IT READS IS OF BULK AT MOST 1048576: true; the input reads as it did. -/
def lebShortUptoRow : OpenClaim := { program := "ytejiebbbodealaa", sum := "e63177bfca44ae000ab14bc5685daea8d01b29224e96253988932389804fd5ce", func := "cloakroom/cloakroomlaw1.LebShort", spec := "lebShort", apart := false, narrowed := true }
def LebShortUptoSaid : Prop := lebShortUptoRow.holds Try.pinned (OpenSpec.upto lebShortSpec)

/-- 'cloakroomlaw1.LebLong', WHERE WHAT IT READS IS OF BULK AT MOST 1048576: true; the input reads as it did. -/
def lebLongUptoRow : OpenClaim := { program := "ytejiebbbodealaa", sum := "e63177bfca44ae000ab14bc5685daea8d01b29224e96253988932389804fd5ce", func := "cloakroom/cloakroomlaw1.LebLong", spec := "lebLong", apart := false, narrowed := true }
def LebLongUptoSaid : Prop := lebLongUptoRow.holds Try.pinned (OpenSpec.upto lebLongSpec)

/-- 'cloakroomlaw1.LebReads', WHERE WHAT IT READS IS OF BULK AT MOST 1048576: true; the input reads as it did. -/
def lebReadsUptoRow : OpenClaim := { program := "ytejiebbbodealaa", sum := "e63177bfca44ae000ab14bc5685daea8d01b29224e96253988932389804fd5ce", func := "cloakroom/cloakroomlaw1.LebReads", spec := "lebReads", apart := false, narrowed := true }
def LebReadsUptoSaid : Prop := lebReadsUptoRow.holds Try.pinned (OpenSpec.upto lebReadsSpec)

/-- 'cloakroomlaw1.LebBack', WHERE WHAT IT READS IS OF BULK AT MOST 1048576: true; the input reads as it did. -/
def lebBackUptoRow : OpenClaim := { program := "ytejiebbbodealaa", sum := "e63177bfca44ae000ab14bc5685daea8d01b29224e96253988932389804fd5ce", func := "cloakroom/cloakroomlaw1.LebBack", spec := "lebBack", apart := false, narrowed := true }
def LebBackUptoSaid : Prop := lebBackUptoRow.holds Try.pinned (OpenSpec.upto lebBackSpec)

/-- 'cloakroomlaw7.SectSplits', WHERE WHAT IT READS IS OF BULK AT MOST 1048576: true; the input reads as it did. -/
def sectSplitsUptoRow : OpenClaim := { program := "ytejiebbbodealaa", sum := "e63177bfca44ae000ab14bc5685daea8d01b29224e96253988932389804fd5ce", func := "cloakroom/cloakroomlaw7.SectSplits", spec := "sectSplits", apart := false, narrowed := true }
def SectSplitsUptoSaid : Prop := sectSplitsUptoRow.holds Try.pinned (OpenSpec.upto sectSplitsSpec)

/-- 'cloakroomlaw7.SectBack', WHERE WHAT IT READS IS OF BULK AT MOST 1048576: true; the input reads as it did. -/
def sectBackUptoRow : OpenClaim := { program := "ytejiebbbodealaa", sum := "e63177bfca44ae000ab14bc5685daea8d01b29224e96253988932389804fd5ce", func := "cloakroom/cloakroomlaw7.SectBack", spec := "sectBack", apart := false, narrowed := true }
def SectBackUptoSaid : Prop := sectBackUptoRow.holds Try.pinned (OpenSpec.upto sectBackSpec)

/-- 'cloakroomlaw7.SectGo', WHERE WHAT IT READS IS OF BULK AT MOST 1048576: true; the input reads as it did. -/
def sectGoUptoRow : OpenClaim := { program := "ytejiebbbodealaa", sum := "e63177bfca44ae000ab14bc5685daea8d01b29224e96253988932389804fd5ce", func := "cloakroom/cloakroomlaw7.SectGo", spec := "sectGo", apart := false, narrowed := true }
def SectGoUptoSaid : Prop := sectGoUptoRow.holds Try.pinned (OpenSpec.upto sectGoSpec)

/-- 'cloakroomlaw4.TypesAll', WHERE WHAT IT READS IS OF BULK AT MOST 1048576: true; the input reads as it did. -/
def typesAllUptoRow : OpenClaim := { program := "ytejiebbbodealaa", sum := "e63177bfca44ae000ab14bc5685daea8d01b29224e96253988932389804fd5ce", func := "cloakroom/cloakroomlaw4.TypesAll", spec := "typesAll", apart := false, narrowed := true }
def TypesAllUptoSaid : Prop := typesAllUptoRow.holds Try.pinned (OpenSpec.upto typesAllSpec)

/-- 'cloakroomlaw4.TypesPuts', WHERE WHAT IT READS IS OF BULK AT MOST 1048576: true; the input reads as it did. -/
def typesPutsUptoRow : OpenClaim := { program := "ytejiebbbodealaa", sum := "e63177bfca44ae000ab14bc5685daea8d01b29224e96253988932389804fd5ce", func := "cloakroom/cloakroomlaw4.TypesPuts", spec := "typesPuts", apart := false, narrowed := true }
def TypesPutsUptoSaid : Prop := typesPutsUptoRow.holds Try.pinned (OpenSpec.upto typesPutsSpec)

/-- 'cloakroomlaw4.TypesBack', WHERE WHAT IT READS IS OF BULK AT MOST 1048576: true; the input reads as it did. -/
def typesBackUptoRow : OpenClaim := { program := "ytejiebbbodealaa", sum := "e63177bfca44ae000ab14bc5685daea8d01b29224e96253988932389804fd5ce", func := "cloakroom/cloakroomlaw4.TypesBack", spec := "typesBack", apart := false, narrowed := true }
def TypesBackUptoSaid : Prop := typesBackUptoRow.holds Try.pinned (OpenSpec.upto typesBackSpec)

/-- 'cloakroomlaw4.TypesOne', WHERE WHAT IT READS IS OF BULK AT MOST 1048576: true; the input reads as it did. -/
def typesOneUptoRow : OpenClaim := { program := "ytejiebbbodealaa", sum := "e63177bfca44ae000ab14bc5685daea8d01b29224e96253988932389804fd5ce", func := "cloakroom/cloakroomlaw4.TypesOne", spec := "typesOne", apart := false, narrowed := true }
def TypesOneUptoSaid : Prop := typesOneUptoRow.holds Try.pinned (OpenSpec.upto typesOneSpec)

end Rows
end Go.Proofs.Ytejiebbbodealaa
