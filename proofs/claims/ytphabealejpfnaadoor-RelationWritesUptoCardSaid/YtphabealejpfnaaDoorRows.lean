/-
  NARROWER THAN 'FOR EVERY INPUT', by the rows' own cells (each row's printed sentence says how): RelationForms: laid · RelationReads: laid · RelationLists: laid · RelationWrites: laid · RelationGaps: laid · RelationNumbers: laid · RelationThere: laid · RelationKeeps: laid.
  DERIVED. THE GIVEN ROWS OF THIS SEAT. 8 by the template 'for every input the law returns true; each argument reads behind the call as it read before'; 0 by the template 'total and deterministic' (their statements: YtphabealejpfnaaDoorTotals.lean).
  GIVEN WITH THE SEED: the statements are not yours to turn. If you find one false, say at which input.
  Laid BY PROGRAM, IN A SANDBOX (cutbox-rows.mjs): the forced cells as the released guide's own fill.sh prints them over the translation e51ad26d0aeabd08… (all of the seat's roots in one cut). By AI agents, Wed Nov 11 2026. No macro, syntax, notation, axiom, sorry.
-/
import Derived.Test.YtphabealejpfnaaDoorChecked
import GoSem.Claim
import GoSem.ClaimJoined
import GoSem.ClaimMapViews
import Derived.JoinedTies
import Derived.KernelRfl
namespace Go.Proofs.YtphabealejpfnaaDoor
/- THE CELL 'sum', in the pinned program and in every row, IS THE sha256 OF THE DUMP (.gsa) THAT YtphabealejpfnaaDoorProg.lean LOADS. Nothing in Lean hashes anything: it is a label: what it is worth is what the hold of that sum in a sandbox is worth. -/
noncomputable def Tryd.pinned : Pinned := { name := "ytphabealejpfnaadoor", sum := "e51ad26d0aeabd084b4b433ed47e8cf39618c95180cb1a1efa778b818c8752a6", checked := Tryd.checked }
namespace Rows
def none {H : Type} : Left H := { results := [], args := [] }

/- WHAT THE LISTED PACKAGE-LEVEL VARIABLES READ AS WHEN THE CALL BEGINS. Each datum BY PROGRAM (the guide's laid-datum.mjs) off the statement by which the dump's own 'gosem.cut.vars' lays the variable. In a bare row this is a premise. The card (YtphabealejpfnaaDoorCards.lean) ties it to the program's text. -/
def laid_depot_relation_operators {H : Type} : DataW H := .agg [.agg [.lit (.int .i64 1), .lit (.string [60, 60])], .agg [.lit (.int .i64 2), .lit (.string [60, 61])], .agg [.lit (.int .i64 3), .lit (.string [61])], .agg [.lit (.int .i64 4), .lit (.string [62, 61])], .agg [.lit (.int .i64 5), .lit (.string [62, 62])]]

/-- 'depotlaw22.RelationForms': WHATEVER THE INPUT: true; the input reads as it did. -/
def relationFormsSpec : ChangeSpec := { name := "relationForms", fn := fun _ => fun
  | [d1, d2] => { results := [.lit (.bool true)], args := [d1, d2] }
  | _ => none }
def relationFormsRow : OpenClaim := { program := "ytphabealejpfnaadoor", sum := "e51ad26d0aeabd084b4b433ed47e8cf39618c95180cb1a1efa778b818c8752a6", func := "depot/depotlaw22.RelationForms", spec := "relationForms", inPlace := ["internal/bytealg.IndexByteString", "internal/bytealg.IndexString"], named := ["depot/relation.operators", "internal/bytealg.MaxLen"], apart := false, laid := [("depot/relation.operators", laid_depot_relation_operators)] }
def RelationFormsSaid : Prop := relationFormsRow.holds Tryd.pinned (OpenSpec.ofChange relationFormsSpec)

/-- ITS FALSE NEIGHBOUR: 'it returns false'. Refute it at one input. -/
def relationFormsWrong : ChangeSpec := { name := "relationForms", fn := fun _ => fun
  | [d1, d2] => { results := [.lit (.bool false)], args := [d1, d2] }
  | _ => none }
def RelationFormsWrongFalsely : Prop := relationFormsRow.holds Tryd.pinned (OpenSpec.ofChange relationFormsWrong)

/-- 'depotlaw22.RelationReads': WHATEVER THE INPUT: true; the input reads as it did. -/
def relationReadsSpec : ChangeSpec := { name := "relationReads", fn := fun _ => fun
  | [d] => { results := [.lit (.bool true)], args := [d] }
  | _ => none }
def relationReadsRow : OpenClaim := { program := "ytphabealejpfnaadoor", sum := "e51ad26d0aeabd084b4b433ed47e8cf39618c95180cb1a1efa778b818c8752a6", func := "depot/depotlaw22.RelationReads", spec := "relationReads", inPlace := ["internal/bytealg.IndexByteString", "internal/bytealg.IndexString"], named := ["depot/relation.operators", "internal/bytealg.MaxLen"], apart := false, laid := [("depot/relation.operators", laid_depot_relation_operators)] }
def RelationReadsSaid : Prop := relationReadsRow.holds Tryd.pinned (OpenSpec.ofChange relationReadsSpec)

/-- ITS FALSE NEIGHBOUR: 'it returns false'. Refute it at one input. -/
def relationReadsWrong : ChangeSpec := { name := "relationReads", fn := fun _ => fun
  | [d] => { results := [.lit (.bool false)], args := [d] }
  | _ => none }
def RelationReadsWrongFalsely : Prop := relationReadsRow.holds Tryd.pinned (OpenSpec.ofChange relationReadsWrong)

/-- 'depotlaw22.RelationLists': WHATEVER THE INPUT: true; the input reads as it did. -/
def relationListsSpec : ChangeSpec := { name := "relationLists", fn := fun _ => fun
  | [d] => { results := [.lit (.bool true)], args := [d] }
  | _ => none }
def relationListsRow : OpenClaim := { program := "ytphabealejpfnaadoor", sum := "e51ad26d0aeabd084b4b433ed47e8cf39618c95180cb1a1efa778b818c8752a6", func := "depot/depotlaw22.RelationLists", spec := "relationLists", inPlace := ["internal/bytealg.IndexByteString", "internal/bytealg.IndexString"], named := ["depot/relation.operators", "internal/bytealg.MaxLen"], apart := false, laid := [("depot/relation.operators", laid_depot_relation_operators)] }
def RelationListsSaid : Prop := relationListsRow.holds Tryd.pinned (OpenSpec.ofChange relationListsSpec)

/-- ITS FALSE NEIGHBOUR: 'it returns false'. Refute it at one input. -/
def relationListsWrong : ChangeSpec := { name := "relationLists", fn := fun _ => fun
  | [d] => { results := [.lit (.bool false)], args := [d] }
  | _ => none }
def RelationListsWrongFalsely : Prop := relationListsRow.holds Tryd.pinned (OpenSpec.ofChange relationListsWrong)

/-- 'depotlaw22.RelationWrites': WHATEVER THE INPUT: true; the input reads as it did. -/
def relationWritesSpec : ChangeSpec := { name := "relationWrites", fn := fun _ => fun
  | [d] => { results := [.lit (.bool true)], args := [d] }
  | _ => none }
def relationWritesRow : OpenClaim := { program := "ytphabealejpfnaadoor", sum := "e51ad26d0aeabd084b4b433ed47e8cf39618c95180cb1a1efa778b818c8752a6", func := "depot/depotlaw22.RelationWrites", spec := "relationWrites", inPlace := ["internal/bytealg.IndexByteString", "internal/bytealg.IndexString", "internal/abi.NoEscape", "internal/bytealg.MakeNoZero"], named := ["depot/relation.operators", "internal/bytealg.MaxLen"], apart := false, laid := [("depot/relation.operators", laid_depot_relation_operators)] }
def RelationWritesSaid : Prop := relationWritesRow.holds Tryd.pinned (OpenSpec.ofChange relationWritesSpec)

/-- ITS FALSE NEIGHBOUR: 'it returns false'. Refute it at one input. -/
def relationWritesWrong : ChangeSpec := { name := "relationWrites", fn := fun _ => fun
  | [d] => { results := [.lit (.bool false)], args := [d] }
  | _ => none }
def RelationWritesWrongFalsely : Prop := relationWritesRow.holds Tryd.pinned (OpenSpec.ofChange relationWritesWrong)

/-- 'depotlaw22.RelationGaps': WHATEVER THE INPUT: true; the input reads as it did. -/
def relationGapsSpec : ChangeSpec := { name := "relationGaps", fn := fun _ => fun
  | [d1, d2] => { results := [.lit (.bool true)], args := [d1, d2] }
  | _ => none }
def relationGapsRow : OpenClaim := { program := "ytphabealejpfnaadoor", sum := "e51ad26d0aeabd084b4b433ed47e8cf39618c95180cb1a1efa778b818c8752a6", func := "depot/depotlaw22.RelationGaps", spec := "relationGaps", inPlace := ["internal/bytealg.IndexByteString", "internal/bytealg.IndexString", "internal/abi.NoEscape", "internal/bytealg.MakeNoZero"], named := ["depot/relation.operators", "internal/bytealg.MaxLen"], apart := false, laid := [("depot/relation.operators", laid_depot_relation_operators)] }
def RelationGapsSaid : Prop := relationGapsRow.holds Tryd.pinned (OpenSpec.ofChange relationGapsSpec)

/-- ITS FALSE NEIGHBOUR: 'it returns false'. Refute it at one input. -/
def relationGapsWrong : ChangeSpec := { name := "relationGaps", fn := fun _ => fun
  | [d1, d2] => { results := [.lit (.bool false)], args := [d1, d2] }
  | _ => none }
def RelationGapsWrongFalsely : Prop := relationGapsRow.holds Tryd.pinned (OpenSpec.ofChange relationGapsWrong)

/-- 'depotlaw22.RelationNumbers': WHATEVER THE INPUT: true; the input reads as it did. -/
def relationNumbersSpec : ChangeSpec := { name := "relationNumbers", fn := fun _ => fun
  | [] => { results := [.lit (.bool true)], args := [] }
  | _ => none }
def relationNumbersRow : OpenClaim := { program := "ytphabealejpfnaadoor", sum := "e51ad26d0aeabd084b4b433ed47e8cf39618c95180cb1a1efa778b818c8752a6", func := "depot/depotlaw22.RelationNumbers", spec := "relationNumbers", inPlace := ["internal/bytealg.IndexByteString", "internal/bytealg.IndexString", "internal/abi.NoEscape", "internal/bytealg.MakeNoZero"], named := ["depot/relation.operators", "internal/bytealg.MaxLen"], apart := false, laid := [("depot/relation.operators", laid_depot_relation_operators)] }
def RelationNumbersSaid : Prop := relationNumbersRow.holds Tryd.pinned (OpenSpec.ofChange relationNumbersSpec)

/-- ITS FALSE NEIGHBOUR: 'it returns false'. Refute it at one input. -/
def relationNumbersWrong : ChangeSpec := { name := "relationNumbers", fn := fun _ => fun
  | [] => { results := [.lit (.bool false)], args := [] }
  | _ => none }
def RelationNumbersWrongFalsely : Prop := relationNumbersRow.holds Tryd.pinned (OpenSpec.ofChange relationNumbersWrong)

/-- 'depotlaw22.RelationThere': WHATEVER THE INPUT: true; the input reads as it did. -/
def relationThereSpec : ChangeSpec := { name := "relationThere", fn := fun _ => fun
  | [d] => { results := [.lit (.bool true)], args := [d] }
  | _ => none }
def relationThereRow : OpenClaim := { program := "ytphabealejpfnaadoor", sum := "e51ad26d0aeabd084b4b433ed47e8cf39618c95180cb1a1efa778b818c8752a6", func := "depot/depotlaw22.RelationThere", spec := "relationThere", inPlace := ["internal/bytealg.IndexByteString", "internal/bytealg.IndexString", "internal/abi.NoEscape", "internal/bytealg.MakeNoZero"], named := ["depot/relation.operators", "internal/bytealg.MaxLen"], apart := false, laid := [("depot/relation.operators", laid_depot_relation_operators)] }
def RelationThereSaid : Prop := relationThereRow.holds Tryd.pinned (OpenSpec.ofChange relationThereSpec)

/-- ITS FALSE NEIGHBOUR: 'it returns false'. Refute it at one input. -/
def relationThereWrong : ChangeSpec := { name := "relationThere", fn := fun _ => fun
  | [d] => { results := [.lit (.bool false)], args := [d] }
  | _ => none }
def RelationThereWrongFalsely : Prop := relationThereRow.holds Tryd.pinned (OpenSpec.ofChange relationThereWrong)

/-- 'depotlaw22.RelationKeeps': WHATEVER THE INPUT: true; the input reads as it did. -/
def relationKeepsSpec : ChangeSpec := { name := "relationKeeps", fn := fun _ => fun
  | [d1, d2] => { results := [.lit (.bool true)], args := [d1, d2] }
  | _ => none }
def relationKeepsRow : OpenClaim := { program := "ytphabealejpfnaadoor", sum := "e51ad26d0aeabd084b4b433ed47e8cf39618c95180cb1a1efa778b818c8752a6", func := "depot/depotlaw22.RelationKeeps", spec := "relationKeeps", inPlace := ["internal/bytealg.IndexByteString", "internal/bytealg.IndexString", "internal/abi.NoEscape", "internal/bytealg.MakeNoZero"], named := ["depot/relation.operators", "internal/bytealg.MaxLen"], apart := false, laid := [("depot/relation.operators", laid_depot_relation_operators)] }
def RelationKeepsSaid : Prop := relationKeepsRow.holds Tryd.pinned (OpenSpec.ofChange relationKeepsSpec)

/-- ITS FALSE NEIGHBOUR: 'it returns false'. Refute it at one input. -/
def relationKeepsWrong : ChangeSpec := { name := "relationKeeps", fn := fun _ => fun
  | [d1, d2] => { results := [.lit (.bool false)], args := [d1, d2] }
  | _ => none }
def RelationKeepsWrongFalsely : Prop := relationKeepsRow.holds Tryd.pinned (OpenSpec.ofChange relationKeepsWrong)

/- THE SECOND FORM. 'bulk': how many values and letters a reading holds, each counted each time it is reached (what is shared counts as often as it is met; a slice's spare places count too). A statement '..UptoSaid' is the law's where the arguments, and the package variables that the reading takes, are together of bulk at most 1048576: NARROWER than '..Said'. Prove '..Said' where nothing that the law and all that it calls make is longer than what came in: it says more and counts as full. Else prove '..UptoSaid'. A law counts once. -/
mutual
def uptoBulk {H : Type} : DataW H → Nat
  | .lit (.string bytes) => bytes.length + 1
  | .lit _ => 1
  | .nil => 1
  | .ptr d => uptoBulk d + 1
  | .slice elems spare => uptoBulkAll elems + uptoBulkAll spare + 1
  | .agg parts => uptoBulkAll parts + 1
  | .iface _ d => uptoBulk d + 1
  | .map entries => uptoBulkEntries entries + 1
  | .held _ => 1
def uptoBulkAll {H : Type} : List (DataW H) → Nat
  | [] => 0
  | d :: r => uptoBulk d + uptoBulkAll r
def uptoBulkEntries {H : Type} : List (Lit × DataW H) → Nat
  | [] => 0
  | x :: r => uptoBulkEntry x + uptoBulkEntries r
def uptoBulkEntry {H : Type} : Lit × DataW H → Nat
  | (.string bytes, d) => bytes.length + uptoBulk d + 1
  | (_, d) => uptoBulk d + 1
 end
def uptoSmall : (H : Type) → List (DataW H) → Bool := fun _ ds => decide (uptoBulkAll ds ≤ 1048576)
def OpenSpec.upto (s : _root_.Go.ChangeSpec) : _root_.Go.OpenSpec := { _root_.Go.OpenSpec.ofChange s with cond := some uptoSmall }

/-- 'depotlaw22.RelationForms', WHERE WHAT IT READS IS OF BULK AT MOST 1048576: true; the input reads as it did. -/
def relationFormsUptoRow : OpenClaim := { program := "ytphabealejpfnaadoor", sum := "e51ad26d0aeabd084b4b433ed47e8cf39618c95180cb1a1efa778b818c8752a6", func := "depot/depotlaw22.RelationForms", spec := "relationForms", inPlace := ["internal/bytealg.IndexByteString", "internal/bytealg.IndexString"], named := ["depot/relation.operators", "internal/bytealg.MaxLen"], apart := false, laid := [("depot/relation.operators", laid_depot_relation_operators)], narrowed := true }
def RelationFormsUptoSaid : Prop := relationFormsUptoRow.holds Tryd.pinned (OpenSpec.upto relationFormsSpec)

/-- 'depotlaw22.RelationReads', WHERE WHAT IT READS IS OF BULK AT MOST 1048576: true; the input reads as it did. -/
def relationReadsUptoRow : OpenClaim := { program := "ytphabealejpfnaadoor", sum := "e51ad26d0aeabd084b4b433ed47e8cf39618c95180cb1a1efa778b818c8752a6", func := "depot/depotlaw22.RelationReads", spec := "relationReads", inPlace := ["internal/bytealg.IndexByteString", "internal/bytealg.IndexString"], named := ["depot/relation.operators", "internal/bytealg.MaxLen"], apart := false, laid := [("depot/relation.operators", laid_depot_relation_operators)], narrowed := true }
def RelationReadsUptoSaid : Prop := relationReadsUptoRow.holds Tryd.pinned (OpenSpec.upto relationReadsSpec)

/-- 'depotlaw22.RelationLists', WHERE WHAT IT READS IS OF BULK AT MOST 1048576: true; the input reads as it did. -/
def relationListsUptoRow : OpenClaim := { program := "ytphabealejpfnaadoor", sum := "e51ad26d0aeabd084b4b433ed47e8cf39618c95180cb1a1efa778b818c8752a6", func := "depot/depotlaw22.RelationLists", spec := "relationLists", inPlace := ["internal/bytealg.IndexByteString", "internal/bytealg.IndexString"], named := ["depot/relation.operators", "internal/bytealg.MaxLen"], apart := false, laid := [("depot/relation.operators", laid_depot_relation_operators)], narrowed := true }
def RelationListsUptoSaid : Prop := relationListsUptoRow.holds Tryd.pinned (OpenSpec.upto relationListsSpec)

/-- 'depotlaw22.RelationWrites', WHERE WHAT IT READS IS OF BULK AT MOST 1048576: true; the input reads as it did. -/
def relationWritesUptoRow : OpenClaim := { program := "ytphabealejpfnaadoor", sum := "e51ad26d0aeabd084b4b433ed47e8cf39618c95180cb1a1efa778b818c8752a6", func := "depot/depotlaw22.RelationWrites", spec := "relationWrites", inPlace := ["internal/bytealg.IndexByteString", "internal/bytealg.IndexString", "internal/abi.NoEscape", "internal/bytealg.MakeNoZero"], named := ["depot/relation.operators", "internal/bytealg.MaxLen"], apart := false, laid := [("depot/relation.operators", laid_depot_relation_operators)], narrowed := true }
def RelationWritesUptoSaid : Prop := relationWritesUptoRow.holds Tryd.pinned (OpenSpec.upto relationWritesSpec)

/-- 'depotlaw22.RelationGaps', WHERE WHAT IT READS IS OF BULK AT MOST 1048576: true; the input reads as it did. -/
def relationGapsUptoRow : OpenClaim := { program := "ytphabealejpfnaadoor", sum := "e51ad26d0aeabd084b4b433ed47e8cf39618c95180cb1a1efa778b818c8752a6", func := "depot/depotlaw22.RelationGaps", spec := "relationGaps", inPlace := ["internal/bytealg.IndexByteString", "internal/bytealg.IndexString", "internal/abi.NoEscape", "internal/bytealg.MakeNoZero"], named := ["depot/relation.operators", "internal/bytealg.MaxLen"], apart := false, laid := [("depot/relation.operators", laid_depot_relation_operators)], narrowed := true }
def RelationGapsUptoSaid : Prop := relationGapsUptoRow.holds Tryd.pinned (OpenSpec.upto relationGapsSpec)

/-- 'depotlaw22.RelationNumbers', WHERE WHAT IT READS IS OF BULK AT MOST 1048576: true; the input reads as it did. -/
def relationNumbersUptoRow : OpenClaim := { program := "ytphabealejpfnaadoor", sum := "e51ad26d0aeabd084b4b433ed47e8cf39618c95180cb1a1efa778b818c8752a6", func := "depot/depotlaw22.RelationNumbers", spec := "relationNumbers", inPlace := ["internal/bytealg.IndexByteString", "internal/bytealg.IndexString", "internal/abi.NoEscape", "internal/bytealg.MakeNoZero"], named := ["depot/relation.operators", "internal/bytealg.MaxLen"], apart := false, laid := [("depot/relation.operators", laid_depot_relation_operators)], narrowed := true }
def RelationNumbersUptoSaid : Prop := relationNumbersUptoRow.holds Tryd.pinned (OpenSpec.upto relationNumbersSpec)

/-- 'depotlaw22.RelationThere', WHERE WHAT IT READS IS OF BULK AT MOST 1048576: true; the input reads as it did. -/
def relationThereUptoRow : OpenClaim := { program := "ytphabealejpfnaadoor", sum := "e51ad26d0aeabd084b4b433ed47e8cf39618c95180cb1a1efa778b818c8752a6", func := "depot/depotlaw22.RelationThere", spec := "relationThere", inPlace := ["internal/bytealg.IndexByteString", "internal/bytealg.IndexString", "internal/abi.NoEscape", "internal/bytealg.MakeNoZero"], named := ["depot/relation.operators", "internal/bytealg.MaxLen"], apart := false, laid := [("depot/relation.operators", laid_depot_relation_operators)], narrowed := true }
def RelationThereUptoSaid : Prop := relationThereUptoRow.holds Tryd.pinned (OpenSpec.upto relationThereSpec)

/-- 'depotlaw22.RelationKeeps', WHERE WHAT IT READS IS OF BULK AT MOST 1048576: true; the input reads as it did. -/
def relationKeepsUptoRow : OpenClaim := { program := "ytphabealejpfnaadoor", sum := "e51ad26d0aeabd084b4b433ed47e8cf39618c95180cb1a1efa778b818c8752a6", func := "depot/depotlaw22.RelationKeeps", spec := "relationKeeps", inPlace := ["internal/bytealg.IndexByteString", "internal/bytealg.IndexString", "internal/abi.NoEscape", "internal/bytealg.MakeNoZero"], named := ["depot/relation.operators", "internal/bytealg.MaxLen"], apart := false, laid := [("depot/relation.operators", laid_depot_relation_operators)], narrowed := true }
def RelationKeepsUptoSaid : Prop := relationKeepsUptoRow.holds Tryd.pinned (OpenSpec.upto relationKeepsSpec)

end Rows
end Go.Proofs.YtphabealejpfnaaDoor
