/-
  NARROWER THAN 'FOR EVERY INPUT', by the rows' own cells (each row's printed sentence says how): RequestShapes: laid · RequestJoins: laid · RequestWrites: laid · RequestReads: laid · RequestTwo: laid · RequestBack: laid · RequestAgain: laid · RequestIdle: laid.
  DERIVED. THE GIVEN ROWS OF THIS SEAT. 8 by the template 'for every input the law returns true; each argument reads behind the call as it read before'; 0 by the template 'total and deterministic' (their statements: YtmocooihkobdjaaDoorTotals.lean).
  GIVEN WITH THE SEED: the statements are not yours to turn. If you find one false, say at which input.
  Laid BY PROGRAM, IN A SANDBOX (cutbox-rows.mjs): the forced cells as the released guide's own fill.sh prints them over the translation 311aa819cfa56c8d… (all of the seat's roots in one cut). By AI agents, Wed Nov 11 2026. No macro, syntax, notation, axiom, sorry.
-/
import Derived.Test.YtmocooihkobdjaaDoorChecked
import GoSem.PinnedTables
import GoSem.Claim
import GoSem.ClaimJoined
import GoSem.ClaimMapViews
import Derived.JoinedTies
import Derived.KernelRfl
namespace Go.Proofs.YtmocooihkobdjaaDoor
/- THE CELL 'sum', in the pinned program and in every row, IS THE sha256 OF THE DUMP (.gsa) THAT YtmocooihkobdjaaDoorProg.lean LOADS. Nothing in Lean hashes anything: it is a label: what it is worth is what the hold of that sum in a sandbox is worth. -/
noncomputable def Tryd.pinned : Pinned := { name := "ytmocooihkobdjaadoor", sum := "311aa819cfa56c8d3e20dd50c09c688a74c552b1baa1af753f4e05bde68f39ab", checked := Tryd.checked }
namespace Rows
def none {H : Type} : Left H := { results := [], args := [] }

/- WHAT THE LISTED PACKAGE-LEVEL VARIABLES READ AS WHEN THE CALL BEGINS. Each datum BY PROGRAM (the guide's laid-datum.mjs) off the statement by which the dump's own 'gosem.cut.vars' lays the variable. In a bare row this is a premise. The card (YtmocooihkobdjaaDoorCards.lean) ties it to the program's text. -/
def laid_depot_relation_operators {H : Type} : DataW H := .agg [.agg [.lit (.int .i64 1), .lit (.string [60, 60])], .agg [.lit (.int .i64 2), .lit (.string [60, 61])], .agg [.lit (.int .i64 3), .lit (.string [61])], .agg [.lit (.int .i64 4), .lit (.string [62, 61])], .agg [.lit (.int .i64 5), .lit (.string [62, 62])]]
def laid_unicode_utf8_acceptRanges {H : Type} : DataW H := .agg [.agg [.lit (.int .u8 128), .lit (.int .u8 191)], .agg [.lit (.int .u8 160), .lit (.int .u8 191)], .agg [.lit (.int .u8 128), .lit (.int .u8 159)], .agg [.lit (.int .u8 144), .lit (.int .u8 191)], .agg [.lit (.int .u8 128), .lit (.int .u8 143)], .agg [.lit (.int .u8 0), .lit (.int .u8 0)], .agg [.lit (.int .u8 0), .lit (.int .u8 0)], .agg [.lit (.int .u8 0), .lit (.int .u8 0)], .agg [.lit (.int .u8 0), .lit (.int .u8 0)], .agg [.lit (.int .u8 0), .lit (.int .u8 0)], .agg [.lit (.int .u8 0), .lit (.int .u8 0)], .agg [.lit (.int .u8 0), .lit (.int .u8 0)], .agg [.lit (.int .u8 0), .lit (.int .u8 0)], .agg [.lit (.int .u8 0), .lit (.int .u8 0)], .agg [.lit (.int .u8 0), .lit (.int .u8 0)], .agg [.lit (.int .u8 0), .lit (.int .u8 0)]]
/-- One of Go's own tables, pinned by name: the form's constant. -/
def laid_unicode_utf8_first : DataW Unit := Go.Pinned.utf8First

/-- 'depotlaw24.RequestShapes': WHATEVER THE INPUT: true; the input reads as it did. -/
def requestShapesSpec : ChangeSpec := { name := "requestShapes", fn := fun _ => fun
  | [d] => { results := [.lit (.bool true)], args := [d] }
  | _ => none }
def requestShapesRow : OpenClaim := { program := "ytmocooihkobdjaadoor", sum := "311aa819cfa56c8d3e20dd50c09c688a74c552b1baa1af753f4e05bde68f39ab", func := "depot/depotlaw24.RequestShapes", spec := "requestShapes", inPlace := ["internal/bytealg.IndexByteString", "internal/bytealg.IndexString"], unfollowed := true, recurses := true, named := ["depot/relation.operators", "internal/bytealg.MaxLen"], apart := false, laid := [("depot/relation.operators", laid_depot_relation_operators)] }
def RequestShapesSaid : Prop := requestShapesRow.holds Tryd.pinned (OpenSpec.ofChange requestShapesSpec)

/-- ITS FALSE NEIGHBOUR: 'it returns false'. Refute it at one input. -/
def requestShapesWrong : ChangeSpec := { name := "requestShapes", fn := fun _ => fun
  | [d] => { results := [.lit (.bool false)], args := [d] }
  | _ => none }
def RequestShapesWrongFalsely : Prop := requestShapesRow.holds Tryd.pinned (OpenSpec.ofChange requestShapesWrong)

/-- 'depotlaw24.RequestJoins': WHATEVER THE INPUT: true; the input reads as it did. -/
def requestJoinsSpec : ChangeSpec := { name := "requestJoins", fn := fun _ => fun
  | [d1, d2] => { results := [.lit (.bool true)], args := [d1, d2] }
  | _ => none }
def requestJoinsRow : OpenClaim := { program := "ytmocooihkobdjaadoor", sum := "311aa819cfa56c8d3e20dd50c09c688a74c552b1baa1af753f4e05bde68f39ab", func := "depot/depotlaw24.RequestJoins", spec := "requestJoins", inPlace := ["internal/bytealg.IndexByteString", "internal/bytealg.IndexString"], unfollowed := true, recurses := true, named := ["depot/relation.operators", "internal/bytealg.MaxLen"], apart := false, laid := [("depot/relation.operators", laid_depot_relation_operators)] }
def RequestJoinsSaid : Prop := requestJoinsRow.holds Tryd.pinned (OpenSpec.ofChange requestJoinsSpec)

/-- ITS FALSE NEIGHBOUR: 'it returns false'. Refute it at one input. -/
def requestJoinsWrong : ChangeSpec := { name := "requestJoins", fn := fun _ => fun
  | [d1, d2] => { results := [.lit (.bool false)], args := [d1, d2] }
  | _ => none }
def RequestJoinsWrongFalsely : Prop := requestJoinsRow.holds Tryd.pinned (OpenSpec.ofChange requestJoinsWrong)

/-- 'depotlaw24.RequestWrites': WHATEVER THE INPUT: true; the input reads as it did. -/
def requestWritesSpec : ChangeSpec := { name := "requestWrites", fn := fun _ => fun
  | [d] => { results := [.lit (.bool true)], args := [d] }
  | _ => none }
def requestWritesRow : OpenClaim := { program := "ytmocooihkobdjaadoor", sum := "311aa819cfa56c8d3e20dd50c09c688a74c552b1baa1af753f4e05bde68f39ab", func := "depot/depotlaw24.RequestWrites", spec := "requestWrites", inPlace := ["internal/bytealg.IndexByteString", "internal/bytealg.IndexString", "internal/abi.NoEscape", "internal/bytealg.MakeNoZero"], unfollowed := true, recurses := true, named := ["depot/relation.operators", "internal/bytealg.MaxLen"], apart := false, laid := [("depot/relation.operators", laid_depot_relation_operators)] }
def RequestWritesSaid : Prop := requestWritesRow.holds Tryd.pinned (OpenSpec.ofChange requestWritesSpec)

/-- ITS FALSE NEIGHBOUR: 'it returns false'. Refute it at one input. -/
def requestWritesWrong : ChangeSpec := { name := "requestWrites", fn := fun _ => fun
  | [d] => { results := [.lit (.bool false)], args := [d] }
  | _ => none }
def RequestWritesWrongFalsely : Prop := requestWritesRow.holds Tryd.pinned (OpenSpec.ofChange requestWritesWrong)

/-- 'depotlaw24.RequestReads': WHATEVER THE INPUT: true; the input reads as it did. -/
def requestReadsSpec : ChangeSpec := { name := "requestReads", fn := fun _ => fun
  | [d] => { results := [.lit (.bool true)], args := [d] }
  | _ => none }
def requestReadsRow : OpenClaim := { program := "ytmocooihkobdjaadoor", sum := "311aa819cfa56c8d3e20dd50c09c688a74c552b1baa1af753f4e05bde68f39ab", func := "depot/depotlaw24.RequestReads", spec := "requestReads", inPlace := ["internal/bytealg.CountString", "internal/bytealg.IndexByteString", "internal/bytealg.IndexString"], named := ["unicode/utf8.first", "unicode/utf8.acceptRanges", "internal/bytealg.MaxLen", "depot/relation.operators"], apart := false, laid := [("unicode/utf8.acceptRanges", laid_unicode_utf8_acceptRanges), ("depot/relation.operators", laid_depot_relation_operators), ("unicode/utf8.first", laid_unicode_utf8_first)] }
def RequestReadsSaid : Prop := requestReadsRow.holds Tryd.pinned (OpenSpec.ofChange requestReadsSpec)

/-- ITS FALSE NEIGHBOUR: 'it returns false'. Refute it at one input. -/
def requestReadsWrong : ChangeSpec := { name := "requestReads", fn := fun _ => fun
  | [d] => { results := [.lit (.bool false)], args := [d] }
  | _ => none }
def RequestReadsWrongFalsely : Prop := requestReadsRow.holds Tryd.pinned (OpenSpec.ofChange requestReadsWrong)

/-- 'depotlaw24.RequestTwo': WHATEVER THE INPUT: true; the input reads as it did. -/
def requestTwoSpec : ChangeSpec := { name := "requestTwo", fn := fun _ => fun
  | [d1, d2] => { results := [.lit (.bool true)], args := [d1, d2] }
  | _ => none }
def requestTwoRow : OpenClaim := { program := "ytmocooihkobdjaadoor", sum := "311aa819cfa56c8d3e20dd50c09c688a74c552b1baa1af753f4e05bde68f39ab", func := "depot/depotlaw24.RequestTwo", spec := "requestTwo", inPlace := ["internal/bytealg.CountString", "internal/bytealg.IndexByteString", "internal/bytealg.IndexString"], unfollowed := true, recurses := true, named := ["unicode/utf8.first", "unicode/utf8.acceptRanges", "internal/bytealg.MaxLen", "depot/relation.operators"], apart := false, laid := [("unicode/utf8.acceptRanges", laid_unicode_utf8_acceptRanges), ("depot/relation.operators", laid_depot_relation_operators), ("unicode/utf8.first", laid_unicode_utf8_first)] }
def RequestTwoSaid : Prop := requestTwoRow.holds Tryd.pinned (OpenSpec.ofChange requestTwoSpec)

/-- ITS FALSE NEIGHBOUR: 'it returns false'. Refute it at one input. -/
def requestTwoWrong : ChangeSpec := { name := "requestTwo", fn := fun _ => fun
  | [d1, d2] => { results := [.lit (.bool false)], args := [d1, d2] }
  | _ => none }
def RequestTwoWrongFalsely : Prop := requestTwoRow.holds Tryd.pinned (OpenSpec.ofChange requestTwoWrong)

/-- 'depotlaw24.RequestBack': WHATEVER THE INPUT: true; the input reads as it did. -/
def requestBackSpec : ChangeSpec := { name := "requestBack", fn := fun _ => fun
  | [d] => { results := [.lit (.bool true)], args := [d] }
  | _ => none }
def requestBackRow : OpenClaim := { program := "ytmocooihkobdjaadoor", sum := "311aa819cfa56c8d3e20dd50c09c688a74c552b1baa1af753f4e05bde68f39ab", func := "depot/depotlaw24.RequestBack", spec := "requestBack", inPlace := ["internal/bytealg.IndexByteString", "internal/bytealg.IndexString", "internal/abi.NoEscape", "internal/bytealg.MakeNoZero", "internal/bytealg.CountString"], unfollowed := true, recurses := true, named := ["depot/relation.operators", "internal/bytealg.MaxLen", "unicode/utf8.first", "unicode/utf8.acceptRanges"], apart := false, laid := [("unicode/utf8.acceptRanges", laid_unicode_utf8_acceptRanges), ("depot/relation.operators", laid_depot_relation_operators), ("unicode/utf8.first", laid_unicode_utf8_first)] }
def RequestBackSaid : Prop := requestBackRow.holds Tryd.pinned (OpenSpec.ofChange requestBackSpec)

/-- ITS FALSE NEIGHBOUR: 'it returns false'. Refute it at one input. -/
def requestBackWrong : ChangeSpec := { name := "requestBack", fn := fun _ => fun
  | [d] => { results := [.lit (.bool false)], args := [d] }
  | _ => none }
def RequestBackWrongFalsely : Prop := requestBackRow.holds Tryd.pinned (OpenSpec.ofChange requestBackWrong)

/-- 'depotlaw24.RequestAgain': WHATEVER THE INPUT: true; the input reads as it did. -/
def requestAgainSpec : ChangeSpec := { name := "requestAgain", fn := fun _ => fun
  | [d] => { results := [.lit (.bool true)], args := [d] }
  | _ => none }
def requestAgainRow : OpenClaim := { program := "ytmocooihkobdjaadoor", sum := "311aa819cfa56c8d3e20dd50c09c688a74c552b1baa1af753f4e05bde68f39ab", func := "depot/depotlaw24.RequestAgain", spec := "requestAgain", inPlace := ["internal/bytealg.CountString", "internal/bytealg.IndexByteString", "internal/bytealg.IndexString", "internal/abi.NoEscape", "internal/bytealg.MakeNoZero"], unfollowed := true, recurses := true, named := ["unicode/utf8.first", "unicode/utf8.acceptRanges", "internal/bytealg.MaxLen", "depot/relation.operators"], apart := false, laid := [("unicode/utf8.acceptRanges", laid_unicode_utf8_acceptRanges), ("depot/relation.operators", laid_depot_relation_operators), ("unicode/utf8.first", laid_unicode_utf8_first)] }
def RequestAgainSaid : Prop := requestAgainRow.holds Tryd.pinned (OpenSpec.ofChange requestAgainSpec)

/-- ITS FALSE NEIGHBOUR: 'it returns false'. Refute it at one input. -/
def requestAgainWrong : ChangeSpec := { name := "requestAgain", fn := fun _ => fun
  | [d] => { results := [.lit (.bool false)], args := [d] }
  | _ => none }
def RequestAgainWrongFalsely : Prop := requestAgainRow.holds Tryd.pinned (OpenSpec.ofChange requestAgainWrong)

/-- 'depotlaw24.RequestIdle': WHATEVER THE INPUT: true; the input reads as it did. -/
def requestIdleSpec : ChangeSpec := { name := "requestIdle", fn := fun _ => fun
  | [d1, d2] => { results := [.lit (.bool true)], args := [d1, d2] }
  | _ => none }
def requestIdleRow : OpenClaim := { program := "ytmocooihkobdjaadoor", sum := "311aa819cfa56c8d3e20dd50c09c688a74c552b1baa1af753f4e05bde68f39ab", func := "depot/depotlaw24.RequestIdle", spec := "requestIdle", inPlace := ["internal/bytealg.IndexByteString", "internal/bytealg.IndexString", "internal/abi.NoEscape", "internal/bytealg.MakeNoZero", "internal/bytealg.CountString"], unfollowed := true, recurses := true, named := ["depot/relation.operators", "internal/bytealg.MaxLen", "unicode/utf8.first", "unicode/utf8.acceptRanges"], apart := false, laid := [("unicode/utf8.acceptRanges", laid_unicode_utf8_acceptRanges), ("depot/relation.operators", laid_depot_relation_operators), ("unicode/utf8.first", laid_unicode_utf8_first)] }
def RequestIdleSaid : Prop := requestIdleRow.holds Tryd.pinned (OpenSpec.ofChange requestIdleSpec)

/-- ITS FALSE NEIGHBOUR: 'it returns false'. Refute it at one input. -/
def requestIdleWrong : ChangeSpec := { name := "requestIdle", fn := fun _ => fun
  | [d1, d2] => { results := [.lit (.bool false)], args := [d1, d2] }
  | _ => none }
def RequestIdleWrongFalsely : Prop := requestIdleRow.holds Tryd.pinned (OpenSpec.ofChange requestIdleWrong)

/- THE SECOND FORM. 'bulk': how many values and letters a reading holds, each counted each time it is reached (what is shared counts as often as it is met; a slice's spare places count too). A statement '..UptoSaid' is the law's where the arguments, and the package variables that the reading takes, are together of bulk at most 1048576: NARROWER than '..Said'. Prove '..Said' where nothing that the law and all that it calls make is longer than what came in: it says more and counts as full. Else prove '..UptoSaid'. A law counts once. -/
mutual
def uptoBulk {H : Type} : DataW H → Nat
  | .lit (.string bytes) => bytes.length + 1
  | .lit _ => 1
  | .nil => 1
  | .ptr d => uptoBulk d + 1
  | .slice elems spare => uptoBulkAll elems + uptoBulkAll spare + 1
  | .agg parts => uptoBulkAll parts + 1
  | .iface _ d => uptoBulk d + 1
  | .map entries => uptoBulkEntries entries + 1
  | .held _ => 1
def uptoBulkAll {H : Type} : List (DataW H) → Nat
  | [] => 0
  | d :: r => uptoBulk d + uptoBulkAll r
def uptoBulkEntries {H : Type} : List (Lit × DataW H) → Nat
  | [] => 0
  | x :: r => uptoBulkEntry x + uptoBulkEntries r
def uptoBulkEntry {H : Type} : Lit × DataW H → Nat
  | (.string bytes, d) => bytes.length + uptoBulk d + 1
  | (_, d) => uptoBulk d + 1
 end
def uptoSmall : (H : Type) → List (DataW H) → Bool := fun _ ds => decide (uptoBulkAll ds ≤ 1048576)
def OpenSpec.upto (s : _root_.Go.ChangeSpec) : _root_.Go.OpenSpec := { _root_.Go.OpenSpec.ofChange s with cond := some uptoSmall }

/-- 'depotlaw24.RequestShapes', WHERE WHAT IT READS IS OF BULK AT MOST 1048576: true; the input reads as it did. -/
def requestShapesUptoRow : OpenClaim := { program := "ytmocooihkobdjaadoor", sum := "311aa819cfa56c8d3e20dd50c09c688a74c552b1baa1af753f4e05bde68f39ab", func := "depot/depotlaw24.RequestShapes", spec := "requestShapes", inPlace := ["internal/bytealg.IndexByteString", "internal/bytealg.IndexString"], unfollowed := true, recurses := true, named := ["depot/relation.operators", "internal/bytealg.MaxLen"], apart := false, laid := [("depot/relation.operators", laid_depot_relation_operators)], narrowed := true }
def RequestShapesUptoSaid : Prop := requestShapesUptoRow.holds Tryd.pinned (OpenSpec.upto requestShapesSpec)

/-- 'depotlaw24.RequestJoins', WHERE WHAT IT READS IS OF BULK AT MOST 1048576: true; the input reads as it did. -/
def requestJoinsUptoRow : OpenClaim := { program := "ytmocooihkobdjaadoor", sum := "311aa819cfa56c8d3e20dd50c09c688a74c552b1baa1af753f4e05bde68f39ab", func := "depot/depotlaw24.RequestJoins", spec := "requestJoins", inPlace := ["internal/bytealg.IndexByteString", "internal/bytealg.IndexString"], unfollowed := true, recurses := true, named := ["depot/relation.operators", "internal/bytealg.MaxLen"], apart := false, laid := [("depot/relation.operators", laid_depot_relation_operators)], narrowed := true }
def RequestJoinsUptoSaid : Prop := requestJoinsUptoRow.holds Tryd.pinned (OpenSpec.upto requestJoinsSpec)

/-- 'depotlaw24.RequestWrites', WHERE WHAT IT READS IS OF BULK AT MOST 1048576: true; the input reads as it did. -/
def requestWritesUptoRow : OpenClaim := { program := "ytmocooihkobdjaadoor", sum := "311aa819cfa56c8d3e20dd50c09c688a74c552b1baa1af753f4e05bde68f39ab", func := "depot/depotlaw24.RequestWrites", spec := "requestWrites", inPlace := ["internal/bytealg.IndexByteString", "internal/bytealg.IndexString", "internal/abi.NoEscape", "internal/bytealg.MakeNoZero"], unfollowed := true, recurses := true, named := ["depot/relation.operators", "internal/bytealg.MaxLen"], apart := false, laid := [("depot/relation.operators", laid_depot_relation_operators)], narrowed := true }
def RequestWritesUptoSaid : Prop := requestWritesUptoRow.holds Tryd.pinned (OpenSpec.upto requestWritesSpec)

/-- 'depotlaw24.RequestReads', WHERE WHAT IT READS IS OF BULK AT MOST 1048576: true; the input reads as it did. -/
def requestReadsUptoRow : OpenClaim := { program := "ytmocooihkobdjaadoor", sum := "311aa819cfa56c8d3e20dd50c09c688a74c552b1baa1af753f4e05bde68f39ab", func := "depot/depotlaw24.RequestReads", spec := "requestReads", inPlace := ["internal/bytealg.CountString", "internal/bytealg.IndexByteString", "internal/bytealg.IndexString"], named := ["unicode/utf8.first", "unicode/utf8.acceptRanges", "internal/bytealg.MaxLen", "depot/relation.operators"], apart := false, laid := [("unicode/utf8.acceptRanges", laid_unicode_utf8_acceptRanges), ("depot/relation.operators", laid_depot_relation_operators), ("unicode/utf8.first", laid_unicode_utf8_first)], narrowed := true }
def RequestReadsUptoSaid : Prop := requestReadsUptoRow.holds Tryd.pinned (OpenSpec.upto requestReadsSpec)

/-- 'depotlaw24.RequestTwo', WHERE WHAT IT READS IS OF BULK AT MOST 1048576: true; the input reads as it did. -/
def requestTwoUptoRow : OpenClaim := { program := "ytmocooihkobdjaadoor", sum := "311aa819cfa56c8d3e20dd50c09c688a74c552b1baa1af753f4e05bde68f39ab", func := "depot/depotlaw24.RequestTwo", spec := "requestTwo", inPlace := ["internal/bytealg.CountString", "internal/bytealg.IndexByteString", "internal/bytealg.IndexString"], unfollowed := true, recurses := true, named := ["unicode/utf8.first", "unicode/utf8.acceptRanges", "internal/bytealg.MaxLen", "depot/relation.operators"], apart := false, laid := [("unicode/utf8.acceptRanges", laid_unicode_utf8_acceptRanges), ("depot/relation.operators", laid_depot_relation_operators), ("unicode/utf8.first", laid_unicode_utf8_first)], narrowed := true }
def RequestTwoUptoSaid : Prop := requestTwoUptoRow.holds Tryd.pinned (OpenSpec.upto requestTwoSpec)

/-- 'depotlaw24.RequestBack', WHERE WHAT IT READS IS OF BULK AT MOST 1048576: true; the input reads as it did. -/
def requestBackUptoRow : OpenClaim := { program := "ytmocooihkobdjaadoor", sum := "311aa819cfa56c8d3e20dd50c09c688a74c552b1baa1af753f4e05bde68f39ab", func := "depot/depotlaw24.RequestBack", spec := "requestBack", inPlace := ["internal/bytealg.IndexByteString", "internal/bytealg.IndexString", "internal/abi.NoEscape", "internal/bytealg.MakeNoZero", "internal/bytealg.CountString"], unfollowed := true, recurses := true, named := ["depot/relation.operators", "internal/bytealg.MaxLen", "unicode/utf8.first", "unicode/utf8.acceptRanges"], apart := false, laid := [("unicode/utf8.acceptRanges", laid_unicode_utf8_acceptRanges), ("depot/relation.operators", laid_depot_relation_operators), ("unicode/utf8.first", laid_unicode_utf8_first)], narrowed := true }
def RequestBackUptoSaid : Prop := requestBackUptoRow.holds Tryd.pinned (OpenSpec.upto requestBackSpec)

/-- 'depotlaw24.RequestAgain', WHERE WHAT IT READS IS OF BULK AT MOST 1048576: true; the input reads as it did. -/
def requestAgainUptoRow : OpenClaim := { program := "ytmocooihkobdjaadoor", sum := "311aa819cfa56c8d3e20dd50c09c688a74c552b1baa1af753f4e05bde68f39ab", func := "depot/depotlaw24.RequestAgain", spec := "requestAgain", inPlace := ["internal/bytealg.CountString", "internal/bytealg.IndexByteString", "internal/bytealg.IndexString", "internal/abi.NoEscape", "internal/bytealg.MakeNoZero"], unfollowed := true, recurses := true, named := ["unicode/utf8.first", "unicode/utf8.acceptRanges", "internal/bytealg.MaxLen", "depot/relation.operators"], apart := false, laid := [("unicode/utf8.acceptRanges", laid_unicode_utf8_acceptRanges), ("depot/relation.operators", laid_depot_relation_operators), ("unicode/utf8.first", laid_unicode_utf8_first)], narrowed := true }
def RequestAgainUptoSaid : Prop := requestAgainUptoRow.holds Tryd.pinned (OpenSpec.upto requestAgainSpec)

/-- 'depotlaw24.RequestIdle', WHERE WHAT IT READS IS OF BULK AT MOST 1048576: true; the input reads as it did. -/
def requestIdleUptoRow : OpenClaim := { program := "ytmocooihkobdjaadoor", sum := "311aa819cfa56c8d3e20dd50c09c688a74c552b1baa1af753f4e05bde68f39ab", func := "depot/depotlaw24.RequestIdle", spec := "requestIdle", inPlace := ["internal/bytealg.IndexByteString", "internal/bytealg.IndexString", "internal/abi.NoEscape", "internal/bytealg.MakeNoZero", "internal/bytealg.CountString"], unfollowed := true, recurses := true, named := ["depot/relation.operators", "internal/bytealg.MaxLen", "unicode/utf8.first", "unicode/utf8.acceptRanges"], apart := false, laid := [("unicode/utf8.acceptRanges", laid_unicode_utf8_acceptRanges), ("depot/relation.operators", laid_depot_relation_operators), ("unicode/utf8.first", laid_unicode_utf8_first)], narrowed := true }
def RequestIdleUptoSaid : Prop := requestIdleUptoRow.holds Tryd.pinned (OpenSpec.upto requestIdleSpec)

end Rows
end Go.Proofs.YtmocooihkobdjaaDoor
