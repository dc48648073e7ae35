/-
  NARROWER THAN 'FOR EVERY INPUT', by the rows' own cells (each row's printed sentence says how): CodeSpares: laid.
  DERIVED. THE GIVEN ROWS OF THIS SEAT. 1 by the template 'for every input the law returns true; each argument reads behind the call as it read before'; 0 by the template 'total and deterministic' (their statements: YtbhpjpeknooppaaDoorTotals.lean).
  GIVEN WITH THE SEED: the statements are not yours to turn. If you find one false, say at which input.
  Laid BY PROGRAM, IN A SANDBOX (cutbox-rows.mjs): the forced cells as the released guide's own fill.sh prints them over the translation 81a7b615e9024f9b… (all of the seat's roots in one cut). By AI agents, Wed Nov 11 2026. No macro, syntax, notation, axiom, sorry.
-/
import Derived.Test.YtbhpjpeknooppaaDoorChecked
import GoSem.Claim
import GoSem.ClaimJoined
import GoSem.ClaimMapViews
import Derived.JoinedTies
import Derived.KernelRfl
namespace Go.Proofs.YtbhpjpeknooppaaDoor
/- THE CELL 'sum', in the pinned program and in every row, IS THE sha256 OF THE DUMP (.gsa) THAT YtbhpjpeknooppaaDoorProg.lean LOADS. Nothing in Lean hashes anything: it is a label: what it is worth is what the hold of that sum in a sandbox is worth. -/
noncomputable def Tryd.pinned : Pinned := { name := "ytbhpjpeknooppaadoor", sum := "81a7b615e9024f9b7f9904d34ce9d7a68b7bfbd61568404c3a1e5a13929188f5", checked := Tryd.checked }
namespace Rows
def none {H : Type} : Left H := { results := [], args := [] }

/- WHAT THE LISTED PACKAGE-LEVEL VARIABLES READ AS WHEN THE CALL BEGINS. Each datum BY PROGRAM (the guide's laid-datum.mjs) off the statement by which the dump's own 'gosem.cut.vars' lays the variable. In a bare row this is a premise. The card (YtbhpjpeknooppaaDoorCards.lean) ties it to the program's text. -/
def laid_sluice_api_Keywords {H : Type} : DataW H := .agg [.lit (.string [80, 65, 84, 84, 69, 82, 78]), .lit (.string [83, 69, 81]), .lit (.string [85, 83, 73, 78, 71]), .lit (.string [65, 78, 89]), .lit (.string [78, 69, 88, 84]), .lit (.string [83, 84, 82, 73, 67, 84]), .lit (.string [87, 72, 69, 82, 69]), .lit (.string [87, 73, 84, 72, 73, 78]), .lit (.string [80, 65, 82, 84, 73, 84, 73, 79, 78]), .lit (.string [66, 89]), .lit (.string [82, 69, 84, 85, 82, 78]), .lit (.string [65, 78, 68]), .lit (.string [79, 82]), .lit (.string [78, 79, 84]), .lit (.string [84, 82, 85, 69]), .lit (.string [70, 65, 76, 83, 69]), .lit (.string [67, 79, 85, 78, 84]), .lit (.string [83, 85, 77]), .lit (.string [77, 73, 78]), .lit (.string [77, 65, 88]), .lit (.string [70, 73, 82, 83, 84]), .lit (.string [76, 65, 83, 84]), .lit (.string [80, 82, 69, 86]), .lit (.string [65, 70, 84, 69, 82]), .lit (.string [65, 76, 76]), .lit (.string [80, 65, 83, 84]), .lit (.string [79, 78, 67, 69])]
def laid_sluice_num_no {H : Type} : DataW H := .agg [.lit (.bool true), .lit (.int .i64 0)]
def laid_sluice_num_unknown {H : Type} : DataW H := .agg [.lit (.bool false), .lit (.int .i64 0)]
def laid_sluice_num_yes {H : Type} : DataW H := .agg [.lit (.bool true), .lit (.int .i64 1)]
def laid_sluice_num_both {H : Type} : DataW H := .agg [.agg [.agg [.lit (.bool true), .lit (.int .i64 0)], .agg [.lit (.bool true), .lit (.int .i64 0)], .agg [.lit (.bool true), .lit (.int .i64 0)]], .agg [.agg [.lit (.bool true), .lit (.int .i64 0)], .agg [.lit (.bool false), .lit (.int .i64 0)], .agg [.lit (.bool false), .lit (.int .i64 0)]], .agg [.agg [.lit (.bool true), .lit (.int .i64 0)], .agg [.lit (.bool false), .lit (.int .i64 0)], .agg [.lit (.bool true), .lit (.int .i64 1)]]]
def laid_sluice_num_either {H : Type} : DataW H := .agg [.agg [.agg [.lit (.bool true), .lit (.int .i64 0)], .agg [.lit (.bool false), .lit (.int .i64 0)], .agg [.lit (.bool true), .lit (.int .i64 1)]], .agg [.agg [.lit (.bool false), .lit (.int .i64 0)], .agg [.lit (.bool false), .lit (.int .i64 0)], .agg [.lit (.bool true), .lit (.int .i64 1)]], .agg [.agg [.lit (.bool true), .lit (.int .i64 1)], .agg [.lit (.bool true), .lit (.int .i64 1)], .agg [.lit (.bool true), .lit (.int .i64 1)]]]
def laid_sluice_num_other {H : Type} : DataW H := .agg [.agg [.lit (.bool true), .lit (.int .i64 1)], .agg [.lit (.bool false), .lit (.int .i64 0)], .agg [.lit (.bool true), .lit (.int .i64 0)]]
def laid_sluice_code_operands {H : Type} : DataW H := .agg [.lit (.int .i64 (-1)), .lit (.int .i64 0), .lit (.int .i64 0), .lit (.int .i64 0), .lit (.int .i64 0), .lit (.int .i64 0), .lit (.int .i64 0), .lit (.int .i64 0), .lit (.int .i64 0), .lit (.int .i64 0), .lit (.int .i64 1), .lit (.int .i64 1), .lit (.int .i64 2), .lit (.int .i64 2), .lit (.int .i64 2), .lit (.int .i64 2), .lit (.int .i64 2), .lit (.int .i64 2), .lit (.int .i64 2), .lit (.int .i64 2), .lit (.int .i64 2), .lit (.int .i64 2), .lit (.int .i64 2), .lit (.int .i64 2), .lit (.int .i64 2), .lit (.int .i64 1), .lit (.int .i64 1)]

/-- 'sluicelaw7.CodeSpares': WHATEVER THE INPUT: true; the input reads as it did. -/
def codeSparesSpec : ChangeSpec := { name := "codeSpares", fn := fun _ => fun
  | [d1, d2, d3, d4] => { results := [.lit (.bool true)], args := [d1, d2, d3, d4] }
  | _ => none }
def codeSparesRow : OpenClaim := { program := "ytbhpjpeknooppaadoor", sum := "81a7b615e9024f9b7f9904d34ce9d7a68b7bfbd61568404c3a1e5a13929188f5", func := "sluice/sluicelaw7.CodeSpares", spec := "codeSpares", inPlace := ["math/bits.Add64"], recurses := true, named := ["sluice/api.Keywords", "sluice/num.unknown", "sluice/num.other", "sluice/num.both", "sluice/num.either", "sluice/num.yes", "sluice/num.no", "sluice/code.operands"], apart := false, laid := [("sluice/api.Keywords", laid_sluice_api_Keywords), ("sluice/num.no", laid_sluice_num_no), ("sluice/num.unknown", laid_sluice_num_unknown), ("sluice/num.yes", laid_sluice_num_yes), ("sluice/num.both", laid_sluice_num_both), ("sluice/num.either", laid_sluice_num_either), ("sluice/num.other", laid_sluice_num_other), ("sluice/code.operands", laid_sluice_code_operands)] }
def CodeSparesSaid : Prop := codeSparesRow.holds Tryd.pinned (OpenSpec.ofChange codeSparesSpec)

/-- ITS FALSE NEIGHBOUR: 'it returns false'. Refute it at one input. -/
def codeSparesWrong : ChangeSpec := { name := "codeSpares", fn := fun _ => fun
  | [d1, d2, d3, d4] => { results := [.lit (.bool false)], args := [d1, d2, d3, d4] }
  | _ => none }
def CodeSparesWrongFalsely : Prop := codeSparesRow.holds Tryd.pinned (OpenSpec.ofChange codeSparesWrong)

/- THE SECOND FORM. 'bulk': how many values and letters a reading holds, each counted each time it is reached (what is shared counts as often as it is met; a slice's spare places count too). A statement '..UptoSaid' is the law's where the arguments, and the package variables that the reading takes, are together of bulk at most 1048576: NARROWER than '..Said'. Prove '..Said' where nothing that the law and all that it calls make is longer than what came in: it says more and counts as full. Else prove '..UptoSaid'. A law counts once. -/
mutual
def uptoBulk {H : Type} : DataW H → Nat
  | .lit (.string bytes) => bytes.length + 1
  | .lit _ => 1
  | .nil => 1
  | .ptr d => uptoBulk d + 1
  | .slice elems spare => uptoBulkAll elems + uptoBulkAll spare + 1
  | .agg parts => uptoBulkAll parts + 1
  | .iface _ d => uptoBulk d + 1
  | .map entries => uptoBulkEntries entries + 1
  | .held _ => 1
def uptoBulkAll {H : Type} : List (DataW H) → Nat
  | [] => 0
  | d :: r => uptoBulk d + uptoBulkAll r
def uptoBulkEntries {H : Type} : List (Lit × DataW H) → Nat
  | [] => 0
  | x :: r => uptoBulkEntry x + uptoBulkEntries r
def uptoBulkEntry {H : Type} : Lit × DataW H → Nat
  | (.string bytes, d) => bytes.length + uptoBulk d + 1
  | (_, d) => uptoBulk d + 1
 end
def uptoSmall : (H : Type) → List (DataW H) → Bool := fun _ ds => decide (uptoBulkAll ds ≤ 1048576)
def OpenSpec.upto (s : _root_.Go.ChangeSpec) : _root_.Go.OpenSpec := { _root_.Go.OpenSpec.ofChange s with cond := some uptoSmall }

/-- 'sluicelaw7.CodeSpares', WHERE WHAT IT READS IS OF BULK AT MOST 1048576: true; the input reads as it did. -/
def codeSparesUptoRow : OpenClaim := { program := "ytbhpjpeknooppaadoor", sum := "81a7b615e9024f9b7f9904d34ce9d7a68b7bfbd61568404c3a1e5a13929188f5", func := "sluice/sluicelaw7.CodeSpares", spec := "codeSpares", inPlace := ["math/bits.Add64"], recurses := true, named := ["sluice/api.Keywords", "sluice/num.unknown", "sluice/num.other", "sluice/num.both", "sluice/num.either", "sluice/num.yes", "sluice/num.no", "sluice/code.operands"], apart := false, laid := [("sluice/api.Keywords", laid_sluice_api_Keywords), ("sluice/num.no", laid_sluice_num_no), ("sluice/num.unknown", laid_sluice_num_unknown), ("sluice/num.yes", laid_sluice_num_yes), ("sluice/num.both", laid_sluice_num_both), ("sluice/num.either", laid_sluice_num_either), ("sluice/num.other", laid_sluice_num_other), ("sluice/code.operands", laid_sluice_code_operands)], narrowed := true }
def CodeSparesUptoSaid : Prop := codeSparesUptoRow.holds Tryd.pinned (OpenSpec.upto codeSparesSpec)

end Rows
end Go.Proofs.YtbhpjpeknooppaaDoor
