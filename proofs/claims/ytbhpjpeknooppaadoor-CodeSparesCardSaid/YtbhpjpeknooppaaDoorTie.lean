/-
  DERIVED. GIVEN WITH THE SEED: THE PROGRAM's TIES (one call each: nine closed facts by the kernel) AND EACH ROW's TIE, after the 31st guide's Derived/Test/Toyas{Tie, Card}.lean. No idea stands in it: it is a product of the set-up. Laid BY PROGRAM, IN A SANDBOX (cutbox-door.mjs). By AI agents, Wed Nov 11 2026. No macro, syntax, notation, axiom, sorry.
-/
import Derived.Test.YtbhpjpeknooppaaDoorRows
import Derived.LaidByTextLater
import Derived.SevenTiedAt
import Derived.LaidSub
import Derived.LaidOnce
namespace Go.Proofs.YtbhpjpeknooppaaDoor
open Go
set_option maxRecDepth 100000
theorem seatTie1 : Tryd.prog.laidByTextLater [("sluice/api.Keywords", Rows.laid_sluice_api_Keywords), ("sluice/num.no", Rows.laid_sluice_num_no), ("sluice/num.unknown", Rows.laid_sluice_num_unknown), ("sluice/num.yes", Rows.laid_sluice_num_yes), ("sluice/num.both", Rows.laid_sluice_num_both), ("sluice/num.either", Rows.laid_sluice_num_either), ("sluice/num.other", Rows.laid_sluice_num_other), ("sluice/code.operands", Rows.laid_sluice_code_operands)] [.data, .data, .data, .data, .data, .data, .data, .data] true :=
  Program.laidByTextLater_by_one 76 8 28 (by kernel_rfl) (by kernel_rfl) (by kernel_rfl) (by kernel_rfl) (by kernel_rfl) (by kernel_rfl) (fun _ _ => by kernel_rfl)
theorem noOwnUnsafe : Tryd.pinned.checked.prog.headLifts.contains "ownunsafe" = false := by kernel_rfl
theorem tie : Tryd.prog.laidByTextLater [("sluice/api.Keywords", Rows.laid_sluice_api_Keywords), ("sluice/num.no", Rows.laid_sluice_num_no), ("sluice/num.unknown", Rows.laid_sluice_num_unknown), ("sluice/num.yes", Rows.laid_sluice_num_yes), ("sluice/num.both", Rows.laid_sluice_num_both), ("sluice/num.either", Rows.laid_sluice_num_either), ("sluice/num.other", Rows.laid_sluice_num_other), ("sluice/code.operands", Rows.laid_sluice_code_operands)] [.data, .data, .data, .data, .data, .data, .data, .data] true :=
  Program.laidByTextLater.sub seatTie1 ["sluice/api.Keywords", "sluice/num.no", "sluice/num.unknown", "sluice/num.yes", "sluice/num.both", "sluice/num.either", "sluice/num.other", "sluice/code.operands"] (by kernel_rfl) (by kernel_rfl)
theorem codeSpares_row_tie : Rows.codeSparesRow.laidByTextAt .later Tryd.pinned [.data, .data, .data, .data, .data, .data, .data, .data] true :=
  OpenClaim.laidByTextAt_later rfl rfl tie noOwnUnsafe
theorem codeSparesUpto_row_tie : Rows.codeSparesUptoRow.laidByTextAt .later Tryd.pinned [.data, .data, .data, .data, .data, .data, .data, .data] true :=
  OpenClaim.laidByTextAt_later rfl rfl tie noOwnUnsafe
end Go.Proofs.YtbhpjpeknooppaaDoor
