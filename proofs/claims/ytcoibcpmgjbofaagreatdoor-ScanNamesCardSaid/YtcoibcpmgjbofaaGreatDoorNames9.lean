/- The row of the law of the names holds. -/
import Derived.Test.YtcoibcpmgjbofaaGreatDoorNames8
set_option linter.unusedVariables false
namespace Go.Proofs.YtcoibcpmgjbofaaGreatDoor
open Go.ChangeShapes Go.WideShapes Go.ChangeAt Go.RowKit
theorem scan_named : Tryz.pinned.checked.prog.funcNamed Rows.scanNamesRow.func = some 3 := by kernel_rfl
theorem scan_closed : joinedFacts Tryz.pinned.checked.prog 3 Tryz.f3 Rows.scanNamesSpec Rows.scanNamesRow = true := by kernel_rfl
theorem scan_instance : Tryz.f3.isInstance Tryz.pinned.checked.prog Rows.scanNamesRow.origin Rows.scanNamesRow.targs := of_decide_eq_true (by kernel_rfl)
theorem scan_wrapper : Tryz.f3.isWrapper Tryz.pinned.checked.prog Rows.scanNamesRow.wrapper Rows.scanNamesRow.mainSum := by
  unfold Func.isWrapper
  first | (rw [if_pos (by decide +kernel)]; kernel_rfl) | (rw [if_neg (by decide +kernel)]; exact ⟨rfl, rfl⟩)
theorem scan_holds : Rows.ScanNamesSaid :=
  OpenClaim.holds_of_wide 3 Tryz.f3 rfl rfl rfl rfl rfl rfl rfl ⟨rfl, rfl, rfl, rfl, rfl⟩ rfl rfl rfl rfl rfl scan_named Tryz.func3 scan_closed scan_instance scan_wrapper
    (fun os started H enc _ => scan_lifted os started H enc)
end Go.Proofs.YtcoibcpmgjbofaaGreatDoor
