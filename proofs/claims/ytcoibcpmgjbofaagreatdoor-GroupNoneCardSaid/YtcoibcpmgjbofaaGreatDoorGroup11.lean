/- The row of the law of the names holds. -/
import Derived.Test.YtcoibcpmgjbofaaGreatDoorGroup10
set_option linter.unusedVariables false
namespace Go.Proofs.YtcoibcpmgjbofaaGreatDoor
open Go.ChangeShapes Go.WideShapes Go.ChangeAt Go.RowKit
theorem group_named : Tryz.pinned.checked.prog.funcNamed Rows.groupNoneRow.func = some 4 := by kernel_rfl
theorem group_closed : joinedFacts Tryz.pinned.checked.prog 4 Tryz.f4 Rows.groupNoneSpec Rows.groupNoneRow = true := by kernel_rfl
theorem group_instance : Tryz.f4.isInstance Tryz.pinned.checked.prog Rows.groupNoneRow.origin Rows.groupNoneRow.targs := of_decide_eq_true (by kernel_rfl)
theorem group_wrapper : Tryz.f4.isWrapper Tryz.pinned.checked.prog Rows.groupNoneRow.wrapper Rows.groupNoneRow.mainSum := by
  unfold Func.isWrapper
  first | (rw [if_pos (by decide +kernel)]; kernel_rfl) | (rw [if_neg (by decide +kernel)]; exact ⟨rfl, rfl⟩)
theorem group_holds : Rows.GroupNoneSaid :=
  OpenClaim.holds_of_wide 4 Tryz.f4 rfl rfl rfl rfl rfl rfl rfl ⟨rfl, rfl, rfl, rfl, rfl⟩ rfl rfl rfl rfl rfl group_named Tryz.func4 group_closed group_instance group_wrapper
    (fun os started H enc _ => group_lifted os started H enc)
end Go.Proofs.YtcoibcpmgjbofaaGreatDoor
