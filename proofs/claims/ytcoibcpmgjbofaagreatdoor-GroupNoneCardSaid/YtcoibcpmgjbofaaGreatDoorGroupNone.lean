/- The statement GroupNoneCardSaid of the law colonnadelaw29.GroupNone is proved: the law has no input; whatever memory it begins in, it returns true. -/
import Derived.Test.YtcoibcpmgjbofaaGreatDoorGroup11
import Derived.Test.YtcoibcpmgjbofaaGreatDoorCards
import Derived.Test.YtcoibcpmgjbofaaGreatDoorTie
import Derived.SevenTiedAt
set_option linter.unusedVariables false
namespace Go.Proofs.YtcoibcpmgjbofaaGreatDoor
open Go
/-- The tied card. -/
theorem group_none_card : Rows.GroupNoneCardSaid :=
  Claim7.holds_tied_plain_at .later [] [.data] true (true, "399b8e13478670504a2ef255b3cb5ad1fed97fbefccf3bfbac3982b88b2b2e91") true
    group_holds (fun _ h => by cases h) (by kernel_rfl) (fun _ h => by cases h) groupNone_row_tie rfl ⟨rfl, rfl⟩ (by kernel_rfl) rfl
    (fun f fn hf hfn => by
      obtain rfl : f = 4 := Option.some.inj ((show Tryz.prog.funcNamed "colonnade/colonnadelaw29.GroupNone" = some 4 by kernel_rfl).symm.trans hf) |>.symm
      obtain rfl : fn = Tryz.f4 := (Option.some.inj (Tryz.func4.symm.trans hfn)).symm
      exact ⟨by kernel_rfl, fun j t ht => by
        rw [Tryz.params4] at ht
        simp at ht⟩)
    (by kernel_rfl)
#print axioms group_none_card
end Go.Proofs.YtcoibcpmgjbofaaGreatDoor
