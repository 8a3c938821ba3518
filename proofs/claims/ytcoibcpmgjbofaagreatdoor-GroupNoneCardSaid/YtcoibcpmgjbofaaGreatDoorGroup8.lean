/- The closed statement of group, eighth part: comparing results. -/
import Derived.Test.YtcoibcpmgjbofaaGreatDoorGroup7
set_option linter.unusedVariables false
namespace Go.Proofs.YtcoibcpmgjbofaaGreatDoor
open Go.RowKit Go.Col
theorem lt_past (n m : Nat) (h : n < m) : n < m + 1 := Nat.lt_succ_of_lt h
set_option maxRecDepth 100000 in
theorem same_00 (w : World) : Calls Tryz.prog 9 #[.agg #[.slice none 0 0, .slice none 0 0], .agg #[.slice none 0 0, .slice none 0 0]] w fun e w' => e = .returned (.bool true) ∧ Below w.heap.size w w' := by
  go_enter Tryz.func9, Tryz.ntmps9
  go_wp2
  refine wp_loop_rounds 1 ?_
  rw [rounds_succ]
  go_wp2
  refine wp_loop_rounds 1 ?_
  rw [rounds_succ]
  go_wp2
  go_ret
  exact ⟨rfl, Hid.out (by repeat first | exact kpr _ | apply kpa)⟩
set_option maxRecDepth 100000 in
theorem srep_00 (w : World) : Calls Tryz.prog 14 #[.agg #[.slice none 0 0, .slice none 0 0], .agg #[.slice none 0 0, .slice none 0 0]] w fun e w' => e = .returned (.bool true) ∧ Below w.heap.size w w' := by
  go_enter Tryz.func14, Tryz.ntmps14
  go_wp2
  refine wp_loop_rounds 1 ?_
  rw [rounds_succ]
  go_wp2
  refine wp_loop_rounds 1 ?_
  rw [rounds_succ]
  go_wp2
  go_ret
  exact ⟨rfl, Hid.out (by repeat first | exact kpr _ | apply kpa)⟩
set_option maxRecDepth 100000 in
theorem same_n1 (na nb : Option Addr) (nc nd : Nat) (w : World) (h1 : Sl w (.slice na 1 nc) 1 1 [.string ⟨#[114, 111, 119, 115]⟩]) (h2 : Sl w (.slice nb 1 nd) 1 1 [.string ⟨#[114, 111, 119, 115]⟩]) :
    Calls Tryz.prog 9 #[.agg #[.slice na 1 nc, .slice none 0 0], .agg #[.slice nb 1 nd, .slice none 0 0]] w fun e w' => e = .returned (.bool true) ∧ Below w.heap.size w w' := by
  obtain ⟨_, _, b1, o1, rfl, r1⟩ := h1.pos (by omega)
  obtain ⟨_, _, b2, o2, rfl, r2⟩ := h2.pos (by omega)
  have l1 := r1.lt (by simp)
  have l2 := r2.lt (by simp)
  have c10 : w.cell? ⟨b1, o1, none⟩ = _ := r1 0 _ rfl
  have c20 : w.cell? ⟨b2, o2, none⟩ = _ := r2 0 _ rfl
  have hls := lt_past
  clear h1 h2
  go_enter Tryz.func9, Tryz.ntmps9
  go_wp2
  refine wp_loop_rounds 2 ?_
  rw [rounds_succ]
  go_wp2
  go_quiet (fail)
  go_wp2
  rw [rounds_succ]
  go_wp2
  refine wp_loop_rounds 1 ?_
  rw [rounds_succ]
  go_wp2
  go_ret
  exact ⟨rfl, below_drewN (((Below.refl _ _).alloc (Nat.le_refl _) _).alloc (by simp) _) _⟩
theorem gnum_ok (k : Int) (w : World) : Calls Tryz.prog 13 #[.int .i64 k] w fun e w' => e = .returned (.int .i64 k) ∧ w' = w := by
  go_enter Tryz.func13, Tryz.ntmps13
  go_wp2
  go_ret
  exact ⟨rfl, rfl⟩
end Go.Proofs.YtcoibcpmgjbofaaGreatDoor
