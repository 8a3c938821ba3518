/- The closed statement of group, first part: checks of a grouped query. -/
import Derived.Test.YtcoibcpmgjbofaaGreatDoorNames6
set_option linter.unusedVariables false
namespace Go.Proofs.YtcoibcpmgjbofaaGreatDoor
open Go.RowKit Go.Col
set_option maxRecDepth 100000 in
theorem find1_a (b : Nat) (w : World) (h : w.cell? ⟨b, 0, none⟩ = some (.string ⟨#[97]⟩)) : Calls Tryz.prog 207 #[.agg #[.string ⟨#[97]⟩, .int .i64 1, .bool false], .pointer (some ⟨b, 0, none⟩)] w fun e w' => e = .returned (.bool true) ∧ Below w.heap.size w w' := by
  have hlt := World.block_lt_of_cell? _ _ h
  go_enter Tryz.func207, Tryz.ntmps207
  go_wp2
  go_ret
  exact ⟨rfl, (Below.refl _ _).alloc (Nat.le_refl _) _⟩
set_option maxRecDepth 100000 in
theorem index_a (v : Value) (b : Nat) (w : World) (h : Sl w v 1 3 [.string ⟨#[97]⟩, .int .i64 1, .bool false]) (hn : w.cell? ⟨b, 0, none⟩ = some (.string ⟨#[97]⟩)) : Calls Tryz.prog 110 #[v, .func (.func 207) #[] #[.pointer (some ⟨b, 0, none⟩)]] w fun e w' => e = .returned (.int .i64 0) ∧ Below w.heap.size w w' := by
  obtain ⟨a0, c0, rfl⟩ := h.slice_
  obtain ⟨_, _, bb, off, rfl, hr⟩ := h.pos (by omega)
  have h0 : w.cell? ⟨bb, off, none⟩ = _ := hr 0 _ rfl
  have h1 := hr 1 _ rfl
  have h2 := hr 2 _ rfl
  go_enter Tryz.func110, Tryz.ntmps110
  go_wp2
  refine wp_loop_rounds 1 ?_
  rw [rounds_succ]
  go_wp2_with (first | (go_at_call 207; refine (find1_a b _ hn).mono ?_; rintro e w' ⟨rfl, hb⟩))
  go_ret
  exact ⟨rfl, hb⟩
set_option maxRecDepth 100000 in
theorem find_a (v : Value) (w : World) (h : Sl w v 1 3 [.string ⟨#[97]⟩, .int .i64 1, .bool false]) : Calls Tryz.prog 143 #[v, .string ⟨#[97]⟩] w fun e w' => e = .returned (.tuple #[.int .i64 0, .bool true]) ∧ Below w.heap.size w w' := by
  obtain ⟨a0, c0, rfl⟩ := h.slice_
  go_enter Tryz.func143, Tryz.ntmps143
  go_wp2_with (first | (go_at_call 110; refine (index_a _ _ _ (h.alloc _) (by simp [go_sem])).mono ?_; rintro e w' ⟨rfl, hb⟩))
  go_ret2
  exact ⟨rfl, (kp1 (kpr _) hb).out⟩
set_option maxRecDepth 100000 in
theorem sindex_0 (a : Addr) (c : Nat) (w : World) : Calls Tryz.prog 75 #[.slice (some a) 0 c, .string ⟨#[97]⟩] w fun e w' => e = .returned (.int .i64 (-1)) ∧ w' = w := by
  go_enter Tryz.func75, Tryz.ntmps75
  go_wp2
  refine wp_loop_rounds 1 ?_
  rw [rounds_succ]
  go_wp2
  go_ret
  exact ⟨rfl, rfl⟩
set_option maxRecDepth 100000 in
theorem contains_0 (a : Addr) (c : Nat) (w : World) : Calls Tryz.prog 144 #[.slice (some a) 0 c, .string ⟨#[97]⟩] w fun e w' => e = .returned (.bool false) ∧ w' = w := by
  go_enter Tryz.func144, Tryz.ntmps144
  go_wp2_with (first | (go_at_call 75; refine (sindex_0 _ _ _).mono ?_; rintro e w' ⟨rfl, rfl⟩))
  go_ret
  exact ⟨rfl, rfl⟩
end Go.Proofs.YtcoibcpmgjbofaaGreatDoor
