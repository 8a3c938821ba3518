/- The closed statement of group, fifth part: parts of nothing are put together. -/
import Derived.Test.YtcoibcpmgjbofaaGreatDoorGroup4
set_option linter.unusedVariables false
namespace Go.Proofs.YtcoibcpmgjbofaaGreatDoor
open Go.RowKit Go.Col
theorem info_gpart : (Tryz.prog.info? 66).map (fun i => (i.zero, i.size, i.bytes)) = some (some (.agg #[.int .i64 0, .bool false, .slice none 0 0, .map none]), 4, 48) := by kernel_rfl
/-- slices.Clone of a []group.Part: new memory, the same cells. -/
theorem clone_gpart (w : World) (v : Value) (n : Nat) (cs : List Value) (h : Sl w v n 4 cs) (h1 : ∀ u ∈ cs, u.oneCell' = true) (hb : n * 48 ≤ 140737488355328) :
    Calls Tryz.prog 34 #[v] w (RetOwn w 66 4 n cs) := by
  have hl := h.le
  rcases h.cases with ⟨rfl, rfl, rfl⟩ | ⟨b, off, cap, rfl, h3, h4, h5, h6⟩
  · have hn0 := fun w => Lib.run_eql_slice_nil (P := Tryz.prog) w 104 66 none 0 0 0 0 Tryz.underlying104
    go_enter Tryz.func34, Tryz.ntmps34
    go_wp2
    go_ret
    exact RetOwn.of (World.ownsRow_nil _ _ _ _) (Below.refl _ _)
  · have hn0 := fun w => Lib.run_eql_slice_nil (P := Tryz.prog) w 104 66 (some ⟨b, off, none⟩) n cap 0 0 Tryz.underlying104
    go_enter Tryz.func34, Tryz.ntmps34
    go_wp2_with (at_builtin; refine wpList_app rfl (.tmp 5) (.tmp 6) 104 rfl w.heap.size 66 Tryz.underlying104 info_gpart rfl (by decide) (own_fresh w w.heap.size 66 0 4 [] rfl (Nat.zero_le _) (Nat.le_refl _)) ((Sl.of_rd h6 h5 h3 h4).alloc _) rfl rfl h1 (by omega) (by omega) (by simp) ?_; intro a' c' w1 happ)
    go_ret
    exact RetOwn.of (v := .slice a' _ c') (by simpa using happ.own) (((Below.refl _ _).alloc (Nat.le_refl _) _).trans (happ.below (own_fresh w w.heap.size 66 0 4 [] rfl (Nat.zero_le _) (Nat.le_refl _)) (by simp) (Nat.le_refl _)))
set_option maxRecDepth 100000 in
theorem ginsertion_1 (a : Addr) (c : Nat) (f : Value) (w : World) : Calls Tryz.prog 132 #[.slice (some a) 1 c, .int .i64 0, .int .i64 1, f] w fun e w' => e = .returned (.tuple #[]) ∧ w' = w := by
  go_enter Tryz.func132, Tryz.ntmps132
  go_wp2
  refine wp_loop_rounds 1 ?_
  rw [rounds_succ]
  go_wp2
  go_end0
  exact ⟨rfl, rfl⟩
set_option maxRecDepth 100000 in
theorem gstable_1 (a : Addr) (c : Nat) (f : Value) (w : World) : Calls Tryz.prog 69 #[.slice (some a) 1 c, .int .i64 1, f] w fun e w' => e = .returned (.tuple #[]) ∧ w' = w := by
  go_enter Tryz.func69, Tryz.ntmps69
  go_wp2
  refine wp_loop_rounds 1 ?_
  rw [rounds_succ]
  go_wp2_with (first | (go_at_call 132; refine (ginsertion_1 _ _ _ _).mono ?_; rintro e w' ⟨rfl, rfl⟩))
  refine wp_loop_rounds 1 ?_
  rw [rounds_succ]
  go_wp2
  go_end0
  exact ⟨rfl, rfl⟩
set_option maxRecDepth 100000 in
theorem gsortstable_1 (a : Addr) (c : Nat) (f : Value) (w : World) : Calls Tryz.prog 35 #[.slice (some a) 1 c, f] w fun e w' => e = .returned (.tuple #[]) ∧ w' = w := by
  go_enter Tryz.func35, Tryz.ntmps35
  go_wp2_with (first | (go_at_call 69; refine (gstable_1 _ _ _ _).mono ?_; rintro e w' ⟨rfl, rfl⟩))
  go_end0
  exact ⟨rfl, rfl⟩
/-- A copy of one part that is nothing. -/
theorem clone_gpart1 (w : World) (v : Value) (h : Sl w v 1 4 [.int .i64 0, .bool false, .slice none 0 0, .map none]) :
    Calls Tryz.prog 34 #[v] w fun e w' => ∃ g c, e = .returned (.slice (some ⟨g, 0, none⟩) 1 c) ∧ Rd w' g 0 [.int .i64 0, .bool false, .slice none 0 0, .map none] ∧ g < w'.heap.size ∧ Below w.heap.size w w' := by
  refine (clone_gpart w v 1 _ h (by simp [Value.oneCell']) (by omega)).mono ?_
  rintro e w' ⟨a, c, rfl, hown, hb⟩
  rcases own_cases hown with ⟨_, h1, _⟩ | ⟨g, cap, more, e1, h1, h2, h3, h4, h5, h6⟩
  · omega
  · obtain ⟨rfl, rfl⟩ : a = some ⟨g, 0, none⟩ ∧ c = cap := by simpa using e1
    exact ⟨g, c, rfl, (h5.rd).prefix_, h5.lt, hb⟩
set_option maxRecDepth 100000 in
theorem ginsertion_0 (a : Addr) (c : Nat) (f : Value) (w : World) : Calls Tryz.prog 194 #[.slice (some a) 0 c, .int .i64 0, .int .i64 0, f] w fun e w' => e = .returned (.tuple #[]) ∧ w' = w := by
  go_enter Tryz.func194, Tryz.ntmps194
  go_wp2
  refine wp_loop_rounds 1 ?_
  rw [rounds_succ]
  go_wp2
  go_end0
  exact ⟨rfl, rfl⟩
set_option maxRecDepth 100000 in
theorem gpdq_0 (a : Addr) (c : Nat) (f l : Value) (w : World) : Calls Tryz.prog 134 #[.slice (some a) 0 c, .int .i64 0, .int .i64 0, l, f] w fun e w' => e = .returned (.tuple #[]) ∧ w' = w := by
  go_enter Tryz.func134, Tryz.ntmps134
  go_wp2
  refine wp_loop_rounds 1 ?_
  rw [rounds_succ]
  go_wp2_with (first | (go_at_call 194; refine (ginsertion_0 _ _ _ _).mono ?_; rintro e w' ⟨rfl, rfl⟩))
  exact bodyPost_ret (results_none Tryz.results134 _ _ _) rfl ⟨rfl, rfl⟩
set_option maxRecDepth 100000 in
theorem blen_0 (w : World) : Calls Tryz.prog 135 #[.int .u64 0] w fun e w' => (∃ v, e = .returned v) ∧ w = w' := by
  go_enter Tryz.func135, Tryz.ntmps135
  go_wp2
  go_ret
  exact ⟨⟨_, rfl⟩, rfl⟩
set_option maxRecDepth 100000 in
theorem gsort_0 (a : Addr) (c : Nat) (f : Value) (w : World) : Calls Tryz.prog 71 #[.slice (some a) 0 c, f] w fun e w' => e = .returned (.tuple #[]) ∧ w' = w := by
  go_enter Tryz.func71, Tryz.ntmps71
  go_wp2_with (first
   | (go_at_call 135; refine (blen_0 _).mono ?_; rintro e w' ⟨⟨v, rfl⟩, rfl⟩)
   | (go_at_call 134; refine (gpdq_0 _ _ _ _ _).mono ?_; rintro e w' ⟨rfl, rfl⟩))
  go_end0
  exact ⟨rfl, rfl⟩
end Go.Proofs.YtcoibcpmgjbofaaGreatDoor
