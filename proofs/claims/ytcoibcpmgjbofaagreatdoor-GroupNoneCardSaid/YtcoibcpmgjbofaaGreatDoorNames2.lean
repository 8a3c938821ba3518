/- Closed statements of scan and group, second part. -/
import Derived.Test.YtcoibcpmgjbofaaGreatDoorNames
set_option linter.unusedVariables false
namespace Go.Proofs.YtcoibcpmgjbofaaGreatDoor
open Go.RowKit Go.Col
theorem info_part : (Tryz.prog.info? 30).map (fun i => (i.zero, i.size, i.bytes)) = some (some (.agg #[.int .i64 0, .bool false, .slice none 0 0, .slice none 0 0, .slice none 0 0]), 5, 88) := by kernel_rfl
/-- slices.Clone of a []scan.Part: new memory, the same cells. -/
theorem clone_part (w : World) (v : Value) (n : Nat) (cs : List Value) (h : Sl w v n 5 cs) (h1 : ∀ u ∈ cs, u.oneCell' = true) (hb : n * 88 ≤ 140737488355328) :
    Calls Tryz.prog 24 #[v] w (RetOwn w 30 5 n cs) := by
  have hl := h.le
  rcases h.cases with ⟨rfl, rfl, rfl⟩ | ⟨b, off, cap, rfl, h3, h4, h5, h6⟩
  · have hn0 := fun w => Lib.run_eql_slice_nil (P := Tryz.prog) w 87 30 none 0 0 0 0 Tryz.underlying87
    go_enter Tryz.func24, Tryz.ntmps24
    go_wp2
    go_ret
    exact RetOwn.of (World.ownsRow_nil _ _ _ _) (Below.refl _ _)
  · have hn0 := fun w => Lib.run_eql_slice_nil (P := Tryz.prog) w 87 30 (some ⟨b, off, none⟩) n cap 0 0 Tryz.underlying87
    go_enter Tryz.func24, Tryz.ntmps24
    go_wp2_with (at_builtin; refine wpList_app rfl (.tmp 5) (.tmp 6) 87 rfl w.heap.size 30 Tryz.underlying87 info_part rfl (by decide) (own_fresh w w.heap.size 30 0 5 [] rfl (Nat.zero_le _) (Nat.le_refl _)) ((Sl.of_rd h6 h5 h3 h4).alloc _) rfl rfl h1 (by omega) (by omega) (by simp) ?_; intro a' c' w1 happ)
    go_ret
    exact RetOwn.of (v := .slice a' _ c') (by simpa using happ.own) (((Below.refl _ _).alloc (Nat.le_refl _) _).trans (happ.below (own_fresh w w.heap.size 30 0 5 [] rfl (Nat.zero_le _) (Nat.le_refl _)) (by simp) (Nat.le_refl _)))
set_option maxRecDepth 100000 in
theorem insertion_1 (a : Addr) (c : Nat) (f : Value) (w : World) : Calls Tryz.prog 120 #[.slice (some a) 1 c, .int .i64 0, .int .i64 1, f] w fun e w' => e = .returned (.tuple #[]) ∧ w' = w := by
  go_enter Tryz.func120, Tryz.ntmps120
  go_wp2
  refine wp_loop_rounds 1 ?_
  rw [rounds_succ]
  go_wp2
  go_end0
  exact ⟨rfl, rfl⟩
set_option maxRecDepth 100000 in
theorem stable_1 (a : Addr) (c : Nat) (f : Value) (w : World) : Calls Tryz.prog 55 #[.slice (some a) 1 c, .int .i64 1, f] w fun e w' => e = .returned (.tuple #[]) ∧ w' = w := by
  go_enter Tryz.func55, Tryz.ntmps55
  go_wp2
  refine wp_loop_rounds 1 ?_
  rw [rounds_succ]
  go_wp2_with (first | (go_at_call 120; refine (insertion_1 _ _ _ _).mono ?_; rintro e w' ⟨rfl, rfl⟩))
  refine wp_loop_rounds 1 ?_
  rw [rounds_succ]
  go_wp2
  go_end0
  exact ⟨rfl, rfl⟩
set_option maxRecDepth 100000 in
theorem sortstable_1 (a : Addr) (c : Nat) (f : Value) (w : World) : Calls Tryz.prog 25 #[.slice (some a) 1 c, f] w fun e w' => e = .returned (.tuple #[]) ∧ w' = w := by
  go_enter Tryz.func25, Tryz.ntmps25
  go_wp2_with (first | (go_at_call 55; refine (stable_1 _ _ _ _).mono ?_; rintro e w' ⟨rfl, rfl⟩))
  go_end0
  exact ⟨rfl, rfl⟩
theorem info_str : (Tryz.prog.info? 9).map (fun i => (i.zero, i.size, i.bytes)) = some (some (.string ⟨#[]⟩), 1, 16) := by kernel_rfl
set_option maxRecDepth 100000 in
theorem names_1 (v : Value) (w : World) (h : Sl w v 1 2 [.int .i64 2, .string ⟨#[]⟩]) : Calls Tryz.prog 27 #[.agg #[v, .int .i64 0, .string ⟨#[]⟩, .int .i64 0, .int .i64 0, .int .i64 0, .float .f64 0, .string ⟨#[]⟩, .slice none 0 0, .slice none 0 0, .slice none 0 0, .slice none 0 0, .int .i64 (-1)]] w fun e w' => ∃ a c, e = .returned (.slice a 1 c) ∧ w'.ownsRow w.heap.size 9 1 (.slice a 1 c) 1 [.string ⟨#[114, 111, 119, 115]⟩] ∧ Below w.heap.size w w' := by
  obtain ⟨a0, c0, rfl⟩ := h.slice_
  obtain ⟨_, _, bb, off, rfl, hr⟩ := h.pos (by omega)
  have hlt := hr.lt (by simp)
  have h0 : w.cell? ⟨bb, off, none⟩ = _ := hr 0 _ rfl
  have h1 := hr 1 _ rfl
  have hmk : ∀ w, (Instr.makeSlice 43 (.int .i64 1) (.int .i64 1)).run Tryz.prog w = .ok (.slice (some ⟨w.heap.size, 0, none⟩) 1 1) (w.alloc (.cells #[.string ⟨#[]⟩] 9)) := fun w => by
    have := run_make_n (P := Tryz.prog) 43 9 Tryz.underlying43 info_str .i64 .i64 1 1 (by omega) (by omega) (by omega) w
    simpa [made_one, Value.cells] using this
  go_enter Tryz.func27, Tryz.ntmps27
  go_wp2
  refine wp_loop_rounds 2 ?_
  rw [rounds_succ]
  go_wp2
  rw [rounds_succ]
  go_wp2
  go_ret
  exact ⟨_, _, rfl, own_of_blk (more := []) ((Blk.new_at _ _ _ (by simp)).alloc _) rfl rfl (Nat.le_refl _) (by unfold maxLen; omega) (by omega), (((Below.refl _ _).alloc (Nat.le_refl _) _).alloc (by simp) _).alloc (by simp; omega) _⟩
/-- A copy of one part that is nothing. -/
theorem clone_part1 (w : World) (v : Value) (h : Sl w v 1 5 [.int .i64 0, .bool false, .slice none 0 0, .slice none 0 0, .slice none 0 0]) :
    Calls Tryz.prog 24 #[v] w fun e w' => ∃ g c, e = .returned (.slice (some ⟨g, 0, none⟩) 1 c) ∧ Rd w' g 0 [.int .i64 0, .bool false, .slice none 0 0, .slice none 0 0, .slice none 0 0] ∧ g < w'.heap.size ∧ Below w.heap.size w w' := by
  refine (clone_part w v 1 _ h (by simp [Value.oneCell']) (by omega)).mono ?_
  rintro e w' ⟨a, c, rfl, hown, hb⟩
  rcases own_cases hown with ⟨_, h1, _⟩ | ⟨g, cap, more, e1, h1, h2, h3, h4, h5, h6⟩
  · omega
  · obtain ⟨rfl, rfl⟩ : a = some ⟨g, 0, none⟩ ∧ c = cap := by simpa using e1
    exact ⟨g, c, rfl, (h5.rd).prefix_, h5.lt, hb⟩
theorem info_state : (Tryz.prog.info? 99).map (fun i => (i.zero, i.size, i.bytes)) = some (some (.agg #[.int .i64 0, .int .i64 0, .int .i64 0, .int .u64 0, .int .i64 0, .int .i64 0, .float .f64 0, .string ⟨#[]⟩, .int .i64 0, .int .i64 0, .float .f64 0, .string ⟨#[]⟩]), 12, 112) := by kernel_rfl
theorem info_value : (Tryz.prog.info? 38).map (fun i => (i.zero, i.size, i.bytes)) = some (some (.agg #[.int .i64 0, .int .i64 0, .float .f64 0, .string ⟨#[]⟩]), 4, 40) := by kernel_rfl
set_option maxRecDepth 100000 in
theorem vint_0 (w : World) : Calls Tryz.prog 59 #[.int .i64 0] w fun e w' => e = .returned (.agg #[.int .i64 1, .int .i64 0, .float .f64 0, .string ⟨#[]⟩]) ∧ w' = w.alloc (.cells #[.int .i64 1, .int .i64 0, .float .f64 0, .string ⟨#[]⟩] 38) := by
  go_enter Tryz.func59, Tryz.ntmps59
  go_wp2
  exact bodyPost_ret (v := .agg #[.int .i64 1, .int .i64 0, .float .f64 0, .string ⟨#[]⟩]) (by simp [results, Tryz.results59, go_sem]) rfl ⟨rfl, rfl⟩
set_option maxRecDepth 100000 in
theorem answer_0 (w : World) : Calls Tryz.prog 31 #[.int .i64 2, .agg #[.int .i64 0, .int .i64 0, .int .i64 0, .int .u64 0, .int .i64 0, .int .i64 0, .float .f64 0, .string ⟨#[]⟩, .int .i64 0, .int .i64 0, .float .f64 0, .string ⟨#[]⟩]] w fun e w' => e = .returned (.tuple #[.agg #[.int .i64 1, .int .i64 0, .float .f64 0, .string ⟨#[]⟩], .int .i64 0]) ∧ w' = ((w.alloc (.cells #[.int .i64 0, .int .i64 0, .int .i64 0, .int .u64 0, .int .i64 0, .int .i64 0, .float .f64 0, .string ⟨#[]⟩, .int .i64 0, .int .i64 0, .float .f64 0, .string ⟨#[]⟩] 99)).alloc (.cells #[.int .i64 1, .int .i64 0, .float .f64 0, .string ⟨#[]⟩] 38)).alloc (.cells #[.int .i64 1, .int .i64 0, .float .f64 0, .string ⟨#[]⟩] 38) := by
  go_enter Tryz.func31, Tryz.ntmps31
  go_wp2_with (first | (go_at_call 59; refine (vint_0 _).mono ?_; rintro e w' ⟨rfl, rfl⟩))
  exact bodyPost_ret (v := .tuple #[.agg #[.int .i64 1, .int .i64 0, .float .f64 0, .string ⟨#[]⟩], .int .i64 0]) (by simp [results, Tryz.results31, go_sem]) rfl ⟨rfl, rfl⟩
end Go.Proofs.YtcoibcpmgjbofaaGreatDoor
