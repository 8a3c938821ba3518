/- Closed statements of scan and group, fifth part: images that are not there, parts of nothing. -/
import Derived.Test.YtcoibcpmgjbofaaGreatDoorNames3
set_option linter.unusedVariables false
namespace Go.Proofs.YtcoibcpmgjbofaaGreatDoor
open Go.RowKit Go.Col
theorem cal {w : World} {a : Addr} {v : Value} {o : Obj} (h : w.cell? a = some v) : (w.alloc o).cell? a = some v := (World.cell?_alloc_lt w o a (World.block_lt_of_cell? w a h)).trans h
set_option maxRecDepth 100000 in
theorem columns_nil (w : World) : Calls Tryz.prog 15 #[.pointer none] w fun e w' => e = .returned (.slice none 0 0) ∧ w' = w := by
  go_enter Tryz.func15, Tryz.ntmps15
  go_wp2
  go_ret
  exact ⟨rfl, rfl⟩
set_option maxRecDepth 100000 in
theorem clone_nocols (w : World) : Calls Tryz.prog 39 #[.slice none 0 0] w fun e w' => e = .returned (.slice none 0 0) ∧ w' = w := by
  have hn0 := fun w => Lib.run_eql_slice_nil (P := Tryz.prog) w 22 32 none 0 0 0 0 Tryz.underlying22
  go_enter Tryz.func39, Tryz.ntmps39
  go_wp2
  go_ret
  exact ⟨rfl, rfl⟩
set_option maxRecDepth 100000 in
theorem columns_zero (b : Nat) (w : World) (h : w.cell? ⟨b, 0, none⟩ = some (.slice none 0 0)) : Calls Tryz.prog 15 #[.pointer (some ⟨b, 0, none⟩)] w fun e w' => e = .returned (.slice none 0 0) ∧ w' = w := by
  go_enter Tryz.func15, Tryz.ntmps15
  go_wp2_with (first | (go_at_call 39; refine (clone_nocols _).mono ?_; rintro e w' ⟨rfl, rfl⟩))
  go_ret
  exact ⟨rfl, rfl⟩
set_option maxRecDepth 100000 in
theorem of_nil (qs : Array Value) (w : World) : Calls Tryz.prog 5 #[.pointer none, .int .i64 0, .agg qs, .agg #[.bool false, .bool false, .bool false, .int .i64 0]] w fun e w' => e = .returned (.tuple #[.agg #[.int .i64 0, .bool false, .slice none 0 0, .slice none 0 0, .slice none 0 0], .int .i64 1]) ∧ Below w.heap.size w w' := by
  go_enter Tryz.func5, Tryz.ntmps5
  go_wp2_with (first | (go_at_call 15; refine (columns_nil _).mono ?_; rintro e w' ⟨rfl, rfl⟩))
  exact bodyPost_ret (v := .tuple #[.agg #[.int .i64 0, .bool false, .slice none 0 0, .slice none 0 0, .slice none 0 0], .int .i64 1]) (by simp [results, Tryz.results5, go_sem]) rfl ⟨rfl, (((Below.refl _ _).alloc (Nat.le_refl _) _).alloc (by simp) _).alloc (by simp; omega) _⟩
set_option maxRecDepth 100000 in
theorem run_zero (b : Nat) (qs : Array Value) (w : World) (h : w.cell? ⟨b, 0, none⟩ = some (.slice none 0 0)) : Calls Tryz.prog 6 #[.pointer (some ⟨b, 0, none⟩), .agg qs, .agg #[.bool false, .bool false, .bool false, .int .i64 0]] w fun e w' => e = .returned (.tuple #[.agg #[.slice none 0 0, .slice none 0 0], .agg #[.slice none 0 0, .slice none 0 0], .int .i64 1]) ∧ Below w.heap.size w w' := by
  have hlt := World.block_lt_of_cell? _ _ h
  go_enter Tryz.func6, Tryz.ntmps6
  go_wp2_with (first | (go_at_call 15; refine (columns_zero b _ (cal (cal (cal (cal h))))).mono ?_; rintro e w' ⟨rfl, rfl⟩))
  exact bodyPost_ret (v := .tuple #[.agg #[.slice none 0 0, .slice none 0 0], .agg #[.slice none 0 0, .slice none 0 0], .int .i64 1]) (by simp [results, Tryz.results6, go_sem]) rfl ⟨rfl, ((((Below.refl _ _).alloc (Nat.le_refl _) _).alloc (by simp) _).alloc (by simp; omega) _).alloc (by simp; omega) _⟩
set_option maxRecDepth 100000 in
theorem scheck_nil (w : World) : Calls Tryz.prog 76 #[.slice none 0 0] w fun e w' => e = .returned (.int .i64 150) ∧ w' = w := by
  go_enter Tryz.func76, Tryz.ntmps76
  go_wp2
  go_ret
  exact ⟨rfl, rfl⟩
set_option maxRecDepth 100000 in
theorem qcheck_nil (qs : Array Value) (w : World) : Calls Tryz.prog 40 #[.slice none 0 0, .agg qs] w fun e w' => e = .returned (.int .i64 150) ∧ Below w.heap.size w w' := by
  go_enter Tryz.func40, Tryz.ntmps40
  go_wp2_with (first | (go_at_call 76; refine (scheck_nil _).mono ?_; rintro e w' ⟨rfl, rfl⟩))
  go_ret
  exact ⟨rfl, (Below.refl _ _).alloc (Nat.le_refl _) _⟩
set_option maxRecDepth 100000 in
theorem check_nil (a : Option Addr) (c n : Nat) (w : World) : Calls Tryz.prog 17 #[.slice none 0 0, .agg #[.slice a n c, .int .i64 0, .string ⟨#[]⟩, .int .i64 0, .int .i64 0, .int .i64 0, .float .f64 0, .string ⟨#[]⟩, .slice none 0 0, .slice none 0 0, .slice none 0 0, .slice none 0 0, .int .i64 (-1)]] w fun e w' => e = .returned (.int .i64 150) ∧ Below w.heap.size w w' := by
  go_enter Tryz.func17, Tryz.ntmps17
  go_wp2_with (first | (go_at_call 40; refine (qcheck_nil _ _).mono ?_; rintro e w' ⟨rfl, hb⟩))
  go_ret
  exact ⟨rfl, (kp1 (kpr _) hb).out⟩
set_option maxRecDepth 100000 in
theorem join_nil (a : Option Addr) (c n : Nat) (w : World) : Calls Tryz.prog 7 #[.slice none 0 0, .agg #[.slice a n c, .int .i64 0, .string ⟨#[]⟩, .int .i64 0, .int .i64 0, .int .i64 0, .float .f64 0, .string ⟨#[]⟩, .slice none 0 0, .slice none 0 0, .slice none 0 0, .slice none 0 0, .int .i64 (-1)], .slice none 0 0] w fun e w' => e = .returned (.tuple #[.agg #[.slice none 0 0, .slice none 0 0], .agg #[.slice none 0 0, .slice none 0 0], .int .i64 150]) ∧ Below w.heap.size w w' := by
  go_enter Tryz.func7, Tryz.ntmps7
  go_wp2_with (first | (go_at_call 17; refine (check_nil _ _ _ _).mono ?_; rintro e w' ⟨rfl, hb⟩; obtain ⟨hp1, hp2⟩ := bcell hb; have hz := hb.size; replace hb := Lib.hid hb))
  have hR1 : Blk w' (w.heap.size + 1) 53 [.slice none 0 0, .slice none 0 0] := ((Blk.new_at _ _ _ (by simp)).alloc _).new_ hb.out
  have hR2 : Blk w' (w.heap.size + 1 + 1) 56 [.slice none 0 0, .slice none 0 0] := (Blk.new_at _ _ _ (by simp)).new_ hb.out
  have q2 := (((hR1.set 0 (.slice none 0 0)).set 1 (.slice none 0 0)).other (a := ⟨w.heap.size + 1 + 1, 0, none⟩) (by simp) (.slice none 0 0)).other (a := ⟨w.heap.size + 1 + 1, 1, none⟩) (by simp) (.slice none 0 0)
  have q3 := (((hR2.other (a := ⟨w.heap.size + 1, 0, none⟩) (by simp) (.slice none 0 0)).other (a := ⟨w.heap.size + 1, 1, none⟩) (by simp) (.slice none 0 0)).set 0 (.slice none 0 0)).set 1 (.slice none 0 0)
  have q4 := (((((kp0 (kpa (kpa (kpa (kpr w) _) _) _) hb.out).out).setCell (p := ⟨w.heap.size + 1, 0, none⟩) (by simp) (.slice none 0 0)).setCell (p := ⟨w.heap.size + 1, 1, none⟩) (by simp) (.slice none 0 0)).setCell (p := ⟨w.heap.size + 1 + 1, 0, none⟩) (by simp; omega) (.slice none 0 0)).setCell (p := ⟨w.heap.size + 1 + 1, 1, none⟩) (by simp; omega) (.slice none 0 0)
  generalize (((w'.setCell ⟨w.heap.size + 1, 0, none⟩ (.slice none 0 0)).setCell ⟨w.heap.size + 1, 1, none⟩ (.slice none 0 0)).setCell ⟨w.heap.size + 1 + 1, 0, none⟩ (.slice none 0 0)).setCell ⟨w.heap.size + 1 + 1, 1, none⟩ (.slice none 0 0) = W at *
  have c0 := q2.cell_at (j := 0) rfl
  have c1 := q2.cell_at (j := 1) rfl
  have c2 := q3.cell_at (j := 0) rfl
  have c3 := q3.cell_at (j := 1) rfl
  exact bodyPost_ret (v := .tuple #[.agg #[.slice none 0 0, .slice none 0 0], .agg #[.slice none 0 0, .slice none 0 0], .int .i64 150]) (by simp [results, Tryz.results7, go_sem, c0, c1, c2, c3]) rfl ⟨rfl, q4⟩
end Go.Proofs.YtcoibcpmgjbofaaGreatDoor
