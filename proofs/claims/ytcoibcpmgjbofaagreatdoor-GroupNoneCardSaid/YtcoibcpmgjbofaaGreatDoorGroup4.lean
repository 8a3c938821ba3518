/- The closed statement of group, fourth part: images that are not there. -/
import Derived.Test.YtcoibcpmgjbofaaGreatDoorGroup3
import Derived.Maps.RangeWalk
import Derived.Laws.IdiomRangeMap
set_option linter.unusedVariables false
namespace Go.Proofs.YtcoibcpmgjbofaaGreatDoor
open Go.RowKit Go.Col
set_option maxRecDepth 100000 in
theorem gof_nil (qs : Array Value) (w : World) : Calls Tryz.prog 10 #[.pointer none, .int .i64 0, .agg qs, .agg #[.bool false, .bool false, .bool false, .int .i64 0]] w fun e w' => e = .returned (.tuple #[.agg #[.int .i64 0, .bool false, .slice none 0 0, .map none], .int .i64 1]) ∧ Below w.heap.size w w' := by
  go_enter Tryz.func10, Tryz.ntmps10
  go_wp2_with (first | (go_at_call 15; refine (columns_nil _).mono ?_; rintro e w' ⟨rfl, rfl⟩))
  exact bodyPost_ret (v := .tuple #[.agg #[.int .i64 0, .bool false, .slice none 0 0, .map none], .int .i64 1]) (by simp [results, Tryz.results10, go_sem]) rfl ⟨rfl, Hid.out (by repeat first | exact kpr _ | apply kpa)⟩
set_option maxRecDepth 100000 in
theorem gof_zero (b : Nat) (qs : Array Value) (w : World) (h : w.cell? ⟨b, 0, none⟩ = some (.slice none 0 0)) : Calls Tryz.prog 10 #[.pointer (some ⟨b, 0, none⟩), .int .i64 0, .agg qs, .agg #[.bool false, .bool false, .bool false, .int .i64 0]] w fun e w' => e = .returned (.tuple #[.agg #[.int .i64 0, .bool false, .slice none 0 0, .map none], .int .i64 1]) ∧ Below w.heap.size w w' := by
  go_enter Tryz.func10, Tryz.ntmps10
  go_wp2_with (first | (go_at_call 15; refine (columns_zero b _ (by first | exact cal (cal (cal h)) | exact cal (cal (cal (cal h))) | exact cal (cal (cal (cal (cal h)))))).mono ?_; rintro e w' ⟨rfl, rfl⟩))
  exact bodyPost_ret (v := .tuple #[.agg #[.int .i64 0, .bool false, .slice none 0 0, .map none], .int .i64 1]) (by simp [results, Tryz.results10, go_sem]) rfl ⟨rfl, Hid.out (by repeat first | exact kpr _ | apply kpa)⟩
set_option maxRecDepth 100000 in
theorem ggroup_nil (qs : Array Value) (w : World) : Calls Tryz.prog 11 #[.pointer none, .agg qs, .agg #[.bool false, .bool false, .bool false, .int .i64 0]] w fun e w' => e = .returned (.tuple #[.agg #[.slice none 0 0, .slice none 0 0], .agg #[.slice none 0 0, .slice none 0 0], .int .i64 1]) ∧ Below w.heap.size w w' := by
  go_enter Tryz.func11, Tryz.ntmps11
  go_wp2_with (first | (go_at_call 15; refine (columns_nil _).mono ?_; rintro e w' ⟨rfl, rfl⟩))
  exact bodyPost_ret (v := .tuple #[.agg #[.slice none 0 0, .slice none 0 0], .agg #[.slice none 0 0, .slice none 0 0], .int .i64 1]) (by simp [results, Tryz.results11, go_sem]) rfl ⟨rfl, Hid.out (by repeat first | exact kpr _ | apply kpa)⟩
set_option maxRecDepth 100000 in
theorem ggroup_zero (b : Nat) (qs : Array Value) (w : World) (h : w.cell? ⟨b, 0, none⟩ = some (.slice none 0 0)) : Calls Tryz.prog 11 #[.pointer (some ⟨b, 0, none⟩), .agg qs, .agg #[.bool false, .bool false, .bool false, .int .i64 0]] w fun e w' => e = .returned (.tuple #[.agg #[.slice none 0 0, .slice none 0 0], .agg #[.slice none 0 0, .slice none 0 0], .int .i64 1]) ∧ Below w.heap.size w w' := by
  go_enter Tryz.func11, Tryz.ntmps11
  go_wp2_with (first | (go_at_call 15; refine (columns_zero b _ (by first | exact cal (cal (cal h)) | exact cal (cal (cal (cal h))) | exact cal (cal (cal (cal (cal h)))))).mono ?_; rintro e w' ⟨rfl, rfl⟩))
  exact bodyPost_ret (v := .tuple #[.agg #[.slice none 0 0, .slice none 0 0], .agg #[.slice none 0 0, .slice none 0 0], .int .i64 1]) (by simp [results, Tryz.results11, go_sem]) rfl ⟨rfl, Hid.out (by repeat first | exact kpr _ | apply kpa)⟩
set_option maxRecDepth 100000 in
theorem gcheck_nil (a g : Option Addr) (n c m d : Nat) (w : World) : Calls Tryz.prog 32 #[.slice none 0 0, .agg #[.slice a n c, .int .i64 0, .string ⟨#[]⟩, .int .i64 0, .int .i64 0, .int .i64 0, .float .f64 0, .string ⟨#[]⟩, .slice none 0 0, .slice none 0 0, .slice g m d, .slice none 0 0, .int .i64 (-1)]] w fun e w' => e = .returned (.int .i64 150) ∧ Below w.heap.size w w' := by
  go_enter Tryz.func32, Tryz.ntmps32
  go_wp2_with (first | (go_at_call 40; refine (qcheck_nil _ _).mono ?_; rintro e w' ⟨rfl, hb⟩))
  go_ret
  exact ⟨rfl, (kp1 (kpr _) hb).out⟩
set_option maxRecDepth 100000 in
theorem gjoin_nil (a g : Option Addr) (n c m d : Nat) (pv : Value) (w : World) : Calls Tryz.prog 12 #[.slice none 0 0, .agg #[.slice a n c, .int .i64 0, .string ⟨#[]⟩, .int .i64 0, .int .i64 0, .int .i64 0, .float .f64 0, .string ⟨#[]⟩, .slice none 0 0, .slice none 0 0, .slice g m d, .slice none 0 0, .int .i64 (-1)], pv] w fun e w' => e = .returned (.tuple #[.agg #[.slice none 0 0, .slice none 0 0], .agg #[.slice none 0 0, .slice none 0 0], .int .i64 150]) ∧ Below w.heap.size w w' := by
  go_enter Tryz.func12, Tryz.ntmps12
  go_wp2_with (first | (go_at_call 32; refine (gcheck_nil _ _ _ _ _ _ _).mono ?_; rintro e w' ⟨rfl, hb⟩; obtain ⟨hp1, hp2⟩ := bcell hb; have hz := hb.size; replace hb := Lib.hid hb))
  have hR1 : Blk w' (w.heap.size + 1) 53 [.slice none 0 0, .slice none 0 0] := ((Blk.new_at _ _ _ (by simp)).alloc _).new_ hb.out
  have hR2 : Blk w' (w.heap.size + 1 + 1) 56 [.slice none 0 0, .slice none 0 0] := (Blk.new_at _ _ _ (by simp)).new_ hb.out
  have q2 := (((hR1.set 0 (.slice none 0 0)).set 1 (.slice none 0 0)).other (a := ⟨w.heap.size + 1 + 1, 0, none⟩) (by simp) (.slice none 0 0)).other (a := ⟨w.heap.size + 1 + 1, 1, none⟩) (by simp) (.slice none 0 0)
  have q3 := (((hR2.other (a := ⟨w.heap.size + 1, 0, none⟩) (by simp) (.slice none 0 0)).other (a := ⟨w.heap.size + 1, 1, none⟩) (by simp) (.slice none 0 0)).set 0 (.slice none 0 0)).set 1 (.slice none 0 0)
  have q4 := (((((kp0 (kpa (kpa (kpa (kpr w) _) _) _) hb.out).out).setCell (p := ⟨w.heap.size + 1, 0, none⟩) (by simp) (.slice none 0 0)).setCell (p := ⟨w.heap.size + 1, 1, none⟩) (by simp) (.slice none 0 0)).setCell (p := ⟨w.heap.size + 1 + 1, 0, none⟩) (by simp; omega) (.slice none 0 0)).setCell (p := ⟨w.heap.size + 1 + 1, 1, none⟩) (by simp; omega) (.slice none 0 0)
  generalize (((w'.setCell ⟨w.heap.size + 1, 0, none⟩ (.slice none 0 0)).setCell ⟨w.heap.size + 1, 1, none⟩ (.slice none 0 0)).setCell ⟨w.heap.size + 1 + 1, 0, none⟩ (.slice none 0 0)).setCell ⟨w.heap.size + 1 + 1, 1, none⟩ (.slice none 0 0) = W at *
  have c0 := q2.cell_at (j := 0) rfl
  have c1 := q2.cell_at (j := 1) rfl
  have c2 := q3.cell_at (j := 0) rfl
  have c3 := q3.cell_at (j := 1) rfl
  exact bodyPost_ret (v := .tuple #[.agg #[.slice none 0 0, .slice none 0 0], .agg #[.slice none 0 0, .slice none 0 0], .int .i64 150]) (by simp [results, Tryz.results12, go_sem, c0, c1, c2, c3]) rfl ⟨rfl, q4⟩
end Go.Proofs.YtcoibcpmgjbofaaGreatDoor
