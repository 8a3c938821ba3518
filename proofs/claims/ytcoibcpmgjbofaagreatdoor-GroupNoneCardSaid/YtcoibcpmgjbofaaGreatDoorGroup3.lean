/- The closed statement of group, third part: the check of a grouped query. -/
import Derived.Test.YtcoibcpmgjbofaaGreatDoorGroup2
set_option linter.unusedVariables false
namespace Go.Proofs.YtcoibcpmgjbofaaGreatDoor
open Go.RowKit Go.Col
set_option maxRecDepth 100000 in
theorem qcheck_group (cv v gv : Value) (w : World) (hc : Sl w cv 1 3 [.string ⟨#[97]⟩, .int .i64 1, .bool false]) (hg : Sl w gv 1 1 [.string ⟨#[97]⟩]) (h : Sl w v 1 2 [.int .i64 2, .string ⟨#[]⟩]) : Calls Tryz.prog 40 #[cv, .agg #[v, .int .i64 0, .string ⟨#[]⟩, .int .i64 0, .int .i64 0, .int .i64 0, .float .f64 0, .string ⟨#[]⟩, .slice none 0 0, .slice none 0 0, gv, .slice none 0 0, .int .i64 (-1)]] w fun e w' => e = .returned (.int .i64 0) ∧ Below w.heap.size w w' := by
  obtain ⟨a0, c0, rfl⟩ := h.slice_
  obtain ⟨_, gc, rfl⟩ := hg.slice_
  obtain ⟨_, _, gb, go, rfl, _⟩ := hg.pos (by omega)
  obtain ⟨a1, c1, rfl⟩ := hc.slice_
  have hK := kpr w
  go_enter Tryz.func40, Tryz.ntmps40
  go_wp2_with (first
   | (go_at_call 76; refine (check_a _ _ (hc.alloc _)).mono ?_; rintro e w' ⟨rfl, hb⟩; replace h := (h.alloc _).new_ hb; replace hg := (hg.alloc _).new_ hb; replace hc := (hc.alloc _).new_ hb; replace hK := kp1 hK hb; obtain ⟨hq1, hq2⟩ := bcell hb; replace hb := Lib.hid hb)
   | (go_at_call 77; refine (asked_group _ _ _ _ hc hg h).mono ?_; rintro e w'' ⟨rfl, hb2⟩))
  go_ret
  exact ⟨rfl, (kp0 hK hb2).out⟩
set_option maxRecDepth 100000 in
theorem gcheck_group (cv v gv : Value) (w : World) (hc : Sl w cv 1 3 [.string ⟨#[97]⟩, .int .i64 1, .bool false]) (hg : Sl w gv 1 1 [.string ⟨#[97]⟩]) (h : Sl w v 1 2 [.int .i64 2, .string ⟨#[]⟩]) : Calls Tryz.prog 32 #[cv, .agg #[v, .int .i64 0, .string ⟨#[]⟩, .int .i64 0, .int .i64 0, .int .i64 0, .float .f64 0, .string ⟨#[]⟩, .slice none 0 0, .slice none 0 0, gv, .slice none 0 0, .int .i64 (-1)]] w fun e w' => e = .returned (.int .i64 0) ∧ Below w.heap.size w w' := by
  obtain ⟨a0, c0, rfl⟩ := h.slice_
  obtain ⟨_, gc, rfl⟩ := hg.slice_
  obtain ⟨_, _, gb, go, rfl, _⟩ := hg.pos (by omega)
  obtain ⟨a1, c1, rfl⟩ := hc.slice_
  have hK := kpr w
  go_enter Tryz.func32, Tryz.ntmps32
  go_wp2_with (first
   | (go_at_call 40; refine (qcheck_group _ _ _ _ (hc.alloc _) (hg.alloc _) (h.alloc _)).mono ?_; rintro e w' ⟨rfl, hb⟩; replace hK := kp1 hK hb; obtain ⟨hq1, hq2⟩ := bcell hb; replace hb := Lib.hid hb)
   | (go_at_call 41; refine (grouped_1 _ _ _ _ _ _).mono ?_; rintro e w'' ⟨rfl, hb2⟩))
  go_ret
  exact ⟨rfl, (kp0 hK hb2).out⟩
end Go.Proofs.YtcoibcpmgjbofaaGreatDoor
