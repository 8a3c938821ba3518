/- The closed statement of group, second part: a grouped query may be asked. -/
import Derived.Test.YtcoibcpmgjbofaaGreatDoorGroup1
set_option linter.unusedVariables false
namespace Go.Proofs.YtcoibcpmgjbofaaGreatDoor
open Go.RowKit Go.Col
set_option maxRecDepth 100000 in
theorem grouped_1 (a : Option Addr) (n c : Nat) (gb : Addr) (gc : Nat) (w : World) : Calls Tryz.prog 41 #[.agg #[.slice a n c, .int .i64 0, .string ⟨#[]⟩, .int .i64 0, .int .i64 0, .int .i64 0, .float .f64 0, .string ⟨#[]⟩, .slice none 0 0, .slice none 0 0, .slice (some gb) 1 gc, .slice none 0 0, .int .i64 (-1)]] w fun e w' => e = .returned (.bool true) ∧ Below w.heap.size w w' := by
  go_enter Tryz.func41, Tryz.ntmps41
  go_wp2
  go_ret
  exact ⟨rfl, (Below.refl _ _).alloc (Nat.le_refl _) _⟩
set_option maxRecDepth 100000 in
theorem asked_group (cv v gv : Value) (w : World) (hc : Sl w cv 1 3 [.string ⟨#[97]⟩, .int .i64 1, .bool false]) (hg : Sl w gv 1 1 [.string ⟨#[97]⟩]) (h : Sl w v 1 2 [.int .i64 2, .string ⟨#[]⟩]) : Calls Tryz.prog 77 #[cv, .agg #[v, .int .i64 0, .string ⟨#[]⟩, .int .i64 0, .int .i64 0, .int .i64 0, .float .f64 0, .string ⟨#[]⟩, .slice none 0 0, .slice none 0 0, gv, .slice none 0 0, .int .i64 (-1)]] w fun e w' => e = .returned (.bool true) ∧ Below w.heap.size w w' := by
  obtain ⟨ca, cc, rfl⟩ := hc.slice_
  obtain ⟨ga, gc, rfl⟩ := hg.slice_
  obtain ⟨_, _, gb, go, rfl, gr⟩ := hg.pos (by omega)
  have glt := gr.lt (by simp)
  have g0 : w.cell? ⟨gb, go, none⟩ = _ := gr 0 _ rfl
  obtain ⟨a0, c0, rfl⟩ := h.slice_
  obtain ⟨_, _, bb, off, rfl, hr⟩ := h.pos (by omega)
  have hlt := hr.lt (by simp)
  have h0 : w.cell? ⟨bb, off, none⟩ = _ := hr 0 _ rfl
  have h1 := hr 1 _ rfl
  have hK := kpr ((w.alloc (.cells #[.slice (some ⟨bb, off, none⟩) 1 c0, .int .i64 0, .string ⟨#[]⟩, .int .i64 0, .int .i64 0, .int .i64 0, .float .f64 0, .string ⟨#[]⟩, .slice none 0 0, .slice none 0 0, .slice (some ⟨gb, go, none⟩) 1 gc, .slice none 0 0, .int .i64 (-1)] 46)))
  go_enter Tryz.func77, Tryz.ntmps77
  go_wp2_with (first
   | (go_at_call 142; refine (item_rows _ _ _ _ _).mono ?_; rintro e w' ⟨rfl, hb⟩; obtain ⟨hp1, hp2⟩ := bcell hb; (first | replace hK := kp0 hK hb | replace hK := kp1 hK hb | replace hK := kp2 hK hb); obtain ⟨hq1, hq2⟩ := bcell hK.out; clear hb)
   | (go_at_call 41; refine (grouped_1 _ _ _ _ _ _).mono ?_; rintro e w' ⟨rfl, hb⟩; obtain ⟨hp1, hp2⟩ := bcell hb; (first | replace hK := kp0 hK hb | replace hK := kp1 hK hb | replace hK := kp2 hK hb); obtain ⟨hq1, hq2⟩ := bcell hK.out; clear hb)
   | (go_at_call 143; refine (find_a _ _ ((hc.alloc _).new_ hK.out)).mono ?_; rintro e w' ⟨rfl, hb⟩; obtain ⟨hp1, hp2⟩ := bcell hb; (first | replace hK := kp0 hK hb | replace hK := kp1 hK hb | replace hK := kp2 hK hb); obtain ⟨hq1, hq2⟩ := bcell hK.out; clear hb)
   | (go_at_call 144; refine (contains_0 _ _ _).mono ?_; rintro e w' ⟨rfl, rfl⟩)
   | (go_at_call 145; refine (pred_0 _ _ _ _).mono ?_; rintro e w' ⟨rfl, hb⟩; obtain ⟨hp1, hp2⟩ := bcell hb; (first | replace hK := kp0 hK hb | replace hK := kp1 hK hb | replace hK := kp2 hK hb); obtain ⟨hq1, hq2⟩ := bcell hK.out; clear hb))
  refine wp_loop_rounds 2 ?_
  rw [rounds_succ]
  go_wp2_with (first
   | (go_at_call 142; refine (item_rows _ _ _ _ _).mono ?_; rintro e w' ⟨rfl, hb⟩; obtain ⟨hp1, hp2⟩ := bcell hb; (first | replace hK := kp0 hK hb | replace hK := kp1 hK hb | replace hK := kp2 hK hb); obtain ⟨hq1, hq2⟩ := bcell hK.out; clear hb)
   | (go_at_call 41; refine (grouped_1 _ _ _ _ _ _).mono ?_; rintro e w' ⟨rfl, hb⟩; obtain ⟨hp1, hp2⟩ := bcell hb; (first | replace hK := kp0 hK hb | replace hK := kp1 hK hb | replace hK := kp2 hK hb); obtain ⟨hq1, hq2⟩ := bcell hK.out; clear hb)
   | (go_at_call 143; refine (find_a _ _ ((hc.alloc _).new_ hK.out)).mono ?_; rintro e w' ⟨rfl, hb⟩; obtain ⟨hp1, hp2⟩ := bcell hb; (first | replace hK := kp0 hK hb | replace hK := kp1 hK hb | replace hK := kp2 hK hb); obtain ⟨hq1, hq2⟩ := bcell hK.out; clear hb)
   | (go_at_call 144; refine (contains_0 _ _ _).mono ?_; rintro e w' ⟨rfl, rfl⟩)
   | (go_at_call 145; refine (pred_0 _ _ _ _).mono ?_; rintro e w' ⟨rfl, hb⟩; obtain ⟨hp1, hp2⟩ := bcell hb; (first | replace hK := kp0 hK hb | replace hK := kp1 hK hb | replace hK := kp2 hK hb); obtain ⟨hq1, hq2⟩ := bcell hK.out; clear hb))
  rw [rounds_succ]
  go_wp2_with (first
   | (go_at_call 142; refine (item_rows _ _ _ _ _).mono ?_; rintro e w' ⟨rfl, hb⟩; obtain ⟨hp1, hp2⟩ := bcell hb; (first | replace hK := kp0 hK hb | replace hK := kp1 hK hb | replace hK := kp2 hK hb); obtain ⟨hq1, hq2⟩ := bcell hK.out; clear hb)
   | (go_at_call 41; refine (grouped_1 _ _ _ _ _ _).mono ?_; rintro e w' ⟨rfl, hb⟩; obtain ⟨hp1, hp2⟩ := bcell hb; (first | replace hK := kp0 hK hb | replace hK := kp1 hK hb | replace hK := kp2 hK hb); obtain ⟨hq1, hq2⟩ := bcell hK.out; clear hb)
   | (go_at_call 143; refine (find_a _ _ ((hc.alloc _).new_ hK.out)).mono ?_; rintro e w' ⟨rfl, hb⟩; obtain ⟨hp1, hp2⟩ := bcell hb; (first | replace hK := kp0 hK hb | replace hK := kp1 hK hb | replace hK := kp2 hK hb); obtain ⟨hq1, hq2⟩ := bcell hK.out; clear hb)
   | (go_at_call 144; refine (contains_0 _ _ _).mono ?_; rintro e w' ⟨rfl, rfl⟩)
   | (go_at_call 145; refine (pred_0 _ _ _ _).mono ?_; rintro e w' ⟨rfl, hb⟩; obtain ⟨hp1, hp2⟩ := bcell hb; (first | replace hK := kp0 hK hb | replace hK := kp1 hK hb | replace hK := kp2 hK hb); obtain ⟨hq1, hq2⟩ := bcell hK.out; clear hb))
  refine wp_loop_rounds 2 ?_
  rw [rounds_succ]
  go_wp2_with (first
   | (go_at_call 142; refine (item_rows _ _ _ _ _).mono ?_; rintro e w' ⟨rfl, hb⟩; obtain ⟨hp1, hp2⟩ := bcell hb; (first | replace hK := kp0 hK hb | replace hK := kp1 hK hb | replace hK := kp2 hK hb); obtain ⟨hq1, hq2⟩ := bcell hK.out; clear hb)
   | (go_at_call 41; refine (grouped_1 _ _ _ _ _ _).mono ?_; rintro e w' ⟨rfl, hb⟩; obtain ⟨hp1, hp2⟩ := bcell hb; (first | replace hK := kp0 hK hb | replace hK := kp1 hK hb | replace hK := kp2 hK hb); obtain ⟨hq1, hq2⟩ := bcell hK.out; clear hb)
   | (go_at_call 143; refine (find_a _ _ ((hc.alloc _).new_ hK.out)).mono ?_; rintro e w' ⟨rfl, hb⟩; obtain ⟨hp1, hp2⟩ := bcell hb; (first | replace hK := kp0 hK hb | replace hK := kp1 hK hb | replace hK := kp2 hK hb); obtain ⟨hq1, hq2⟩ := bcell hK.out; clear hb)
   | (go_at_call 144; refine (contains_0 _ _ _).mono ?_; rintro e w' ⟨rfl, rfl⟩)
   | (go_at_call 145; refine (pred_0 _ _ _ _).mono ?_; rintro e w' ⟨rfl, hb⟩; obtain ⟨hp1, hp2⟩ := bcell hb; (first | replace hK := kp0 hK hb | replace hK := kp1 hK hb | replace hK := kp2 hK hb); obtain ⟨hq1, hq2⟩ := bcell hK.out; clear hb))
  rw [rounds_succ]
  go_wp2_with (first
   | (go_at_call 142; refine (item_rows _ _ _ _ _).mono ?_; rintro e w' ⟨rfl, hb⟩; obtain ⟨hp1, hp2⟩ := bcell hb; (first | replace hK := kp0 hK hb | replace hK := kp1 hK hb | replace hK := kp2 hK hb); obtain ⟨hq1, hq2⟩ := bcell hK.out; clear hb)
   | (go_at_call 41; refine (grouped_1 _ _ _ _ _ _).mono ?_; rintro e w' ⟨rfl, hb⟩; obtain ⟨hp1, hp2⟩ := bcell hb; (first | replace hK := kp0 hK hb | replace hK := kp1 hK hb | replace hK := kp2 hK hb); obtain ⟨hq1, hq2⟩ := bcell hK.out; clear hb)
   | (go_at_call 143; refine (find_a _ _ ((hc.alloc _).new_ hK.out)).mono ?_; rintro e w' ⟨rfl, hb⟩; obtain ⟨hp1, hp2⟩ := bcell hb; (first | replace hK := kp0 hK hb | replace hK := kp1 hK hb | replace hK := kp2 hK hb); obtain ⟨hq1, hq2⟩ := bcell hK.out; clear hb)
   | (go_at_call 144; refine (contains_0 _ _ _).mono ?_; rintro e w' ⟨rfl, rfl⟩)
   | (go_at_call 145; refine (pred_0 _ _ _ _).mono ?_; rintro e w' ⟨rfl, hb⟩; obtain ⟨hp1, hp2⟩ := bcell hb; (first | replace hK := kp0 hK hb | replace hK := kp1 hK hb | replace hK := kp2 hK hb); obtain ⟨hq1, hq2⟩ := bcell hK.out; clear hb))
  refine wp_loop_rounds 1 ?_
  rw [rounds_succ]
  go_wp2_with (first
   | (go_at_call 142; refine (item_rows _ _ _ _ _).mono ?_; rintro e w' ⟨rfl, hb⟩; obtain ⟨hp1, hp2⟩ := bcell hb; (first | replace hK := kp0 hK hb | replace hK := kp1 hK hb | replace hK := kp2 hK hb); obtain ⟨hq1, hq2⟩ := bcell hK.out; clear hb)
   | (go_at_call 41; refine (grouped_1 _ _ _ _ _ _).mono ?_; rintro e w' ⟨rfl, hb⟩; obtain ⟨hp1, hp2⟩ := bcell hb; (first | replace hK := kp0 hK hb | replace hK := kp1 hK hb | replace hK := kp2 hK hb); obtain ⟨hq1, hq2⟩ := bcell hK.out; clear hb)
   | (go_at_call 143; refine (find_a _ _ ((hc.alloc _).new_ hK.out)).mono ?_; rintro e w' ⟨rfl, hb⟩; obtain ⟨hp1, hp2⟩ := bcell hb; (first | replace hK := kp0 hK hb | replace hK := kp1 hK hb | replace hK := kp2 hK hb); obtain ⟨hq1, hq2⟩ := bcell hK.out; clear hb)
   | (go_at_call 144; refine (contains_0 _ _ _).mono ?_; rintro e w' ⟨rfl, rfl⟩)
   | (go_at_call 145; refine (pred_0 _ _ _ _).mono ?_; rintro e w' ⟨rfl, hb⟩; obtain ⟨hp1, hp2⟩ := bcell hb; (first | replace hK := kp0 hK hb | replace hK := kp1 hK hb | replace hK := kp2 hK hb); obtain ⟨hq1, hq2⟩ := bcell hK.out; clear hb))
  go_ret
  exact ⟨rfl, below_step ((Below.refl _ _).alloc (Nat.le_refl _) _) hK.out (by simp)⟩
end Go.Proofs.YtcoibcpmgjbofaaGreatDoor
