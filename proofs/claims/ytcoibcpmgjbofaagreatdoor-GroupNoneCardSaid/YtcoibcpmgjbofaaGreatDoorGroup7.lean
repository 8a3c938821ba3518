/- The closed statement of group, seventh part: Join of a part of nothing. -/
import Derived.Test.YtcoibcpmgjbofaaGreatDoorGroup6
set_option linter.unusedVariables false
namespace Go.Proofs.YtcoibcpmgjbofaaGreatDoor
open Go.RowKit Go.Col
set_option maxRecDepth 100000 in
set_option maxHeartbeats 2000000 in
theorem gjoin_1 (cv v gv pv : Value) (w : World) (hc : Sl w cv 1 3 [.string ⟨#[97]⟩, .int .i64 1, .bool false]) (hg : Sl w gv 1 1 [.string ⟨#[97]⟩]) (h : Sl w v 1 2 [.int .i64 2, .string ⟨#[]⟩]) (hp : Sl w pv 1 4 [.int .i64 0, .bool false, .slice none 0 0, .map none]) :
    Calls Tryz.prog 12 #[cv, .agg #[v, .int .i64 0, .string ⟨#[]⟩, .int .i64 0, .int .i64 0, .int .i64 0, .float .f64 0, .string ⟨#[]⟩, .slice none 0 0, .slice none 0 0, gv, .slice none 0 0, .int .i64 (-1)], pv] w fun e w' => ∃ na nc, e = .returned (.tuple #[.agg #[.slice na 1 nc, .slice none 0 0], .agg #[.slice none 0 0, .slice none 0 0], .int .i64 0]) ∧ Sl w' (.slice na 1 nc) 1 1 [.string ⟨#[114, 111, 119, 115]⟩] ∧ Below w.heap.size w w' := by
  obtain ⟨a0, c0, rfl⟩ := h.slice_
  obtain ⟨_, c3, rfl⟩ := hg.slice_
  obtain ⟨_, _, gb, go, rfl, _⟩ := hg.pos (by omega)
  obtain ⟨a1, c1, rfl⟩ := hc.slice_
  obtain ⟨a2, c2, rfl⟩ := hp.slice_
  go_enter Tryz.func12, Tryz.ntmps12
  go_wp2_with (first
   | (go_at_call 32; refine (gcheck_group _ _ _ _ (((hc.alloc _).alloc _).alloc _) (((hg.alloc _).alloc _).alloc _) (((h.alloc _).alloc _).alloc _)).mono ?_; rintro e w1 ⟨rfl, hb⟩; have hK := Lib.hid hb; have hQ : Blk w1 w.heap.size 46 [.slice a0 1 c0, .int .i64 0, .string ⟨#[]⟩, .int .i64 0, .int .i64 0, .int .i64 0, .float .f64 0, .string ⟨#[]⟩, .slice none 0 0, .slice none 0 0, .slice (some ⟨gb, go, none⟩) 1 c3, .slice none 0 0, .int .i64 (-1)] := (((Blk.new w _ _).alloc _).alloc _).new_ hb; have hR1 : Blk w1 (w.heap.size + 1) 53 [.slice none 0 0, .slice none 0 0] := ((Blk.new_at _ _ _ (by simp)).alloc _).new_ hb; have hR2 : Blk w1 (w.heap.size + 1 + 1) 56 [.slice none 0 0, .slice none 0 0] := (Blk.new_at _ _ _ (by simp)).new_ hb; obtain ⟨hp1, hp2⟩ := bcell hb; replace hp := (((hp.alloc _).alloc _).alloc _).new_ hb; replace h := (((h.alloc _).alloc _).alloc _).new_ hb; clear hb)
   | (go_at_call 34; refine (clone_gpart1 _ _ hp).mono ?_; rintro e w2 ⟨g, gc, rfl, hg, hgl, hb⟩; replace hK := kp0 hK hb; replace h := h.new_ hb; replace hQ := hQ.new_ hb; replace hR1 := hR1.new_ hb; replace hR2 := hR2.new_ hb; obtain ⟨hq1, hq2⟩ := bcell hK.out; clear hb hp)
   | (go_at_call 35; refine (gsortstable_1 _ _ _ _).mono ?_; rintro e w3 ⟨rfl, rfl⟩)
   | (go_at_call 27; refine (names_g _ _ _ _ _ h).mono ?_; rintro e w4 ⟨a', c', rfl, hn, hb⟩; have hlt3 : w.heap.size + 1 + 1 < w3.heap.size := hR2.lt; have hlt4 : w.heap.size + 1 + 1 < w4.heap.size := Nat.lt_of_lt_of_le hR2.lt hb.size; replace hK := kp0 hK hb; replace hR1 := hR1.new_ hb; replace hR2 := hR2.new_ hb; have hs3 : g < w4.heap.size := Nat.lt_of_lt_of_le hgl hb.size; have hs4 : g < w4.heap.size + 1 := (by omega); have hs5 : g < w4.heap.size + 1 + 1 := (by omega); have hs6 : g < w4.heap.size + 1 + 1 + 1 := (by omega); replace hg := hg.below hb hgl; have g0 : w4.cell? ⟨g, 0, none⟩ = _ := hg 0 _ rfl; have g1 : w4.cell? ⟨g, 1, none⟩ = _ := hg 1 _ rfl; have g2 : w4.cell? ⟨g, 2, none⟩ = _ := hg 2 _ rfl; have g3 : w4.cell? ⟨g, 3, none⟩ = _ := hg 3 _ rfl; clear hb hq1 hq2 hp1 hp2 hQ))
  refine wp_loop_rounds 2 ?_
  rw [rounds_succ]
  go_wp2
  refine wp_loop_rounds 1 ?_
  rw [rounds_succ]
  go_wp2
  rw [rounds_succ]
  go_wp2_with (first
   | (go_at_call 37; refine (joined_1 _ _ _ (((hg.alloc _).alloc _).alloc _)).mono ?_; rintro e w5 ⟨a5, rfl, hb⟩; have hO : Blk w5 w4.heap.size 53 [.slice a' 1 c', .slice none 0 0] := (((Blk.new w4 _ _).alloc _).alloc _).new_ hb; have hP : Blk w5 (w4.heap.size + 1) 56 [.slice none 0 0, .slice none 0 0] := ((Blk.new_at _ _ _ (by simp)).alloc _).new_ hb; replace hR1 := (((hR1.alloc _).alloc _).alloc _).new_ hb; replace hR2 := (((hR2.alloc _).alloc _).alloc _).new_ hb; have hN := Lib.hid (own_new_ (own_new_ (own_new_ (own_new_ hn ((Below.refl _ _).alloc (Nat.le_refl _) _)) ((Below.refl _ _).alloc (Nat.le_refl _) _)) ((Below.refl _ _).alloc (Nat.le_refl _) _)) hb); replace hK := kp3 hK hb; have c0 := hO.cell_at (j := 0) rfl; have c1 := hO.cell_at (j := 1) rfl; have c2 := hP.cell_at (j := 0) rfl; have c3 := hP.cell_at (j := 1) rfl; clear hb hg g0 g1 g2 g3 hn))
  refine wp_loop_rounds 1 ?_
  rw [rounds_succ]
  go_wp2
  have e1 : w.heap.size + 1 + 1 < w4.heap.size := hlt4
  have e2 : w.heap.size + 1 < w4.heap.size := by omega
  have e3 := hR1.free 0
  have e4 := hR1.free 1
  have e5 := hR2.free 0
  have e6 := hR2.free 1
  have d0 := hR1.cell_at (j := 0) rfl
  have d1 := hR1.cell_at (j := 1) rfl
  have d2 := hR2.cell_at (j := 0) rfl
  have d3 := hR2.cell_at (j := 1) rfl
  go_region
  all_goals go_wp2
  all_goals (
    have q2 := (((hR1.set 0 (.slice a' 1 c')).set 1 (.slice none 0 0)).other (a := ⟨w.heap.size + 1 + 1, 0, none⟩) (by simp) (.slice none 0 0)).other (a := ⟨w.heap.size + 1 + 1, 1, none⟩) (by simp) (.slice none 0 0)
    have q3 := (((hR2.other (a := ⟨w.heap.size + 1, 0, none⟩) (by simp) (.slice a' 1 c')).other (a := ⟨w.heap.size + 1, 1, none⟩) (by simp) (.slice none 0 0)).set 0 (.slice none 0 0)).set 1 (.slice none 0 0)
    have q4 := Lib.hid ((((((kp0 (kpa (kpa (kpa (kpr w) _) _) _) hK.out).out).setCell (p := ⟨w.heap.size + 1, 0, none⟩) (by simp) (.slice a' 1 c')).setCell (p := ⟨w.heap.size + 1, 1, none⟩) (by simp) (.slice none 0 0)).setCell (p := ⟨w.heap.size + 1 + 1, 0, none⟩) (by simp; omega) (.slice none 0 0)).setCell (p := ⟨w.heap.size + 1 + 1, 1, none⟩) (by simp; omega) (.slice none 0 0))
    have q5 := Lib.hid (Sl.own (own_other (own_other (own_other (own_other hN.out (p := ⟨w.heap.size + 1, 0, none⟩) (by simp; omega) (.slice a' 1 c')) (p := ⟨w.heap.size + 1, 1, none⟩) (by simp; omega) (.slice none 0 0)) (p := ⟨w.heap.size + 1 + 1, 0, none⟩) (by simp; omega) (.slice none 0 0)) (p := ⟨w.heap.size + 1 + 1, 1, none⟩) (by simp; omega) (.slice none 0 0)))
    generalize (((w5.setCell ⟨w.heap.size + 1, 0, none⟩ (.slice a' 1 c')).setCell ⟨w.heap.size + 1, 1, none⟩ (.slice none 0 0)).setCell ⟨w.heap.size + 1 + 1, 0, none⟩ (.slice none 0 0)).setCell ⟨w.heap.size + 1 + 1, 1, none⟩ (.slice none 0 0) = W at *
    have b0 := q2.cell_at (j := 0) rfl
    have b1 := q2.cell_at (j := 1) rfl
    have b2 := q3.cell_at (j := 0) rfl
    have b3 := q3.cell_at (j := 1) rfl
    exact bodyPost_ret (v := .tuple #[.agg #[.slice a' 1 c', .slice none 0 0], .agg #[.slice none 0 0, .slice none 0 0], .int .i64 0]) (by simp [results, Tryz.results12, go_sem, b0, b1, b2, b3]) rfl ⟨_, _, rfl, q5.out.drew, q4.out.drew⟩)
end Go.Proofs.YtcoibcpmgjbofaaGreatDoor
