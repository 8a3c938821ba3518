/- Closed statements of scan and group, sixth part: comparing results. -/
import Derived.Test.YtcoibcpmgjbofaaGreatDoorNames5
set_option linter.unusedVariables false
namespace Go.Proofs.YtcoibcpmgjbofaaGreatDoor
open Go.RowKit Go.Col
theorem slk {w : World} {b : Nat} {t : TypeId} {cs : List Value} {n k : Nat} (h : Blk w b t cs) (hl : cs.length = n * k) (hn : n ≤ maxLen) : Sl w (.slice (some ⟨b, 0, none⟩) n n) n k cs := Sl.of_rd h.rd hl (Nat.le_refl _) hn
set_option maxRecDepth 100000 in
theorem nothing_0 (w : World) : Calls Tryz.prog 8 #[.agg #[.slice none 0 0, .slice none 0 0], .agg #[.slice none 0 0, .slice none 0 0]] w fun e w' => e = .returned (.bool true) ∧ w' = (w.alloc (.cells #[.slice none 0 0, .slice none 0 0] 53)).alloc (.cells #[.slice none 0 0, .slice none 0 0] 56) := by
  go_enter Tryz.func8, Tryz.ntmps8
  go_wp2
  go_ret
  exact ⟨rfl, rfl⟩
set_option maxRecDepth 100000 in
set_option maxHeartbeats 2000000 in
theorem same_1 (na nb ra rb xa xb : Option Addr) (nc nd rc rd : Nat) (w : World) (h1 : Sl w (.slice na 1 nc) 1 1 [.string ⟨#[114, 111, 119, 115]⟩]) (h2 : Sl w (.slice nb 1 nd) 1 1 [.string ⟨#[114, 111, 119, 115]⟩])
    (h3 : Sl w (.slice ra 1 rc) 1 1 [.slice xa 1 1]) (h4 : Sl w (.slice rb 1 rd) 1 1 [.slice xb 1 1]) (h5 : Sl w (.slice xa 1 1) 1 4 [.int .i64 1, .int .i64 0, .float .f64 0, .string ⟨#[]⟩]) (h6 : Sl w (.slice xb 1 1) 1 4 [.int .i64 1, .int .i64 0, .float .f64 0, .string ⟨#[]⟩]) :
    Calls Tryz.prog 9 #[.agg #[.slice na 1 nc, .slice ra 1 rc], .agg #[.slice nb 1 nd, .slice rb 1 rd]] w fun e w' => e = .returned (.bool true) ∧ Below w.heap.size w w' := by
  obtain ⟨_, _, b1, o1, rfl, r1⟩ := h1.pos (by omega)
  obtain ⟨_, _, b2, o2, rfl, r2⟩ := h2.pos (by omega)
  obtain ⟨_, _, b3, o3, rfl, r3⟩ := h3.pos (by omega)
  obtain ⟨_, _, b4, o4, rfl, r4⟩ := h4.pos (by omega)
  obtain ⟨_, _, b5, o5, rfl, r5⟩ := h5.pos (by omega)
  obtain ⟨_, _, b6, o6, rfl, r6⟩ := h6.pos (by omega)
  have l1 := r1.lt (by simp)
  have l2 := r2.lt (by simp)
  have l3 := r3.lt (by simp)
  have l4 := r4.lt (by simp)
  have l5 := r5.lt (by simp)
  have l6 := r6.lt (by simp)
  have c10 : w.cell? ⟨b1, o1, none⟩ = _ := r1 0 _ rfl
  have c20 : w.cell? ⟨b2, o2, none⟩ = _ := r2 0 _ rfl
  have c30 : w.cell? ⟨b3, o3, none⟩ = _ := r3 0 _ rfl
  have c40 : w.cell? ⟨b4, o4, none⟩ = _ := r4 0 _ rfl
  have c50 : w.cell? ⟨b5, o5, none⟩ = _ := r5 0 _ rfl
  have c51 := r5 1 _ rfl
  have c52 := r5 2 _ rfl
  have c53 := r5 3 _ rfl
  have c60 : w.cell? ⟨b6, o6, none⟩ = _ := r6 0 _ rfl
  have c61 := r6 1 _ rfl
  have c62 := r6 2 _ rfl
  have c63 := r6 3 _ rfl
  have m1 : b1 < w.heap.size + 1 := (by omega)
  have m2 : b2 < w.heap.size + 1 := (by omega)
  have m3 : b3 < w.heap.size + 1 := (by omega)
  have m4 : b4 < w.heap.size + 1 := (by omega)
  have m5 : b5 < w.heap.size + 1 := (by omega)
  have m6 : b6 < w.heap.size + 1 := (by omega)
  have hef := eq_float0
  clear h1 h2 h3 h4 h5 h6
  go_enter Tryz.func9, Tryz.ntmps9
  go_wp2
  refine wp_loop_rounds 2 ?_
  rw [rounds_succ]
  go_wp2
  go_quiet (fail)
  go_wp2
  rw [rounds_succ]
  go_wp2
  refine wp_loop_rounds 2 ?_
  rw [rounds_succ]
  go_wp2
  go_quiet (fail)
  go_wp2
  refine wp_loop_rounds 2 ?_
  rw [rounds_succ]
  go_wp2
  go_quiet (fail)
  go_wp2
  rw [rounds_succ]
  go_wp2
  rw [rounds_succ]
  go_wp2
  go_ret
  exact ⟨rfl, below_drewN (((Below.refl _ _).alloc (Nat.le_refl _) _).alloc (by simp) _) _⟩
end Go.Proofs.YtcoibcpmgjbofaaGreatDoor
