/- Closed statements of scan and group, third part. -/
import Derived.Test.YtcoibcpmgjbofaaGreatDoorNames2
set_option linter.unusedVariables false
namespace Go.Proofs.YtcoibcpmgjbofaaGreatDoor
open Go.RowKit Go.Col
theorem mk_state (w : World) : (Instr.makeSlice 28 (.int .i64 1) (.int .i64 1)).run Tryz.prog w = .ok (.slice (some ⟨w.heap.size, 0, none⟩) 1 1) (w.alloc (.cells #[.int .i64 0, .int .i64 0, .int .i64 0, .int .u64 0, .int .i64 0, .int .i64 0, .float .f64 0, .string ⟨#[]⟩, .int .i64 0, .int .i64 0, .float .f64 0, .string ⟨#[]⟩] 99)) := by
  have := run_make_n (P := Tryz.prog) 28 99 Tryz.underlying28 info_state .i64 .i64 1 1 (by omega) (by omega) (by omega) w
  exact this.trans (by kernel_rfl)
theorem mk_value (w : World) : (Instr.makeSlice 39 (.int .i64 1) (.int .i64 1)).run Tryz.prog w = .ok (.slice (some ⟨w.heap.size, 0, none⟩) 1 1) (w.alloc (.cells #[.int .i64 0, .int .i64 0, .float .f64 0, .string ⟨#[]⟩] 38)) := by
  have := run_make_n (P := Tryz.prog) 39 38 Tryz.underlying39 info_value .i64 .i64 1 1 (by omega) (by omega) (by omega) w
  exact this.trans (by kernel_rfl)
set_option maxRecDepth 100000 in
theorem plain_0 (v : Value) (w : World) (h : Sl w v 1 2 [.int .i64 2, .string ⟨#[]⟩]) : Calls Tryz.prog 30 #[.agg #[v, .int .i64 0, .string ⟨#[]⟩, .int .i64 0, .int .i64 0, .int .i64 0, .float .f64 0, .string ⟨#[]⟩, .slice none 0 0, .slice none 0 0, .slice none 0 0, .slice none 0 0, .int .i64 (-1)]] w fun e w' => e = .returned (.bool false) ∧ Below w.heap.size w w' := by
  obtain ⟨a0, c0, rfl⟩ := h.slice_
  obtain ⟨_, _, bb, off, rfl, hr⟩ := h.pos (by omega)
  have hlt := hr.lt (by simp)
  have h0 : w.cell? ⟨bb, off, none⟩ = _ := hr 0 _ rfl
  go_enter Tryz.func30, Tryz.ntmps30
  go_wp2
  go_ret
  exact ⟨rfl, (Below.refl _ _).alloc (Nat.le_refl _) _⟩
theorem s_of {V : World} {q bb off c0 x : Nat} (hQ : Blk V q 46 [.slice (some ⟨bb, off, none⟩) 1 c0, .int .i64 0, .string ⟨#[]⟩, .int .i64 0, .int .i64 0, .int .i64 0, .float .f64 0, .string ⟨#[]⟩, .slice none 0 0, .slice none 0 0, .slice none 0 0, .slice none 0 0, .int .i64 (-1)]) (hI : Rd V bb off [.int .i64 2, .string ⟨#[]⟩]) (hX : Blk V x 99 [.int .i64 0, .int .i64 0, .int .i64 0, .int .u64 0, .int .i64 0, .int .i64 0, .float .f64 0, .string ⟨#[]⟩, .int .i64 0, .int .i64 0, .float .f64 0, .string ⟨#[]⟩]) : V.cell? ⟨q, 0, none⟩ = some (.slice (some ⟨bb, off, none⟩) 1 c0) ∧ V.cell? ⟨bb, off, none⟩ = some (.int .i64 2) ∧ V.cell? ⟨x, 0, none⟩ = some (.int .i64 0) ∧ V.cell? ⟨x, 1, none⟩ = some (.int .i64 0) ∧ V.cell? ⟨x, 2, none⟩ = some (.int .i64 0) ∧ V.cell? ⟨x, 3, none⟩ = some (.int .u64 0) ∧ V.cell? ⟨x, 4, none⟩ = some (.int .i64 0) ∧ V.cell? ⟨x, 5, none⟩ = some (.int .i64 0) ∧ V.cell? ⟨x, 6, none⟩ = some (.float .f64 0) ∧ V.cell? ⟨x, 7, none⟩ = some (.string ⟨#[]⟩) ∧ V.cell? ⟨x, 8, none⟩ = some (.int .i64 0) ∧ V.cell? ⟨x, 9, none⟩ = some (.int .i64 0) ∧ V.cell? ⟨x, 10, none⟩ = some (.float .f64 0) ∧ V.cell? ⟨x, 11, none⟩ = some (.string ⟨#[]⟩) :=
  ⟨hQ.cell_at rfl, hI 0 _ rfl, hX.cell_at rfl, hX.cell_at rfl, hX.cell_at rfl, hX.cell_at rfl, hX.cell_at rfl, hX.cell_at rfl, hX.cell_at rfl, hX.cell_at rfl, hX.cell_at rfl, hX.cell_at rfl, hX.cell_at rfl, hX.cell_at rfl⟩
theorem join_fin {w w4 w5 : World} {n3 : Nat} {a' : Option Addr} {c' : Nat} {y1 y2 y3 y4 : Value} (hU : Below w.heap.size w w4) (h45 : Below w4.heap.size w4 w5)
    (hn : w4.ownsRow n3 9 1 (.slice a' 1 c') 1 [.string ⟨#[114, 111, 119, 115]⟩]) (h3 : w.heap.size + 1 + 1 < n3) (h4 : w.heap.size + 1 + 1 < w4.heap.size)
    (hR1 : Blk w5 (w.heap.size + 1) 53 [y1, y2]) (hR2 : Blk w5 (w.heap.size + 1 + 1) 56 [y3, y4]) (x1 x2 x3 x4 x5 : Value) (o1 o2 o3 o4 o5 : Obj) (W : World)
    (hW : W = (((((((((((w5.setCell ⟨w4.heap.size, 1, none⟩ x1).setCell ⟨w.heap.size + 1, 0, none⟩ x2).setCell ⟨w.heap.size + 1, 1, none⟩ x3).setCell ⟨w.heap.size + 1 + 1, 0, none⟩ x4).setCell ⟨w.heap.size + 1 + 1, 1, none⟩ x5).alloc (.cells #[.int .i64 1, .int .i64 0, .float .f64 0, .string ⟨#[]⟩] 38)).alloc o1).alloc o2).alloc o3).alloc o4).alloc o5).alloc (.cells #[.slice (some ⟨w5.heap.size, 0, none⟩) 1 1] 39)) :
    Sl W (.slice a' 1 c') 1 1 [.string ⟨#[114, 111, 119, 115]⟩] ∧ Sl W (.slice (some ⟨w5.heap.size + 1 + 1 + 1 + 1 + 1 + 1, 0, none⟩) 1 1) 1 1 [.slice (some ⟨w5.heap.size, 0, none⟩) 1 1] ∧ Sl W (.slice (some ⟨w5.heap.size, 0, none⟩) 1 1) 1 4 [.int .i64 1, .int .i64 0, .float .f64 0, .string ⟨#[]⟩] ∧ Below w.heap.size w W ∧
    Blk W (w.heap.size + 1) 53 [x2, x3] ∧ Blk W (w.heap.size + 1 + 1) 56 [x4, x5] := by
  have z4 := h45.size
  have zU := hU.size
  rcases own_cases hn with ⟨_, hh, _⟩ | ⟨ng, ncap, nmore, ne1, ng1, k1, k2, k3, nb, nb2⟩
  · omega
  obtain ⟨rfl, rfl⟩ : a' = some ⟨ng, 0, none⟩ ∧ c' = ncap := by simpa using ne1
  have hlt := nb.lt
  have hb5 := nb.new_ h45
  have q1 := ((((hb5.other (a := ⟨w4.heap.size, 1, none⟩) (by simp; omega) x1).other (a := ⟨w.heap.size + 1, 0, none⟩) (by simp; omega) x2).other (a := ⟨w.heap.size + 1, 1, none⟩) (by simp; omega) x3).other (a := ⟨w.heap.size + 1 + 1, 0, none⟩) (by simp; omega) x4).other (a := ⟨w.heap.size + 1 + 1, 1, none⟩) (by simp; omega) x5
  have q2 := ((((hR1.other (a := ⟨w4.heap.size, 1, none⟩) (by simp; omega) x1).set 0 x2).set 1 x3).other (a := ⟨w.heap.size + 1 + 1, 0, none⟩) (by simp) x4).other (a := ⟨w.heap.size + 1 + 1, 1, none⟩) (by simp) x5
  have q3 := ((((hR2.other (a := ⟨w4.heap.size, 1, none⟩) (by simp; omega) x1).other (a := ⟨w.heap.size + 1, 0, none⟩) (by simp) x2).other (a := ⟨w.heap.size + 1, 1, none⟩) (by simp) x3).set 0 x4).set 1 x5
  have b5 : Below w.heap.size w w5 := below_step hU h45 zU
  have q4 := ((((b5.setCell (p := ⟨w4.heap.size, 1, none⟩) (by simp; omega) x1).setCell (p := ⟨w.heap.size + 1, 0, none⟩) (by simp) x2).setCell (p := ⟨w.heap.size + 1, 1, none⟩) (by simp) x3).setCell (p := ⟨w.heap.size + 1 + 1, 0, none⟩) (by simp; omega) x4).setCell (p := ⟨w.heap.size + 1 + 1, 1, none⟩) (by simp; omega) x5
  have q5 : (((((w5.setCell ⟨w4.heap.size, 1, none⟩ x1).setCell ⟨w.heap.size + 1, 0, none⟩ x2).setCell ⟨w.heap.size + 1, 1, none⟩ x3).setCell ⟨w.heap.size + 1 + 1, 0, none⟩ x4).setCell ⟨w.heap.size + 1 + 1, 1, none⟩ x5).heap.size = w5.heap.size := by simp
  generalize ((((w5.setCell ⟨w4.heap.size, 1, none⟩ x1).setCell ⟨w.heap.size + 1, 0, none⟩ x2).setCell ⟨w.heap.size + 1, 1, none⟩ x3).setCell ⟨w.heap.size + 1 + 1, 0, none⟩ x4).setCell ⟨w.heap.size + 1 + 1, 1, none⟩ x5 = w6 at *
  rw [← q5] at hW ⊢
  have a1 := fun (o : Obj) => (Below.refl w6.heap.size w6).alloc (Nat.le_refl _) o
  have hB : Below w6.heap.size w6 W := by
    rw [hW]
    exact (((((((a1 _).alloc (by simp) _).alloc (by simp; omega) _).alloc (by simp; omega) _).alloc (by simp; omega) _).alloc (by simp; omega) _).alloc (by simp; omega) _)
  refine ⟨?_, ?_, ?_, below_step q4 hB (by omega), q2.new_ hB, q3.new_ hB⟩
  · exact Sl.of_rd ((q1.new_ hB).rd.prefix_) rfl k1 k2
  · refine Sl.of_rd (Blk.rd (t := 39) ?_) rfl (Nat.le_refl _) (by unfold maxLen; omega)
    rw [hW]; exact Blk.new_at _ _ _ (by simp)
  · refine Sl.of_rd (Blk.rd (t := 38) ?_) rfl (Nat.le_refl _) (by unfold maxLen; omega)
    rw [hW]; exact ((((((Blk.new w6 _ _).alloc _).alloc _).alloc _).alloc _).alloc _).alloc _
theorem join_body {w w4 w5 : World} {n3 : Nat} {a' : Option Addr} {c' : Nat} {y1 y2 y3 y4 : Value} (hU : Below w.heap.size w w4) (h45 : Below w4.heap.size w4 w5)
    (hn : w4.ownsRow n3 9 1 (.slice a' 1 c') 1 [.string ⟨#[114, 111, 119, 115]⟩]) (h3 : w.heap.size + 1 + 1 < n3) (h4 : w.heap.size + 1 + 1 < w4.heap.size)
    (hR1 : Blk w5 (w.heap.size + 1) 53 [y1, y2]) (hR2 : Blk w5 (w.heap.size + 1 + 1) 56 [y3, y4]) {x1 : Value} {o1 o2 o3 o4 o5 : Obj} {tmps : Array Value}
    (h6 : tmps.getD 6 undef = .pointer (some ⟨w.heap.size + 1, 0, none⟩)) (h7 : tmps.getD 7 undef = .pointer (some ⟨w.heap.size + 1 + 1, 0, none⟩)) (h8 : tmps.getD 8 undef = .int .i64 0) :
    bodyPost Tryz.prog Tryz.f7 (fun e w' => ∃ na nc ra rb rc, e = .returned (.tuple #[.agg #[.slice na 1 nc, .slice ra 1 rc], .agg #[.slice none 0 0, .slice none 0 0], .int .i64 0]) ∧ Sl w' (.slice na 1 nc) 1 1 [.string ⟨#[114, 111, 119, 115]⟩] ∧ Sl w' (.slice ra 1 rc) 1 1 [.slice rb 1 1] ∧ Sl w' (.slice rb 1 1) 1 4 [.int .i64 1, .int .i64 0, .float .f64 0, .string ⟨#[]⟩] ∧ Below w.heap.size w w') Exit.ret { tmps := tmps, defers := [] }
      ((((((((((((w5.setCell ⟨w4.heap.size, 1, none⟩ x1).setCell ⟨w.heap.size + 1, 0, none⟩ (.slice a' 1 c')).setCell ⟨w.heap.size + 1, 1, none⟩ (.slice (some ⟨w5.heap.size + 1 + 1 + 1 + 1 + 1 + 1, 0, none⟩) 1 1)).setCell ⟨w.heap.size + 1 + 1, 0, none⟩ (.slice none 0 0)).setCell ⟨w.heap.size + 1 + 1, 1, none⟩ (.slice none 0 0)).alloc (.cells #[.int .i64 1, .int .i64 0, .float .f64 0, .string ⟨#[]⟩] 38)).alloc o1).alloc o2).alloc o3).alloc o4).alloc o5).alloc (.cells #[.slice (some ⟨w5.heap.size, 0, none⟩) 1 1] 39)).drew.drew := by
  obtain ⟨j1, j2, j3, j4, j5, j6⟩ := join_fin hU h45 hn h3 h4 hR1 hR2 x1 (.slice a' 1 c') (.slice (some ⟨w5.heap.size + 1 + 1 + 1 + 1 + 1 + 1, 0, none⟩) 1 1) (.slice none 0 0) (.slice none 0 0) o1 o2 o3 o4 o5 _ rfl
  have c0 := j5.drew.drew.cell_at (j := 0) rfl
  have c1 := j5.drew.drew.cell_at (j := 1) rfl
  have c2 := j6.drew.drew.cell_at (j := 0) rfl
  have c3 := j6.drew.drew.cell_at (j := 1) rfl
  have k1 := j1.drew.drew
  have k2 := j2.drew.drew
  have k3 := j3.drew.drew
  have k4 := (j4.drew).drew
  generalize ((((((((((((w5.setCell ⟨w4.heap.size, 1, none⟩ x1).setCell ⟨w.heap.size + 1, 0, none⟩ (.slice a' 1 c')).setCell ⟨w.heap.size + 1, 1, none⟩ (.slice (some ⟨w5.heap.size + 1 + 1 + 1 + 1 + 1 + 1, 0, none⟩) 1 1)).setCell ⟨w.heap.size + 1 + 1, 0, none⟩ (.slice none 0 0)).setCell ⟨w.heap.size + 1 + 1, 1, none⟩ (.slice none 0 0)).alloc (.cells #[.int .i64 1, .int .i64 0, .float .f64 0, .string ⟨#[]⟩] 38)).alloc o1).alloc o2).alloc o3).alloc o4).alloc o5).alloc (.cells #[.slice (some ⟨w5.heap.size, 0, none⟩) 1 1] 39)).drew.drew = Wd at *
  simp only [Array.getD_eq_getD_getElem?] at h6 h7 h8
  exact bodyPost_ret (v := .tuple #[.agg #[.slice a' 1 c', .slice (some ⟨w5.heap.size + 1 + 1 + 1 + 1 + 1 + 1, 0, none⟩) 1 1], .agg #[.slice none 0 0, .slice none 0 0], .int .i64 0]) (by simp [results, Tryz.results7, go_sem, h6, h7, h8, c0, c1, c2, c3]) rfl ⟨a', c', _, _, _, rfl, k1, k2, k3, k4⟩
end Go.Proofs.YtcoibcpmgjbofaaGreatDoor
