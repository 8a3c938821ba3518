/- The closed statement of group, sixth part: lots of parts of nothing; names. -/
import Derived.Test.YtcoibcpmgjbofaaGreatDoorGroup5
set_option linter.unusedVariables false
namespace Go.Proofs.YtcoibcpmgjbofaaGreatDoor
open Go.RowKit Go.Col
theorem next_empty (w : World) (ty : TypeId) (bm : Nat) (hb : w.heap[bm]? = some (.map #[] 0)) :
    (Instr.next (.pointer (some ⟨w.heap.size, 0, none⟩)) false ty).run Tryz.prog (w.alloc (.mapIter (some bm) 0 #[] 0)) = .ok (.tuple #[.bool false]) (w.alloc (.mapIter (some bm) 0 #[] 0)) := by
  rcases run_next_map (P := Tryz.prog) w ty bm 0 0 #[] #[] 0 hb (by simp) (Nat.le_refl _) with ⟨_, h⟩ | ⟨e, he, _⟩
  · exact h
  · simp [leftOf] at he
theorem next_empty_at (w : World) (ty : TypeId) (bm b : Nat) (hb : w.heap[bm]? = some (.map #[] 0)) (h : b = w.heap.size) :
    (Instr.next (.pointer (some ⟨b, 0, none⟩)) false ty).run Tryz.prog (w.alloc (.mapIter (some bm) 0 #[] 0)) = .ok (.tuple #[.bool false]) (w.alloc (.mapIter (some bm) 0 #[] 0)) := by subst h; exact next_empty w ty bm hb
theorem next_nil_at (w : World) (ty : TypeId) (b : Nat) (h : b = w.heap.size) :
    (Instr.next (.pointer (some ⟨b, 0, none⟩)) false ty).run Tryz.prog (w.alloc (.mapIter none 0 #[] 0)) = .ok (.tuple #[.bool false]) (w.alloc (.mapIter none 0 #[] 0)) := by subst h; exact run_next_nilMap w ty 0 0 #[]
/-- Block b is a map that holds nothing. -/
def MapB (W : World) (b : Nat) : Prop := W.heap[b]? = some (.map #[] 0)
theorem MapB.alloc {W : World} {b : Nat} (h : MapB W b) (o : Obj) : MapB (W.alloc o) b := (heap_alloc_old W o (Array.getElem?_eq_some_iff.1 h).1).trans h
theorem MapB.new (W : World) : MapB (W.alloc (.map #[] 0)) W.heap.size := heap_alloc_new W _
theorem len_empty (W : World) (b : Nat) (t k e ty : TypeId) (ht : Tryz.prog.underlying t = some (.map k e)) (h : MapB W b) : (Builtin.len_ #[t] ty #[.map (some b)]).run Tryz.prog W = .ok (.int .i64 0) W := by
  simp [Builtin.len_, run_underlying ht, MapKept.run_getObj_map (show W.heap[b]? = some (.map #[] 0) from h), goInt]
theorem info_lot : (Tryz.prog.info? 111).map (fun i => (i.zero, i.size, i.bytes)) = some (some (.agg #[.slice none 0 0, .slice none 0 0]), 2, 48) := by kernel_rfl
theorem mk_lot0 (w : World) : (Instr.makeSlice 108 (.int .i64 0) (.int .i64 0)).run Tryz.prog w = .ok (.slice (some ⟨w.heap.size, 0, none⟩) 0 0) (w.alloc (.cells #[] 111)) := by
  have := run_make_n (P := Tryz.prog) 108 111 Tryz.underlying108 info_lot .i64 .i64 0 0 (by omega) (by omega) (by omega) w
  exact this.trans (by kernel_rfl)
set_option maxRecDepth 100000 in
theorem joined_1 (g c : Nat) (w : World) (h : Rd w g 0 [.int .i64 0, .bool false, .slice none 0 0, .map none]) : Calls Tryz.prog 37 #[.slice (some ⟨g, 0, none⟩) 1 c] w fun e w' => ∃ a, e = .returned (.slice (some a) 0 0) ∧ Below w.heap.size w w' := by
  have hlt := h.lt (by simp)
  have h0 : w.cell? ⟨g, 0, none⟩ = _ := h 0 _ rfl
  have h1 : w.cell? ⟨g, 1, none⟩ = _ := h 1 _ rfl
  have h2 : w.cell? ⟨g, 2, none⟩ = _ := h 2 _ rfl
  have h3 : w.cell? ⟨g, 3, none⟩ = _ := h 3 _ rfl
  have hmm := @run_makeMap Tryz.prog
  have hmk := mk_lot0
  have hrg := fun w => run_range_nilMap (P := Tryz.prog) w 64 9 111 Tryz.underlying64
  have hnx := next_nil_at
  go_enter Tryz.func37, Tryz.ntmps37
  go_wp2
  refine wp_loop_rounds 2 ?_
  rw [rounds_succ]
  go_wp2
  refine wp_loop_rounds 1 ?_
  rw [rounds_succ]
  go_wp2
  rw [rounds_succ]
  have b3 := (((MapB.new w).alloc (.cells #[.int .i64 0, .bool false, .slice none 0 0, .map none] 66)).alloc (.mapIter none 0 #[] 0))
  have hl := fun ty => len_empty _ _ 64 _ _ ty Tryz.underlying64 b3
  have b4 := b3.alloc (.cells #[] 111)
  have hr := run_range_map (P := Tryz.prog) _ 64 _ _ _ _ _ Tryz.underlying64 b4
  have hx := fun ty b hb => next_empty_at _ ty _ b b4 hb
  clear hrg hnx
  go_wp2_with (first | (go_at_call 71; refine (gsort_0 _ _ _ _).mono ?_; rintro e w' ⟨rfl, rfl⟩))
  refine wp_loop_rounds 1 ?_
  rw [rounds_succ]
  go_wp2_with (first | (go_at_call 71; refine (gsort_0 _ _ _ _).mono ?_; rintro e w' ⟨rfl, rfl⟩))
  go_ret
  exact ⟨_, rfl, Hid.out (by repeat first | exact kpr _ | apply kpa)⟩
set_option maxRecDepth 100000 in
theorem names_g (v : Value) (ga : Option Addr) (gn gc : Nat) (w : World) (h : Sl w v 1 2 [.int .i64 2, .string ⟨#[]⟩]) : Calls Tryz.prog 27 #[.agg #[v, .int .i64 0, .string ⟨#[]⟩, .int .i64 0, .int .i64 0, .int .i64 0, .float .f64 0, .string ⟨#[]⟩, .slice none 0 0, .slice none 0 0, .slice ga gn gc, .slice none 0 0, .int .i64 (-1)]] w fun e w' => ∃ a c, e = .returned (.slice a 1 c) ∧ w'.ownsRow w.heap.size 9 1 (.slice a 1 c) 1 [.string ⟨#[114, 111, 119, 115]⟩] ∧ Below w.heap.size w w' := by
  obtain ⟨a0, c0, rfl⟩ := h.slice_
  obtain ⟨_, _, bb, off, rfl, hr⟩ := h.pos (by omega)
  have hlt := hr.lt (by simp)
  have h0 : w.cell? ⟨bb, off, none⟩ = _ := hr 0 _ rfl
  have h1 := hr 1 _ rfl
  have hmk : ∀ w, (Instr.makeSlice 43 (.int .i64 1) (.int .i64 1)).run Tryz.prog w = .ok (.slice (some ⟨w.heap.size, 0, none⟩) 1 1) (w.alloc (.cells #[.string ⟨#[]⟩] 9)) := fun w => by
    have := run_make_n (P := Tryz.prog) 43 9 Tryz.underlying43 info_str .i64 .i64 1 1 (by omega) (by omega) (by omega) w
    simpa [made_one, Value.cells] using this
  go_enter Tryz.func27, Tryz.ntmps27
  go_wp2
  refine wp_loop_rounds 2 ?_
  rw [rounds_succ]
  go_wp2
  rw [rounds_succ]
  go_wp2
  go_ret
  exact ⟨_, _, rfl, own_of_blk (more := []) ((Blk.new_at _ _ _ (by simp)).alloc _) rfl rfl (Nat.le_refl _) (by unfold maxLen; omega) (by omega), (((Below.refl _ _).alloc (Nat.le_refl _) _).alloc (by simp) _).alloc (by simp; omega) _⟩
end Go.Proofs.YtcoibcpmgjbofaaGreatDoor
