import Derived.Test.YtcoibcpmgjbofaaGreatDoorProg
import Derived.Test.YtcoibcpmgjbofaaGreatDoorW
import Derived.LoopN
import Derived.Maps.OwnSet
import Derived.Maps.OwnOps
set_option linter.unusedVariables false
namespace Go.Proofs.YtcoibcpmgjbofaaGreatDoor
open Go.RowKit Go.Col
set_option maxRecDepth 100000 in
theorem letter_a (w : World) : Calls Tryz.prog 206 #[.int .u8 97] w fun e w' => e = .returned (.bool true) ∧ w' = w := by
  go_enter Tryz.func206, Tryz.ntmps206
  go_wp2
  go_ret
  exact ⟨rfl, rfl⟩
set_option maxRecDepth 100000 in
theorem named_a (w : World) : Calls Tryz.prog 141 #[.string ⟨#[97]⟩] w fun e w' => e = .returned (.bool true) ∧ w' = w := by
  go_enter Tryz.func141, Tryz.ntmps141
  go_wp2_with (first | (go_at_call 206; refine (letter_a _).mono ?_; rintro e w' ⟨rfl, rfl⟩))
  refine wp_loop_rounds 2 ?_
  rw [rounds_succ]
  go_wp2_with (first | (go_at_call 206; refine (letter_a _).mono ?_; rintro e w' ⟨rfl, rfl⟩))
  rw [rounds_succ]
  go_wp2_with (first | (go_at_call 206; refine (letter_a _).mono ?_; rintro e w' ⟨rfl, rfl⟩))
  go_ret
  exact ⟨rfl, rfl⟩
theorem has_none {H : Type} (k : Lit) : Maps.has (DataW.map (H := H) []) k = false := rfl
theorem zero_int (w : World) : (zeroValue 3).run Tryz.prog w = .ok (.int .i64 0) w := by kernel_rfl
set_option maxRecDepth 100000 in
theorem check_a (v : Value) (w : World) (h : Sl w v 1 3 [.string ⟨#[97]⟩, .int .i64 1, .bool false]) : Calls Tryz.prog 76 #[v] w fun e w' => e = .returned (.int .i64 0) ∧ Below w.heap.size w w' := by
  obtain ⟨a0, c0, rfl⟩ := h.slice_
  obtain ⟨_, _, bb, off, rfl, hr⟩ := h.pos (by omega)
  have hr1 := hr.alloc (.map #[] 0)
  have h0 : (w.alloc (.map #[] 0)).cell? ⟨bb, off, none⟩ = _ := hr1 0 _ rfl
  have h1 := hr1 1 _ rfl
  have h2 := hr1 2 _ rfl
  have hmm := @run_makeMap Tryz.prog
  have hown : (w.alloc (.map #[] 0)).ownsMap Tryz.prog 9 (plainElem (H := Unit) Tryz.prog 3) w.heap.size 0 (.map []) := World.ownsMap_made _ _ _ _
  have hno := @has_none Unit (.string [97])
  go_enter Tryz.func76, Tryz.ntmps76
  go_wp2_with (first | (go_at_call 141; refine (named_a _).mono ?_; rintro e w' ⟨rfl, rfl⟩))
  refine wp_loop_rounds 2 ?_
  rw [rounds_succ]
  go_wp2_with (first
   | (go_at_call 141; refine (named_a _).mono ?_; rintro e w' ⟨rfl, rfl⟩)
   | (at_lookup; refine wpList_lookup_own_ok_int _ rfl _ _ 247 rfl 9 3 .i64 (Maps.string_keyed Tryz.underlying9) Tryz.underlying247 Tryz.underlying3 (zero_int _) w.heap.size 0 (.map []) rfl (hown.alloc _) _ (.string [97]) rfl (by kernel_rfl) ?_; intro c hat hwc)
   | (at_mapUpdate; refine wpList_mapUpdate_own _ rfl _ _ _ 247 rfl 9 3 (Maps.string_keyed Tryz.underlying9) Tryz.underlying247 _ w.heap.size 0 _ rfl (hown.alloc _) (by unfold maxLen; omega) _ _ (.string [97]) rfl rfl (by kernel_rfl) _ [] (plainElem_int Tryz.underlying3 (by decide)) ?_; intro w1 hown1 hgrow1))
  rw [rounds_succ]
  go_wp2
  go_ret
  exact ⟨rfl, (((Below.refl _ _).alloc (Nat.le_refl _) _).alloc (by simp) _).grown hgrow1 (by simp; omega) (by intro k hk; simp at hk; omega)⟩
theorem eq_float0 (w : World) : Sem.run Tryz.prog (Op.equalIn 9999 36 (.float .f64 0) (.float .f64 0)) w = .ok true w := by kernel_rfl
theorem f64bits (b : Nat) (w : World) : Sem.run Tryz.prog (callFunc 188 #[.float .f64 b]) w = .ok (.value (.int .u64 b)) w := by kernel_rfl
set_option maxRecDepth 100000 in
theorem bare_0 (w : World) : Calls Tryz.prog 260 #[.agg #[.int .i64 0, .string ⟨#[]⟩, .int .i64 0, .int .i64 0, .int .i64 0, .float .f64 0, .string ⟨#[]⟩, .slice none 0 0, .slice none 0 0]] w fun e w' => e = .returned (.bool true) ∧ Below w.heap.size w w' := by
  have hef := eq_float0
  have hfb := f64bits
  go_enter Tryz.func260, Tryz.ntmps260
  go_wp2
  go_ret
  exact ⟨rfl, (Below.refl _ _).alloc (Nat.le_refl _) _⟩
theorem isAtom_0 (w : World) : Calls Tryz.prog 259 #[.int .i64 0] w fun e w' => e = .returned (.bool false) ∧ w' = w := by
  go_enter Tryz.func259, Tryz.ntmps259
  go_wp2
  go_ret
  exact ⟨rfl, rfl⟩
set_option maxRecDepth 100000 in
theorem may_0 (lb : Nat) (t : TypeId) (a : Option Addr) (n c : Nat) (w : World) (hl : Blk w lb t [.slice a n c, .int .i64 4096]) : Calls Tryz.prog 208 #[.pointer (some ⟨lb, 0, none⟩), .agg #[.int .i64 0, .string ⟨#[]⟩, .int .i64 0, .int .i64 0, .int .i64 0, .float .f64 0, .string ⟨#[]⟩, .slice none 0 0, .slice none 0 0], .int .i64 1] w fun e w' => e = .returned (.bool true) ∧ Below lb w w' := by
  have h1 := hl.cell_at (j := 1) rfl
  have f1 := hl.free 1
  have s1 := fun u => (hl.set 1 u).cell_at (j := 1) rfl
  have hlt := hl.lt
  go_enter Tryz.func208, Tryz.ntmps208
  go_wp2_with (first
   | (go_at_call 260; refine (bare_0 _).mono ?_; rintro e w' ⟨rfl, hb⟩; obtain ⟨hq1, hq2⟩ := bcell hb; replace hb := Lib.hid hb)
   | (go_at_call 259; refine (isAtom_0 _).mono ?_; rintro e w' ⟨rfl, rfl⟩))
  refine wp_loop_rounds 1 ?_
  rw [rounds_succ]
  go_wp2
  go_ret
  exact ⟨rfl, (((Below.refl _ _).setCell (Nat.le_refl _) _).alloc (by simp; omega) _).trans (hb.out.mono (by simp; omega))⟩
set_option maxRecDepth 100000 in
theorem pred_0 (a : Option Addr) (n c : Nat) (w : World) : Calls Tryz.prog 145 #[.slice a n c, .agg #[.int .i64 0, .string ⟨#[]⟩, .int .i64 0, .int .i64 0, .int .i64 0, .float .f64 0, .string ⟨#[]⟩, .slice none 0 0, .slice none 0 0]] w fun e w' => e = .returned (.bool true) ∧ Below w.heap.size w w' := by
  go_enter Tryz.func145, Tryz.ntmps145
  go_wp2_with (first
   | (go_at_call 208; refine (may_0 _ _ _ _ _ _ (Blk.new_at _ _ _ (by simp))).mono ?_; rintro e w' ⟨rfl, hb⟩))
  go_ret
  exact ⟨rfl, (((Below.refl _ _).alloc (Nat.le_refl _) _).alloc (by simp) _).trans (hb.mono (by simp))⟩
set_option maxRecDepth 100000 in
theorem item_rows (v : Value) (a : Option Addr) (n c : Nat) (w : World) : Calls Tryz.prog 142 #[v, .agg #[.int .i64 2, .string ⟨#[]⟩], .slice a n c] w fun e w' => e = .returned (.bool true) ∧ Below w.heap.size w w' := by
  go_enter Tryz.func142, Tryz.ntmps142
  go_wp2
  go_ret
  exact ⟨rfl, (Below.refl _ _).alloc (Nat.le_refl _) _⟩
set_option maxRecDepth 100000 in
theorem grouped_0 (a : Option Addr) (n c : Nat) (w : World) : Calls Tryz.prog 41 #[.agg #[.slice a n c, .int .i64 0, .string ⟨#[]⟩, .int .i64 0, .int .i64 0, .int .i64 0, .float .f64 0, .string ⟨#[]⟩, .slice none 0 0, .slice none 0 0, .slice none 0 0, .slice none 0 0, .int .i64 (-1)]] w fun e w' => e = .returned (.bool false) ∧ Below w.heap.size w w' := by
  go_enter Tryz.func41, Tryz.ntmps41
  go_wp2
  go_ret
  exact ⟨rfl, (Below.refl _ _).alloc (Nat.le_refl _) _⟩
set_option maxRecDepth 100000 in
theorem asked_scan (ca : Option Addr) (cn cc : Nat) (v : Value) (w : World) (h : Sl w v 1 2 [.int .i64 2, .string ⟨#[]⟩]) : Calls Tryz.prog 77 #[.slice ca cn cc, .agg #[v, .int .i64 0, .string ⟨#[]⟩, .int .i64 0, .int .i64 0, .int .i64 0, .float .f64 0, .string ⟨#[]⟩, .slice none 0 0, .slice none 0 0, .slice none 0 0, .slice none 0 0, .int .i64 (-1)]] w fun e w' => e = .returned (.bool true) ∧ Below w.heap.size w w' := by
  obtain ⟨a0, c0, rfl⟩ := h.slice_
  obtain ⟨_, _, bb, off, rfl, hr⟩ := h.pos (by omega)
  have hlt := hr.lt (by simp)
  have h0 : w.cell? ⟨bb, off, none⟩ = _ := hr 0 _ rfl
  have h1 := hr 1 _ rfl
  have hK := kpr ((w.alloc (.cells #[.slice (some ⟨bb, off, none⟩) 1 c0, .int .i64 0, .string ⟨#[]⟩, .int .i64 0, .int .i64 0, .int .i64 0, .float .f64 0, .string ⟨#[]⟩, .slice none 0 0, .slice none 0 0, .slice none 0 0, .slice none 0 0, .int .i64 (-1)] 46)))
  go_enter Tryz.func77, Tryz.ntmps77
  go_wp2_with (first
   | (go_at_call 142; refine (item_rows _ _ _ _ _).mono ?_; rintro e w' ⟨rfl, hb⟩; obtain ⟨hp1, hp2⟩ := bcell hb; (first | replace hK := kp0 hK hb | replace hK := kp1 hK hb | replace hK := kp2 hK hb); obtain ⟨hq1, hq2⟩ := bcell hK.out; clear hb)
   | (go_at_call 41; refine (grouped_0 _ _ _ _).mono ?_; rintro e w' ⟨rfl, hb⟩; obtain ⟨hp1, hp2⟩ := bcell hb; (first | replace hK := kp0 hK hb | replace hK := kp1 hK hb | replace hK := kp2 hK hb); obtain ⟨hq1, hq2⟩ := bcell hK.out; clear hb)
   | (go_at_call 145; refine (pred_0 _ _ _ _).mono ?_; rintro e w' ⟨rfl, hb⟩; obtain ⟨hp1, hp2⟩ := bcell hb; (first | replace hK := kp0 hK hb | replace hK := kp1 hK hb | replace hK := kp2 hK hb); obtain ⟨hq1, hq2⟩ := bcell hK.out; clear hb))
  refine wp_loop_rounds 2 ?_
  rw [rounds_succ]
  go_wp2_with (first
   | (go_at_call 142; refine (item_rows _ _ _ _ _).mono ?_; rintro e w' ⟨rfl, hb⟩; obtain ⟨hp1, hp2⟩ := bcell hb; (first | replace hK := kp0 hK hb | replace hK := kp1 hK hb | replace hK := kp2 hK hb); obtain ⟨hq1, hq2⟩ := bcell hK.out; clear hb)
   | (go_at_call 41; refine (grouped_0 _ _ _ _).mono ?_; rintro e w' ⟨rfl, hb⟩; obtain ⟨hp1, hp2⟩ := bcell hb; (first | replace hK := kp0 hK hb | replace hK := kp1 hK hb | replace hK := kp2 hK hb); obtain ⟨hq1, hq2⟩ := bcell hK.out; clear hb)
   | (go_at_call 145; refine (pred_0 _ _ _ _).mono ?_; rintro e w' ⟨rfl, hb⟩; obtain ⟨hp1, hp2⟩ := bcell hb; (first | replace hK := kp0 hK hb | replace hK := kp1 hK hb | replace hK := kp2 hK hb); obtain ⟨hq1, hq2⟩ := bcell hK.out; clear hb))
  rw [rounds_succ]
  go_wp2_with (first
   | (go_at_call 142; refine (item_rows _ _ _ _ _).mono ?_; rintro e w' ⟨rfl, hb⟩; obtain ⟨hp1, hp2⟩ := bcell hb; (first | replace hK := kp0 hK hb | replace hK := kp1 hK hb | replace hK := kp2 hK hb); obtain ⟨hq1, hq2⟩ := bcell hK.out; clear hb)
   | (go_at_call 41; refine (grouped_0 _ _ _ _).mono ?_; rintro e w' ⟨rfl, hb⟩; obtain ⟨hp1, hp2⟩ := bcell hb; (first | replace hK := kp0 hK hb | replace hK := kp1 hK hb | replace hK := kp2 hK hb); obtain ⟨hq1, hq2⟩ := bcell hK.out; clear hb)
   | (go_at_call 145; refine (pred_0 _ _ _ _).mono ?_; rintro e w' ⟨rfl, hb⟩; obtain ⟨hp1, hp2⟩ := bcell hb; (first | replace hK := kp0 hK hb | replace hK := kp1 hK hb | replace hK := kp2 hK hb); obtain ⟨hq1, hq2⟩ := bcell hK.out; clear hb))
  refine wp_loop_rounds 1 ?_
  rw [rounds_succ]
  go_wp2_with (first
   | (go_at_call 142; refine (item_rows _ _ _ _ _).mono ?_; rintro e w' ⟨rfl, hb⟩; obtain ⟨hp1, hp2⟩ := bcell hb; (first | replace hK := kp0 hK hb | replace hK := kp1 hK hb | replace hK := kp2 hK hb); obtain ⟨hq1, hq2⟩ := bcell hK.out; clear hb)
   | (go_at_call 41; refine (grouped_0 _ _ _ _).mono ?_; rintro e w' ⟨rfl, hb⟩; obtain ⟨hp1, hp2⟩ := bcell hb; (first | replace hK := kp0 hK hb | replace hK := kp1 hK hb | replace hK := kp2 hK hb); obtain ⟨hq1, hq2⟩ := bcell hK.out; clear hb)
   | (go_at_call 145; refine (pred_0 _ _ _ _).mono ?_; rintro e w' ⟨rfl, hb⟩; obtain ⟨hp1, hp2⟩ := bcell hb; (first | replace hK := kp0 hK hb | replace hK := kp1 hK hb | replace hK := kp2 hK hb); obtain ⟨hq1, hq2⟩ := bcell hK.out; clear hb))
  refine wp_loop_rounds 1 ?_
  rw [rounds_succ]
  go_wp2_with (first
   | (go_at_call 142; refine (item_rows _ _ _ _ _).mono ?_; rintro e w' ⟨rfl, hb⟩; obtain ⟨hp1, hp2⟩ := bcell hb; (first | replace hK := kp0 hK hb | replace hK := kp1 hK hb | replace hK := kp2 hK hb); obtain ⟨hq1, hq2⟩ := bcell hK.out; clear hb)
   | (go_at_call 41; refine (grouped_0 _ _ _ _).mono ?_; rintro e w' ⟨rfl, hb⟩; obtain ⟨hp1, hp2⟩ := bcell hb; (first | replace hK := kp0 hK hb | replace hK := kp1 hK hb | replace hK := kp2 hK hb); obtain ⟨hq1, hq2⟩ := bcell hK.out; clear hb)
   | (go_at_call 145; refine (pred_0 _ _ _ _).mono ?_; rintro e w' ⟨rfl, hb⟩; obtain ⟨hp1, hp2⟩ := bcell hb; (first | replace hK := kp0 hK hb | replace hK := kp1 hK hb | replace hK := kp2 hK hb); obtain ⟨hq1, hq2⟩ := bcell hK.out; clear hb))
  go_ret
  exact ⟨rfl, below_step ((Below.refl _ _).alloc (Nat.le_refl _) _) hK.out (by simp)⟩
set_option maxRecDepth 100000 in
theorem qcheck_scan (cv v : Value) (w : World) (hc : Sl w cv 1 3 [.string ⟨#[97]⟩, .int .i64 1, .bool false]) (h : Sl w v 1 2 [.int .i64 2, .string ⟨#[]⟩]) : Calls Tryz.prog 40 #[cv, .agg #[v, .int .i64 0, .string ⟨#[]⟩, .int .i64 0, .int .i64 0, .int .i64 0, .float .f64 0, .string ⟨#[]⟩, .slice none 0 0, .slice none 0 0, .slice none 0 0, .slice none 0 0, .int .i64 (-1)]] w fun e w' => e = .returned (.int .i64 0) ∧ Below w.heap.size w w' := by
  obtain ⟨a0, c0, rfl⟩ := h.slice_
  obtain ⟨a1, c1, rfl⟩ := hc.slice_
  have hK := kpr w
  go_enter Tryz.func40, Tryz.ntmps40
  go_wp2_with (first
   | (go_at_call 76; refine (check_a _ _ (hc.alloc _)).mono ?_; rintro e w' ⟨rfl, hb⟩; replace h := (h.alloc _).new_ hb; replace hK := kp1 hK hb; obtain ⟨hq1, hq2⟩ := bcell hb; replace hb := Lib.hid hb)
   | (go_at_call 77; refine (asked_scan _ _ _ _ _ h).mono ?_; rintro e w'' ⟨rfl, hb2⟩))
  go_ret
  exact ⟨rfl, (kp0 hK hb2).out⟩
set_option maxRecDepth 100000 in
theorem scheck_scan (cv v : Value) (w : World) (hc : Sl w cv 1 3 [.string ⟨#[97]⟩, .int .i64 1, .bool false]) (h : Sl w v 1 2 [.int .i64 2, .string ⟨#[]⟩]) : Calls Tryz.prog 17 #[cv, .agg #[v, .int .i64 0, .string ⟨#[]⟩, .int .i64 0, .int .i64 0, .int .i64 0, .float .f64 0, .string ⟨#[]⟩, .slice none 0 0, .slice none 0 0, .slice none 0 0, .slice none 0 0, .int .i64 (-1)]] w fun e w' => e = .returned (.int .i64 0) ∧ Below w.heap.size w w' := by
  obtain ⟨a0, c0, rfl⟩ := h.slice_
  obtain ⟨a1, c1, rfl⟩ := hc.slice_
  have hK := kpr w
  go_enter Tryz.func17, Tryz.ntmps17
  go_wp2_with (first
   | (go_at_call 40; refine (qcheck_scan _ _ _ (hc.alloc _) (h.alloc _)).mono ?_; rintro e w' ⟨rfl, hb⟩; replace hK := kp1 hK hb; obtain ⟨hq1, hq2⟩ := bcell hb; replace hb := Lib.hid hb)
   | (go_at_call 41; refine (grouped_0 _ _ _ _).mono ?_; rintro e w'' ⟨rfl, hb2⟩))
  go_ret
  exact ⟨rfl, (kp0 hK hb2).out⟩
end Go.Proofs.YtcoibcpmgjbofaaGreatDoor
