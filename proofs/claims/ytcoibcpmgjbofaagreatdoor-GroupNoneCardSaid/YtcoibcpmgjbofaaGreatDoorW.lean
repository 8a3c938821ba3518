/- Words on memory: whole blocks, readable runs of cells, slices, and what is kept when a call writes or makes memory. Plain definitions and lemmas, over any program. -/
import Derived.WalkKit
import Derived.Deep.Draws
import Derived.Deep.QuietTactic
import Derived.Deep.RegionHeld3
import Derived.BigQuiet
import Derived.Lib.Hide
import Derived.Deep.LoopGhost
import Derived.Deep.DeepCutAuto
import Derived.WalkLawsBesides
import Derived.WalkSpells
import Derived.Laws.MakeOwn
import Derived.Laws.OwnMore
import Derived.Maps.AppendAt
import Derived.Lib.SliceRun
namespace Go.Col
open Go.RowKit

/-- Hidden from the walk's simp. -/
structure Hd (p : Prop) : Prop where mk :: (out : p)

/-! ### whole blocks -/
/-- Block b holds just these cells, none frozen. -/
def Blk (w : World) (b : Nat) (t : TypeId) (cs : List Value) : Prop := w.heap[b]? = some (.cells cs.toArray t (0, 0))

section
variable {w w' : World} {b : Nat} {t : TypeId} {cs : List Value}
theorem Blk.lt (h : Blk w b t cs) : b < w.heap.size := (Array.getElem?_eq_some_iff.1 h).1
theorem Blk.cell (h : Blk w b t cs) (j : Nat) : w.cell? ⟨b, j, none⟩ = cs[j]? := by
  rw [cell_of_row w b j _ t (0, 0) h]; simp
theorem Blk.cell_at (h : Blk w b t cs) {j : Nat} {u : Value} (hu : cs[j]? = some u) : w.cell? ⟨b, j, none⟩ = some u := (h.cell j).trans hu
theorem Blk.free (h : Blk w b t cs) (j : Nat) : w.frozen? ⟨b, j, none⟩ = false := frozen_of_row w b j _ t h
theorem Blk.same (h : Blk w b t cs) (e : w'.heap[b]? = w.heap[b]?) : Blk w' b t cs := e.trans h
theorem Blk.set (h : Blk w b t cs) (j : Nat) (u : Value) : Blk (w.setCell ⟨b, j, none⟩ u) b t (cs.set j u) := by
  have := heap_setCell_same w b j _ t u h
  unfold Blk; rw [this]; simp
theorem Blk.other (h : Blk w b t cs) {a : Addr} (hne : b ≠ a.block) (u : Value) : Blk (w.setCell a u) b t cs := h.same (heap_setCell_other w a b u hne)
theorem Blk.alloc (h : Blk w b t cs) (o : Obj) : Blk (w.alloc o) b t cs := h.same (heap_alloc_old w o h.lt)
theorem Blk.drew (h : Blk w b t cs) : Blk w.drew b t cs := h
theorem Blk.drewN (h : Blk w b t cs) (n : Nat) : Blk (w.drewN n) b t cs := h
theorem Blk.new (w : World) (t : TypeId) (cs : List Value) : Blk (w.alloc (.cells cs.toArray t)) w.heap.size t cs := heap_alloc_new w _
theorem Blk.new_at (w : World) (t : TypeId) (cs : List Value) {b : Nat} (h : b = w.heap.size) : Blk (w.alloc (.cells cs.toArray t)) b t cs := by subst h; exact Blk.new w t cs
theorem Blk.below {B : Nat} (h : Blk w b t cs) (hb : Below B w w') (hlt : b < B) : Blk w' b t cs := h.same (hb.block b hlt)
theorem Blk.new_ (h : Blk w b t cs) (hb : Below w.heap.size w w') : Blk w' b t cs := h.below hb h.lt
theorem Blk.grown {row : Option Nat} (h : Blk w b t cs) (hg : w.grownBy w' row) (hne : some b ≠ row) : Blk w' b t cs := h.same (hg.block b h.lt hne)
end

/-! ### readable runs of cells -/
/-- From cell off of block b on these cells can be read. -/
def Rd (w : World) (b off : Nat) (cs : List Value) : Prop := ∀ j u, cs[j]? = some u → w.cell? ⟨b, off + j, none⟩ = some u
section
variable {w w' : World} {b off : Nat} {cs : List Value}
theorem Rd.below {B : Nat} (h : Rd w b off cs) (hb : Below B w w') (hlt : b < B) : Rd w' b off cs := fun j u hj => (hb.cell (p := ⟨b, _, none⟩) hlt).trans (h j u hj)
theorem Rd.lt (h : Rd w b off cs) (hne : cs ≠ []) : b < w.heap.size := by
  match cs, hne with
  | u :: _, _ => exact World.block_lt_of_cell? w _ (h 0 u rfl)
theorem Rd.new_ (h : Rd w b off cs) (hb : Below w.heap.size w w') : Rd w' b off cs := fun j u hj =>
  (hb.cell (p := ⟨b, _, none⟩) (World.block_lt_of_cell? w _ (h j u hj))).trans (h j u hj)
theorem Rd.grown {row : Option Nat} (h : Rd w b off cs) (hg : w.grownBy w' row) (hne : some b ≠ row) : Rd w' b off cs := fun j u hj => hg.cell (h j u hj) hne
theorem Rd.alloc (h : Rd w b off cs) (o : Obj) : Rd (w.alloc o) b off cs := h.new_ ((Below.refl _ _).alloc (Nat.le_refl _) _)
theorem Rd.at_ (h : Rd w b off cs) {j : Nat} (hj : j < cs.length) : w.cell? ⟨b, off + j, none⟩ = some (cs[j]'hj) := h j _ (by simp [hj])
theorem Rd.getD (h : Rd w b off cs) {j : Nat} (hj : j < cs.length) (d : Value) : w.cell? ⟨b, off + j, none⟩ = some (cs.getD j d) := h j _ (by simp [hj])
theorem Rd.drop (h : Rd w b off cs) (k : Nat) : Rd w b (off + k) (cs.drop k) := fun j u hj => by
  rw [List.getElem?_drop] at hj
  rw [Nat.add_assoc]; exact h _ _ hj
theorem Rd.take (h : Rd w b off cs) (k : Nat) : Rd w b off (cs.take k) := fun j u hj => by
  rw [List.getElem?_take] at hj
  split at hj
  · exact h _ _ hj
  · cases hj
theorem Rd.prefix_ {l : List Value} (h : Rd w b off (cs ++ l)) : Rd w b off cs := fun j u hj => h j u (by
  rw [List.getElem?_append_left (List.getElem?_eq_some_iff.1 hj).1]; exact hj)
theorem Blk.rd {t : TypeId} (h : Blk w b t cs) : Rd w b 0 cs := fun j u hj => by rw [Nat.zero_add]; exact h.cell_at hj
end

/-! ### slices that are read -/
/-- The slice value v: n elements of k cells each, which read as cs. -/
def Sl (w : World) (v : Value) (n k : Nat) (cs : List Value) : Prop :=
  ∃ a cap, v = .slice a n cap ∧ n ≤ cap ∧ cap ≤ maxLen ∧ cs.length = n * k ∧ ((a = none ∧ n = 0 ∧ cap = 0) ∨ ∃ b off, a = some ⟨b, off, none⟩ ∧ Rd w b off cs)
section
variable {w w' : World} {v : Value} {n k : Nat} {cs : List Value}
theorem Sl.nil (w : World) (k : Nat) : Sl w (.slice none 0 0) 0 k [] := ⟨none, 0, rfl, Nat.le_refl _, Nat.zero_le _, by simp, .inl ⟨rfl, rfl, rfl⟩⟩
theorem Sl.cases (h : Sl w v n k cs) : (v = .slice none 0 0 ∧ n = 0 ∧ cs = []) ∨ ∃ b off cap, v = .slice (some ⟨b, off, none⟩) n cap ∧ n ≤ cap ∧ cap ≤ maxLen ∧ cs.length = n * k ∧ Rd w b off cs := by
  obtain ⟨a, cap, rfl, h1, h2, h3, h4⟩ := h
  rcases h4 with ⟨rfl, rfl, rfl⟩ | ⟨b, off, rfl, hr⟩
  · exact .inl ⟨rfl, rfl, List.eq_nil_of_length_eq_zero (by simpa using h3)⟩
  · exact .inr ⟨b, off, cap, rfl, h1, h2, h3, hr⟩
theorem Sl.of_rd {b off cap : Nat} (hr : Rd w b off cs) (hl : cs.length = n * k) (h1 : n ≤ cap) (h2 : cap ≤ maxLen) : Sl w (.slice (some ⟨b, off, none⟩) n cap) n k cs :=
  ⟨_, cap, rfl, h1, h2, hl, .inr ⟨b, off, rfl, hr⟩⟩
theorem Sl.pos {a : Option Addr} {m c : Nat} (h : Sl w (.slice a m c) n k cs) (hn : 0 < n) : m = n ∧ n ≤ c ∧ ∃ b off, a = some ⟨b, off, none⟩ ∧ Rd w b off cs := by
  obtain ⟨a', cap, e, h1, h2, h3, h4⟩ := h
  obtain ⟨rfl, rfl, rfl⟩ : a = a' ∧ m = n ∧ c = cap := by simpa using e
  rcases h4 with ⟨_, h5, _⟩ | h5
  · omega
  · exact ⟨rfl, h1, h5⟩
theorem Sl.new_ (h : Sl w v n k cs) (hb : Below w.heap.size w w') : Sl w' v n k cs := by
  obtain ⟨a, cap, rfl, h1, h2, h3, h4⟩ := h
  refine ⟨a, cap, rfl, h1, h2, h3, ?_⟩
  rcases h4 with h4 | ⟨b, off, rfl, hr⟩
  · exact .inl h4
  · exact .inr ⟨b, off, rfl, hr.new_ hb⟩
theorem Sl.alloc (h : Sl w v n k cs) (o : Obj) : Sl (w.alloc o) v n k cs := h.new_ ((Below.refl _ _).alloc (Nat.le_refl _) _)
theorem Sl.drew (h : Sl w v n k cs) : Sl w.drew v n k cs := h
theorem Sl.drewN (h : Sl w v n k cs) (m : Nat) : Sl (w.drewN m) v n k cs := h.new_ (by induction m with | zero => exact Below.refl _ _ | succ m ih => rw [← World.drew_drewN]; exact ih.drew)
theorem Sl.le (h : Sl w v n k cs) : n ≤ maxLen := by obtain ⟨a, cap, rfl, h1, h2, _⟩ := h; omega
theorem Sl.len (h : Sl w v n k cs) : cs.length = n * k := by obtain ⟨a, cap, rfl, h1, h2, h3, _⟩ := h; exact h3
/-- What a row of the call's own reads as. -/
theorem Sl.own {base : Nat} {e : TypeId} (h : w.ownsRow base e k v n cs) : Sl w v n k cs := by
  rcases h.2 with ⟨rfl, rfl⟩ | ⟨g, cap, cur, rfl, _, hg, h1, h2, h3, h4⟩
  · have : cs = [] := List.eq_nil_of_length_eq_zero (by simpa using h.1)
    subst this; exact Sl.nil w k
  · refine Sl.of_rd (fun j u hj => ?_) h.1 h1 h2
    have := h.cells (g := g) rfl j u hj
    unfold Addr.add at this
    split at this <;> simp_all
end
/-- The slice begins in a block below E (or is nil). -/
def SlBd (E : Nat) : Value → Prop
  | .slice (some a) _ _ => a.block < E
  | _ => True

/-! ### rows of the call's own -/
section
variable {w w' : World} {v : Value} {n k : Nat} {cs : List Value} {base : Nat} {e : TypeId}
theorem own_new_ (h : w.ownsRow base e k v n cs) (hb : Below w.heap.size w w') : w'.ownsRow base e k v n cs := by
  refine ⟨h.1, ?_⟩
  rcases h.2 with hn | ⟨g, cap, cur, rfl, hbg, hgg, rest⟩
  · exact .inl hn
  · exact .inr ⟨g, cap, cur, rfl, hbg, (hb.block g (Array.getElem?_eq_some_iff.1 hgg).1).trans hgg, rest⟩
theorem own_mono {base' : Nat} (h : w.ownsRow base e k v n cs) (hb : base' ≤ base) : w.ownsRow base' e k v n cs := by
  refine ⟨h.1, ?_⟩
  rcases h.2 with hn | ⟨g, cap, cur, rfl, hbg, rest⟩
  · exact .inl hn
  · exact .inr ⟨g, cap, cur, rfl, by omega, rest⟩
/-- A row of the call's own that is not nil: its block. -/
theorem own_cases (h : w.ownsRow base e k v n cs) : (v = .slice none 0 0 ∧ n = 0 ∧ cs = []) ∨ ∃ g cap more, v = .slice (some ⟨g, 0, none⟩) n cap ∧ base ≤ g ∧ n ≤ cap ∧ cap ≤ maxLen ∧ cs.length = n * k ∧ Blk w g e (cs ++ more) ∧ (cs ++ more).length = cap * k := by
  rcases h.2 with ⟨rfl, rfl⟩ | ⟨g, cap, cur, rfl, hb, hg, h1, h2, h3, h4⟩
  · exact .inl ⟨rfl, rfl, List.eq_nil_of_length_eq_zero (by simpa using h.1)⟩
  · refine .inr ⟨g, cap, cur.toList.drop (n * k), rfl, hb, h1, h2, h.1, ?_, ?_⟩
    · unfold Blk; rw [← h4, List.take_append_drop]; simpa using hg
    · rw [← h4, List.take_append_drop]; simpa using h3
theorem own_of_blk {g cap : Nat} {more : List Value} (hb : Blk w g e (cs ++ more)) (hl : cs.length = n * k) (hc : (cs ++ more).length = cap * k) (h1 : n ≤ cap) (h2 : cap ≤ maxLen) (hg : base ≤ g) :
    w.ownsRow base e k (.slice (some ⟨g, 0, none⟩) n cap) n cs :=
  ⟨hl, .inr ⟨g, cap, _, rfl, hg, hb, h1, h2, by simpa using hc, by rw [← hl]; simp⟩⟩
end

/-- What a call has just laid: a row of so many cells, as a slice (an append's one element, a literal). -/
theorem Sl.fresh (w : World) (t : TypeId) (n k : Nat) (cs : List Value) (hl : cs.length = n * k) (hn : n ≤ maxLen) : Sl (w.alloc (.cells cs.toArray t)) (.slice (some ⟨w.heap.size, 0, none⟩) n n) n k cs :=
  Sl.of_rd (Blk.new w t cs).rd hl (Nat.le_refl _) hn
theorem own_fresh (w : World) (base : Nat) (t : TypeId) (n k : Nat) (cs : List Value) (hl : cs.length = n * k) (hn : n ≤ maxLen) (hb : base ≤ w.heap.size) : (w.alloc (.cells cs.toArray t)).ownsRow base t k (.slice (some ⟨w.heap.size, 0, none⟩) n n) n cs :=
  own_of_blk (more := []) (by simpa using Blk.new w t cs) hl (by simpa using hl) (Nat.le_refl _) hn hb

theorem own_slice {w : World} {v : Value} {n k : Nat} {cs : List Value} {base : Nat} {e : TypeId} (h : w.ownsRow base e k v n cs) : ∃ a c, v = .slice a n c := by
  rcases h.2 with ⟨rfl, rfl⟩ | ⟨g, cap, cur, rfl, _⟩
  · exact ⟨none, 0, rfl⟩
  · exact ⟨_, _, rfl⟩
theorem Sl.slice_ {w : World} {v : Value} {n k : Nat} {cs : List Value} (h : Sl w v n k cs) : ∃ a c, v = .slice a n c := by obtain ⟨a, c, rfl, _⟩ := h; exact ⟨a, c, rfl⟩
/-- A slice in new memory is answered; nothing old has changed. -/
def RetOwn (w : World) (e : TypeId) (k n : Nat) (cs : List Value) (en : Ending) (w' : World) : Prop := ∃ a c, en = .returned (.slice a n c) ∧ w'.ownsRow w.heap.size e k (.slice a n c) n cs ∧ Below w.heap.size w w'
theorem RetOwn.of {w w' : World} {e k n : Nat} {cs : List Value} {v : Value} (h : w'.ownsRow w.heap.size e k v n cs) (hb : Below w.heap.size w w') : RetOwn w e k n cs (.returned v) w' := by
  obtain ⟨a, c, rfl⟩ := own_slice h
  exact ⟨a, c, rfl, h, hb⟩
/-- A cell outside the row is written: the row stays. -/
theorem own_other {w : World} {v : Value} {n k : Nat} {cs : List Value} {base : Nat} {e : TypeId} (h : w.ownsRow base e k v n cs) {p : Addr} (hp : p.block < base) (u : Value) : (w.setCell p u).ownsRow base e k v n cs := by
  rcases own_cases h with ⟨rfl, rfl, rfl⟩ | ⟨g, cap, more, rfl, h1, h2, h3, h4, h5, h6⟩
  · exact World.ownsRow_nil _ _ _ _
  · exact own_of_blk (h5.other (by omega) _) h4 h6 h2 h3 h1

/-! ### append onto a row of the call's own, whatever slice is appended -/
/-- What append leaves: the row longer, that row alone written, the row in its old block or in a new one. -/
structure App (w : World) (base : Nat) (e : TypeId) (size : Nat) (v : Value) (n : Nat) (xs : List Value) (m : Nat) (news : List Value) (v' : Value) (w' : World) : Prop where
  own : w'.ownsRow base e size v' (n + m) (xs ++ news)
  grown : w.grownBy w' v.ownBlock
  at_ : v'.ownBlock = v.ownBlock ∨ v'.ownBlock = some w.heap.size
theorem App.below {w w' : World} {base e size n m : Nat} {v v' : Value} {xs news : List Value} (h : App w base e size v n xs m news v' w') (hown : w.ownsRow base e size v n xs) {B : Nat} (hB : B ≤ w.heap.size) (hb : B ≤ base) : Below B w w' :=
  (Below.refl B w).grown h.grown hB fun k hk => by have := (hown.lt k hk).1; omega
theorem run_app {P : Program} (w : World) (base : Nat) (t ty e : TypeId) {z : Value} {size bytes : Nat} (ht : P.underlying t = some (.slice e)) (hi : (P.info? e).map (fun i => (i.zero, i.size, i.bytes)) = some (some z, size, bytes))
    (hzs : z.cells.size = size) (hsz : 0 < size) {v x : Value} {n m : Nat} {xs news : List Value} (hown : w.ownsRow base e size v n xs) (hsl : Sl w x m size news) (h1 : ∀ u ∈ news, u.oneCell' = true)
    (hmax : n + m ≤ maxLen) (hbytes : (n + m) * bytes ≤ 140737488355328) (hbase : base ≤ w.heap.size) :
    ∃ v' w', (Builtin.append_ #[t, t] ty #[v, x]).run P w = .ok v' w' ∧ App w base e size v n xs m news v' w' := by
  obtain ⟨i, hi0, hz, hsize, hby⟩ := info_parts hi
  rcases hsl.cases with ⟨rfl, rfl, rfl⟩ | ⟨b, off, cap, rfl, h2, h3, h4, h5⟩
  · exact ⟨v, w, run_append_owned_none w base t ty e i size ht hi0 v n xs hown, by simpa using hown, ⟨rfl, rfl, rfl, Nat.le_refl _, fun _ _ _ => rfl⟩, .inl rfl⟩
  · obtain ⟨v', w', hr, a, b', _, c⟩ := run_append_own_at (P := P) w base t ty e i z size bytes ht hi0 hz hsize hby hzs hsz v n xs hown ⟨b, off, none⟩ m cap news h4 (fun j u hj => by
      have := h5 j u hj
      unfold Addr.add
      split <;> simp_all) h1 hmax hbytes hbase
    exact ⟨v', w', hr, a, b', c⟩
theorem wpList_app {P : Program} {ops : Array Oper} {rest : List Oper} {o : Oper} {a : Act} {w : World} {Q : Exit → Act → World → Prop} (hgd : o.guard = none) (s x : Operand) (t : TypeId)
    (ho : o.op = .call { callee := .builtin .append, args := #[s, x], argTypes := #[t, t] })
    (base : Nat) (e : TypeId) {z : Value} {size bytes : Nat} (ht : P.underlying t = some (.slice e)) (hi : (P.info? e).map (fun i => (i.zero, i.size, i.bytes)) = some (some z, size, bytes)) (hzs : z.cells.size = size) (hsz : 0 < size)
    {v x' : Value} {n m : Nat} {xs news : List Value} (hown : w.ownsRow base e size v n xs) (hsl : Sl w x' m size news) (hs : a.eval s = v) (hx : a.eval x = x') (h1 : ∀ u ∈ news, u.oneCell' = true)
    (hmax : n + m ≤ maxLen) (hbytes : (n + m) * bytes ≤ 140737488355328) (hbase : base ≤ w.heap.size)
    (h : ∀ a' c' w', App w base e size v n xs m news (.slice a' (n + m) c') w' → wpList P ops Q rest (a.put o.dst (.slice a' (n + m) c')) w') : wpList P ops Q (o :: rest) a w := by
  refine wpList_plain hgd fun K hK => ?_
  obtain ⟨v', w', hr, h2⟩ := run_app (P := P) w base t o.type e ht hi hzs hsz hown hsl h1 hmax hbytes hbase
  unfold Oper.wp execOp
  simp only [ho, resolve, invoke, builtin, Sem.run_bind, Sem.run_pure, Result.andThen_ok, List.map_toArray, List.map_cons, List.map_nil, hs, hx, hr]
  obtain ⟨a', c', rfl⟩ := own_slice h2.own
  exact hK _ _ (h a' c' w' h2)

/-! ### more on Below -/
theorem below_drewN {B : Nat} {a w : World} (h : Below B a w) (n : Nat) : Below B a (w.drewN n) := ⟨h.os, h.tape, h.output, h.size, h.block⟩
theorem undrew {B : Nat} {w w1 : World} (h : Below B w.drew w1) : Below B w w1 := ⟨h.os, h.tape, h.output, h.size, h.block⟩
theorem undrewN {B : Nat} {w w1 : World} {n : Nat} (h : Below B (w.drewN n) w1) : Below B w w1 := (below_drewN (Below.refl B w) n).trans h
theorem bcell {W w1 : World} (hb : Below W.heap.size W w1) : (∀ b o, b < W.heap.size → w1.cell? ⟨b, o, none⟩ = W.cell? ⟨b, o, none⟩) ∧ (∀ b o, b < W.heap.size → w1.frozen? ⟨b, o, none⟩ = W.frozen? ⟨b, o, none⟩) :=
  ⟨fun b o h => hb.cell (p := ⟨b, o, none⟩) h, fun b o h => hb.frozen (p := ⟨b, o, none⟩) h⟩
theorem below_step {B : Nat} {a b c : World} (h : Below B a b) (k : Below b.heap.size b c) (hB : B ≤ b.heap.size) : Below B a c := h.trans (k.mono hB)
/-- What was kept since a world, is kept over one more call, with some blocks laid before it. -/
theorem kp0 {w u w' : World} (h : Hid (Below w.heap.size w u)) (hb : Below u.heap.size u w') : Hid (Below w.heap.size w w') := Lib.hid (below_step h.out hb h.out.size)
theorem kpr (w : World) : Hid (Below w.heap.size w w) := Lib.hid (Below.refl _ w)
theorem kpa {w u : World} (h : Hid (Below w.heap.size w u)) (o : Obj) : Hid (Below w.heap.size w (u.alloc o)) := Lib.hid (h.out.alloc h.out.size o)
theorem kp1 {w u w' : World} {o : Obj} (h : Hid (Below w.heap.size w u)) (hb : Below (u.alloc o).heap.size (u.alloc o) w') : Hid (Below w.heap.size w w') := kp0 (kpa h o) hb
theorem kp2 {w u w' : World} {o o2 : Obj} (h : Hid (Below w.heap.size w u)) (hb : Below ((u.alloc o).alloc o2).heap.size ((u.alloc o).alloc o2) w') : Hid (Below w.heap.size w w') := kp0 (kpa (kpa h o) o2) hb
theorem kp3 {w u w' : World} {o o2 o3 : Obj} (h : Hid (Below w.heap.size w u)) (hb : Below (((u.alloc o).alloc o2).alloc o3).heap.size (((u.alloc o).alloc o2).alloc o3) w') : Hid (Below w.heap.size w w') := kp0 (kpa (kpa (kpa h o) o2) o3) hb
theorem below_of_grown {w w' : World} {row : Option Nat} {B : Nat} (hg : w.grownBy w' row) (hB : B ≤ w.heap.size) (hr : ∀ k, row = some k → B ≤ k) : Below B w w' := (Below.refl B w).grown hg hB hr

theorem cell_set_other {w : World} {b o g j : Nat} {x : Value} (h : w.cell? ⟨b, o, none⟩ = some x) (hne : g ≠ b) (u : Value) : (w.setCell ⟨g, j, none⟩ u).cell? ⟨b, o, none⟩ = some x :=
  (World.cell?_of_block (w := w) (heap_setCell_other w ⟨g, j, none⟩ b u (fun e => hne e.symm))).trans h

/-! ### a float stored -/
@[go_sem] theorem run_store_float (P : Program) (w : World) (a : Addr) (m : Mode) (k : FloatKind) (b : Nat) : (store a (.float k b) m).run P w = stored P w a (.float k b) m := run_store P w a _ m rfl

/-! ### make -/
theorem run_make_n {P : Program} (t e : TypeId) {z : Value} {size bytes : Nat} (ht : P.underlying t = some (.slice e)) (hi : (P.info? e).map (fun i => (i.zero, i.size, i.bytes)) = some (some z, size, bytes))
    (kl kc : IntKind) (n c : Nat) (hnc : n ≤ c) (hbytes : bytes * c ≤ 281474976710656) (h63 : c ≤ 9223372036854775807) (w : World) :
    (Instr.makeSlice t (.int kl (n : Int)) (.int kc (c : Int))).run P w = .ok (.slice (some ⟨w.heap.size, 0, none⟩) n c) (w.alloc (.cells (madeCells z.cells (c * size)) e)) := by
  obtain ⟨i, hi0, hz, rfl, rfl⟩ := info_parts hi
  have hb : (i.bytes : Int) * (c : Int) ≤ 281474976710656 := by
    have h : ((i.bytes * c : Nat) : Int) ≤ 281474976710656 := by omega
    rwa [Int.natCast_mul] at h
  have hr := run_make (P := P) w t e i z ht hi0 hz kl kc n c (by omega) (by omega) hb (by omega)
  simp only [Int.toNat_natCast] at hr
  exact hr
/-- 'make([]T, 0, n)'. -/
theorem run_make_0 {P : Program} (t e : TypeId) {z : Value} {size bytes : Nat} (ht : P.underlying t = some (.slice e)) (hi : (P.info? e).map (fun i => (i.zero, i.size, i.bytes)) = some (some z, size, bytes))
    (kl kc : IntKind) (c : Nat) (hbytes : bytes * c ≤ 281474976710656) (h63 : c ≤ 9223372036854775807) (w : World) :
    (Instr.makeSlice t (.int kl 0) (.int kc (c : Int))).run P w = .ok (.slice (some ⟨w.heap.size, 0, none⟩) 0 c) (w.alloc (.cells (madeCells z.cells (c * size)) e)) :=
  run_make_n t e ht hi kl kc 0 c (Nat.zero_le _) hbytes h63 w
/-- Of a row just made nothing is in use yet. -/
theorem own_made (w : World) (base : Nat) (e : TypeId) (k c : Nat) (z : Array Value) (hb : base ≤ w.heap.size) (hc : c ≤ maxLen) : (w.alloc (.cells (madeCells z (c * k)) e)).ownsRow base e k (.slice (some ⟨w.heap.size, 0, none⟩) 0 c) 0 [] :=
  World.ownsRow_made w _ c hb hc (size_madeCells _ _)
theorem made_one (v : Value) (n : Nat) : madeCells #[v] n = (List.replicate n v).toArray := by
  apply Array.ext
  · simp [madeCells]
  · intro i h1 h2
    simp [madeCells, Nat.mod_one]

/-! ### bits of numbers, as the walk writes them -/
theorem div_pow_cast (x k : Nat) : (x : Int) / 2 ^ k = ((x / 2 ^ k : Nat) : Int) := by
  rw [Int.natCast_ediv, Int.natCast_pow]; rfl
theorem bit_of (x k : Nat) (hx : x < 18446744073709551616) : (bits .and .u64 ((x : Int) / 2 ^ k) 1 == 1) = x.testBit k := by
  have h1 : x / 2 ^ k < 18446744073709551616 := Nat.lt_of_le_of_lt (Nat.div_le_self _ _) hx
  have h2 : bits .and .u64 ((x : Int) / 2 ^ k) 1 = (((x / 2 ^ k) &&& 1 : Nat) : Int) := by
    rw [div_pow_cast]; exact u64_and_nat _ 1 h1 (by decide)
  rw [h2, nat_mask1, Nat.testBit_eq_decide_div_mod_eq]
  have := Nat.mod_lt (x / 2 ^ k) (show 0 < 2 by decide)
  rcases Nat.lt_or_ge (x / 2 ^ k % 2) 1 with h | h
  · have : x / 2 ^ k % 2 = 0 := by omega
    rw [this]; rfl
  · have : x / 2 ^ k % 2 = 1 := by omega
    rw [this]; rfl

theorem ofInt_i64 (a : Nat) (ha : a < 9223372036854775808) : (BitVec.ofInt 64 (a : Int)).toNat = a := by
  rw [BitVec.ofInt_natCast, BitVec.toNat_ofNat]; exact Nat.mod_eq_of_lt (by omega)
theorem i64_and_nat (a b : Nat) (ha : a < 9223372036854775808) (hb : b < 9223372036854775808) : bits .and .i64 (a : Int) (b : Int) = ((a &&& b : Nat) : Int) := by
  have hx : a &&& b < 2 ^ 63 := Nat.and_lt_two_pow _ (by omega)
  show IntKind.i64.wrap ((BitVec.ofInt 64 (a : Int) &&& BitVec.ofInt 64 (b : Int)).toNat : Int) = _
  rw [BitVec.toNat_and, ofInt_i64 a ha, ofInt_i64 b hb, IntKind.wrap_i64]
  omega
theorem wrap_pow (k : Nat) (hk : k < 64) : IntKind.u64.wrap (2 ^ k) = ((2 ^ k : Nat) : Int) := by
  have h : 2 ^ k < 18446744073709551616 := (Nat.pow_lt_pow_right (by decide) hk : 2 ^ k < 2 ^ 64)
  rw [show (2 : Int) ^ k = ((2 ^ k : Nat) : Int) by rw [Int.natCast_pow]; rfl, IntKind.wrap_u64]
  generalize 2 ^ k = m at *
  omega
theorem shl_cast (x k : Nat) : IntKind.u64.wrap ((x : Int) * 2 ^ k) = ((x * 2 ^ k % 18446744073709551616 : Nat) : Int) := by
  rw [show (2 : Int) ^ k = ((2 ^ k : Nat) : Int) by rw [Int.natCast_pow]; rfl, ← Int.natCast_mul, IntKind.wrap_u64]
  generalize x * 2 ^ k = m
  omega
theorem wrap_pow_pred (k : Nat) (hk : k < 64) : IntKind.u64.wrap (IntKind.u64.wrap (2 ^ k) - 1) = ((2 ^ k - 1 : Nat) : Int) := by
  have h : 2 ^ k < 18446744073709551616 := (Nat.pow_lt_pow_right (by decide) hk : 2 ^ k < 2 ^ 64)
  have h1 : 0 < 2 ^ k := Nat.pow_pos (by decide)
  rw [wrap_pow k hk, IntKind.wrap_u64]
  generalize 2 ^ k = m at *
  omega
theorem and_mask_cast (x k : Nat) (hx : x < 18446744073709551616) (hk : k < 64) : bits .and .u64 (x : Int) (IntKind.u64.wrap (IntKind.u64.wrap (2 ^ k) - 1)) = ((x % 2 ^ k : Nat) : Int) := by
  have h : 2 ^ k < 18446744073709551616 := (Nat.pow_lt_pow_right (by decide) hk : 2 ^ k < 2 ^ 64)
  have h1 : 0 < 2 ^ k := Nat.pow_pos (by decide)
  have e : IntKind.u64.wrap (IntKind.u64.wrap (2 ^ k) - 1) = ((2 ^ k - 1 : Nat) : Int) := by
    rw [wrap_pow k hk, IntKind.wrap_u64]
    generalize 2 ^ k = m at *
    omega
  rw [e, u64_and_nat _ _ hx (by omega), Nat.and_two_pow_sub_one_eq_mod]
theorem xor_max_cast (x : Nat) (hx : x < 18446744073709551616) : bits .xor .u64 (if IntKind.u64.signed = true then -1 else IntKind.u64.max) (x : Int) = ((18446744073709551615 - x : Nat) : Int) := by
  have e : bits .xor .u64 (if IntKind.u64.signed = true then -1 else IntKind.u64.max) (x : Int) = ((18446744073709551615 ^^^ x : Nat) : Int) := u64_xor_nat 18446744073709551615 x (by decide) hx
  rw [e]
  congr 1
  apply Nat.eq_of_testBit_eq; intro i
  rw [show (18446744073709551615 : Nat) = 2 ^ 64 - 1 from rfl, Nat.testBit_xor, Nat.testBit_two_pow_sub_one, show 2 ^ 64 - 1 - x = 2 ^ 64 - (x + 1) by omega, Nat.testBit_two_pow_sub_succ hx]
  by_cases hi : i < 64
  · simp [hi]
  · have : 2 ^ 64 ≤ 2 ^ i := Nat.pow_le_pow_right (by decide) (by omega)
    simp [hi, Nat.testBit_lt_two_pow (Nat.lt_of_lt_of_le hx this)]
theorem or_pow_cast (x k : Nat) (hx : x < 18446744073709551616) (hk : k < 64) : bits .or .u64 (x : Int) (IntKind.u64.wrap (2 ^ k)) = ((x ||| 2 ^ k : Nat) : Int) := by
  rw [wrap_pow k hk]
  exact u64_or_nat _ _ hx (Nat.pow_lt_pow_right (by decide) hk : 2 ^ k < 2 ^ 64)
theorem andNot_pow_cast (x k : Nat) (hx : x < 18446744073709551616) (hk : k < 64) (hb : x.testBit k = false) : bits .andNot .u64 (x : Int) (IntKind.u64.wrap (2 ^ k)) = (x : Int) := by
  rw [wrap_pow k hk, u64_andNot_nat _ _ hx (Nat.pow_lt_pow_right (by decide) hk : 2 ^ k < 2 ^ 64)]
  congr 1
  apply Nat.eq_of_testBit_eq; intro j
  rw [Nat.testBit_and]
  have e : 18446744073709551615 - 2 ^ k = 2 ^ 64 - (2 ^ k + 1) := by generalize 2 ^ k = m; omega
  rw [e, Nat.testBit_two_pow_sub_succ (Nat.pow_lt_pow_right (by decide) hk)]
  by_cases hj : j < 64
  · rw [Nat.testBit_two_pow]
    by_cases hjk : k = j
    · subst hjk; simp [hb]
    · simp [hj, hjk]
  · have : 2 ^ 64 ≤ 2 ^ j := Nat.pow_le_pow_right (by decide) (by omega)
    rw [Nat.testBit_lt_two_pow (Nat.lt_of_lt_of_le hx this)]; simp

/-- A byte put behind i bytes. -/
theorem or_byte (v x i : Nat) (hv : v < 256 ^ i) (hx : x < 256) (hi : i < 8) : bits .or .u64 (v : Int) (IntKind.u64.wrap ((x : Int) * 2 ^ (8 * i))) = ((v + 256 ^ i * x : Nat) : Int) := by
  have e : (256 : Nat) ^ i = 2 ^ (8 * i) := by rw [show (256 : Nat) = 2 ^ 8 from rfl, ← Nat.pow_mul]
  have h1 : 2 ^ (8 * i) * 256 ≤ 18446744073709551616 := by
    have : 2 ^ (8 * i + 8) ≤ 2 ^ 64 := Nat.pow_le_pow_right (by decide) (by omega)
    rw [Nat.pow_add] at this; exact this
  rw [e] at hv ⊢
  have h2 : x * 2 ^ (8 * i) < 18446744073709551616 := by
    have : x * 2 ^ (8 * i) < 256 * 2 ^ (8 * i) := (Nat.mul_lt_mul_right (Nat.pow_pos (by decide))).2 hx
    rw [Nat.mul_comm] at h1; omega
  rw [shl_cast, Nat.mod_eq_of_lt h2, u64_or_nat _ _ (by generalize 2 ^ (8 * i) = m at *; omega) h2]
  congr 1
  rw [Nat.or_comm, Nat.mul_comm x, ← Nat.two_pow_add_eq_or_of_lt hv, Nat.add_comm]

/-! ### arithmetic of indices -/
theorem mul_le_of {a b : Nat} (h : a < b) (k : Nat) : a * k + k ≤ b * k := by
  have : (a + 1) * k ≤ b * k := Nat.mul_le_mul_right k h
  rw [Nat.add_mul, Nat.one_mul] at this; exact this

end Go.Col
