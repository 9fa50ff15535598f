/-
  Blocks of cells, each known whole: what a call, a new block, a store leaves of them.
-/
import Derived.Test.YtdebmifjfemcjaaParts
import Derived.WalkKit
import Derived.Deep.Draws
import Derived.Lib.Hide
namespace Go.Dav
set_option linter.unusedVariables false
set_option linter.unusedSimpArgs false
open Go Go.RowKit

/-- Block p holds just these cells, and all of them may be written. -/
def Blk (W : World) (p : Nat) (cs : List Value) (t : TypeId) : Prop := W.heap[p]? = some (.cells cs.toArray t (0, 0))

theorem Blk.lt {W : World} {p : Nat} {cs : List Value} {t : TypeId} (h : Blk W p cs t) : p < W.heap.size := (Array.getElem?_eq_some_iff.1 h).1
theorem Blk.cell {W : World} {p : Nat} {cs : List Value} {t : TypeId} (h : Blk W p cs t) (i : Nat) {v : Value} (hi : cs[i]? = some v) : W.cell? ⟨p, i, none⟩ = some v := by
  unfold Blk at h
  simp [World.cell?, h, hi]
theorem Blk.frozen {W : World} {p : Nat} {cs : List Value} {t : TypeId} (h : Blk W p cs t) (i : Nat) : W.frozen? ⟨p, i, none⟩ = false := by
  unfold Blk at h
  simp [World.frozen?, h]
/-- All its cells, for the walk. -/
theorem Blk.cells {W : World} {p : Nat} {cs : List Value} {t : TypeId} (h : Blk W p cs t) : ∀ i, W.cell? ⟨p, i, none⟩ = cs[i]? := fun i => by
  unfold Blk at h
  simp [World.cell?, h]
theorem Blk.marks {W : World} {p : Nat} {cs : List Value} {t : TypeId} (h : Blk W p cs t) : ∀ i, W.frozen? ⟨p, i, none⟩ = false := fun i => h.frozen i
theorem Blk.below {W W' : World} {B p : Nat} {cs : List Value} {t : TypeId} (h : Blk W p cs t) (hb : Below B W W') (hp : p < B) : Blk W' p cs t := (hb.block p hp).trans h
theorem Blk.ext {W W' : World} {p : Nat} {cs : List Value} {t : TypeId} (h : Blk W p cs t) (hb : Below W.heap.size W W') : Blk W' p cs t := h.below hb h.lt
theorem Blk.new (W : World) (cs : List Value) (t : TypeId) : Blk (W.alloc (.cells cs.toArray t)) W.heap.size cs t := by
  unfold Blk World.alloc
  simp
theorem Blk.new' (W : World) (cs : List Value) (t : TypeId) {p : Nat} (h : W.heap.size = p) : Blk (W.alloc (.cells cs.toArray t)) p cs t := h ▸ Blk.new W cs t
theorem Blk.alloc {W : World} {p : Nat} {cs : List Value} {t : TypeId} (h : Blk W p cs t) (o : Obj) : Blk (W.alloc o) p cs t := (Below.heap_alloc W o p h.lt).trans h
theorem Blk.drew {W : World} {p : Nat} {cs : List Value} {t : TypeId} (h : Blk W p cs t) : Blk W.drew p cs t := h
theorem Blk.set {W : World} {p : Nat} {cs : List Value} {t : TypeId} (h : Blk W p cs t) (i : Nat) (v : Value) : Blk (W.setCell ⟨p, i, none⟩ v) p (cs.set i v) t := by
  have hlt := h.lt
  unfold Blk at *
  have : W.heap[p] = .cells cs.toArray t (0, 0) := (Array.getElem?_eq_some_iff.1 h).2
  simp [World.setCell, hlt, Array.getElem_modify, this]
theorem Blk.other {W : World} {p q : Nat} {cs : List Value} {t : TypeId} (h : Blk W p cs t) (hne : p ≠ q) (i : Nat) (v : Value) : Blk (W.setCell ⟨q, i, none⟩ v) p cs t :=
  (Below.heap_setCell W ⟨q, i, none⟩ v p hne).trans h

theorem cell_new_at (W : World) (cs : Array Value) (t : TypeId) {p : Nat} (h : p = W.heap.size) (j : Nat) : (W.alloc (.cells cs t)).cell? ⟨p, j, none⟩ = cs[j]? := by
  subst h
  have e : (W.alloc (.cells cs t)).heap[W.heap.size]? = some (.cells cs t) := by unfold World.alloc; simp
  unfold World.cell?
  simp only [e]
  rfl

/-- A new block, at B or beyond, and a value that points to it. -/
def NewBlk (B : Nat) (cs : List Value) (t : TypeId) (v : Value) (W : World) : Prop := ∃ p, v = .pointer (some ⟨p, 0, none⟩) ∧ B ≤ p ∧ Blk W p cs t
theorem NewBlk.later {B : Nat} {cs : List Value} {t : TypeId} : ∀ v W W', NewBlk B cs t v W → Below W.heap.size W W' → NewBlk B cs t v W' :=
  fun _ _ _ ⟨p, h1, h2, h3⟩ hb => ⟨p, h1, h2, h3.ext hb⟩
theorem newBlk_alloc {B : Nat} {cs : List Value} {t : TypeId} {W : World} (h : B ≤ W.heap.size) :
    Below W.heap.size W (W.alloc (.cells cs.toArray t)) ∧ NewBlk B cs t (.pointer (some ⟨W.heap.size, 0, none⟩)) (W.alloc (.cells cs.toArray t)) :=
  ⟨(Below.refl _ _).alloc (Nat.le_refl _) _, ⟨_, rfl, h, Blk.new _ _ _⟩⟩

/-- A pointer to offset o of some block, and what cell j of that block holds. -/
def CellIs (o j : Nat) (u v : Value) (W : World) : Prop := ∃ g, v = .pointer (some ⟨g, o, none⟩) ∧ W.cell? ⟨g, j, none⟩ = some u
theorem CellIs.later {o j : Nat} {u : Value} : ∀ v W W', CellIs o j u v W → Below W.heap.size W W' → CellIs o j u v W' :=
  fun _ _ _ ⟨g, h1, h2⟩ hb => ⟨g, h1, by rw [hb.cell (p := ⟨g, j, none⟩) (World.block_lt_of_cell? _ _ h2)]; exact h2⟩

theorem below_drewN {B : Nat} {w w' : World} (h : Below B w w') (n : Nat) : Below B w (w'.drewN n) := ⟨h.os, h.tape, h.output, h.size, h.block⟩
/-- Block p alone is written; new blocks may have come. -/
structure Only (p : Nat) (w w' : World) : Prop where
  os : w'.os = w.os
  tape : w'.tape = w.tape
  output : w'.output = w.output
  size : w.heap.size ≤ w'.heap.size
  block : ∀ k, k < w.heap.size → k ≠ p → w'.heap[k]? = w.heap[k]?
theorem Only.refl (p : Nat) (w : World) : Only p w w := ⟨rfl, rfl, rfl, Nat.le_refl _, fun _ _ _ => rfl⟩
theorem Only.set {p : Nat} {w w' : World} (h : Only p w w') (i : Nat) (v : Value) : Only p w (w'.setCell ⟨p, i, none⟩ v) :=
  ⟨h.os, h.tape, h.output, by simpa using h.size, fun k hk hne => (Below.heap_setCell w' ⟨p, i, none⟩ v k hne).trans (h.block k hk hne)⟩
theorem Only.alloc {p : Nat} {w w' : World} (h : Only p w w') (o : Obj) : Only p w (w'.alloc o) :=
  ⟨h.os, h.tape, h.output, by have := h.size; simp; omega, fun k hk hne => (Below.heap_alloc w' o k (Nat.lt_of_lt_of_le hk h.size)).trans (h.block k hk hne)⟩
theorem Only.drew {p : Nat} {w w' : World} (h : Only p w w') : Only p w w'.drew := ⟨h.os, h.tape, h.output, h.size, h.block⟩
theorem Only.ext {p : Nat} {w w' w'' : World} (h : Only p w w') (hb : Below w'.heap.size w' w'') : Only p w w'' :=
  ⟨hb.os.trans h.os, hb.tape.trans h.tape, hb.output.trans h.output, Nat.le_trans h.size hb.size, fun k hk hne => (hb.block k (Nat.lt_of_lt_of_le hk h.size)).trans (h.block k hk hne)⟩
theorem Only.trans {p : Nat} {w w' w'' : World} (h : Only p w w') (k : Only p w' w'') : Only p w w'' :=
  ⟨k.os.trans h.os, k.tape.trans h.tape, k.output.trans h.output, Nat.le_trans h.size k.size, fun i hi hne => (k.block i (Nat.lt_of_lt_of_le hi h.size) hne).trans (h.block i hi hne)⟩
theorem below_only {B p : Nat} {a w w' : World} (h : Below B a w) (k : Only p w w') (hs : B ≤ w.heap.size) (hp : B ≤ p) : Below B a w' :=
  ⟨k.os.trans h.os, k.tape.trans h.tape, k.output.trans h.output, Nat.le_trans h.size k.size, fun i hi => (k.block i (by omega) (by omega)).trans (h.block i hi)⟩
theorem Blk.only {W W' : World} {p q : Nat} {cs : List Value} {t : TypeId} (h : Blk W q cs t) (k : Only p W W') (hne : q ≠ p) : Blk W' q cs t := (k.block q h.lt hne).trans h
/-- What a call leaves of what lay there, for the walk. -/
theorem after {W W' : World} (hb : Below W.heap.size W W') : (∀ b o, b < W.heap.size → W'.cell? ⟨b, o, none⟩ = W.cell? ⟨b, o, none⟩) ∧ (∀ b o, b < W.heap.size → W'.frozen? ⟨b, o, none⟩ = W.frozen? ⟨b, o, none⟩) ∧ W.heap.size ≤ W'.heap.size :=
  ⟨fun b o h => hb.cell (p := ⟨b, o, none⟩) h, fun b o h => hb.frozen (p := ⟨b, o, none⟩) h, hb.size⟩
end Go.Dav
