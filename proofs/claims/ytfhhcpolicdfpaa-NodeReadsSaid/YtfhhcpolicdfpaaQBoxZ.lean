/-
  Boxes of one kind, made by a region itself, are filled: what stays.
-/
import Derived.Test.YtfhhcpolicdfpaaQPartsM
import Derived.Test.YtfhhcpolicdfpaaNdA
namespace Go.Dav
set_option linter.unusedVariables false
set_option linter.unusedSimpArgs false
open Go Go.RowKit
/-- Blocks, at B or beyond, that hold a Z are filled by a Z. -/
structure OnlyZ (B : Nat) (Z : List Value → Prop) (t : TypeId) (w w' : World) : Prop where
  os : w'.os = w.os
  tape : w'.tape = w.tape
  output : w'.output = w.output
  size : w.heap.size ≤ w'.heap.size
  block : ∀ k, k < w.heap.size → w'.heap[k]? = w.heap[k]? ∨ (B ≤ k ∧ ∃ cs cs', Z cs ∧ Z cs' ∧ Blk w k cs t ∧ Blk w' k cs' t)
theorem OnlyZ.of_below {B : Nat} {Z : List Value → Prop} {t : TypeId} {w w' : World} (h : Below w.heap.size w w') : OnlyZ B Z t w w' := ⟨h.os, h.tape, h.output, h.size, fun k hk => .inl (h.block k hk)⟩
theorem goes_onlyZ (B : Nat) (Z : List Value → Prop) (t : TypeId) : Goes (OnlyZ B Z t) := ⟨fun _ _ h => .of_below h, fun A C D h k => ⟨k.os.trans h.os, k.tape.trans h.tape, k.output.trans h.output, Nat.le_trans h.size k.size, fun i hi => by
  have hi' := Nat.lt_of_lt_of_le hi h.size
  rcases h.block i hi with h1 | ⟨h0, cs, cs', z1, z2, b1, b2⟩
  · rcases k.block i hi' with k1 | ⟨k0, ds, ds', y1, y2, d1, d2⟩
    · exact .inl (k1.trans h1)
    · exact .inr ⟨k0, ds, ds', y1, y2, (by unfold Blk at *; rw [← h1]; exact d1), d2⟩
  · rcases k.block i hi' with k1 | ⟨k0, ds, ds', y1, y2, d1, d2⟩
    · exact .inr ⟨h0, cs, cs', z1, z2, b1, by unfold Blk at *; rw [k1]; exact b2⟩
    · exact .inr ⟨h0, cs, ds', z1, y2, b1, d2⟩⟩⟩
theorem OnlyZ.below {B : Nat} {Z : List Value → Prop} {t : TypeId} {w w' : World} (h : OnlyZ B Z t w w') (hB : B ≤ w.heap.size) : Below B w w' :=
  ⟨h.os, h.tape, h.output, h.size, fun k hk => by
    rcases h.block k (by omega) with h1 | ⟨h0, _⟩
    · exact h1
    · omega⟩
theorem OnlyZ.of_only {B p : Nat} {Z : List Value → Prop} {t : TypeId} {w w' : World} {cs cs' : List Value} (h : Only p w w') (hp : B ≤ p) (z1 : Z cs) (z2 : Z cs') (b1 : Blk w p cs t) (b2 : Blk w' p cs' t) : OnlyZ B Z t w w' :=
  ⟨h.os, h.tape, h.output, h.size, fun k hk => by
    by_cases e : k = p
    · subst e; exact .inr ⟨hp, cs, cs', z1, z2, b1, b2⟩
    · exact .inl (h.block k hk e)⟩
/-- A block with a cell that no Z has is left as it is. -/
theorem OnlyZ.cell {B : Nat} {Z : List Value → Prop} {t : TypeId} {w w' : World} (h : OnlyZ B Z t w w') {b o : Nat} {v : Value} (hc : w.cell? ⟨b, o, none⟩ = some v) (hz : ∀ cs, Z cs → cs[o]? ≠ some v) : w'.heap[b]? = w.heap[b]? := by
  rcases h.block b (World.block_lt_of_cell? _ _ hc) with h1 | ⟨_, cs, _, z1, _, b1, _⟩
  · exact h1
  · rw [b1.cells] at hc; exact absurd hc (hz cs z1)
def noU8 (Z : List Value → Prop) : Prop := ∀ cs, Z cs → ∀ v ∈ cs, ∀ x, v ≠ .int .u8 x
theorem BytesS.keepZ {B : Nat} {Z : List Value → Prop} {t : TypeId} {W W' : World} {S : Nat → Prop} {a : Option Addr} {n c : Nat} {l : List UInt8} (h : BytesS W S a n c l) (k : OnlyZ B Z t W W') (hZ : noU8 Z) : BytesS W' S a n c l :=
  ⟨⟨h.at_.hlen, h.at_.hcap, h.at_.hmax, h.at_.hfew, fun j x hj => by
    obtain ⟨b, o, h1, h2, h3⟩ := h.at_.hat j x hj
    have e := k.cell h3 (fun cs hz hc => hZ cs hz _ (List.mem_of_getElem? hc) _ rfl)
    exact ⟨b, o, h1, Nat.lt_of_lt_of_le h2 k.size, (World.cell?_of_block (a := ⟨b, o + j, none⟩) e).trans h3⟩, h.at_.hnil⟩, h.in_⟩
theorem BytesS.offZ {W : World} {S : Nat → Prop} {a : Option Addr} {n c p t : Nat} {l : List UInt8} {Z : List Value → Prop} {cs : List Value} (h : BytesS W S a n c l) (hp : Blk W p cs t) (hz : Z cs) (hZ : noU8 Z) : BytesS W (fun b => S b ∧ b ≠ p) a n c l :=
  ⟨h.at_, fun k x hk => by
    obtain ⟨b, o, h1, h2⟩ := h.in_ k x hk
    obtain ⟨b', o', h1', _, h3⟩ := h.at_.hat k x hk
    rw [h1] at h1'; cases h1'
    refine ⟨b, o, h1, h2, fun e => ?_⟩
    subst e
    rw [hp.cells] at h3
    exact hZ cs hz _ (List.mem_of_getElem? h3) _ rfl⟩
/-- A box of that kind. -/
def BoxV (B : Nat) (Z : List Value → Prop) (t : TypeId) (v : Value) (W : World) : Prop := ∃ p, v = .pointer (some ⟨p, 0, none⟩) ∧ B ≤ p ∧ ∃ cs, Z cs ∧ Blk W p cs t
theorem BoxV.later {B : Nat} {Z : List Value → Prop} {t : TypeId} : ∀ v W W', BoxV B Z t v W → Below W.heap.size W W' → BoxV B Z t v W' := fun _ _ _ ⟨p, h1, h2, cs, h3, h4⟩ hb => ⟨p, h1, h2, cs, h3, h4.ext hb⟩
theorem BoxV.keepZ {B : Nat} {Z : List Value → Prop} {t : TypeId} : ∀ v W W', BoxV B Z t v W → OnlyZ B Z t W W' → BoxV B Z t v W' := fun _ W W' ⟨p, h1, h2, cs, h3, h4⟩ hk => by
  rcases hk.block p h4.lt with e | ⟨_, cs1, cs2, z1, z2, _, b2⟩
  · exact ⟨p, h1, h2, cs, h3, by unfold Blk at *; rw [e]; exact h4⟩
  · exact ⟨p, h1, h2, cs2, z2, b2⟩
theorem boxV_alloc {B : Nat} {Z : List Value → Prop} {cs : List Value} {t : TypeId} {W : World} (h : B ≤ W.heap.size) (hz : Z cs) :
    Below W.heap.size W (W.alloc (.cells cs.toArray t)) ∧ BoxV B Z t (.pointer (some ⟨W.heap.size, 0, none⟩)) (W.alloc (.cells cs.toArray t)) :=
  ⟨(Below.refl _ _).alloc (Nat.le_refl _) _, ⟨_, rfl, h, cs, hz, Blk.new _ _ _⟩⟩
/-- Bytes at B or beyond. -/
def RowV (B : Nat) (x : List UInt8) (v : Value) (W : World) : Prop := ∃ a n c, v = .slice a n c ∧ BytesS W (fun b => B ≤ b) a n c x
theorem RowV.later {B : Nat} {x : List UInt8} : ∀ v W W', RowV B x v W → Below W.heap.size W W' → RowV B x v W' := fun _ _ _ ⟨a, n, c, h1, h2⟩ hb => ⟨a, n, c, h1, h2.ext hb⟩
theorem RowV.keepZ {B B' : Nat} {x : List UInt8} {Z : List Value → Prop} {t : TypeId} (hZ : noU8 Z) : ∀ v W W', RowV B x v W → OnlyZ B' Z t W W' → RowV B x v W' := fun _ _ _ ⟨a, n, c, h1, h2⟩ hk => ⟨a, n, c, h1, h2.keepZ hk hZ⟩
end Go.Dav
