/-
  Bytes appended to a row of the call's own: one law for a region that draws its order, one for the walk.
-/
import Derived.Test.YtfhhcpolicdfpaaNdG
import Derived.Test.YtfhhcpolicdfpaaNdE
import Derived.Test.YtfhhcpolicdfpaaQNodZ
import Derived.Test.YtfhhcpolicdfpaaQBoxZ
namespace Go.Dav
set_option linter.unusedVariables false
set_option linter.unusedSimpArgs false
open Go Go.RowKit
/-- The block of a row of one's own. -/
def OwnB (v : Value) (b : Nat) : Prop := v.ownBlock = some b
theorem OwnB.of_grown {W W' : World} {v : Value} (h : W.grownBy W' v.ownBlock) : OnlyS (OwnB v) W W' := ⟨h.os, h.tape, h.output, h.size, fun k hk hn => h.block k hk fun e => hn e.symm⟩
theorem OwnIs.lt {base : Nat} {e : TypeId} {l : List UInt8} {v : Value} {W : World} (h : OwnIs base e l v W) {b : Nat} (hb : OwnB v b) : base ≤ b ∧ b < W.heap.size := World.ownsRow.lt h b hb
/-- A block of another type is no row of one's own. -/
theorem OwnIs.apart {base q : Nat} {e t : TypeId} {l : List UInt8} {v : Value} {W : World} {cs : List Value} (h : OwnIs base e l v W) (hq : Blk W q cs t) (ht : t ≠ e) : ¬ OwnB v q := by
  rcases h.2 with ⟨rfl, _⟩ | ⟨g, cap, cur, rfl, _, hg, _⟩
  · intro hb; cases hb
  · intro hb
    obtain rfl : g = q := by simpa [OwnB, Value.ownBlock] using hb
    unfold Blk at hq
    rw [hg] at hq
    cases hq
    exact ht rfl
theorem OwnIs.later' {base : Nat} {e : TypeId} {l : List UInt8} : ∀ v W W', OwnIs base e l v W → Below W.heap.size W W' → OwnIs base e l v W' := fun _ _ _ h hb => ownsRow_ext h hb
theorem givesK_append {P : Program} {o : Oper} {a : Act} {W : World} {s x : Operand} {t e : TypeId} {base m c : Nat} {v : Value} {l y : List UInt8} {T : Nat → Prop} {ax : Option Addr} (ho : o.op = .call { callee := .builtin .append, args := #[s, x], argTypes := #[t, t] }) (E : Elem1 P t e 1)
    (hs : a.eval s = v) (hx : a.eval x = .slice ax m c) (hown : OwnIs base e l v W) (hy : BytesS W T ax m c y) (hlen : l.length + m ≤ 140737488355328) (hbase : base ≤ W.heap.size) : GivesK P (OnlyS (OwnB v)) o a W (OwnIs base e (l ++ y)) := by
  obtain ⟨v', w', hr, h2, h3⟩ := run_append_rowS (P := P) E o.type base v l.length (u8s l) hown T ax m c (u8s y) hy.cells (u8s_one y) hy.at_.hnil (by unfold maxLen; omega) (by omega) hbase
  unfold GivesK
  rw [run_append_op ho hs hx hr]
  refine ⟨OwnB.of_grown h3, ?_⟩
  unfold OwnIs
  rw [u8s_append, List.length_append, hy.at_.hlen]
  exact h2
theorem wpList_append_bytes {P : Program} {ops : Array Oper} {Q : Exit → Act → World → Prop} {rest : List Oper} {o : Oper} {a : Act} {W : World} (hgd : o.guard = none) {s x : Operand} {t e : TypeId} {base m c : Nat} {v : Value} {l y : List UInt8} {T : Nat → Prop} {ax : Option Addr} (ho : o.op = .call { callee := .builtin .append, args := #[s, x], argTypes := #[t, t] }) (E : Elem1 P t e 1)
    (hs : a.eval s = v) (hx : a.eval x = .slice ax m c) (hown : OwnIs base e l v W) (hy : BytesS W T ax m c y) (hlen : l.length + m ≤ 140737488355328) (hbase : base ≤ W.heap.size)
    (h : ∀ v' w', OwnIs base e (l ++ y) v' w' → Grew base e W w' → wpList P ops Q rest (a.put o.dst v') w') : wpList P ops Q (o :: rest) a W := by
  refine wpList_append_rowS hgd s x t ho E base v l.length (u8s l) hs hown T ax m c (u8s y) hx hy.cells (u8s_one y) hy.at_.hnil (by unfold maxLen; omega) (by omega) hbase fun v' w' h1 h2 => h v' w' ?_ (Grew.of_own hown h2)
  unfold OwnIs
  rw [u8s_append, List.length_append, hy.at_.hlen]
  exact h1
/-- A literal row of one byte, new since B. -/
theorem row_one {B : Nat} {W : World} {t : TypeId} (b : UInt8) (hB : B ≤ W.heap.size) : Below W.heap.size W (W.alloc (.cells #[.int .u8 (b.toNat : Int)] t)) ∧ RowV B [b] (.slice (some ⟨W.heap.size, 0, none⟩) 1 1) (W.alloc (.cells #[.int .u8 (b.toNat : Int)] t)) := by
  refine ⟨(Below.refl _ _).alloc (Nat.le_refl _) _, _, _, _, rfl, BytesS.of_cells ?_ (Nat.le_refl _) (by unfold maxLen; omega) (by omega) (fun h => by cases h)⟩
  exact cells_one (g := W.heap.size) hB (by simp) ((Blk.new W [.int .u8 (b.toNat : Int)] t).cell 0 rfl)
theorem RowV.onlyB {B : Nat} {x : List UInt8} {v0 : Value} (hv : ∀ b, OwnB v0 b → b < B) : ∀ v W W', RowV B x v W → OnlyS (OwnB v0) W W' → RowV B x v W' := fun _ _ _ ⟨a, n, c, h1, h2⟩ hk => ⟨a, n, c, h1, h2.onlyS hk fun b hb e => by have := hv b e; omega⟩
theorem blk_bytes {W : World} {p n : Nat} {l : List UInt8} {t : TypeId} (h : Blk W p (u8s l) t) (hn : l.length = n) (hn2 : n ≤ 1000000) : BytesS W (fun b => b = p) (some ⟨p, 0, none⟩) n n l :=
  ⟨⟨hn, Nat.le_refl _, by unfold maxLen; omega, by omega, fun k x hx => ⟨p, 0, rfl, h.lt, by rw [Nat.zero_add, h.cells]; exact u8s_get hx⟩, fun e => by cases e⟩, fun k x hx => ⟨p, 0, rfl, rfl⟩⟩
end Go.Dav
