/-
  Layer 11: Get, its parts: in plain; an append of which one knows where it lies, in a round.
-/
import Derived.Test.YtafigbomcgncnaaFrD
import Derived.Test.YtafigbomcgncnaaFrE
import Derived.Test.YtafigbomcgncnaaFreeIn
namespace Go.Dav
set_option linter.unusedVariables false
set_option linter.unusedSimpArgs false
open Go Go.RowKit
theorem wpListIn_append_lies {Fn : Fence} {n0 : Nat} {P : Program} {W : World} {ops : Array Oper} {rest : List Oper} {o : Oper} {a : Act} {Q : Exit → Act → World → Prop} (hgd : o.guard = none) (s x : Operand) (t : TypeId) (ho : o.op = .call { callee := .builtin .append, args := #[s, x], argTypes := #[t, t] }) {e bytes : Nat} (E : Elem1 P t e bytes) (base : Nat) (v : Value) (n : Nat) (xs : List Value) (hs : a.eval s = v) (hown : W.ownsRow base e 1 v n xs)
    (ad : Addr) (m c : Nat) (ys : List Value) (hx : a.eval x = .slice (some ad) m c) (hl : ys.length = m) (hy : ∀ j u, ys[j]? = some u → W.cell? (ad.add j) = some u)
    (h1 : ∀ u ∈ ys, u.oneCell' = true) (hm : 0 < m) (h63 : n + m ≤ maxLen) (hbytes : (n + m) * bytes ≤ 140737488355328) (hbase : base ≤ W.heap.size)
    (h : ∀ g cap w', w'.ownsRow base e 1 (.slice (some ⟨g, 0, none⟩) (n + m) cap) (n + m) (xs ++ ys) → W.grownBy w' v.ownBlock → (v.ownBlock = some g ∨ g = W.heap.size) → g < w'.heap.size → wpListIn Fn n0 P ops Q rest (a.put o.dst (.slice (some ⟨g, 0, none⟩) (n + m) cap)) w') : wpListIn Fn n0 P ops Q (o :: rest) a W := by
  refine wpListIn_plain hgd fun K hK => ?_
  obtain ⟨hu, i, z, hi, hz, hsz, hby, hzc⟩ := E
  obtain ⟨g, cap, w', hr, h2, h3, h4, h5⟩ := run_append_lies (P := P) W t o.type base e i z 1 bytes hu hi hz hsz hby hzc (by omega) v n xs hown ad m c ys (by omega) hy h1 hm h63 hbytes hbase _ rfl
  unfold Oper.wpIn
  refine ⟨?_, ?_⟩
  · simp [Oper.about, ho, resolve, Target.leads, Sem.run_pure]
  · rw [Oper.semAt_plain Fn _ _ (by rw [ho]; intro c hc'; cases hc')]
    simp [execOp, ho, resolve, invoke, builtin, hs, hx, hr, Result.andThen]
    exact hK _ _ (h g cap w' h2 h3 h4 h5)
/-- The size that two bytes say. -/
def szOf : List UInt8 → Nat
  | a :: b :: _ => a.toNat * 256 + b.toNat
  | _ => 0
theorem szOf_lt (l : List UInt8) : szOf l ≤ 65535 := by
  unfold szOf
  split
  · rename_i a b _; have := a.toNat_lt; have := b.toNat_lt; omega
  · omega
theorem szOf_append {l : List UInt8} (h : 2 ≤ l.length) (m : List UInt8) : szOf (l ++ m) = szOf l := by
  match l, h with
  | a :: b :: r, _ => rfl
theorem szOf_get {l : List UInt8} {a b : UInt8} (ha : l[0]? = some a) (hb : l[1]? = some b) : szOf l = a.toNat * 256 + b.toNat := by
  match l, ha, hb with
  | _ :: _ :: _, ha, hb => cases ha; cases hb; rfl
def mayBe (n : Nat) : Prop := 1 ≤ n ∧ n ≤ 4096
instance (n : Nat) : Decidable (mayBe n) := by unfold mayBe; infer_instance
/-- Get goes on behind these bytes; it wants so many. -/
def Alive (l : List UInt8) (want : Nat) : Prop := (l.length < 6 ∧ want = 6) ∨ (6 ≤ l.length ∧ mayBe (szOf l) ∧ want = 6 + szOf l ∧ l.length < want)
/-- .. and stops there. -/
def Halted (l : List UInt8) (want : Nat) : Prop := 6 ≤ l.length ∧ want = 6 + szOf l ∧ ((l.length = 6 ∧ ¬ mayBe (szOf l)) ∨ (l.length = want ∧ mayBe (szOf l)))
theorem Alive.nil_ : Alive [] 6 := .inl ⟨by simp, rfl⟩
theorem Alive.len {l : List UInt8} {want : Nat} (h : Alive l want) : l.length ≤ 4102 := by
  rcases h with h | ⟨_, h2, h3, h4⟩
  · omega
  · have := h2.2; omega
/-- What Get finds among the bytes behind a place. -/
def frameOf (T : List (Nat × UInt8)) : Option (List UInt8 × Nat) :=
  if 6 < T.length ∧ mayBe (szOf (T.map (·.2))) ∧ 6 + szOf (T.map (·.2)) ≤ T.length ∧ outOf (((T.map (·.2)).drop 6).take (szOf (T.map (·.2)))) = (T.map (·.2)).take (6 + szOf (T.map (·.2))) then
    some (((T.map (·.2)).drop 6).take (szOf (T.map (·.2))), (T[5 + szOf (T.map (·.2))]?.map fun x => x.1 + 1).getD 0)
  else none
end Go.Dav
