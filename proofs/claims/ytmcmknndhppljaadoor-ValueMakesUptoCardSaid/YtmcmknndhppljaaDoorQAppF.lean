/-
  append to an empty literal row, from whatever slice of elements of several cells.
-/
import Derived.Test.YtmcmknndhppljaaDoorVbD
namespace Go.Dav
set_option linter.unusedVariables false
set_option linter.unusedSimpArgs false
open Go Go.RowKit
theorem FlatAt.from_ {W : World} {ad : Addr} {xs : List Value} (h : FlatAt W (some ad) xs) : ∀ j u, xs[j]? = some u → W.cell? (ad.add j) = some u := fun j u hj => by
  obtain ⟨b, o, h1, _, h3⟩ := h j u hj
  cases h1
  rw [Addr.add_mid]
  exact h3
section
variable {P : Program} {W : World}
theorem run_append_nilF {t e : TypeId} (ty : TypeId) {i : TypeInfo} {z : Value} {size bytes : Nat} (ht : P.underlying t = some (.slice e)) (hi : P.info? e = some i) (hz : i.zero = some z) (hsize : i.size = size) (hby : i.bytes = bytes) (hzs : z.cells.size = size) (hsz : 0 < size)
    (base g : Nat) (hown : W.ownsRow base e size (.slice (some ⟨g, 0, none⟩) 0 0) 0 []) (ax : Option Addr) (m c : Nat) (xs : List Value) (hat : FlatAt W ax xs) (hl : xs.length = m * size) (h1 : ∀ u ∈ xs, u.oneCell' = true) (hnone : ax = none → c = 0) (hmc : m ≤ c) (h63 : m ≤ maxLen) (hbytes : m * bytes ≤ 140737488355328) (hbase : base ≤ W.heap.size) :
    ∃ v' w', (Builtin.append_ #[t, t] ty #[.slice (some ⟨g, 0, none⟩) 0 0, .slice ax m c]).run P W = .ok v' w' ∧ w'.ownsRow base e size v' m xs ∧ W.grownBy w' (some g) := by
  cases ax with
  | none =>
    have hc := hnone rfl
    have hm : m = 0 := by omega
    subst hc
    subst hm
    have hx : xs = [] := List.length_eq_zero_iff.1 (by omega)
    subst hx
    exact ⟨_, W, run_append_owned_none W base t ty e i size ht hi _ 0 [] hown, hown, World.grownBy.refl _ _⟩
  | some ad =>
    obtain ⟨v', w', r1, r2, r3, _⟩ := run_append_own (P := P) W base t ty e i z size bytes ht hi hz hsize hby hzs hsz _ 0 [] hown ad m c xs hl hat.from_ h1 (by omega) (by rw [Nat.zero_add]; exact hbytes) hbase
    rw [Nat.zero_add, List.nil_append] at r2
    exact ⟨v', w', r1, r2, r3⟩
variable {ops : Array Oper} {rest : List Oper} {o : Oper} {a : Act} {Q : Exit → Act → World → Prop}
theorem wpList_append_nilF (hgd : o.guard = none) (s x : Operand) (t : TypeId) (ho : o.op = .call { callee := .builtin .append, args := #[s, x], argTypes := #[t, t] }) {e : TypeId} {i : TypeInfo} {z : Value} {size bytes : Nat} (ht : P.underlying t = some (.slice e)) (hi : P.info? e = some i) (hz : i.zero = some z) (hsize : i.size = size) (hby : i.bytes = bytes) (hzs : z.cells.size = size) (hsz : 0 < size)
    (base g : Nat) (hs : a.eval s = .slice (some ⟨g, 0, none⟩) 0 0) (hown : W.ownsRow base e size (.slice (some ⟨g, 0, none⟩) 0 0) 0 []) (ax : Option Addr) (m c : Nat) (xs : List Value) (hx : a.eval x = .slice ax m c) (hat : FlatAt W ax xs) (hl : xs.length = m * size) (h1 : ∀ u ∈ xs, u.oneCell' = true) (hnone : ax = none → c = 0) (hmc : m ≤ c) (h63 : m ≤ maxLen) (hbytes : m * bytes ≤ 140737488355328) (hbase : base ≤ W.heap.size)
    (h : ∀ v' w', w'.ownsRow base e size v' m xs → W.grownBy w' (some g) → wpList P ops Q rest (a.put o.dst v') w') : wpList P ops Q (o :: rest) a W := by
  refine wpList_plain hgd fun K hK => ?_
  obtain ⟨v', w', hr, h2, h3⟩ := run_append_nilF (P := P) o.type ht hi hz hsize hby hzs hsz base g hown ax m c xs hat hl h1 hnone hmc h63 hbytes hbase
  unfold Oper.wp execOp
  simp only [ho, resolve, invoke, builtin, Sem.run_bind, Sem.run_pure, Result.andThen_ok, List.map_toArray, List.map_cons, List.map_nil, hs, hx, hr]
  exact hK _ _ (h v' w' h2 h3)
end
theorem own_nil {W : World} {base size : Nat} {e : TypeId} (hB : base ≤ W.heap.size) : (W.alloc (.cells #[] e)).ownsRow base e size (.slice (some ⟨W.heap.size, 0, none⟩) 0 0) 0 [] :=
  ⟨by simp, .inr ⟨W.heap.size, 0, #[], rfl, hB, heap_alloc_new W _, Nat.le_refl _, by unfold maxLen; omega, by simp, by simp⟩⟩
end Go.Dav
