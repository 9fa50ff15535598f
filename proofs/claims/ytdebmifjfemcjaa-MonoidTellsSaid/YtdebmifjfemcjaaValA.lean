/-
  Layer 4: values, in plain; how they lie in memory.
-/
import Derived.Test.YtdebmifjfemcjaaUtC
namespace Go.Dav
set_option linter.unusedVariables false
set_option linter.unusedSimpArgs false
open Go Go.RowKit
/-- A value whose kids are of K. -/
structure ValF (K : Type) where
  kind : Int
  n : Int
  s : ByteArray
  kids : List K
  keys : List ByteArray
/-- Values of less than so many levels. -/
def ValN : Nat → Type
  | 0 => Unit
  | d + 1 => ValF (ValN d)
def ValN.to {d : Nat} (x : ValN (d + 1)) : ValF (ValN d) := x
/-- Strings, one behind the other. -/
structure StrsAt (W : World) (a : Option Addr) (len cap : Nat) (l : List ByteArray) : Prop where
  hlen : l.length = len
  hcap : len ≤ cap
  hmax : cap ≤ maxLen
  hfew : len ≤ 140737488355328
  hat : ∀ k s, l[k]? = some s → ∃ b o, a = some ⟨b, o, none⟩ ∧ b < W.heap.size ∧ W.cell? ⟨b, o + k, none⟩ = some (.string s)
  hnil : a = none → cap = 0
  hsz : ∀ s ∈ l, s.size ≤ 17592186044416
theorem StrsAt.ext {W W' : World} {a : Option Addr} {len cap : Nat} {l : List ByteArray} (h : StrsAt W a len cap l) (hb : Below W.heap.size W W') : StrsAt W' a len cap l :=
  ⟨h.hlen, h.hcap, h.hmax, h.hfew, fun k x hk => by
    obtain ⟨b, o, h1, h2, h3⟩ := h.hat k x hk
    exact ⟨b, o, h1, Nat.lt_of_lt_of_le h2 hb.size, by rw [hb.cell (p := ⟨b, o + k, none⟩) h2]; exact h3⟩, h.hnil, h.hsz⟩
theorem StrsAt.nil_ {W : World} : StrsAt W none 0 0 [] := ⟨rfl, Nat.le_refl _, by unfold maxLen; omega, by omega, fun k x hk => by simp at hk, fun _ => rfl, fun s h => by simp at h⟩
/-- A value, as it lies. -/
structure ValIs (W : World) {K : Type} (R : Value → K → Prop) (v : Value) (x : ValF K) (ka : Option Addr) (kl kc : Nat) (qa : Option Addr) (ql qc : Nat) : Prop where
  val : v = .agg #[.int .i64 x.kind, .int .i64 x.n, .string x.s, .slice ka kl kc, .slice qa ql qc]
  hk : I64' x.kind
  hn : I64' x.n
  hs : x.s.size ≤ 17592186044416
  hlen : x.kids.length = kl
  hcap : kl ≤ kc
  hmax : kc ≤ maxLen
  hfew : kl ≤ 140737488355328
  hnil : ka = none → kc = 0
  hkid : ∀ i y, x.kids[i]? = some y → ∃ b o u0 u1 u2 u3 u4, ka = some ⟨b, o, none⟩ ∧ b < W.heap.size ∧ W.cell? ⟨b, o + i * 5, none⟩ = some u0 ∧ W.cell? ⟨b, o + i * 5 + 1, none⟩ = some u1 ∧ W.cell? ⟨b, o + i * 5 + 2, none⟩ = some u2 ∧ W.cell? ⟨b, o + i * 5 + 3, none⟩ = some u3 ∧ W.cell? ⟨b, o + i * 5 + 4, none⟩ = some u4 ∧ R (.agg #[u0, u1, u2, u3, u4]) y
  keys : StrsAt W qa ql qc x.keys
def ValAt (W : World) : (d : Nat) → Value → ValN d → Prop
  | 0, _, _ => False
  | d + 1, v, x => ∃ ka kl kc qa ql qc, ValIs W (ValAt W d) v x.to ka kl kc qa ql qc
theorem ValIs.ext {W W' : World} {K : Type} {R R' : Value → K → Prop} {v : Value} {x : ValF K} {ka qa : Option Addr} {kl kc ql qc : Nat} (h : ValIs W R v x ka kl kc qa ql qc) (hb : Below W.heap.size W W') (hR : ∀ v y, R v y → R' v y) : ValIs W' R' v x ka kl kc qa ql qc :=
  ⟨h.val, h.hk, h.hn, h.hs, h.hlen, h.hcap, h.hmax, h.hfew, h.hnil, fun i y hy => by
    obtain ⟨b, o, u0, u1, u2, u3, u4, h1, h2, c0, c1, c2, c3, c4, hv⟩ := h.hkid i y hy
    have hc := fun j => hb.cell (p := ⟨b, j, none⟩) h2
    exact ⟨b, o, u0, u1, u2, u3, u4, h1, Nat.lt_of_lt_of_le h2 hb.size, (hc _).trans c0, (hc _).trans c1, (hc _).trans c2, (hc _).trans c3, (hc _).trans c4, hR _ _ hv⟩, h.keys.ext hb⟩
theorem ValAt.ext {W W' : World} (hb : Below W.heap.size W W') : ∀ (d : Nat) {v : Value} {x : ValN d}, ValAt W d v x → ValAt W' d v x
  | 0, _, _, h => h
  | d + 1, _, _, ⟨ka, kl, kc, qa, ql, qc, h⟩ => ⟨ka, kl, kc, qa, ql, qc, h.ext hb fun _ _ => ValAt.ext hb d⟩
/-- Do these keys rise, up to the i-th? -/
def keysTo (l : List ByteArray) (i : Nat) : Bool := (List.range i).all fun j => validB (l.getD j default).data.toList && (decide (j = 0) || Op.bytesLess (l.getD (j - 1) default).toList (l.getD j default).toList)
theorem keysTo_zero (l : List ByteArray) : keysTo l 0 = true := rfl
theorem keysTo_succ (l : List ByteArray) (i : Nat) : keysTo l (i + 1) = (keysTo l i && (validB (l.getD i default).data.toList && (decide (i = 0) || Op.bytesLess (l.getD (i - 1) default).toList (l.getD i default).toList))) := by
  unfold keysTo; rw [List.range_succ, List.all_append]; simp
theorem keysTo_mono {l : List ByteArray} {i j : Nat} (h : keysTo l j = true) (hij : i ≤ j) : keysTo l i = true := by
  unfold keysTo at *
  rw [List.all_eq_true] at *
  intro k hk
  exact h k (by simp at *; omega)
def strEmpty (s : ByteArray) : Bool := s.toList == []
/-- Is a value one of its kind, whatever its kids are? -/
def aloneB {K : Type} (x : ValF K) : Bool :=
  keysTo x.keys x.keys.length &&
  (if x.kind = 1 then decide (x.n = 0) && (strEmpty x.s && (decide (x.kids.length = 0) && decide (x.keys.length = 0)))
   else if x.kind = 2 then (decide (x.n = 0) || decide (x.n = 1)) && (strEmpty x.s && (decide (x.kids.length = 0) && decide (x.keys.length = 0)))
   else if x.kind = 3 then strEmpty x.s && (decide (x.kids.length = 0) && decide (x.keys.length = 0))
   else if x.kind = 4 then decide (x.n = 0) && (validB x.s.data.toList && (decide (x.kids.length = 0) && decide (x.keys.length = 0)))
   else if x.kind = 5 then decide (x.n = 0) && (strEmpty x.s && decide (x.keys.length = 0))
   else if x.kind = 6 then decide (x.n = 0) && (strEmpty x.s && decide (x.kids.length = x.keys.length))
   else false)
/-- .. over some kids, one behind the other. -/
def withinL {K : Type} (f : K → Nat → Int → Nat) (L : Nat) (m : Int) : List K → Nat → Nat
  | [], n => n
  | y :: ys, n => if f y L (m - n) = 0 then 0 else withinL f L m ys (n + f y L (m - n))
/-- How many nodes a value has, if it is right within so many levels and nodes; 0: it is not. -/
def withinV : (d : Nat) → ValN d → Nat → Int → Nat
  | 0, _, _, _ => 0
  | d + 1, x, L, m => if m < 1 ∨ aloneB x.to = false ∨ (5 ≤ x.to.kind ∧ L = 0) then 0 else withinL (withinV d) (L - 1) m x.to.kids 1
/-- Is a value, and all that is within it, one of its kind? -/
def goodV : (d : Nat) → ValN d → Bool
  | 0, _ => false
  | d + 1, x => aloneB x.to && x.to.kids.all (goodV d)
def oneL {K J : Type} (f : K → J → Bool) (k : Int) : List K → List J → List ByteArray → List ByteArray → Bool
  | x :: xs, y :: ys, ks, js => ((!decide (k = 6)) || (ks.headD default).toList == (js.headD default).toList) && (f x y && oneL f k xs ys ks.tail js.tail)
  | _, _, _, _ => true
/-- Are two right values one? -/
def oneV : (d e : Nat) → ValN d → ValN e → Bool
  | d + 1, e + 1, x, y => decide (x.to.kind = y.to.kind) && (decide (x.to.n = y.to.n) && (x.to.s.toList == y.to.s.toList && (decide (x.to.kids.length = y.to.kids.length) && oneL (oneV d e) x.to.kind x.to.kids y.to.kids x.to.keys y.to.keys)))
  | 0, _, _, _ => false
  | _ + 1, 0, _, _ => false
def rightV (d : Nat) (x : ValN d) : Bool := decide (0 < withinV d x 8 256)
def zeroF {K : Type} (x : ValF K) : Bool := decide (x.kind = 0) && (decide (x.n = 0) && (strEmpty x.s && (decide (x.kids.length = 0) && decide (x.keys.length = 0))))
def sameV (d e : Nat) (x : ValN d) (y : ValN e) : Bool := rightV d x && (rightV e y && oneV d e x y)
end Go.Dav
