/-
  How a row that lists the variable utf.none is opened; slices of numbers as arguments.
  Layer 4: values, in plain; how they lie in memory.
  How the statements' arguments are opened: JSON values, keys; in the form with a bound.
  Only some blocks are written.
  Pairs in a row: how they lie, how they are put; sorting, in plain.
  append(s, make([]T, k)...): k zeros onto a row of the call's own, and onto a slice that is full.
  A slice that is full, or a row of the call's own: append of zeros and of bytes; the walk of a drawn region operation by operation.
  Two pairs of a row change places: the operations of such a region, one at a time.
  A region that draws its order, in which some operations (a part of a tuple, a copy) may also come after the stores at its end.
-/
import Derived.Test.YtmcmknndhppljaaDoorVbB
import Derived.LaidLaws
import Derived.Deep.DeepHandedRow
import Derived.Lib.LaidTab
import Derived.ChangeSlices
import Derived.Lib.SmallJoins
import Derived.WalkKit
import Derived.ProofKit
import Derived.OpenShut
import Derived.Test.YtmcmknndhppljaaDoorRows
import Derived.Deep.Slices
import Derived.Deep.Fields
import Derived.ChangeSame
import Derived.Test.YtmcmknndhppljaaDoorVbA
import Derived.Sort.Walk0
import Derived.Lib.AppendZerosOnto
import Derived.RegionTactic
namespace Go.Dav
set_option linter.unusedVariables false
set_option linter.unusedSimpArgs false
open Go Go.Joins Go.ChangeShapes Go.WideShapes Go.RowKit
theorem two_fields {H : Type} {enc : TypeId × Value → H} {P : Program} {W : World} {t i : TypeId} {f0 f1 : Field} {base fuel : Nat} {sp : Nat → Bool} {held : Bool} {cs : List Value} {p : List MemPlace} (ht : P.underlying t = some (.struct #[f0, f1])) (h0 : f0.type = i ∧ f0.offset = 0) (h1 : f1.type = i ∧ f1.offset = 1) (hC : P.cellsOf t = 2) (hc : P.cellsOf i = 1) (hi : P.underlying i = some (.int .i64)) {x y : Int}
    (h : DataW.trod enc P W base sp held fuel t cs = some (.agg [.lit (.int .i64 x), .lit (.int .i64 y)], p)) : cs = [.int .i64 x, .int .i64 y] := by
  obtain ⟨xs, n, _, hx, hl, hlen, hg⟩ := DataW.trod_struct ht h
  rw [hC] at hl
  match cs, hl with
  | [c0, c1], _ =>
    match xs, hlen with
    | [y0, y1], _ =>
      simp only [Prod.mk.injEq, List.map_cons, List.map_nil, DataW.agg.injEq, List.cons.injEq, and_true] at hx
      have g0 := hg 0 f0 rfl
      have g1 := hg 1 f1 rfl
      rw [h0.1, h0.2, hc] at g0
      rw [h1.1, h1.2, hc] at g1
      obtain ⟨m0, e0, x0, _⟩ := DataW.trod_int hi (g0.trans rfl)
      obtain ⟨m1, e1, x1, _⟩ := DataW.trod_int hi (g1.trans rfl)
      simp only [List.drop_zero, List.take_succ_cons, List.take_zero, List.drop_succ_cons, List.cons.injEq, and_true] at e0 e1
      rw [x0] at hx
      rw [x1] at hx
      simp only [DataW.lit.injEq, Lit.int.injEq, true_and] at hx
      rw [e0, e1, hx.1.1, hx.1.2]
end Go.Dav
namespace Go.Proofs.YtmcmknndhppljaaDoor
set_option linter.unusedVariables false
set_option linter.unusedSimpArgs false
open Go Go.Joins Go.ChangeShapes Go.WideShapes Go.RowKit Go.Dav
theorem Tryd_gNone : Tryd.prog.globalNamed "davenport/utf.none" = some 0 := by kernel_rfl
theorem Tryd_gNoneType : (Tryd.prog.globals[0]?).map (·.type) = some 143 := by kernel_rfl
theorem Tryd_glob_none {W : World} (h : laidMetH Tryd.prog [("davenport/utf.none", .agg [.lit (.int .i64 0), .lit (.int .i64 0)])] W) : GlobAt W 0 [.int .i64 0, .int .i64 0] 143 := by
  have h' : laidMet Tryd.prog [("davenport/utf.none", .agg [.lit (.int .i64 0), .lit (.int .i64 0)])] W := h
  obtain ⟨ps, ⟨g', t', cs, fuel, p, q, hg', ht', hvar, hd, _, _⟩, _⟩ := h'
  obtain rfl := Option.some.inj (Tryd_gNone.symm.trans hg')
  obtain rfl := Option.some.inj (Tryd_gNoneType.symm.trans ht')
  have e := two_fields Tryd.underlying143 ⟨rfl, rfl⟩ ⟨rfl, rfl⟩ (by kernel_rfl) (by kernel_rfl) Tryd.underlying3 hd
  unfold World.var? at hvar
  rw [Tryd_gNone, Option.bind_some] at hvar
  split at hvar
  · rename_i c u fr hh
    cases hvar
    refine ⟨u, fr, ?_⟩
    rw [hh, ← e]
  · cases hvar
section
variable {H : Type} {enc : TypeId × Value → H} {w : World} {base : Nat} {spare : Nat → Bool} {held : Bool}
end
end Go.Proofs.YtmcmknndhppljaaDoor

namespace Go.Dav
set_option linter.unusedVariables false
set_option linter.unusedSimpArgs false
open Go Go.RowKit
/-- A value whose kids are of K. -/
structure ValF (K : Type) where
  kind : Int
  n : Int
  s : ByteArray
  kids : List K
  keys : List ByteArray
/-- Values of less than so many levels. -/
def ValN : Nat → Type
  | 0 => Unit
  | d + 1 => ValF (ValN d)
def ValN.to {d : Nat} (x : ValN (d + 1)) : ValF (ValN d) := x
/-- Strings, one behind the other. -/
structure StrsAt (W : World) (a : Option Addr) (len cap : Nat) (l : List ByteArray) : Prop where
  hlen : l.length = len
  hcap : len ≤ cap
  hmax : cap ≤ maxLen
  hfew : len ≤ 140737488355328
  hat : ∀ k s, l[k]? = some s → ∃ b o, a = some ⟨b, o, none⟩ ∧ b < W.heap.size ∧ W.cell? ⟨b, o + k, none⟩ = some (.string s)
  hnil : a = none → cap = 0
  hsz : ∀ s ∈ l, s.size ≤ 17592186044416
theorem StrsAt.ext {W W' : World} {a : Option Addr} {len cap : Nat} {l : List ByteArray} (h : StrsAt W a len cap l) (hb : Below W.heap.size W W') : StrsAt W' a len cap l :=
  ⟨h.hlen, h.hcap, h.hmax, h.hfew, fun k x hk => by
    obtain ⟨b, o, h1, h2, h3⟩ := h.hat k x hk
    exact ⟨b, o, h1, Nat.lt_of_lt_of_le h2 hb.size, by rw [hb.cell (p := ⟨b, o + k, none⟩) h2]; exact h3⟩, h.hnil, h.hsz⟩
theorem StrsAt.nil_ {W : World} : StrsAt W none 0 0 [] := ⟨rfl, Nat.le_refl _, by unfold maxLen; omega, by omega, fun k x hk => by simp at hk, fun _ => rfl, fun s h => by simp at h⟩
/-- A value, as it lies. -/
structure ValIs (W : World) {K : Type} (R : Value → K → Prop) (v : Value) (x : ValF K) (ka : Option Addr) (kl kc : Nat) (qa : Option Addr) (ql qc : Nat) : Prop where
  val : v = .agg #[.int .i64 x.kind, .int .i64 x.n, .string x.s, .slice ka kl kc, .slice qa ql qc]
  hk : I64' x.kind
  hn : I64' x.n
  hs : x.s.size ≤ 17592186044416
  hlen : x.kids.length = kl
  hcap : kl ≤ kc
  hmax : kc ≤ maxLen
  hfew : kl ≤ 140737488355328
  hnil : ka = none → kc = 0
  hkid : ∀ i y, x.kids[i]? = some y → ∃ b o u0 u1 u2 u3 u4, ka = some ⟨b, o, none⟩ ∧ b < W.heap.size ∧ W.cell? ⟨b, o + i * 5, none⟩ = some u0 ∧ W.cell? ⟨b, o + i * 5 + 1, none⟩ = some u1 ∧ W.cell? ⟨b, o + i * 5 + 2, none⟩ = some u2 ∧ W.cell? ⟨b, o + i * 5 + 3, none⟩ = some u3 ∧ W.cell? ⟨b, o + i * 5 + 4, none⟩ = some u4 ∧ R (.agg #[u0, u1, u2, u3, u4]) y
  keys : StrsAt W qa ql qc x.keys
def ValAt (W : World) : (d : Nat) → Value → ValN d → Prop
  | 0, _, _ => False
  | d + 1, v, x => ∃ ka kl kc qa ql qc, ValIs W (ValAt W d) v x.to ka kl kc qa ql qc
theorem ValIs.ext {W W' : World} {K : Type} {R R' : Value → K → Prop} {v : Value} {x : ValF K} {ka qa : Option Addr} {kl kc ql qc : Nat} (h : ValIs W R v x ka kl kc qa ql qc) (hb : Below W.heap.size W W') (hR : ∀ v y, R v y → R' v y) : ValIs W' R' v x ka kl kc qa ql qc :=
  ⟨h.val, h.hk, h.hn, h.hs, h.hlen, h.hcap, h.hmax, h.hfew, h.hnil, fun i y hy => by
    obtain ⟨b, o, u0, u1, u2, u3, u4, h1, h2, c0, c1, c2, c3, c4, hv⟩ := h.hkid i y hy
    have hc := fun j => hb.cell (p := ⟨b, j, none⟩) h2
    exact ⟨b, o, u0, u1, u2, u3, u4, h1, Nat.lt_of_lt_of_le h2 hb.size, (hc _).trans c0, (hc _).trans c1, (hc _).trans c2, (hc _).trans c3, (hc _).trans c4, hR _ _ hv⟩, h.keys.ext hb⟩
theorem ValAt.ext {W W' : World} (hb : Below W.heap.size W W') : ∀ (d : Nat) {v : Value} {x : ValN d}, ValAt W d v x → ValAt W' d v x
  | 0, _, _, h => h
  | d + 1, _, _, ⟨ka, kl, kc, qa, ql, qc, h⟩ => ⟨ka, kl, kc, qa, ql, qc, h.ext hb fun _ _ => ValAt.ext hb d⟩
/-- Do these keys rise, up to the i-th? -/
def keysTo (l : List ByteArray) (i : Nat) : Bool := (List.range i).all fun j => validB (l.getD j default).data.toList && (decide (j = 0) || Op.bytesLess (l.getD (j - 1) default).toList (l.getD j default).toList)
theorem keysTo_zero (l : List ByteArray) : keysTo l 0 = true := rfl
theorem keysTo_succ (l : List ByteArray) (i : Nat) : keysTo l (i + 1) = (keysTo l i && (validB (l.getD i default).data.toList && (decide (i = 0) || Op.bytesLess (l.getD (i - 1) default).toList (l.getD i default).toList))) := by
  unfold keysTo; rw [List.range_succ, List.all_append]; simp
theorem keysTo_mono {l : List ByteArray} {i j : Nat} (h : keysTo l j = true) (hij : i ≤ j) : keysTo l i = true := by
  unfold keysTo at *
  rw [List.all_eq_true] at *
  intro k hk
  exact h k (by simp at *; omega)
def strEmpty (s : ByteArray) : Bool := s.toList == []
/-- Is a value one of its kind, whatever its kids are? -/
def aloneB {K : Type} (x : ValF K) : Bool :=
  keysTo x.keys x.keys.length &&
  (if x.kind = 1 then decide (x.n = 0) && (strEmpty x.s && (decide (x.kids.length = 0) && decide (x.keys.length = 0)))
   else if x.kind = 2 then (decide (x.n = 0) || decide (x.n = 1)) && (strEmpty x.s && (decide (x.kids.length = 0) && decide (x.keys.length = 0)))
   else if x.kind = 3 then strEmpty x.s && (decide (x.kids.length = 0) && decide (x.keys.length = 0))
   else if x.kind = 4 then decide (x.n = 0) && (validB x.s.data.toList && (decide (x.kids.length = 0) && decide (x.keys.length = 0)))
   else if x.kind = 5 then decide (x.n = 0) && (strEmpty x.s && decide (x.keys.length = 0))
   else if x.kind = 6 then decide (x.n = 0) && (strEmpty x.s && decide (x.kids.length = x.keys.length))
   else false)
/-- .. over some kids, one behind the other. -/
def withinL {K : Type} (f : K → Nat → Int → Nat) (L : Nat) (m : Int) : List K → Nat → Nat
  | [], n => n
  | y :: ys, n => if f y L (m - n) = 0 then 0 else withinL f L m ys (n + f y L (m - n))
/-- How many nodes a value has, if it is right within so many levels and nodes; 0: it is not. -/
def withinV : (d : Nat) → ValN d → Nat → Int → Nat
  | 0, _, _, _ => 0
  | d + 1, x, L, m => if m < 1 ∨ aloneB x.to = false ∨ (5 ≤ x.to.kind ∧ L = 0) then 0 else withinL (withinV d) (L - 1) m x.to.kids 1
/-- Is a value, and all that is within it, one of its kind? -/
def goodV : (d : Nat) → ValN d → Bool
  | 0, _ => false
  | d + 1, x => aloneB x.to && x.to.kids.all (goodV d)
def oneL {K J : Type} (f : K → J → Bool) (k : Int) : List K → List J → List ByteArray → List ByteArray → Bool
  | x :: xs, y :: ys, ks, js => ((!decide (k = 6)) || (ks.headD default).toList == (js.headD default).toList) && (f x y && oneL f k xs ys ks.tail js.tail)
  | _, _, _, _ => true
/-- Are two right values one? -/
def oneV : (d e : Nat) → ValN d → ValN e → Bool
  | d + 1, e + 1, x, y => decide (x.to.kind = y.to.kind) && (decide (x.to.n = y.to.n) && (x.to.s.toList == y.to.s.toList && (decide (x.to.kids.length = y.to.kids.length) && oneL (oneV d e) x.to.kind x.to.kids y.to.kids x.to.keys y.to.keys)))
  | 0, _, _, _ => false
  | _ + 1, 0, _, _ => false
def rightV (d : Nat) (x : ValN d) : Bool := decide (0 < withinV d x 8 256)
def zeroF {K : Type} (x : ValF K) : Bool := decide (x.kind = 0) && (decide (x.n = 0) && (strEmpty x.s && (decide (x.kids.length = 0) && decide (x.keys.length = 0))))
def sameV (d e : Nat) (x : ValN d) (y : ValN e) : Bool := rightV d x && (rightV e y && oneV d e x y)
end Go.Dav

namespace Go.Proofs.YtmcmknndhppljaaDoor
set_option linter.unusedVariables false
set_option linter.unusedSimpArgs false
open Go.ChangeShapes Go.WideShapes Go.ChangeAt Go.RowKit Go.Joins Go.Dav Go.Deep

theorem Tryd_i64_wf {x : Int} (h : (Lit.int .i64 x).wf = true) : I64' x := by
  have := bounds_i64 h
  unfold I64'
  omega
theorem Tryd_listOfV {α : Type} {p : Nat → α → Prop} : ∀ (n : Nat), (∀ i, i < n → ∃ x, p i x) → ∃ l : List α, l.length = n ∧ ∀ i x, l[i]? = some x → p i x
  | 0, _ => ⟨[], rfl, fun i x h => by simp at h⟩
  | n + 1, h => by
    obtain ⟨l, hl, hp⟩ := Tryd_listOfV (p := p) n (fun i hi => h i (by omega))
    obtain ⟨x, hx⟩ := h n (by omega)
    refine ⟨l ++ [x], by simp [hl], fun i y hy => ?_⟩
    by_cases hi : i < l.length
    · rw [List.getElem?_append_left hi] at hy; exact hp i y hy
    · rw [List.getElem?_append_right (by omega)] at hy
      have : i - l.length = 0 := by
        have := (List.getElem?_eq_some_iff.1 hy).1
        simp at this; omega
      rw [this] at hy
      simp at hy
      subst hy
      rw [show i = n by omega]; exact hx

section
variable {H : Type} {enc : TypeId × Value → H} {w : World} {base : Nat} {spare : Nat → Bool} {held : Bool}

theorem Tryd_bulk_one (d : DataW H) : 1 ≤ Rows.uptoBulk d := by
  cases d with
  | lit l => cases l <;> simp [Rows.uptoBulk]
  | nil => simp [Rows.uptoBulk]
  | ptr d => simp [Rows.uptoBulk]
  | slice elems spare => simp [Rows.uptoBulk]
  | agg parts => simp [Rows.uptoBulk]
  | iface t d => simp [Rows.uptoBulk]
  | map entries => simp [Rows.uptoBulk]
  | held h => simp [Rows.uptoBulk]
theorem Tryd_bulk_part {d : DataW H} {l : List (DataW H)} (h : d ∈ l) : Rows.uptoBulk d ≤ Rows.uptoBulkAll l := by
  induction l with
  | nil => cases h
  | cons x r ih =>
    simp only [Rows.uptoBulkAll]
    cases List.mem_cons.1 h with
    | inl e => subst e; omega
    | inr e => have := ih e; omega
theorem Tryd_bulk_len (l : List (DataW H)) : l.length ≤ Rows.uptoBulkAll l := by
  induction l with
  | nil => simp [Rows.uptoBulkAll]
  | cons x r ih => have := Tryd_bulk_one x; simp only [Rows.uptoBulkAll, List.length_cons]; omega

theorem Tryd_str_open {fuel : Nat} {cs : List Value} {y : DataW H × List MemPlace} (h : DataW.trod enc Tryd.prog w base spare held fuel 9 cs = some y) (hb : Rows.uptoBulk y.1 ≤ 1048576) : ∃ s : ByteArray, cs = [.string s] ∧ s.size ≤ 1048576 := by
  obtain ⟨s, h1, h2, _⟩ := DataW.trod_string Tryd.underlying9 h
  rw [h2] at hb
  simp only [Rows.uptoBulk, Array.length_toList] at hb
  exact ⟨s, h1, show s.data.size ≤ 1048576 by omega⟩

set_option maxRecDepth 100000 in
theorem Tryd_keys_open {fuel : Nat} {cs : List Value} {y : DataW H × List MemPlace} (h : DataW.trod enc Tryd.prog w base spare held fuel 37 cs = some y) (hb : Rows.uptoBulk y.1 ≤ 1048576) :
    ∃ (a : Option Addr) (len cap : Nat) (l : List ByteArray), cs = [.slice a len cap] ∧ StrsAt w a len cap l ∧ len ≤ 1048576 := by
  have hC : Tryd.prog.cellsOf 9 = 1 := by kernel_rfl
  rcases open_slice Tryd.underlying37 h with ⟨hc, _⟩ | ⟨a, len, cap, m, n, D, Pl, hc, _, hl, hm, hmm, hx, hi⟩
  · exact ⟨_, _, _, [], hc, StrsAt.nil_, by omega⟩
  · rw [hC] at hi
    obtain ⟨y1, y2⟩ := y
    simp only [Prod.mk.injEq] at hx
    obtain ⟨rfl, _⟩ := hx
    have hlm : len ≤ m := by rw [hmm]; split <;> omega
    simp only [Rows.uptoBulk] at hb
    have hlen0 := Tryd_bulk_len ((List.range len).map D)
    simp only [List.length_map, List.length_range] at hlen0
    have key : ∀ i, i < len → ∃ s : ByteArray, w.cell? (a.add i) = some (.string s) ∧ s.size ≤ 1048576 := by
      intro i hil
      obtain ⟨cs', hcs, ht'⟩ := hi i (by omega)
      have hpart := Tryd_bulk_part (d := D i) (l := (List.range len).map D) (by simp; exact ⟨i, hil, rfl⟩)
      obtain ⟨s, hs1, hs2⟩ := Tryd_str_open ht' (by simp only; omega)
      obtain ⟨_, hcl, hat⟩ := World.cells?_some hcs
      refine ⟨s, ?_, hs2⟩
      have := hat 0 (by omega)
      rw [hs1] at this
      rw [Nat.mul_one] at this
      simpa [Addr.add] using this
    obtain ⟨l, hlen, hl2⟩ := Tryd_listOfV len key
    refine ⟨some a, len, cap, l, hc, ⟨hlen, hl, hm, by omega, fun k s hk => ?_, (fun e => by cases e), fun s hs => ?_⟩, by omega⟩
    · have hcell := (hl2 k s hk).1
      obtain ⟨b, o, sp⟩ := a
      obtain ⟨x0, hx0⟩ : ∃ x0, l[0]? = some x0 := ⟨_, List.getElem?_eq_getElem (by have := (List.getElem?_eq_some_iff.1 hk).1; omega)⟩
      have hcell0 := (hl2 0 x0 hx0).1
      have hsp := World.cell?_spot hcell0
      have hsp : sp = none := by simpa [Addr.add] using hsp
      subst hsp
      have hbl := World.block_lt_of_cell? _ _ hcell0
      exact ⟨b, o, rfl, by simpa [Addr.add] using hbl, by rw [Addr.add_mid] at hcell; exact hcell⟩
    · obtain ⟨k, hk⟩ := List.getElem?_of_mem hs
      have := (hl2 k s hk).2
      omega

set_option maxRecDepth 100000 in
/-- A value: its levels are no more than its bulk. -/
theorem Tryd_value_open : ∀ (n : Nat) {fuel : Nat} {cs : List Value} {y : DataW H × List MemPlace}, DataW.trod enc Tryd.prog w base spare held fuel 39 cs = some y → Rows.uptoBulk y.1 ≤ n → n ≤ 1048576 →
    ∃ x : ValN n, ValAt w n (.agg cs.toArray) x
  | 0, _, _, y, _, hb, _ => by have := Tryd_bulk_one y.1; omega
  | n + 1, fuel, cs, y, h, hb, hn => by
    have hC : Tryd.prog.cellsOf 39 = 5 := by kernel_rfl
    have hC1 : Tryd.prog.cellsOf 3 = 1 := by kernel_rfl
    have hC2 : Tryd.prog.cellsOf 2 = 1 := by kernel_rfl
    have hC3 : Tryd.prog.cellsOf 9 = 1 := by kernel_rfl
    have hC4 : Tryd.prog.cellsOf 36 = 1 := by kernel_rfl
    have hC5 : Tryd.prog.cellsOf 37 = 1 := by kernel_rfl
    obtain ⟨ys, n', _, hy, hcl, hyl, hf⟩ := DataW.trod_struct Tryd.underlying39 h
    rw [hC] at hcl
    obtain ⟨c0, c1, c2, c3, c4, rfl⟩ : ∃ c0 c1 c2 c3 c4, cs = [c0, c1, c2, c3, c4] := by
      match cs, hcl with
      | [c0, c1, c2, c3, c4], _ => exact ⟨c0, c1, c2, c3, c4, rfl⟩
    obtain ⟨y0, y1, y2, y3, y4, rfl⟩ : ∃ y0 y1 y2 y3 y4, ys = [y0, y1, y2, y3, y4] := by
      match ys, hyl with
      | [y0, y1, y2, y3, y4], _ => exact ⟨y0, y1, y2, y3, y4, rfl⟩
    rw [hy] at hb
    simp only [Rows.uptoBulk, Rows.uptoBulkAll, List.map_cons, List.map_nil] at hb
    have t0 : DataW.trod enc Tryd.prog w base spare held n' 3 [c0] = some y0 := by simpa [hC1] using hf 0 _ rfl
    have t1 : DataW.trod enc Tryd.prog w base spare held n' 2 [c1] = some y1 := by simpa [hC2] using hf 1 _ rfl
    have t2 : DataW.trod enc Tryd.prog w base spare held n' 9 [c2] = some y2 := by simpa [hC3] using hf 2 _ rfl
    have t3 : DataW.trod enc Tryd.prog w base spare held n' 36 [c3] = some y3 := by simpa [hC4] using hf 3 _ rfl
    have t4 : DataW.trod enc Tryd.prog w base spare held n' 37 [c4] = some y4 := by simpa [hC5] using hf 4 _ rfl
    obtain ⟨kind, f0, _, w0⟩ := DataW.trod_int Tryd.underlying3 t0
    obtain ⟨m1, f1, _, w1⟩ := DataW.trod_int Tryd.underlying2 t1
    obtain ⟨s, f2, hs2⟩ := Tryd_str_open t2 (by omega)
    obtain ⟨qa, ql, qc, keys, f4, hk4, _⟩ := Tryd_keys_open t4 (by omega)
    simp only [List.cons.injEq, and_true] at f0 f1 f2 f4
    subst f0 f1 f2 f4
    rcases open_slice Tryd.underlying36 t3 with ⟨hc, _⟩ | ⟨a, len, cap, m, n2, D, Pl, hc, _, hl, hm, hmm, hx, hi⟩
    · simp only [List.cons.injEq, and_true] at hc
      subst hc
      exact ⟨(⟨kind, m1, s, [], keys⟩ : ValF (ValN n)), none, 0, 0, qa, ql, qc, rfl, Tryd_i64_wf w0, Tryd_i64_wf w1, (by show s.size ≤ _; omega), rfl, Nat.le_refl _, by unfold maxLen; omega, by omega, fun _ => rfl, fun i y hy => by simp [ValN.to] at hy, hk4⟩
    · simp only [List.cons.injEq, and_true] at hc
      subst hc
      rw [hC] at hi
      obtain ⟨y31, y32⟩ := y3
      simp only [Prod.mk.injEq] at hx
      obtain ⟨rfl, _⟩ := hx
      have hlm : len ≤ m := by rw [hmm]; split <;> omega
      simp only [Rows.uptoBulk] at hb
      have hlen0 := Tryd_bulk_len ((List.range len).map D)
      simp only [List.length_map, List.length_range] at hlen0
      have key : ∀ i, i < len → ∃ x : ValN n, ∃ cs' : List Value, cs'.length = 5 ∧ (∀ j u, cs'[j]? = some u → w.cell? (a.add (i * 5 + j)) = some u) ∧ ValAt w n (.agg cs'.toArray) x := by
        intro i hil
        obtain ⟨cs', hcs, ht'⟩ := hi i (by omega)
        have hpart := Tryd_bulk_part (d := D i) (l := (List.range len).map D) (by simp; exact ⟨i, hil, rfl⟩)
        obtain ⟨x, hx⟩ := Tryd_value_open n ht' (by simp only; omega) (by omega)
        obtain ⟨_, hcl', hat⟩ := World.cells?_some hcs
        refine ⟨x, cs', hcl', fun j u hu => ?_, hx⟩
        have hj := (List.getElem?_eq_some_iff.1 hu).1
        have := hat j (by omega)
        rw [← Go.Deep.add_add, this, hu]
      obtain ⟨l, hlen, hl2⟩ := Tryd_listOfV len key
      refine ⟨(⟨kind, m1, s, l, keys⟩ : ValF (ValN n)), some a, len, cap, qa, ql, qc, rfl, Tryd_i64_wf w0, Tryd_i64_wf w1, (by show s.size ≤ _; omega), hlen, hl, hm, by omega, (fun e => by cases e), fun i y hy => ?_, hk4⟩
      obtain ⟨cs', hcl', hat, hv⟩ := hl2 i y hy
      obtain ⟨u0, u1, u2, u3, u4, rfl⟩ : ∃ u0 u1 u2 u3 u4, cs' = [u0, u1, u2, u3, u4] := by
        match cs', hcl' with
        | [u0, u1, u2, u3, u4], _ => exact ⟨u0, u1, u2, u3, u4, rfl⟩
      obtain ⟨b, o, sp⟩ := a
      have hcell0 := hat 0 u0 rfl
      obtain ⟨x0, hx0⟩ : ∃ x0, l[0]? = some x0 := ⟨_, List.getElem?_eq_getElem (by have h1 : l[i]? = some y := hy; have := (List.getElem?_eq_some_iff.1 h1).1; omega)⟩
      obtain ⟨cs0, hcl0, hat0, _⟩ := hl2 0 x0 hx0
      obtain ⟨z0, z1, z2, z3, z4, rfl⟩ : ∃ u0 u1 u2 u3 u4, cs0 = [u0, u1, u2, u3, u4] := by
        match cs0, hcl0 with
        | [u0, u1, u2, u3, u4], _ => exact ⟨u0, u1, u2, u3, u4, rfl⟩
      have hz := hat0 0 z0 rfl
      have hsp := World.cell?_spot hz
      have hsp : sp = none := by simpa [Addr.add] using hsp
      subst hsp
      have hbl := World.block_lt_of_cell? _ _ hz
      have hc' : ∀ j u, [u0, u1, u2, u3, u4][j]? = some u → w.cell? ⟨b, o + i * 5 + j, none⟩ = some u := fun j u hu => by
        have := hat j u hu
        rw [Addr.add_lit] at this
        rw [Nat.add_assoc]; exact this
      exact ⟨b, o, u0, u1, u2, u3, u4, rfl, by simpa [Addr.add] using hbl, hc' 0 _ rfl, hc' 1 _ rfl, hc' 2 _ rfl, hc' 3 _ rfl, hc' 4 _ rfl, hv⟩

set_option maxRecDepth 100000 in
/-- A value, as an argument. -/
theorem Tryd_value_arg {r : Reach} {b0 : Nat} {v : Value} {d : DataW H} {p : List MemPlace} (hv : Value.okWide Tryd.prog w r b0 39 v) (h : DataW.Trod enc Tryd.prog w base spare held 39 v d p) (hb : Rows.uptoBulk d ≤ 1048576) :
    ∃ (n : Nat) (x : ValN n), ValAt w n v x := by
  obtain ⟨cs, rfl, _⟩ := okWide_struct Tryd.underlying39 hv
  obtain ⟨fuel, hf⟩ := h
  obtain ⟨n, hn⟩ : ∃ n, n = 1048576 := ⟨_, rfl⟩
  obtain ⟨x, hx⟩ := Tryd_value_open n hf (by rw [hn]; exact hb) (by omega)
  exact ⟨n, x, hx⟩
set_option maxRecDepth 100000 in
/-- Keys, as an argument. -/
theorem Tryd_keys_arg {r : Reach} {b0 : Nat} {v : Value} {d : DataW H} {p : List MemPlace} (hv : Value.okWide Tryd.prog w r b0 37 v) (h : DataW.Trod enc Tryd.prog w base spare held 37 v d p) (hb : Rows.uptoBulk d ≤ 1048576) :
    ∃ (a : Option Addr) (len cap : Nat) (l : List ByteArray), v = .slice a len cap ∧ StrsAt w a len cap l ∧ len ≤ 1048576 := by
  obtain ⟨a0, len0, cap0, rfl⟩ := okWide_slice Tryd.underlying37 hv
  obtain ⟨fuel, hf⟩ := h
  obtain ⟨a, len, cap, l, hc, h1, h2⟩ := Tryd_keys_open hf hb
  simp only [Value.cells, List.cons.injEq, and_true] at hc
  exact ⟨a, len, cap, l, hc, h1, h2⟩
end
end Go.Proofs.YtmcmknndhppljaaDoor

namespace Go.Dav
set_option linter.unusedVariables false
set_option linter.unusedSimpArgs false
open Go Go.RowKit
/-- Only the blocks that p names are written; new ones may have come. -/
structure OnlyS (p : Nat → Prop) (w w' : World) : Prop where
  os : w'.os = w.os
  tape : w'.tape = w.tape
  output : w'.output = w.output
  size : w.heap.size ≤ w'.heap.size
  block : ∀ k, k < w.heap.size → ¬ p k → w'.heap[k]? = w.heap[k]?
theorem OnlyS.refl (p : Nat → Prop) (w : World) : OnlyS p w w := ⟨rfl, rfl, rfl, Nat.le_refl _, fun _ _ _ => rfl⟩
theorem OnlyS.set {p : Nat → Prop} {w w' : World} (h : OnlyS p w w') (q i : Nat) (v : Value) (hq : p q) : OnlyS p w (w'.setCell ⟨q, i, none⟩ v) :=
  ⟨h.os, h.tape, h.output, by simpa using h.size, fun k hk hne => (Below.heap_setCell w' ⟨q, i, none⟩ v k (fun e => hne (by cases e; exact hq))).trans (h.block k hk hne)⟩
theorem OnlyS.ext {p : Nat → Prop} {w w' w'' : World} (h : OnlyS p w w') (hb : Below w'.heap.size w' w'') : OnlyS p w w'' :=
  ⟨hb.os.trans h.os, hb.tape.trans h.tape, hb.output.trans h.output, Nat.le_trans h.size hb.size, fun k hk hne => (hb.block k (Nat.lt_of_lt_of_le hk h.size)).trans (h.block k hk hne)⟩
theorem OnlyS.of_below {p : Nat → Prop} {w w' : World} (h : Below w.heap.size w w') : OnlyS p w w' := (OnlyS.refl p w).ext h
theorem OnlyS.below {p : Nat → Prop} {w w' : World} {n : Nat} (h : OnlyS p w w') (hn : n ≤ w.heap.size) (hp : ∀ k, p k → n ≤ k) : Below n w w' :=
  ⟨h.os, h.tape, h.output, h.size, fun k hk => h.block k (by omega) fun hpk => by have := hp k hpk; omega⟩
theorem Blk.onlyS {p : Nat → Prop} {W W' : World} {q : Nat} {cs : List Value} {t : TypeId} (h : Blk W q cs t) (k : OnlyS p W W') (hne : ¬ p q) : Blk W' q cs t := (k.block q h.lt hne).trans h
end Go.Dav

namespace Go.Dav
set_option linter.unusedVariables false
set_option linter.unusedSimpArgs false
open Go Go.RowKit
/-- A pair: a key, and a value's cells. -/
structure PairE where
  key : ByteArray
  k : Int
  n : Int
  s : ByteArray
  a1 : Option Addr
  l1 : Nat
  c1 : Nat
  a2 : Option Addr
  l2 : Nat
  c2 : Nat
def PairE.vcells (e : PairE) : List Value := [.int .i64 e.k, .int .i64 e.n, .string e.s, .slice e.a1 e.l1 e.c1, .slice e.a2 e.l2 e.c2]
def PairE.cells (e : PairE) : List Value := [.string e.key, .int .i64 e.k, .int .i64 e.n, .string e.s, .slice e.a1 e.l1 e.c1, .slice e.a2 e.l2 e.c2]
def flatE (l : List PairE) : List Value := l.flatMap PairE.cells
theorem flatE_len (l : List PairE) : (flatE l).length = l.length * 6 := by
  unfold flatE
  induction l with
  | nil => rfl
  | cons x l ih => rw [List.flatMap_cons, List.length_append, ih, List.length_cons]; simp [PairE.cells]; omega
theorem flatE_get {l : List PairE} {i j : Nat} {e : PairE} {v : Value} (hi : l[i]? = some e) (hj : e.cells[j]? = some v) (rest : List Value) : (flatE l ++ rest)[i * 6 + j]? = some v := by
  have hj6 : j < 6 := by have := (List.getElem?_eq_some_iff.1 hj).1; simpa [PairE.cells] using this
  unfold flatE
  induction l generalizing i with
  | nil => simp at hi
  | cons x l ih =>
    have hx : x.cells.length = 6 := rfl
    rw [List.flatMap_cons, List.append_assoc]
    cases i with
    | zero =>
      simp only [List.getElem?_cons_zero, Option.some.injEq] at hi
      subst hi
      rw [List.getElem?_append_left (by rw [hx]; omega), Nat.zero_mul, Nat.zero_add]; exact hj
    | succ i =>
      rw [List.getElem?_append_right (by rw [hx]; omega), hx, show (i + 1) * 6 + j - 6 = i * 6 + j by omega]
      exact ih (by simpa using hi)
def set6L (cs : List Value) (i : Nat) (e : PairE) : List Value := (((((cs.set (i * 6) (.string e.key)).set (i * 6 + 1) (.int .i64 e.k)).set (i * 6 + 2) (.int .i64 e.n)).set (i * 6 + 3) (.string e.s)).set (i * 6 + 4) (.slice e.a1 e.l1 e.c1)).set (i * 6 + 5) (.slice e.a2 e.l2 e.c2)
theorem set_right {l r : List Value} {n j : Nat} {v : Value} (hn : l.length = n) : (l ++ r).set (n + j) v = l ++ r.set j v := by
  subst hn
  rw [List.set_append_right _ _ (by omega), Nat.add_sub_cancel_left]
theorem flatE_set : ∀ (l : List PairE) (i : Nat) (e : PairE) (rest : List Value), i < l.length → set6L (flatE l ++ rest) i e = flatE (l.set i e) ++ rest
  | [], _, _, _, h => by simp at h
  | x :: l, 0, e, rest, _ => by
    unfold set6L flatE
    simp [PairE.cells]
  | x :: l, i + 1, e, rest, h => by
    have ih := flatE_set l i e rest (by simpa using h)
    have hx : x.cells.length = 6 := rfl
    have e1 : flatE (x :: l) ++ rest = x.cells ++ (flatE l ++ rest) := by unfold flatE; rw [List.flatMap_cons, List.append_assoc]
    have e2 : flatE ((x :: l).set (i + 1) e) ++ rest = x.cells ++ (flatE (l.set i e) ++ rest) := by unfold flatE; rw [List.set_cons_succ, List.flatMap_cons, List.append_assoc]
    rw [e1, e2, ← ih]
    unfold set6L
    rw [show (i + 1) * 6 = 6 + i * 6 by omega, Nat.add_assoc, Nat.add_assoc, Nat.add_assoc, Nat.add_assoc, Nat.add_assoc, set_right hx, set_right hx, set_right hx, set_right hx, set_right hx, set_right hx]
/-- A row of pairs, from a block's start on. -/
def PairsAt (W : World) (g : Nat) (l : List PairE) (t : TypeId) : Prop := ∃ rest, Blk W g (flatE l ++ rest) t
theorem PairsAt.lt {W : World} {g : Nat} {l : List PairE} {t : TypeId} (h : PairsAt W g l t) : g < W.heap.size := by obtain ⟨r, h⟩ := h; exact h.lt
theorem PairsAt.marks {W : World} {g : Nat} {l : List PairE} {t : TypeId} (h : PairsAt W g l t) : ∀ i, W.frozen? ⟨g, i, none⟩ = false := by obtain ⟨r, h⟩ := h; exact h.marks
theorem PairsAt.ext {W W' : World} {g : Nat} {l : List PairE} {t : TypeId} (h : PairsAt W g l t) (hb : Below W.heap.size W W') : PairsAt W' g l t := by obtain ⟨r, h⟩ := h; exact ⟨r, h.ext hb⟩
theorem PairsAt.get {W : World} {g : Nat} {l : List PairE} {t : TypeId} (h : PairsAt W g l t) {i : Nat} {e : PairE} (hi : l[i]? = some e) :
    W.cell? ⟨g, i * 6, none⟩ = some (.string e.key) ∧ W.cell? ⟨g, i * 6 + 1, none⟩ = some (.int .i64 e.k) ∧ W.cell? ⟨g, i * 6 + 2, none⟩ = some (.int .i64 e.n) ∧ W.cell? ⟨g, i * 6 + 3, none⟩ = some (.string e.s) ∧ W.cell? ⟨g, i * 6 + 4, none⟩ = some (.slice e.a1 e.l1 e.c1) ∧ W.cell? ⟨g, i * 6 + 5, none⟩ = some (.slice e.a2 e.l2 e.c2) := by
  obtain ⟨r, h⟩ := h
  exact ⟨h.cell (i * 6) (flatE_get (j := 0) hi rfl r), h.cell (i * 6 + 1) (flatE_get (j := 1) hi rfl r), h.cell (i * 6 + 2) (flatE_get (j := 2) hi rfl r), h.cell (i * 6 + 3) (flatE_get (j := 3) hi rfl r), h.cell (i * 6 + 4) (flatE_get (j := 4) hi rfl r), h.cell (i * 6 + 5) (flatE_get (j := 5) hi rfl r)⟩
def set6W (W : World) (g i : Nat) (e : PairE) : World := (((((W.setCell ⟨g, i * 6, none⟩ (.string e.key)).setCell ⟨g, i * 6 + 1, none⟩ (.int .i64 e.k)).setCell ⟨g, i * 6 + 2, none⟩ (.int .i64 e.n)).setCell ⟨g, i * 6 + 3, none⟩ (.string e.s)).setCell ⟨g, i * 6 + 4, none⟩ (.slice e.a1 e.l1 e.c1)).setCell ⟨g, i * 6 + 5, none⟩ (.slice e.a2 e.l2 e.c2)
theorem PairsAt.set {W : World} {g : Nat} {l : List PairE} {t : TypeId} (h : PairsAt W g l t) {i : Nat} (hi : i < l.length) (e : PairE) : PairsAt (set6W W g i e) g (l.set i e) t := by
  obtain ⟨r, h⟩ := h
  refine ⟨r, ?_⟩
  rw [← flatE_set l i e r hi]
  exact (((((h.set _ _).set _ _).set _ _).set _ _).set _ _).set _ _
theorem onlyS_set6 {p : Nat → Prop} {W W' : World} (h : OnlyS p W W') {g i : Nat} {e : PairE} (hp : p g) : OnlyS p W (set6W W' g i e) := (((((h.set _ _ _ hp).set _ _ _ hp).set _ _ _ hp).set _ _ _ hp).set _ _ _ hp).set _ _ _ hp
theorem set6W_size (W : World) (g i : Nat) (e : PairE) : (set6W W g i e).heap.size = W.heap.size := by simp [set6W]

/-- The order of keys. -/
def kless (a b : ByteArray) : Bool := Op.bytesLess a.toList b.toList
def kle (a b : ByteArray) : Prop := kless b a = false
theorem kless_iff (a b : ByteArray) : kless a b = true ↔ a.toList < b.toList := by
  unfold kless; rw [Go.Proofs.bytesLess_eq]; simp
theorem kle_iff (a b : ByteArray) : kle a b ↔ a.toList ≤ b.toList := by
  unfold kle; rw [← Bool.not_eq_true, kless_iff, List.not_lt]
theorem kle_refl (a : ByteArray) : kle a a := by rw [kle_iff]; exact List.le_refl _
theorem kle_trans {a b c : ByteArray} (h : kle a b) (k : kle b c) : kle a c := by rw [kle_iff] at *; exact List.le_trans h k
theorem kle_of_less {a b : ByteArray} (h : kless a b = true) : kle a b := by rw [kless_iff] at h; rw [kle_iff]; exact List.le_of_lt h
theorem less_of_not {a b : ByteArray} (h : ¬ kle a b) : kless b a = true := by
  unfold kle at h
  cases hk : kless b a with
  | true => rfl
  | false => exact (h hk).elim
theorem kle_antisymm {a b : ByteArray} (h : kle a b) (k : kle b a) : a.toList = b.toList := by rw [kle_iff] at *; exact List.le_antisymm h k

/-- From a up to b the keys rise. -/
def SortedS (l : List PairE) (a b : Nat) : Prop := ∀ i j x y, a ≤ i → i ≤ j → j < b → l[i]? = some x → l[j]? = some y → kle x.key y.key
/-- What stood from a up to b, in another order. -/
structure SegP (l l' : List PairE) (a b : Nat) : Prop where
  len : l'.length = l.length
  out : ∀ i, i < a ∨ b ≤ i → l'[i]? = l[i]?
  perm : l'.Perm l
  mem : ∀ i x, a ≤ i → i < b → l'[i]? = some x → ∃ j, a ≤ j ∧ j < b ∧ l[j]? = some x
theorem SegP.refl (l : List PairE) (a b : Nat) : SegP l l a b := ⟨rfl, fun _ _ => rfl, List.Perm.refl _, fun i x h1 h2 h3 => ⟨i, h1, h2, h3⟩⟩
theorem SegP.trans {l m n : List PairE} {a b c d : Nat} (h : SegP l m a b) (k : SegP m n c d) (h1 : a ≤ c) (h2 : d ≤ b) : SegP l n a b :=
  ⟨k.len.trans h.len, fun i hi => (k.out i (by omega)).trans (h.out i hi), k.perm.trans h.perm, fun i x g1 g2 g3 => by
    by_cases hi : c ≤ i ∧ i < d
    · obtain ⟨j, j1, j2, j3⟩ := k.mem i x hi.1 hi.2 g3
      exact h.mem j x (by omega) (by omega) j3
    · rw [k.out i (by omega)] at g3
      exact h.mem i x g1 g2 g3⟩
theorem SegP.wide {l m : List PairE} {a b c d : Nat} (h : SegP l m c d) (h1 : a ≤ c) (h2 : d ≤ b) : SegP l m a b := (SegP.refl l a b).trans h h1 h2
theorem swap_seg {l : List PairE} {i j a b : Nat} {x y : PairE} (hi : l[i]? = some x) (hj : l[j]? = some y) (h1 : a ≤ i ∧ i < b) (h2 : a ≤ j ∧ j < b) : SegP l ((l.set i y).set j x) a b := by
  obtain ⟨li, ei⟩ := List.getElem?_eq_some_iff.1 hi
  obtain ⟨lj, ej⟩ := List.getElem?_eq_some_iff.1 hj
  refine ⟨by simp, fun k hk => ?_, ?_, fun k z k1 k2 k3 => ?_⟩
  · rw [List.getElem?_set_ne (by omega), List.getElem?_set_ne (by omega)]
  · have := List.set_set_perm li lj
    rw [ei, ej] at this
    exact this
  · by_cases e1 : j = k
    · subst e1
      rw [List.getElem?_set_self (by simpa using lj)] at k3
      cases k3
      exact ⟨i, h1.1, h1.2, hi⟩
    · rw [List.getElem?_set_ne e1] at k3
      by_cases e2 : i = k
      · subst e2
        rw [List.getElem?_set_self li] at k3
        cases k3
        exact ⟨j, h2.1, h2.2, hj⟩
      · rw [List.getElem?_set_ne e2] at k3
        exact ⟨k, k1, k2, k3⟩
theorem swap_get {l : List PairE} {i j : Nat} {x y : PairE} (hi : l[i]? = some x) (hj : l[j]? = some y) : ((l.set i y).set j x)[i]? = some y ∧ ((l.set i y).set j x)[j]? = some x ∧ ∀ k, k ≠ i → k ≠ j → ((l.set i y).set j x)[k]? = l[k]? := by
  obtain ⟨li, ei⟩ := List.getElem?_eq_some_iff.1 hi
  obtain ⟨lj, ej⟩ := List.getElem?_eq_some_iff.1 hj
  refine ⟨?_, List.getElem?_set_self (by simpa using lj), fun k h1 h2 => by rw [List.getElem?_set_ne (fun e => h2 e.symm), List.getElem?_set_ne (fun e => h1 e.symm)]⟩
  by_cases e : j = i
  · subst e
    rw [List.getElem?_set_self (by simpa using lj)]
    rw [hi] at hj; exact hj
  · rw [List.getElem?_set_ne e, List.getElem?_set_self li]
/-- While one goes down to its place: all but it rise, and it is not behind what stands behind it. -/
structure InsAt (l : List PairE) (a i j : Nat) : Prop where
  rest : ∀ p q x y, a ≤ p → p ≤ q → q ≤ i → p ≠ j → q ≠ j → l[p]? = some x → l[q]? = some y → kle x.key y.key
  tail : ∀ q x y, j < q → q ≤ i → l[j]? = some x → l[q]? = some y → kle x.key y.key
theorem InsAt.start {l : List PairE} {a i : Nat} (h : SortedS l a i) : InsAt l a i i := ⟨fun p q x y h1 h2 h3 h4 h5 h6 h7 => h p q x y h1 h2 (by omega) h6 h7, fun q x y h1 h2 => by omega⟩
theorem InsAt.done {l : List PairE} {a i j : Nat} (h : InsAt l a i j) (ha : a ≤ j) (hj : j ≤ i) (hs : j = a ∨ ∀ x y, l[j]? = some x → l[j - 1]? = some y → kless x.key y.key = false) : SortedS l a (i + 1) := by
  intro p q x y h1 h2 h3 hx hy
  by_cases e1 : p = j
  · subst e1
    by_cases e2 : q = p
    · subst e2
      rw [hx] at hy; cases hy; exact kle_refl _
    · exact h.tail q x y (by omega) (by omega) hx hy
  · by_cases e2 : q = j
    · subst e2
      rcases hs with e3 | hs
      · omega
      · obtain ⟨z, hz⟩ : ∃ z, l[q - 1]? = some z := ⟨_, List.getElem?_eq_getElem (by have := (List.getElem?_eq_some_iff.1 hy).1; omega)⟩
        have hzy : kle z.key y.key := hs y z hy hz
        by_cases e4 : p = q - 1
        · subst e4
          rw [hx] at hz; cases hz; exact hzy
        · exact kle_trans (h.rest p (q - 1) x z h1 (by omega) (by omega) (by omega) (by omega) hx hz) hzy
    · exact h.rest p q x y h1 h2 (by omega) e1 e2 hx hy
theorem InsAt.swap {l : List PairE} {a i j : Nat} {x y : PairE} (h : InsAt l a i j) (ha : a < j) (hj : j ≤ i) (hx : l[j]? = some x) (hy : l[j - 1]? = some y) (hl : kless x.key y.key = true) : InsAt ((l.set j y).set (j - 1) x) a i (j - 1) := by
  obtain ⟨g1, g2, g3⟩ := swap_get hx hy
  refine ⟨fun p q u v h1 h2 h3 h4 h5 hu hv => ?_, fun q u v h1 h2 hu hv => ?_⟩
  · by_cases e1 : p = j
    · subst e1
      rw [g1] at hu; cases hu
      by_cases e2 : q = p
      · subst e2; rw [g1] at hv; cases hv; exact kle_refl _
      · rw [g3 q e2 h5] at hv
        exact h.rest (p - 1) q y v (by omega) (by omega) h3 (by omega) e2 hy hv
    · rw [g3 p e1 h4] at hu
      by_cases e2 : q = j
      · subst e2
        rw [g1] at hv; cases hv
        exact h.rest p (q - 1) u y h1 (by omega) (by omega) e1 (by omega) hu hy
      · rw [g3 q e2 h5] at hv
        exact h.rest p q u v h1 h2 h3 e1 e2 hu hv
  · rw [g2] at hu; cases hu
    by_cases e2 : q = j
    · subst e2
      rw [g1] at hv; cases hv
      exact kle_of_less hl
    · rw [g3 q e2 (by omega)] at hv
      exact h.tail q x v (by omega) h2 hx hv
end Go.Dav

namespace Go.Dav
set_option linter.unusedVariables false
set_option linter.unusedSimpArgs false
open Go Go.RowKit

theorem zeroCells_one (z0 : Value) (k : Nat) : Builtin.zeroCells #[z0] k = (List.replicate k z0).toArray := by
  apply Array.ext
  · simp [Builtin.zeroCells]
  · intro i h1 h2
    simp [Builtin.zeroCells] at h1 ⊢
    rw [Nat.mod_one]; rfl

section
variable {P : Program} {w : World}

theorem run_append_zeros_nothing (t tn ty e : TypeId) (i : TypeInfo) (kq kn : IntKind) (ht : P.underlying t = some (.slice e)) (htn : P.underlying tn = some (.int kn)) (hi : P.info? e = some i)
    (base : Option Addr) (sLen sCap : Nat) (hc : sLen ≤ sCap) : (Builtin.append_ #[t, tn] ty #[.slice base sLen sCap, .int kq 0]).run P w = .ok (.slice base sLen sCap) w := by
  have hw : IntKind.i64.wrap (0 : Int) = 0 := by rw [IntKind.wrap_i64]; omega
  cases base <;> simp [Builtin.append_, run_underlying ht, run_underlying htn, sizeOf, typeInfo, hi, asInt, asIntOf, hw, hc, storeCells]

theorem run_append_zeros_room (t tn ty e : TypeId) (i : TypeInfo) (z z0 : Value) (kq kn : IntKind) (ht : P.underlying t = some (.slice e)) (htn : P.underlying tn = some (.int kn)) (hi : P.info? e = some i) (hz : i.zero = some z) (hs : i.size = 1) (hzc : z.cells = #[z0]) (h1 : z0.oneCell' = true)
    (g sLen sCap : Nat) (cur : Array Value) (hg : w.heap[g]? = some (.cells cur e (0, 0))) (k : Nat) (h0 : 0 < k) (hroom : sLen + k ≤ sCap) (hfit : sLen + k ≤ cur.size) (h63 : k ≤ 9223372036854775807) (h48 : k * i.bytes ≤ 281474976710656) :
    (Builtin.append_ #[t, tn] ty #[.slice (some ⟨g, 0, none⟩) sLen sCap, .int kq k]).run P w =
      .ok (.slice (some ⟨g, 0, none⟩) (sLen + k) sCap) (w.setRow g (cur.toList.take sLen ++ List.replicate k z0 ++ cur.toList.drop (sLen + k)).toArray) := by
  have hk : k ≠ 0 := by omega
  have hw : IntKind.i64.wrap (k : Int) = k := by rw [IntKind.wrap_i64]; omega
  have h48i : ¬ (281474976710656 < (k : Int) * (i.bytes : Int)) := by
    rw [← Int.natCast_mul]
    omega
  have hneg : ¬ ((k : Int) < 0) := by omega
  have hst := run_storeCells_at P g sLen e (List.replicate k z0) 0 cur w hg (by simpa using hfit) (fun v hv => by rw [(List.mem_replicate.1 hv).2]; exact h1)
  simp only [Nat.add_zero, List.length_replicate] at hst
  simp [Builtin.append_, run_underlying ht, run_underlying htn, sizeOf, typeInfo, zeroValue, hi, hz, hs, asInt, asIntOf, hw, hneg, hk, h48i, hroom, hzc, zeroCells_one, Addr.add_lit, hst]

/-- append of k zeros to a row of the call's own. -/
theorem run_append_zeros_own (base : Nat) (t tn ty e : TypeId) (i : TypeInfo) (z z0 : Value) (kq kn : IntKind) (ht : P.underlying t = some (.slice e)) (htn : P.underlying tn = some (.int kn)) (hi : P.info? e = some i) (hz : i.zero = some z) (hs : i.size = 1) (hb : i.bytes = 1) (hzc : z.cells = #[z0]) (h1 : z0.oneCell' = true)
    (v : Value) (n : Nat) (xs : List Value) (hown : w.ownsRow base e 1 v n xs) (k : Nat) (hm : n + k ≤ 140737488355328) (hbase : base ≤ w.heap.size) :
    ∃ v' w', (Builtin.append_ #[t, tn] ty #[v, .int kq k]).run P w = .ok v' w' ∧ w'.ownsRow base e 1 v' (n + k) (xs ++ List.replicate k z0) ∧ w.grownBy w' v.ownBlock := by
  by_cases h0 : k = 0
  · subst h0
    obtain ⟨a, cap, rfl, hc, _⟩ := own_cells hown
    exact ⟨_, w, run_append_zeros_nothing t tn ty e i kq kn ht htn hi a n cap hc, by simpa using hown, World.grownBy.refl _ _⟩
  · have hk : 0 < k := by omega
    have hlen : (xs ++ List.replicate k z0).length = (n + k) * 1 := by rw [List.length_append, hown.1, List.length_replicate]; omega
    have grown : ∀ (old : Nat), old < n + k → ∀ (row : Option Nat),
        (w.drew.alloc (.cells (xs.toArray ++ Builtin.zeroCells z.cells k ++ Builtin.zeroCells z.cells (grownCap w (n + k) old e - (n + k))) e)).ownsRow base e 1
          (.slice (some ⟨w.heap.size, 0, none⟩) (n + k) (grownCap w (n + k) old e)) (n + k) (xs ++ List.replicate k z0) ∧
        w.grownBy (w.drew.alloc (.cells (xs.toArray ++ Builtin.zeroCells z.cells k ++ Builtin.zeroCells z.cells (grownCap w (n + k) old e - (n + k))) e)) row := by
      intro old ho row
      have hge := grownCap_ge w (n + k) old e
      have hcm : grownCap w (n + k) old e ≤ maxLen := grownCap_le_maxLen w (n + k) old e (by unfold maxLen; omega)
      have hx1 := hown.1
      refine ⟨⟨hlen, .inr ⟨w.heap.size, _, _, rfl, hbase, heap_alloc_new w.drew _, hge, hcm, ?_, ?_⟩⟩, ⟨rfl, rfl, rfl, by simp, fun j hj _ => Below.heap_alloc w.drew _ j hj⟩⟩
      · rw [hzc, zeroCells_one, zeroCells_one]
        simp
        omega
      · rw [hzc, zeroCells_one, zeroCells_one]
        simp only [Array.toList_append]
        rw [← hlen]
        exact List.take_left
    have hfits : ∀ old, old < n + k → Builtin.nextslicecap (n + k) old * i.bytes ≤ 281474976710656 := fun old ho => growslice_fits (by omega) (by rw [hb]; omega)
    rcases hown.2 with ⟨rfl, rfl⟩ | ⟨g, cap, cur, rfl, hbg, hg, hnc, hcm, hcs, htake⟩
    · have hx : xs = [] := List.eq_nil_of_length_eq_zero (by simpa using hown.1)
      subst hx
      have hr := Lib.run_append_grow_zeros (P := P) w t tn ty e i z kq kn ht htn hi hz none 0 0 [] (by rw [run_firstCells_none]) k hk (by omega) (by omega) (by omega) (by rw [hb]; omega) (hfits 0 (by omega))
      have hgr := grown 0 (by omega) (Value.ownBlock (.slice none 0 0))
      exact ⟨_, _, hr, hgr.1, hgr.2⟩
    · by_cases hroom : n + k ≤ cap
      · have hr := run_append_zeros_room (P := P) (w := w) t tn ty e i z z0 kq kn ht htn hi hz hs hzc h1 g n cap cur hg k hk hroom (by omega) (by omega) (by rw [hb]; omega)
        have hcl : cur.toList.length = cap := by rw [Array.length_toList]; omega
        refine ⟨_, _, hr, ⟨hlen, .inr ⟨g, cap, _, rfl, hbg, setRow_heap w g cur _ e _ hg, hroom, hcm, ?_, ?_⟩⟩, ⟨rfl, rfl, rfl, by simp, fun j _ hj => setRow_other w g j _ (fun e => hj (by simp [Value.ownBlock, e]))⟩⟩
        · simp only [List.size_toArray, List.length_append, List.length_take, List.length_drop, List.length_replicate, hcl]
          omega
        · have ht' : cur.toList.take n = xs := by simpa using htake
          rw [ht', ← hlen]
          exact List.take_left
      · have holds : ∀ j u, xs[j]? = some u → w.cell? ((⟨g, 0, none⟩ : Addr).add j) = some u := hown.cells (g := g) rfl
        have hr := Lib.run_append_grow_zeros (P := P) w t tn ty e i z kq kn ht htn hi hz (some ⟨g, 0, none⟩) n cap xs (run_firstCells_some w.drew i.size n ⟨g, 0, none⟩ n cap xs (by rw [hs]; exact hown.1) holds) k hk (by omega) (by omega) (by omega) (by rw [hb]; omega) (hfits cap (by omega))
        have hgr := grown cap (by omega) (Value.ownBlock (.slice (some ⟨g, 0, none⟩) n cap))
        exact ⟨_, _, hr, hgr.1, hgr.2⟩

theorem full_first {W : World} {S : Nat → Prop} {a : Option Addr} {n : Nat} {xs : List Value} (hx : CellsS W S a n xs) (hnone : a = none → n = 0) : (Builtin.firstCells 1 n (.slice a n n)).run P W.drew = .ok xs.toArray W.drew := by
  cases a with
  | none =>
    have h0 : xs = [] := by
      cases xs with
      | nil => rfl
      | cons x xs => obtain ⟨b, o, h1, _⟩ := hx.at_ 0 x rfl; cases h1
    subst h0
    rw [hnone rfl]
    exact run_firstCells_none W.drew 1 0 0 0
  | some ad =>
    refine run_firstCells_some W.drew 1 n ad n n xs (by rw [hx.len]; omega) ?_
    have := hx.from_
    simpa using this

/-- append of something to a slice that is full: a row of the call's own. -/
theorem run_append_full_own {t e bytes : Nat} (E : Elem1 P t e bytes) (ty : TypeId) (base : Nat) (S : Nat → Prop) (a : Option Addr) (n : Nat) (xs : List Value) (hx : CellsS w S a n xs) (T : Nat → Prop) (ax : Option Addr) (m c : Nat) (ys : List Value) (hy : CellsS w T ax m ys)
    (h1 : ∀ u ∈ ys, u.oneCell' = true) (hnone : a = none → n = 0) (hm : 0 < m) (h63 : n + m ≤ maxLen) (hbytes : (n + m) * bytes ≤ 140737488355328) (hbase : base ≤ w.heap.size) :
    ∃ v' w', (Builtin.append_ #[t, t] ty #[.slice a n n, .slice ax m c]).run P w = .ok v' w' ∧ w'.ownsRow base e 1 v' (n + m) (xs ++ ys) ∧ Below w.heap.size w w' := by
  obtain ⟨i, z, hi, hz, hs, hb, hzs⟩ := E.row
  have hsrc : Src P i.size t (.slice ax m c) m ys w := by rw [hs]; exact hy.src h1 E.ht
  have h64 : n + m ≤ 9223372036854775807 := by simp only [maxLen] at h63; omega
  have hr := run_append_grow_src (P := P) w t t ty e i z E.ht hi hz a n n xs (by rw [hs]; exact full_first hx hnone) _ m ys hsrc (by omega) (by omega) (growslice_fits (by omega) (by rw [hb]; exact hbytes))
  have hge := grownCap_ge w (n + m) n e
  have hcm : grownCap w (n + m) n e ≤ maxLen := grownCap_le_maxLen w (n + m) n e h63
  have hl1 := hx.len
  have hl2 := hy.len
  refine ⟨_, _, hr, ⟨by rw [List.length_append, hl1, hl2]; omega, .inr ⟨w.heap.size, _, _, rfl, hbase, heap_alloc_new w.drew _, hge, hcm, ?_, ?_⟩⟩, (Below.refl _ _).drew.alloc (Nat.le_refl _) _⟩
  · simp only [Array.size_append, List.size_toArray, size_zeroCells, hzs, List.length_append]
    omega
  · have hlen : (xs ++ ys).length = (n + m) * 1 := by rw [List.length_append, hl1, hl2]; omega
    simp only [Array.toList_append]
    rw [← hlen]
    exact List.take_left

/-- append of zeros to a slice that is full. -/
theorem run_append_zeros_full (base : Nat) (t tn ty e : TypeId) (i : TypeInfo) (z z0 : Value) (kq kn : IntKind) (ht : P.underlying t = some (.slice e)) (htn : P.underlying tn = some (.int kn)) (hi : P.info? e = some i) (hz : i.zero = some z) (hs : i.size = 1) (hb : i.bytes = 1) (hzc : z.cells = #[z0])
    (S : Nat → Prop) (a : Option Addr) (n : Nat) (xs : List Value) (hx : CellsS w S a n xs) (hnone : a = none → n = 0) (k : Nat) (hk : 0 < k) (hm : n + k ≤ 140737488355328) (hbase : base ≤ w.heap.size) :
    ∃ v' w', (Builtin.append_ #[t, tn] ty #[.slice a n n, .int kq k]).run P w = .ok v' w' ∧ w'.ownsRow base e 1 v' (n + k) (xs ++ List.replicate k z0) ∧ Below w.heap.size w w' := by
  have hr := Lib.run_append_grow_zeros (P := P) w t tn ty e i z kq kn ht htn hi hz a n n xs (by rw [hs]; exact full_first hx hnone) k hk (by omega) (by omega) (by omega) (by rw [hb]; omega) (growslice_fits (by omega) (by rw [hb]; omega))
  have hge := grownCap_ge w (n + k) n e
  have hcm : grownCap w (n + k) n e ≤ maxLen := grownCap_le_maxLen w (n + k) n e (by unfold maxLen; omega)
  have hl1 := hx.len
  refine ⟨_, _, hr, ⟨by rw [List.length_append, hl1, List.length_replicate]; omega, .inr ⟨w.heap.size, _, _, rfl, hbase, heap_alloc_new w.drew _, hge, hcm, ?_, ?_⟩⟩, (Below.refl _ _).drew.alloc (Nat.le_refl _) _⟩
  · rw [hzc, zeroCells_one, zeroCells_one]
    simp
    omega
  · have hlen : (xs ++ List.replicate k z0).length = (n + k) * 1 := by rw [List.length_append, hl1, List.length_replicate]; omega
    rw [hzc, zeroCells_one, zeroCells_one]
    simp only [Array.toList_append]
    rw [← hlen]
    exact List.take_left
end
end Go.Dav

namespace Go.Dav
set_option linter.unusedVariables false
set_option linter.unusedSimpArgs false
open Go Go.RowKit

/-- What lay below n stays, and so do the blocks of another type. -/
structure Grew (n : Nat) (e : TypeId) (W W' : World) : Prop where
  os : W'.os = W.os
  tape : W'.tape = W.tape
  output : W'.output = W.output
  size : W.heap.size ≤ W'.heap.size
  block : ∀ k, k < W.heap.size → (k < n ∨ ∃ cs t fz, W.heap[k]? = some (.cells cs t fz) ∧ t ≠ e) → W'.heap[k]? = W.heap[k]?
theorem Grew.refl (n : Nat) (e : TypeId) (W : World) : Grew n e W W := ⟨rfl, rfl, rfl, Nat.le_refl _, fun _ _ _ => rfl⟩
theorem Grew.trans {n : Nat} {e : TypeId} {A B C : World} (h : Grew n e A B) (k : Grew n e B C) : Grew n e A C :=
  ⟨k.os.trans h.os, k.tape.trans h.tape, k.output.trans h.output, Nat.le_trans h.size k.size, fun j hj hc => by
    have h1 := h.block j hj hc
    refine (k.block j (Nat.lt_of_lt_of_le hj h.size) ?_).trans h1
    rcases hc with hc | ⟨cs, t, fz, h2, h3⟩
    · exact .inl hc
    · exact .inr ⟨cs, t, fz, h1.trans h2, h3⟩⟩
theorem Grew.below {n : Nat} {e : TypeId} {W W' : World} (h : Grew n e W W') (hn : n ≤ W.heap.size) : Below n W W' := ⟨h.os, h.tape, h.output, h.size, fun k hk => h.block k (by omega) (.inl hk)⟩
theorem Grew.blk {n p : Nat} {e t : TypeId} {cs : List Value} {W W' : World} (h : Grew n e W W') (hb : Blk W p cs t) (ht : t ≠ e) : Blk W' p cs t := (h.block p hb.lt (.inr ⟨_, _, _, hb, ht⟩)).trans hb
theorem Grew.of_below {n : Nat} {e : TypeId} {W W' : World} (h : Below W.heap.size W W') : Grew n e W W' := ⟨h.os, h.tape, h.output, h.size, fun k hk _ => h.block k hk⟩
theorem Grew.of_own {n N : Nat} {e : TypeId} {W W' : World} {v : Value} {xs : List Value} (hown : W.ownsRow n e 1 v N xs) (hg : W.grownBy W' v.ownBlock) : Grew n e W W' :=
  ⟨hg.os, hg.tape, hg.output, hg.size, fun k hk hc => hg.block k hk fun e' => by
    rcases hown.2 with ⟨rfl, _⟩ | ⟨g, cap, cur, rfl, hb, hgb, _⟩
    · simp [Value.ownBlock] at e'
    · obtain rfl : k = g := by simpa [Value.ownBlock] using e'
      rcases hc with hc | ⟨cs, t, fz, h2, h3⟩
      · omega
      · rw [hgb] at h2; cases h2; exact h3 rfl⟩

/-- The bytes l: a slice that is full, in the blocks of S, or a row of the call's own. -/
def FirmOf (e : TypeId) (S : Nat → Prop) (n : Nat) (v : Value) (l : List UInt8) (W : World) : Prop :=
  (∃ a, v = .slice a l.length l.length ∧ CellsS W S a l.length (u8s l) ∧ (a = none → l.length = 0)) ∨ W.ownsRow n e 1 v l.length (u8s l)
theorem FirmOf.ext {e : TypeId} {S : Nat → Prop} {n : Nat} {v : Value} {l : List UInt8} {W W' : World} (h : FirmOf e S n v l W) (hb : Below W.heap.size W W') : FirmOf e S n v l W' := by
  rcases h with ⟨a, h1, h2, h3⟩ | h
  · exact .inl ⟨a, h1, h2.ext hb, h3⟩
  · exact .inr (ownsRow_ext h hb)
theorem run_append_op {P : Program} {o : Oper} {a : Act} {W w' : World} {s x : Operand} {t tx : TypeId} {v1 v2 v' : Value} (ho : o.op = .call { callee := .builtin .append, args := #[s, x], argTypes := #[t, tx] }) (hs : a.eval s = v1) (hx : a.eval x = v2)
    (hr : (Builtin.append_ #[t, tx] o.type #[v1, v2]).run P W = .ok v' w') : (execOp a.eval o).run P W = .ok (.value v') w' := by
  unfold execOp
  simp only [ho, resolve, invoke, builtin, Sem.run_bind, Sem.run_pure, Result.andThen_ok, List.map_toArray, List.map_cons, List.map_nil, hs, hx, hr]
theorem CellsS.take {W : World} {S : Nat → Prop} {a : Option Addr} {n k : Nat} {xs : List Value} (h : CellsS W S a n xs) (hk : k ≤ n) : CellsS W S a k (xs.take k) :=
  ⟨by rw [List.length_take, h.len]; omega, fun i v hi => h.at_ i v (by rw [List.getElem?_take] at hi; split at hi <;> first | exact hi | cases hi)⟩
theorem u8s_take (l : List UInt8) (k : Nat) : (u8s l).take k = u8s (l.take k) := by simp [u8s]
theorem ownsRow_set_other {w : World} {base e size n G i : Nat} {t : TypeId} {v u : Value} {xs cs : List Value} (h : w.ownsRow base e size v n xs) (hb : Blk w G cs t) (ht : t ≠ e) : (w.setCell ⟨G, i, none⟩ u).ownsRow base e size v n xs := by
  refine ⟨h.1, ?_⟩
  rcases h.2 with h2 | ⟨g, cap, cur, h1, h2, h3, h4⟩
  · exact .inl h2
  · refine .inr ⟨g, cap, cur, h1, h2, (Below.heap_setCell w ⟨G, i, none⟩ u g (fun e' => ?_)).trans h3, h4⟩
    subst e'
    rw [show w.heap[g]? = _ from hb] at h3
    cases h3; exact ht rfl
theorem Grew.set {n G i : Nat} {e : TypeId} {W W' : World} {u : Value} (h : Grew n e W W') (hG : n ≤ G) : Below n W' (W'.setCell ⟨G, i, none⟩ u) := (Below.refl _ _).setCell (p := ⟨G, i, none⟩) hG u
theorem u8s_zeros (k : Nat) : u8s (List.replicate k 0) = List.replicate k (.int .u8 0) := by simp [u8s]

section
variable {P : Program} {W : World}
theorem firm_zeros (t tn ty e : TypeId) (i : TypeInfo) (kn : IntKind) (ht : P.underlying t = some (.slice e)) (htn : P.underlying tn = some (.int kn)) (hi : P.info? e = some i) (hz : i.zero = some (.int .u8 0)) (hs : i.size = 1) (hb : i.bytes = 1)
    (S : Nat → Prop) (n : Nat) (hn : n ≤ W.heap.size) (v : Value) (l : List UInt8) (h : FirmOf e S n v l W) (k : Nat) (hm : l.length + k ≤ 140737488355328) :
    ∃ v' w', (Builtin.append_ #[t, tn] ty #[v, .int .i64 k]).run P W = .ok v' w' ∧ FirmOf e S n v' (l ++ List.replicate k 0) w' ∧ Grew n e W w' := by
  have hl : (l ++ List.replicate k 0).length = l.length + k := by simp
  rcases h with ⟨a, rfl, h2, h3⟩ | h
  · by_cases h0 : k = 0
    · subst h0
      refine ⟨_, W, run_append_zeros_nothing t tn ty e i .i64 kn ht htn hi a _ _ (Nat.le_refl _), .inl ⟨a, by simp, by simpa using h2, by simpa using h3⟩, Grew.refl _ _ _⟩
    · obtain ⟨v', w', h4, h5, h6⟩ := run_append_zeros_full (P := P) (w := W) n t tn ty e i (.int .u8 0) (.int .u8 0) .i64 kn ht htn hi hz hs hb rfl S a _ _ h2 h3 k (by omega) hm hn
      exact ⟨v', w', h4, .inr (by rw [hl, u8s_append, u8s_zeros]; exact h5), Grew.of_below h6⟩
  · obtain ⟨v', w', h4, h5, h6⟩ := run_append_zeros_own (P := P) (w := W) n t tn ty e i (.int .u8 0) (.int .u8 0) .i64 kn ht htn hi hz hs hb rfl rfl v _ _ h k hm hn
    exact ⟨v', w', h4, .inr (by rw [hl, u8s_append, u8s_zeros]; exact h5), Grew.of_own h h6⟩
theorem firm_append {t e : TypeId} (E : Elem1 P t e 1) (ty : TypeId) (S : Nat → Prop) (n : Nat) (hn : n ≤ W.heap.size) (v : Value) (l : List UInt8) (h : FirmOf e S n v l W) (T : Nat → Prop) (ax : Option Addr) (m c : Nat) (y : List UInt8) (hy : CellsS W T ax m (u8s y)) (hax : ax ≠ none) (hm0 : 0 < m) (hm : l.length + m ≤ 140737488355328) :
    ∃ v' w', (Builtin.append_ #[t, t] ty #[v, .slice ax m c]).run P W = .ok v' w' ∧ W.heap.size ≤ w'.heap.size ∧ w'.ownsRow n e 1 v' (l ++ y).length (u8s (l ++ y)) ∧ Grew n e W w' := by
  have hl : (l ++ y).length = l.length + m := by have := hy.len; rw [u8s_len] at this; simp; omega
  rcases h with ⟨a, rfl, h2, h3⟩ | h
  · obtain ⟨v', w', h4, h5, h6⟩ := run_append_full_own (w := W) E ty n S a _ _ h2 T ax m c _ hy (u8s_one _) h3 hm0 (by unfold maxLen; omega) (by omega) hn
    exact ⟨v', w', h4, h6.size, by rw [hl, u8s_append]; exact h5, Grew.of_below h6⟩
  · obtain ⟨v', w', h4, h5, h6⟩ := run_append_rowS E ty n v _ _ h T ax m c _ hy (u8s_one _) (fun e => (hax e).elim) (by unfold maxLen; omega) (by omega) hn
    exact ⟨v', w', h4, h6.size, by rw [hl, u8s_append]; exact h5, Grew.of_own h h6⟩

variable {md : Region.Mode} {ops : Array Oper} {Q : Exit → Act → World → Prop}
/-- One operation alone may come, and yields. -/
theorem wpAny_runs {i : Nat} {o : Oper} {v : Value} {w w' : World} {a : Act} {fuel : Nat} {listed : Array Bool} (hr : Region.ready md ops listed = [i]) (ho : ops[i]? = some o) (hw : Region.wanted o (yielded ops a.tmps) = true)
    (hrun : (execOp a.eval o).run P w = .ok (.value v) w') (h : wpAny P md ops Q fuel (listed.setIfInBounds i true) (a.put o.dst v) w') : wpAny P md ops Q (fuel + 1) listed a w :=
  wpAny_all hr (by simp) fun j hj => by
    simp at hj; subst hj
    unfold wpOp
    rw [ho]
    simp only [hw, if_true]
    refine .inl ?_
    unfold Oper.wp
    rw [hrun]
    exact h
theorem wpAny_skips {i : Nat} {o : Oper} {w w' : World} {a : Act} {fuel : Nat} {listed : Array Bool} (hr : Region.ready md ops listed = [i]) (ho : ops[i]? = some o) (hw : Region.wanted o (yielded ops a.tmps) = true)
    (hrun : (execOp a.eval o).run P w = .ok .skip w') (h : wpAny P md ops Q fuel (listed.setIfInBounds i true) (a.put o.dst undef) w') : wpAny P md ops Q (fuel + 1) listed a w :=
  wpAny_all hr (by simp) fun j hj => by
    simp at hj; subst hj
    unfold wpOp
    rw [ho]
    simp only [hw, if_true]
    refine .inl ?_
    unfold Oper.wp
    rw [hrun]
    exact h
theorem wpAny_takeD {i : Nat} {oi : Oper} {v : Value} (d : Option Tmp) {fuel : Nat} {listed : Array Bool} {a : Act} {w : World} (hi : ops[i]? = some oi) (hd : oi.dst = d)
    (hs : Region.noSelect ops = true) (hf : Region.free md ops listed i = true) (hr : (Region.ready md ops listed).contains i = true)
    (hQ : ∀ c a w, Q (.panic c) (a.put oi.dst v) w → Q (.panic c) a w) (hy : Yields P ops oi v a)
    (h : wpAny P md ops Q fuel (listed.setIfInBounds i true) (a.put d v) w) : wpAny P md ops Q (fuel + 1) listed a w := by
  subst hd
  exact wpAny_take hi hs hf hr hQ hy h
theorem wpAny_runsD {i : Nat} {o : Oper} {v : Value} {w w' : World} (d : Option Tmp) {a : Act} {fuel : Nat} {listed : Array Bool} (hr : Region.ready md ops listed = [i]) (ho : ops[i]? = some o) (hd : o.dst = d) (hw : Region.wanted o (yielded ops a.tmps) = true)
    (hrun : (execOp a.eval o).run P w = .ok (.value v) w') (h : wpAny P md ops Q fuel (listed.setIfInBounds i true) (a.put d v) w') : wpAny P md ops Q (fuel + 1) listed a w := by
  subst hd
  exact wpAny_runs hr ho hw hrun h
theorem wpAny_skipsD {i : Nat} {o : Oper} {w w' : World} (d : Option Tmp) {a : Act} {fuel : Nat} {listed : Array Bool} (hr : Region.ready md ops listed = [i]) (ho : ops[i]? = some o) (hd : o.dst = d) (hw : Region.wanted o (yielded ops a.tmps) = true)
    (hrun : (execOp a.eval o).run P w = .ok .skip w') (h : wpAny P md ops Q fuel (listed.setIfInBounds i true) (a.put d undef) w') : wpAny P md ops Q (fuel + 1) listed a w := by
  subst hd
  exact wpAny_skips hr ho hw hrun h
end
end Go.Dav

namespace Go.Dav
set_option linter.unusedVariables false
set_option linter.unusedSimpArgs false
open Go Go.RowKit
section
variable {P : Program} {md : Region.Mode} {ops : Array Oper} {Q : Exit → Act → World → Prop}
theorem wpOp_valE {i : Nat} {o : Oper} {v : Value} {w w' : World} (d : Option Tmp) {a : Act} {K : Act → World → Prop} (ho : ops[i]? = some o) (hd : o.dst = d) (hw : Region.wanted o (yielded ops a.tmps) = true)
    (hrun : (execOp a.eval o).run P w = .ok (.value v) w') (h : K (a.put d v) w') : wpOp P ops Q i K a w := by
  subst hd
  unfold wpOp
  rw [ho]
  simp only [hw, if_true]
  refine .inl ?_
  unfold Oper.wp
  rw [hrun]
  exact h
end
end Go.Dav
namespace Go.Proofs.YtmcmknndhppljaaDoor
set_option linter.unusedVariables false
set_option linter.unusedSimpArgs false
open Go.RowKit Go.Dav
attribute [local go_sem] Gives ite_val ite_val_true

theorem Tryd_load6 {o : Oper} {src : Operand} {a : Act} {W : World} {g i : Nat} {l : List PairE} {e : PairE} (ho : o.op = .load 56 src) (hs : a.eval src = .pointer (some ⟨g, i * 6, none⟩)) (hp : PairsAt W g l 56) (he : l[i]? = some e) :
    (execOp a.eval o).run Tryd.prog W = .ok (.value (.agg #[.string e.key, .int .i64 e.k, .int .i64 e.n, .string e.s, .slice e.a1 e.l1 e.c1, .slice e.a2 e.l2 e.c2])) W := by
  obtain ⟨q0, q1, q2, q3, q4, q5⟩ := hp.get he
  have l := hp.lt
  unfold execOp
  simp only [ho, hs]
  go_simp
theorem Tryd_store6 {o : Oper} {dst src : Operand} {a : Act} {W : World} {g i : Nat} {l : List PairE} {e e0 : PairE} (ho : o.op = .store 56 dst src) (hd : a.eval dst = .pointer (some ⟨g, i * 6, none⟩)) (hs : a.eval src = .agg #[.string e.key, .int .i64 e.k, .int .i64 e.n, .string e.s, .slice e.a1 e.l1 e.c1, .slice e.a2 e.l2 e.c2]) (hp : PairsAt W g l 56) (he : l[i]? = some e0) :
    (execOp a.eval o).run Tryd.prog W = .ok .skip (set6W W g i e) := by
  obtain ⟨q0, q1, q2, q3, q4, q5⟩ := hp.get he
  have lt := hp.lt
  have mk := hp.marks
  unfold execOp set6W
  simp only [ho, hs, hd]
  go_simp
end Go.Proofs.YtmcmknndhppljaaDoor

namespace Go.Dav
set_option linter.unusedVariables false
set_option linter.unusedSimpArgs false
open Go Go.RowKit

section
variable {P : Program} {ops : Array Oper}

/-- A part of a tuple, a copy: what it yields hangs on no world. -/
def plainB (o : Oper) : Bool := o.guard.isNone && match o.op with
  | .extract _ _ => true
  | .move _ => true
  | _ => false

/-- The free ones are plain, and apart from what stands behind and from one another. -/
def freeB (ops : Array Oper) (n : Nat) (F : List Nat) : Bool :=
  F.all fun i => decide (i < n) && match ops[i]? with
    | none => false
    | some oi => plainB oi && (List.range ops.size).all fun j => j == i || (decide (j < n) && !F.contains j) || match ops[j]? with
      | some oj => oj.after.any (fun e => Region.binds .any e && e.on == i) || oi.apart ops oj
      | none => true

/-- Every one that is not free is waited for, by one behind it that is not free. -/
def sinkFB (ops : Array Oper) (n : Nat) (F : List Nat) : Bool :=
  (List.range n).all fun i => F.contains i || (List.range (n + 1)).any fun j => decide (i < j) && !F.contains j && Region.waitsFor .any ops j i

def partsFB (ops : Array Oper) (n : Nat) (F : List Nat) : Bool :=
  Region.noSelect ops && tidyB ops n && backB ops n && decide (n < ops.size) && (sinkFB ops n F && Region.chainB .any ops n) && freeB ops n F &&
    Region.seqB .any ops (ops.size - n) n ((Array.range ops.size).map fun j => decide (j < n)) && !F.contains n

theorem tail_waitsF {n : Nat} {F : List Nat} {listed : Array Bool} (hs : sinkFB ops n F = true) (hc : Region.chainB .any ops n = true) (hn : n < ops.size) (hF : F.contains n = false) (inv : HeadInv .any ops n listed) :
    ∀ (d i : Nat), n - i = d → i < n → F.contains i = false → listed.getD i true = false → ∀ t, n ≤ t → t ∉ Region.ready .any ops listed := by
  intro d
  induction d using Nat.strongRecOn with
  | _ d ih =>
    intro i hd hi hfi hun t ht hr
    obtain ⟨_, ot, hot, hall⟩ := mem_ready.1 hr
    have htlt : t < ops.size := (Array.getElem?_eq_some_iff.1 hot).1
    by_cases htn : t = n
    · subst htn
      have h1 := List.all_eq_true.1 hs i (List.mem_range.2 hi)
      rw [hfi, Bool.false_or] at h1
      obtain ⟨j, hj, hj2⟩ := List.any_eq_true.1 h1
      simp only [Bool.and_eq_true, decide_eq_true_eq, Bool.not_eq_true'] at hj2
      obtain ⟨oj, hoj, e, he, hb, hon⟩ := Region.waitsFor_spec hj2.2
      have hjle : j ≤ t := by have := List.mem_range.1 hj; omega
      by_cases hjt : j = t
      · subst hjt
        have : oj = ot := Option.some.inj (hoj.symm.trans hot)
        subst this
        have h2 := hall e he hb
        rw [hon, getD_both hun] at h2
        cases h2
      · cases hl : listed.getD j false with
        | true =>
          have h2 := inv.closed j oj hoj hl e he hb
          rw [hon, getD_both hun] at h2
          cases h2
        | false =>
          have hjs : j < listed.size := by rw [inv.size]; omega
          exact ih (t - j) (by omega) j rfl (by omega) hj2.1.2 (getD_in hjs hl) t (Nat.le_refl _) hr
    · have h1 := List.all_eq_true.1 hc t (List.mem_range.2 htlt)
      simp only [Bool.or_eq_true, decide_eq_true_eq] at h1
      rcases h1 with h1 | h1
      · omega
      · obtain ⟨o', ho', e, he, hb, hon⟩ := Region.waitsFor_spec h1
        have : o' = ot := Option.some.inj (ho'.symm.trans hot)
        subst this
        have h2 := hall e he hb
        rw [hon, getD_both (inv.tail (t - 1) (by omega) (by omega))] at h2
        cases h2

/-- A plain operation yields what it yields in whatever world. -/
theorem plain_yields {o : Oper} {a : Act} {W : World} {R : Value → World → Prop} (hp : plainB o = true) (h : Gives P o a W R) :
    ∃ v, Yields P ops o v a ∧ R v W := by
  unfold plainB at hp
  simp only [Bool.and_eq_true, Option.isNone_iff_eq_none] at hp
  have hw : Region.wanted o (yielded ops a.tmps) = true := by unfold Region.wanted; rw [hp.1]
  have hop := hp.2
  cases he : o.op with
  | move x =>
    have hr : ∀ w, (execOp a.eval o).run P w = .ok (.value (a.eval x)) w := fun w => by
      simp only [execOp, he]
      rfl
    unfold Gives at h
    rw [hr] at h
    exact ⟨_, .inl ⟨hw, hr⟩, h.2⟩
  | extract x k =>
    unfold Gives at h
    cases hx : a.eval x with
    | tuple vs =>
      cases hk : vs[k]? with
      | some v =>
        have hr : ∀ w, (execOp a.eval o).run P w = .ok (.value v) w := fun w => by
          simp only [execOp, he, hx]
          simp [Instr.extract, hk, go_sem]
        rw [hr] at h
        exact ⟨_, .inl ⟨hw, hr⟩, h.2⟩
      | none =>
        exfalso
        simp only [execOp, he, hx] at h
        simp [Instr.extract, hk, go_sem] at h
    | _ =>
      exfalso
      simp only [execOp, he, hx] at h
      simp [Instr.extract, go_sem] at h
  | _ => rw [he] at hop; cases hop

/-- What an operation of the head gives, wherever its turn comes. -/
theorem mid_gives {n : Nat} {ps : Nat → Value ⊕ (Value → World → Prop)} {a0 : Act} {w0 : World} {listed : Array Bool} {vs : Nat → Value} {a : Act} {W : World}
    (hB : tidyB ops n = true) (hsel : Region.noSelect ops = true)
    (hop : ∀ vs i, i < n → stepFor P ops ps a0 w0 vs i) (inv : HeadInv .any ops n listed) (mid : Mid ops n ps a0 w0 listed vs a W)
    {i : Nat} {oi : Oper} (hr : i ∈ Region.ready .any ops listed) (hin : i < n) (hoi : ops[i]? = some oi) (hg : oi.guard = none) : Gives P oi a W (holdsOf (ps i)) := by
  obtain ⟨hun, oi', hoi', hall⟩ := mem_ready.1 hr
  obtain rfl : oi' = oi := Option.some.inj (hoi'.symm.trans hoi)
  have hunf : listed.getD i false = false := getD_both hun
  have later : ∀ j oj d, j < n → ops[j]? = some oj → oj.dst = some d → listed.getD j false = true → (d ∈ oi'.looksAt ops ∨ oi'.dst = some d) → j < i := by
    intro j oj d hj hoj hd hl hlook
    have hji : i ≠ j := fun e => by subst e; rw [hunf] at hl; cases hl
    obtain ⟨_, h1, _⟩ := tidy_spec hB hin hj hoi hoj hd (hlook.imp id fun h => ⟨h, hji⟩)
    rcases Nat.lt_trichotomy i j with h | h | h
    · obtain ⟨oj', hoj', e, he, hb, hon⟩ := Region.waitsFor_spec (h1 h)
      have := inv.closed j oj' hoj' hl e he hb
      rw [hon, hunf] at this
      cases this
    · exact absurd h hji
    · exact h
  have early : ∀ j oj d, j < i → ops[j]? = some oj → oj.dst = some d → (d ∈ oi'.looksAt ops) → listed.getD j false = true := by
    intro j oj d hj hoj hd hlook
    obtain ⟨_, _, h2⟩ := tidy_spec hB hin (by omega) hoi hoj hd (.inl hlook)
    obtain ⟨oi2, hoi2, e, he, hb, hon⟩ := Region.waitsFor_spec (h2 hj)
    have : oi2 = oi' := Option.some.inj (hoi2.symm.trans hoi)
    subst this
    have := hall e he hb
    rwa [hon] at this
  have looks : ∀ t ∈ oi'.looksAt ops, (lay ops vs a0 i).tmps[t]? = a.tmps[t]? := by
    intro t ht
    rw [lay_get, mid.slots t]
    unfold slotOf
    rw [lastW_eq (ops := ops) (t := t) (p := fun _ => true) (q := fun j => listed.getD j false) (m := i) (n := n) ?_]
    intro j
    constructor
    · rintro ⟨h1, _, h3⟩
      obtain ⟨oj, hoj, hd⟩ := Option.bind_eq_some_iff.1 h3
      exact ⟨by omega, early j oj t h1 hoj hd ht, h3⟩
    · rintro ⟨h1, h2, h3⟩
      obtain ⟨oj, hoj, hd⟩ := Option.bind_eq_some_iff.1 h3
      exact ⟨later j oj t h1 hoj hd h2 (.inl ht), rfl, h3⟩
  have hdeps : depsHold ops ps vs oi' W i := depsHold_of i fun j d hj hd hl => by
    obtain ⟨oj, hoj, hd'⟩ := Option.bind_eq_some_iff.1 hd
    exact mid.held j (by omega) (early j oj d hj hoj hd' hl)
  have hs := hop vs i hin
  unfold stepFor at hs
  simp only [hoi] at hs
  have hs := hs W mid.ext hdeps
  have hw : Region.wanted oi' (yielded ops (lay ops vs a0 i).tmps) = true := by unfold Region.wanted; rw [hg]
  rw [if_pos hw] at hs
  exact hs.of_eval (exec_congr (fun cs b => Region.noSelect_spec hsel i oi' cs b hoi) (fun t ht => (looks t ht).symm))

/-- What holds behind an operation of the head. -/
theorem mid_put {n : Nat} {ps : Nat → Value ⊕ (Value → World → Prop)} {a0 : Act} {w0 : World} {listed : Array Bool} {vs : Nat → Value} {a : Act} {W : World}
    (hB : tidyB ops n = true) (hst : ∀ j R, ps j = .inr R → ∀ v W W', R v W → Below W.heap.size W W' → R v W')
    (inv : HeadInv .any ops n listed) (mid : Mid ops n ps a0 w0 listed vs a W)
    {i : Nat} {oi : Oper} (hr : i ∈ Region.ready .any ops listed) (hin : i < n) (hoi : ops[i]? = some oi) {v : Value} {W' : World} (hb : Below W.heap.size W W') (hv : holdsOf (ps i) v W') :
    Mid ops n ps a0 w0 (listed.setIfInBounds i true) (fun j => if j = i then v else vs j) (a.put oi.dst v) W' := by
  obtain ⟨hun, oi', hoi', hall⟩ := mem_ready.1 hr
  obtain rfl : oi' = oi := Option.some.inj (hoi'.symm.trans hoi)
  have hunf : listed.getD i false = false := getD_both hun
  have hisz : i < listed.size := by rw [inv.size]; exact (Array.getElem?_eq_some_iff.1 hoi).1
  have later : ∀ j oj d, j < n → ops[j]? = some oj → oj.dst = some d → listed.getD j false = true → (d ∈ oi'.looksAt ops ∨ oi'.dst = some d) → j < i := by
    intro j oj d hj hoj hd hl hlook
    have hji : i ≠ j := fun e => by subst e; rw [hunf] at hl; cases hl
    obtain ⟨_, h1, _⟩ := tidy_spec hB hin hj hoi hoj hd (hlook.imp id fun h => ⟨h, hji⟩)
    rcases Nat.lt_trichotomy i j with h | h | h
    · obtain ⟨oj', hoj', e, he, hb, hon⟩ := Region.waitsFor_spec (h1 h)
      have := inv.closed j oj' hoj' hl e he hb
      rw [hon, hunf] at this
      cases this
    · exact absurd h hji
    · exact h
  refine ⟨ext_trans mid.ext hb, by rw [put_size, mid.size], by rw [put_defers, mid.defers], fun t => ?_, fun j hj hl => ?_⟩
  · rw [put_get, mid.size]
    unfold slotOf
    by_cases hd : oi'.dst = some t
    · simp only [hd, if_true]
      have : lastW ops (fun j => (listed.setIfInBounds i true).getD j false) t n = some i := by
        cases hc : lastW ops (fun j => (listed.setIfInBounds i true).getD j false) t n with
        | none => exact absurd ⟨by simp [hisz], by simp [hoi, hd]⟩ (lastW_none hc i hin)
        | some j =>
          obtain ⟨c1, c2, c3, c4⟩ := lastW_some hc
          obtain ⟨oj, hoj, hdj⟩ := Option.bind_eq_some_iff.1 c3
          by_cases e : j = i
          · rw [e]
          · have hlj : listed.getD j false = true := by rwa [getD_set_ne false (Ne.symm e)] at c2
            have := later j oj t c1 hoj hdj hlj (.inr hd)
            exact absurd ⟨by simp [hisz], by simp [hoi, hd]⟩ (c4 i this hin)
      rw [this]
      simp
    · simp only [hd, if_false]
      rw [mid.slots t]
      unfold slotOf
      have : lastW ops (fun j => (listed.setIfInBounds i true).getD j false) t n = lastW ops (fun j => listed.getD j false) t n := by
        refine lastW_eq fun j => ?_
        by_cases e : j = i
        · subst e; simp [hoi, hd]
        · rw [getD_set_ne false (Ne.symm e)]
      rw [this]
      cases hc : lastW ops (fun j => listed.getD j false) t n with
      | none => rfl
      | some j =>
        obtain ⟨c1, c2, c3, c4⟩ := lastW_some hc
        have e : j ≠ i := fun e => by subst e; simp [hoi, hd] at c3
        simp [e]
  · by_cases e : j = i
    · subst e; simpa using hv
    · simp only [e, if_false]
      have hl' : listed.getD j false = true := by rwa [getD_set_ne false (Ne.symm e)] at hl
      have h1 := mid.held j hj hl'
      cases hp : ps j with
      | inl u => simpa [hp, holdsOf] using h1
      | inr R => simp only [hp, holdsOf] at h1 ⊢; exact hst j R hp _ _ _ h1 hb

theorem free_spec {n : Nat} {F : List Nat} (h : freeB ops n F = true) {i : Nat} (hi : F.contains i = true) :
    i < n ∧ ∃ oi, ops[i]? = some oi ∧ plainB oi = true ∧ ∀ j oj, ops[j]? = some oj → j ≠ i → ¬ (j < n ∧ F.contains j = false) → (∀ e ∈ oj.after, Region.binds .any e = true → e.on ≠ i) → oi.apart ops oj = true := by
  have h1 := List.all_eq_true.1 h i (by simpa using hi)
  simp only [Bool.and_eq_true, decide_eq_true_eq] at h1
  obtain ⟨h1, h2⟩ := h1
  refine ⟨h1, ?_⟩
  cases ho : ops[i]? with
  | none => simp [ho] at h2
  | some oi =>
    simp only [ho, Bool.and_eq_true] at h2
    refine ⟨oi, rfl, h2.1, fun j oj hj hji hnf hno => ?_⟩
    have h3 := List.all_eq_true.1 h2.2 j (List.mem_range.2 (Array.getElem?_eq_some_iff.1 hj).1)
    simp only [hj, Bool.or_eq_true, Bool.and_eq_true, beq_iff_eq, decide_eq_true_eq, Bool.not_eq_true'] at h3
    rcases h3 with (h3 | h3) | h3 | h3
    · exact absurd h3 hji
    · exact absurd h3 hnf
    · obtain ⟨e, he, hb⟩ := Array.any_eq_true'.1 h3
      simp only [Bool.and_eq_true, beq_iff_eq] at hb
      exact absurd hb.2 (hno e he hb.1)
    · exact h3

theorem wpAny_of_midF {n : Nat} {F : List Nat} {ps : Nat → Value ⊕ (Value → World → Prop)} {a0 : Act} {w0 : World} {Q : Exit → Act → World → Prop} {l : List Oper}
    (hl : ∀ j : Nat, l[j]? = ops[n + j]?) (hll : l.length = ops.size - n)
    (hB : partsFB ops n F = true) (hst : ∀ j R, ps j = .inr R → ∀ v W W', R v W → Below W.heap.size W W' → R v W')
    (hQ : ∀ c a d v w, Q (.panic c) (Act.put a d v) w → Q (.panic c) a w)
    (hop : ∀ vs i, i < n → stepFor P ops ps a0 w0 vs i)
    (hend : ∀ vs W, Below w0.heap.size w0 W → allHold ps vs W n → wpList P ops Q l (lay ops vs a0 n) W) :
    ∀ (f : Nat) (listed : Array Bool) (vs : Nat → Value) (a : Act) (W : World), HeadInv .any ops n listed → Mid ops n ps a0 w0 listed vs a W → cnt listed n = f →
      wpAny P .any ops Q (f + (ops.size - n)) listed a W := by
  simp only [partsFB, Bool.and_eq_true, decide_eq_true_eq, Bool.not_eq_true'] at hB
  obtain ⟨⟨⟨⟨⟨⟨⟨hsel, htidy⟩, hback⟩, hn⟩, hsink, hchain⟩, hfree⟩, hseq⟩, hFn⟩ := hB
  intro f
  induction f with
  | zero =>
    intro listed vs a W inv mid hc
    have hall := cnt_zero listed n hc
    have hlisted : listed = (Array.range ops.size).map fun j => decide (j < n) := by
      apply Array.ext
      · simp [inv.size]
      · intro j h1 h2
        simp only [Array.getElem_map, Array.getElem_range]
        by_cases hj : j < n
        · have := hall j hj
          simp only [h1, Array.getD_eq_getD_getElem?, Array.getElem?_eq_getElem, Option.getD_some] at this
          simp [hj, this]
        · have := getD_both (inv.tail j (by omega) (by simpa using h2))
          simp only [h1, Array.getD_eq_getD_getElem?, Array.getElem?_eq_getElem, Option.getD_some] at this
          simp [hj, this]
    have ha : a = lay ops vs a0 n := act_ext (fun t => by
      rw [lay_get, mid.slots t]
      unfold slotOf
      rw [lastW_eq (ops := ops) (t := t) (p := fun j => listed.getD j false) (q := fun _ => true) (m := n) (n := n) ?_]
      intro j
      constructor
      · rintro ⟨h1, _, h3⟩; exact ⟨h1, rfl, h3⟩
      · rintro ⟨h1, _, h3⟩; exact ⟨h1, hall j h1, h3⟩) (by rw [mid.defers, lay_defers])
    have h := hend vs W mid.ext (allHold_of n fun j hj => mid.held j hj (hall j hj))
    rw [Nat.zero_add, ← hll]
    rw [← hlisted, ← hll] at hseq
    rw [ha]
    exact wpAny_of_seq l n listed _ W hl hseq h
  | succ f ih =>
    intro listed vs a W inv mid hc
    obtain ⟨i0, hi0, hu0, hlow⟩ := least_unlisted listed n (by omega)
    rw [show f + 1 + (ops.size - n) = (f + (ops.size - n)) + 1 by omega]
    have hr0 : i0 ∈ Region.ready .any ops listed := by
      have h1 := List.all_eq_true.1 hback i0 (List.mem_range.2 hi0)
      cases ho : ops[i0]? with
      | none => simp [ho] at h1
      | some o =>
        simp only [ho] at h1
        refine mem_ready.2 ⟨getD_in (by rw [inv.size]; omega) hu0, o, ho, fun e he hb => ?_⟩
        have h2 := Array.all_eq_true'.1 h1 e he
        simp only [hb, Bool.not_true, Bool.false_or, decide_eq_true_eq] at h2
        exact hlow e.on h2
    by_cases hex : ∃ i1, i1 < n ∧ F.contains i1 = false ∧ listed.getD i1 false = false
    · obtain ⟨i1, hi1, hf1, hu1⟩ := hex
      refine ⟨fun h => (by rw [h] at hr0; cases hr0), fun i hi => ?_⟩
      have hin : i < n := by
        rcases Nat.lt_or_ge i n with h | h
        · exact h
        · exact absurd hi (tail_waitsF hsink hchain hn hFn inv _ i1 rfl hi1 hf1 (getD_in (by rw [inv.size]; omega) hu1) i h)
      have hun := (mem_ready.1 hi).1
      refine mid_step htidy hsel hst hop inv mid hi hin fun vs' a' W' inv' mid' => ih _ vs' a' W' inv' mid' ?_
      have := cnt_set listed i (by rw [inv.size]; omega) (getD_both hun) n hin
      omega
    · have hF0 : F.contains i0 = true := by
        cases h : F.contains i0 with
        | true => rfl
        | false => exact absurd ⟨i0, hi0, h, hu0⟩ hex
      obtain ⟨_, oi, hoi, hpl, hap⟩ := free_spec hfree hF0
      have hg := mid_gives htidy hsel hop inv mid hr0 hi0 hoi (by simp only [plainB, Bool.and_eq_true, Option.isNone_iff_eq_none] at hpl; exact hpl.1)
      obtain ⟨v, hy, hv⟩ := plain_yields (ops := ops) hpl hg
      have hun := (mem_ready.1 hr0).1
      refine wpAny_first (v := v) hoi (fun j o cs b ho => Region.noSelect_spec hsel j o cs b ho) (fun c a w h => hQ c a _ _ w h) _ listed a W (fun j oj hj hji hjun hno => hap j oj hj hji (fun ⟨h1, h2⟩ => hex ⟨j, h1, h2, getD_both hjun⟩) hno) hr0 hy ?_
      refine ih _ (fun j => if j = i0 then v else vs j) _ W (inv.set hr0 hi0) (mid_put htidy hst inv mid hr0 hi0 hoi (Below.refl _ _) hv) ?_
      have := cnt_set listed i0 (by rw [inv.size]; omega) (getD_both hun) n hi0
      omega

theorem wp_region_partsF {id : Nat} {ops : List Oper} {Q : Exit → Act → World → Prop} {a : Act} {w : World} (n : Nat) (F : List Nat) (ps : Nat → Value ⊕ (Value → World → Prop)) (hm : P.follows .mixedOrders = true) (hB : partsFB ops.toArray n F = true)
    (hst : ∀ j R, ps j = .inr R → ∀ v W W', R v W → Below W.heap.size W W' → R v W')
    (hQ : ∀ c a d v w, Q (.panic c) (Act.put a d v) w → Q (.panic c) a w)
    (hop : ∀ vs i, i < n → stepFor P ops.toArray ps a w vs i)
    (hend : ∀ vs W, Below w.heap.size w W → allHold ps vs W n → wpList P ops.toArray Q (ops.drop n) (lay ops.toArray vs a n) W) : (Code.region id ops.toArray true).wp P Q a w := by
  have hn : n < ops.toArray.size := by
    simp only [partsFB, Bool.and_eq_true, decide_eq_true_eq] at hB
    exact hB.1.1.1.1.2
  have he : Below w.heap.size w { w with drawn := w.drawn + 1 } := (Below.refl _ _).drew
  have hc : ∀ m, cnt (Array.replicate ops.toArray.size false) m = m := fun m => by
    induction m with
    | zero => rfl
    | succ m ih => rw [cnt, ih, getD_replicate_false]; rfl
  refine wp_region_any hm ?_
  have := wpAny_of_midF (P := P) (ops := ops.toArray) (l := ops.drop n) (fun j => by simp [List.getElem?_drop]) (by simp) hB hst hQ hop hend n (Array.replicate ops.toArray.size false) (fun _ => undef) a { w with drawn := w.drawn + 1 }
    ⟨by simp, fun j oj _ hl => (by rw [getD_replicate_false] at hl; cases hl), fun t _ ht => getD_in (by simpa using ht) (getD_replicate_false _ _)⟩
    ⟨he, rfl, rfl, fun t => ?_, fun j _ hl => (by rw [getD_replicate_false] at hl; cases hl)⟩ (hc n)
  · rwa [show n + (ops.toArray.size - n) = ops.toArray.size by omega] at this
  · unfold slotOf
    rw [show lastW ops.toArray (fun j => (Array.replicate ops.toArray.size false).getD j false) t n = none from ?_]
    cases h : lastW ops.toArray (fun j => (Array.replicate ops.toArray.size false).getD j false) t n with
    | none => rfl
    | some j => have := (lastW_some h).2.1; rw [getD_replicate_false] at this; cases this

/-- What stands behind, where nothing panics. -/
def noPanic (Q : Exit → Act → World → Prop) : Exit → Act → World → Prop
  | .panic _ => fun _ _ => False
  | e => Q e
theorem noPanic.of {Q : Exit → Act → World → Prop} {e : Exit} {a : Act} {w : World} (h : noPanic Q e a w) : Q e a w := by
  cases e <;> first | exact h | exact h.elim
theorem noPanic_normal {Q : Exit → Act → World → Prop} {a : Act} {w : World} (h : Q .normal a w) : noPanic Q .normal a w := h

/-- **A region that draws its order**, walked in the order of the text; F lists the operations that may also come after the stores at its end. -/
theorem wp_region_seqF {id : Nat} {l : List Oper} {Q : Exit → Act → World → Prop} {a : Act} {w : World} (F : List Nat) (ps : List Piece) (hm : P.follows .mixedOrders = true) (hB : partsFB l.toArray ps.length F = true)
    (h : wpParts P l.toArray w (noPanic Q) l ps [] a) : (Code.region id l.toArray true).wp P Q a w := by
  refine Code.wp_mono (Q := noPanic Q) (fun e a w h => h.of) ?_
  have hn : ps.length ≤ l.length := by
    simp only [partsFB, Bool.and_eq_true, decide_eq_true_eq] at hB
    have := hB.1.1.1.1.2
    simp at this
    omega
  have hsel : Region.noSelect l.toArray = true := by
    simp only [partsFB, Bool.and_eq_true] at hB
    exact hB.1.1.1.1.1.1.1
  have spec := fun vs => parts_spec (P := P) (ops := l.toArray) (w := w) (Q := noPanic Q) (a := a) (qs := fun i => (ps[i]?).getD (.inl undef)) vs l ps 0 (fun j => by simp) (fun j p hj => by simp [hj]) hn h
  refine wp_region_partsF ps.length F (fun i => (ps[i]?).getD (.inl undef)) hm hB ?_ (fun _ _ _ _ _ h => h) ?_ ?_
  · intro j R hj
    by_cases hlt : j < ps.length
    · exact (spec (fun _ => undef)).2.1 j R (by omega) (by omega) hj
    · have : ps[j]? = none := by simp; omega
      simp [this] at hj
  · intro vs i hi
    unfold stepFor
    obtain ⟨o, ho, hs⟩ := (spec vs).1 i (by omega) (by omega)
    rw [ho]
    intro W hW hd
    have hs := hs W hW (near_of hd)
    have looks : ∀ t ∈ o.looksAt l.toArray, (lay l.toArray (fixed (fun i => (ps[i]?).getD (.inl undef)) vs) a i).tmps[t]? = (lay l.toArray vs a i).tmps[t]? := by
      intro t ht
      rw [lay_get, lay_get]
      unfold slotOf
      cases hc : lastW l.toArray (fun _ => true) t i with
      | none => rfl
      | some j =>
        obtain ⟨c1, _, c3, _⟩ := lastW_some hc
        simp only
        rw [fixed_eq (depsHold_get hd j t c1 c3 ht)]
    rw [wanted_congr looks] at hs
    simp only
    split
    · rename_i hw; rw [if_pos hw] at hs
      refine hs.of_eval (exec_congr (fun cs b => Region.noSelect_spec hsel i o cs b ho) (fun t ht => (looks t ht).symm))
    · rename_i hw; rw [if_neg hw] at hs; exact hs
  · intro vs W hW hall
    have := (spec vs).2.2 W hW (every_of (by simpa using hall))
    have e : lay l.toArray (fixed (fun i => (ps[i]?).getD (.inl undef)) vs) a ps.length = lay l.toArray vs a ps.length := act_ext (fun t => by
      rw [lay_get, lay_get]
      unfold slotOf
      cases hc : lastW l.toArray (fun _ => true) t ps.length with
      | none => rfl
      | some j =>
        obtain ⟨c1, _, _, _⟩ := lastW_some hc
        simp only
        rw [fixed_eq (allHold_get hall j c1)]) (by rw [lay_defers, lay_defers])
    rw [Nat.zero_add, e] at this
    exact this

end
end Go.Dav
