/-
  Slices of rows, opened: each row with its number; where they lie.
-/
import Derived.Test.YtdebmifjfemcjaaRows
import Derived.Test.YtdebmifjfemcjaaMonAll
import Derived.Test.YtdebmifjfemcjaaOpen
import Derived.WalkKit
import Derived.ProofKit
import Derived.OpenShut
import Derived.ShutString
import Derived.ChangeOld
import Derived.Below
namespace Go.Proofs.Ytdebmifjfemcjaa
set_option linter.unusedVariables false
set_option linter.unusedSimpArgs false
open Go.ChangeShapes Go.WideShapes Go.ChangeAt Go.RowKit Go.Joins Go.Dav

/-- A list that answers at every place below n, where each place has an answer. -/
theorem Try_listOf {α : Type} {p : Nat → α → Prop} : ∀ (n : Nat), (∀ i, i < n → ∃ x, p i x) → ∃ l : List α, l.length = n ∧ ∀ i x, l[i]? = some x → p i x
  | 0, _ => ⟨[], rfl, fun i x h => by simp at h⟩
  | n + 1, h => by
    obtain ⟨l, hl, hp⟩ := Try_listOf (p := p) n (fun i hi => h i (by omega))
    obtain ⟨x, hx⟩ := h n (by omega)
    refine ⟨l ++ [x], by simp [hl], fun i y hy => ?_⟩
    by_cases hi : i < l.length
    · rw [List.getElem?_append_left hi] at hy; exact hp i y hy
    · rw [List.getElem?_append_right (by omega)] at hy
      have : i - l.length = 0 := by
        have := (List.getElem?_eq_some_iff.1 hy).1
        simp at this; omega
      rw [this] at hy
      have e : x = y := by simpa using hy
      have : i = n := by omega
      subst this e
      exact hx

section
variable {H : Type} {enc : TypeId × Value → H} {w : World} {base : Nat} {spare : Nat → Bool} {held : Bool}

theorem Try_row_open {r : Reach} {b0 : Nat} {v : Value} {d : DataW H} {p : List MemPlace} (hv : Value.okWide Try.prog w r b0 27 v) (h : DataW.Trod enc Try.prog w base spare held 27 v d p) :
    ∃ y : TryRow, v = .agg #[.slice y.a1 y.l1 y.c1, .slice y.a2 y.l2 y.c2, .bool y.b, .int .i64 y.x] ∧ I64 y.x := by
  obtain ⟨z0, z1, z2, z3, u0, u1, u2, u3, fv, rfl, rfl, rfl, i0, i1, i2, i3⟩ := open_agg4 Try.underlying27 (by kernel_rfl) (by kernel_rfl) hv h
  obtain ⟨a1, l1, c1, f0⟩ := slice_form Try.underlying25 i0
  obtain ⟨a2, l2, c2, f1⟩ := slice_form Try.underlying25 i1
  obtain ⟨b2, f2, _⟩ := DataW.trod_bool Try.underlying4 i2
  obtain ⟨m3, f3, _, v3⟩ := DataW.trod_int Try.underlying2 i3
  simp only [List.cons.injEq, and_true] at f0 f1 f2 f3
  subst f0 f1 f2 f3
  exact ⟨⟨a1, l1, c1, a2, l2, c2, b2, m3⟩, rfl, i64_of_wf v3⟩

theorem Try_rows_open {r : Reach} {b0 : Nat} {v : Value} {d : DataW H} {p : List MemPlace} (hv : Value.okWide Try.prog w r b0 39 v) (h : DataW.Trod enc Try.prog w base spare held 39 v d p) :
    ∃ (a : Option Addr) (len cap : Nat) (l : List TryRow), v = .slice a len cap ∧ l.length = len ∧ len ≤ cap ∧ cap ≤ maxLen ∧ TryRowsIn w w.heap.size a l ∧ (∀ r ∈ l, I64 r.x) ∧ (a = none → len = 0 ∧ cap = 0) := by
  obtain ⟨a0, len0, cap0, rfl⟩ := okWide_slice Try.underlying39 hv
  obtain ⟨fuel, hf⟩ := h
  rcases open_slice_fields Try.underlying39 Try.underlying27 (by kernel_rfl) (by kernel_rfl) hf with ⟨hc, _⟩ | ⟨a, len, cap, m, D, Pl, hc, _, hl, hm, hmm, _, hi⟩
  · simp only [Value.cells, List.cons.injEq, and_true] at hc
    refine ⟨_, _, _, [], hc, rfl, Nat.le_refl _, by unfold maxLen; omega, fun k r hk => by simp at hk, (fun r hr => by simp at hr), fun _ => ⟨rfl, rfl⟩⟩
  · simp only [Value.cells, List.cons.injEq, and_true] at hc
    have hlm : len ≤ m := by rw [hmm]; split <;> omega
    have key : ∀ i, i < len → ∃ y : TryRow, I64 y.x ∧ ∀ j u, y.cells[j]? = some u → w.cell? (a.add (i * 4 + j)) = some u := by
      intro i hil
      obtain ⟨ys, n, _, _, hyl, hF⟩ := hi i (by omega)
      obtain ⟨v0, y0, c0, _, t0⟩ := hF 0 _ rfl
      obtain ⟨v1, y1, c1, _, t1⟩ := hF 1 _ rfl
      obtain ⟨v2, y2, c2, _, t2⟩ := hF 2 _ rfl
      obtain ⟨v3, y3, c3, _, t3⟩ := hF 3 _ rfl
      obtain ⟨a1, l1, g1, f0⟩ := slice_form Try.underlying25 t0
      obtain ⟨a2, l2, g2, f1⟩ := slice_form Try.underlying25 t1
      obtain ⟨b2, f2, _⟩ := DataW.trod_bool Try.underlying4 t2
      obtain ⟨m3, f3, _, w3⟩ := DataW.trod_int Try.underlying2 t3
      simp only [List.cons.injEq, and_true] at f0 f1 f2 f3
      subst f0 f1 f2 f3
      refine ⟨⟨a1, l1, g1, a2, l2, g2, b2, m3⟩, i64_of_wf w3, fun j u hu => ?_⟩
      simp only [TryRow.cells] at hu
      match j, hu with
      | 0, hu => cases hu; exact c0
      | 1, hu => cases hu; exact c1
      | 2, hu => cases hu; exact c2
      | 3, hu => cases hu; exact c3
      | j + 4, hu => simp at hu
    obtain ⟨l, hlen, hl2⟩ := Try_listOf len key
    have hmem : ∀ r ∈ l, I64 r.x := fun r hr => by
      obtain ⟨i, hi', e⟩ := List.mem_iff_getElem.1 hr
      exact (hl2 i r (by rw [List.getElem?_eq_getElem hi', e])).1
    refine ⟨some a, len, cap, l, hc, hlen, hl, hm, fun k r hk => ?_, hmem, (fun h => by cases h)⟩
    obtain ⟨b, o, sp⟩ := a
    have h1 := (hl2 k r hk).2
    have hkl := (List.getElem?_eq_some_iff.1 hk).1
    have hcell := (hl2 0 _ (List.getElem?_eq_getElem (show 0 < l.length by omega))).2 0 _ rfl
    have hs := World.cell?_spot hcell
    have hs : sp = none := by simpa [Addr.add] using hs
    subst hs
    have hb := World.block_lt_of_cell? _ _ hcell
    refine ⟨b, o, rfl, by simpa [Addr.add] using hb, fun j u hu => ?_⟩
    have h2 := h1 j u hu
    rw [Addr.add_mid] at h2
    rw [Nat.add_assoc]
    exact h2
end
end Go.Proofs.Ytdebmifjfemcjaa
