/-
  The stable sort by blocks, in plain.
-/
import Derived.Test.YtmcmknndhppljaaDoorQSrtF
namespace Go.Dav
set_option linter.unusedVariables false
set_option linter.unusedSimpArgs false
open Go Go.RowKit
theorem SegP.sortedLo {c c2 : List PairE} {a b x y : Nat} (h : SegP c c2 a b) (hy : y ≤ a) (ho : SortedS c x y) : SortedS c2 x y := fun i j u v g1 g2 g3 hu hv => ho i j u v g1 g2 g3 (by rw [← h.out i (.inl (by omega))]; exact hu) (by rw [← h.out j (.inl (by omega))]; exact hv)
theorem SegP.sortedHi {c c2 : List PairE} {a b x y : Nat} (h : SegP c c2 a b) (hx : b ≤ x) (ho : SortedS c x y) : SortedS c2 x y := fun i j u v g1 g2 g3 hu hv => ho i j u v g1 g2 g3 (by rw [← h.out i (.inr (by omega))]; exact hu) (by rw [← h.out j (.inr (by omega))]; exact hv)
theorem SortedS.sub {c : List PairE} {x y x2 y2 : Nat} (h : SortedS c x y) (h1 : x ≤ x2) (h2 : y2 ≤ y) : SortedS c x2 y2 := fun i j u v g1 g2 g3 hu hv => h i j u v (by omega) g2 (by omega) hu hv
theorem SortedS.none (c : List PairE) {x y : Nat} (h : y ≤ x) : SortedS c x y := fun i j u v g1 g2 g3 => by omega
/-- Blocks of so many are sorted, from a place on. -/
def BlocksFrom (c : List PairE) (bs lo n : Nat) : Prop := ∀ j, SortedS c (lo + j * bs) (min (lo + j * bs + bs) n)
/-- All blocks of so many are sorted, up to a place, which is a multiple. -/
def BlocksTo (c : List PairE) (bs a : Nat) : Prop := ∃ i, a = i * bs ∧ ∀ j, j < i → SortedS c (j * bs) (j * bs + bs)
theorem BlocksTo.zero (c : List PairE) (bs : Nat) : BlocksTo c bs 0 := ⟨0, by omega, fun j h => by omega⟩
theorem BlocksTo.step {c c2 : List PairE} {bs a : Nat} (h : BlocksTo c bs a) (hs : SegP c c2 a (a + bs)) (ho : SortedS c2 a (a + bs)) : BlocksTo c2 bs (a + bs) := by
  obtain ⟨i, rfl, h⟩ := h
  refine ⟨i + 1, by rw [Nat.add_mul, Nat.one_mul], fun j hj => ?_⟩
  by_cases e : j = i
  · subst e; exact ho
  · have hle : (j + 1) * bs ≤ i * bs := Nat.mul_le_mul_right _ (by omega)
    rw [Nat.add_mul, Nat.one_mul] at hle
    exact hs.sortedLo hle (h j (by omega))
theorem BlocksTo.finish {c c2 : List PairE} {bs a n : Nat} (h : BlocksTo c bs a) (hn : n ≤ a + bs) (hs : SegP c c2 a n) (ho : SortedS c2 a n) (han : a ≤ n) : BlocksFrom c2 bs 0 n := by
  obtain ⟨i, rfl, h⟩ := h
  intro j
  rw [Nat.zero_add]
  by_cases e : j < i
  · have hle : (j + 1) * bs ≤ i * bs := Nat.mul_le_mul_right _ (by omega)
    rw [Nat.add_mul, Nat.one_mul] at hle
    exact hs.sortedLo (by omega) ((h j e).sub (Nat.le_refl _) (by omega))
  · by_cases e2 : j = i
    · subst e2
      exact ho.sub (Nat.le_refl _) (by omega)
    · have hle : (i + 1) * bs ≤ j * bs := Nat.mul_le_mul_right _ (by omega)
      rw [Nat.add_mul, Nat.one_mul] at hle
      exact SortedS.none _ (by omega)
/-- While blocks are merged two by two: those that are done, and the others. -/
structure Merging (c : List PairE) (bs a n : Nat) : Prop where
  to : BlocksTo c (2 * bs) a
  rest : BlocksFrom c bs a n
theorem Merging.start {c : List PairE} {bs n : Nat} (h : BlocksFrom c bs 0 n) : Merging c bs 0 n := ⟨BlocksTo.zero _ _, h⟩
theorem Merging.one {c : List PairE} {bs a n : Nat} (h : Merging c bs a n) (hn : a + bs ≤ n) : SortedS c a (a + bs) := (h.rest 0).sub (by omega) (by omega)
theorem Merging.two {c : List PairE} {bs a n m : Nat} (h : Merging c bs a n) (hm : m ≤ a + 2 * bs) (hn : m ≤ n) : SortedS c (a + bs) m := (h.rest 1).sub (by omega) (by omega)
theorem Merging.step {c c2 : List PairE} {bs a n : Nat} (h : Merging c bs a n) (hs : SegP c c2 a (a + 2 * bs)) (ho : SortedS c2 a (a + 2 * bs)) : Merging c2 bs (a + 2 * bs) n := by
  refine ⟨h.to.step hs ho, fun j => ?_⟩
  have := h.rest (j + 2)
  rw [show a + (j + 2) * bs = a + 2 * bs + j * bs by rw [Nat.add_mul]; omega] at this
  exact hs.sortedHi (by omega) this
theorem Merging.finish {c c2 : List PairE} {bs a n : Nat} (h : Merging c bs a n) (hn : n ≤ a + 2 * bs) (han : a ≤ n) (hs : SegP c c2 a n) (ho : SortedS c2 a n) : BlocksFrom c2 (2 * bs) 0 n := h.to.finish hn hs ho han
theorem Merging.last {c : List PairE} {bs a n : Nat} (h : Merging c bs a n) (hn : n ≤ a + bs) (han : a ≤ n) : BlocksFrom c (2 * bs) 0 n := h.to.finish (by omega) (SegP.refl _ _ _) ((h.rest 0).sub (by omega) (by omega)) han
theorem BlocksFrom.all {c : List PairE} {bs n : Nat} (h : BlocksFrom c bs 0 n) (hn : n ≤ bs) : SortedS c 0 n := (h 0).sub (by omega) (by omega)
end Go.Dav
