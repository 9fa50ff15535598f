/-
  The stable sort in plain: ranges that change places, a rotation, a merge.
-/
import Derived.Test.YtmcmknndhppljaaDoorVbC
namespace Go.Dav
set_option linter.unusedVariables false
set_option linter.unusedSimpArgs false
open Go Go.RowKit
/-- Two ranges of n, changed. -/
def swpGet (l : List PairE) (a b n k : Nat) : Option PairE := if a ≤ k ∧ k < a + n then l[k - a + b]? else if b ≤ k ∧ k < b + n then l[k - b + a]? else l[k]?
theorem swp_zero (l : List PairE) (a b k : Nat) : swpGet l a b 0 k = l[k]? := by unfold swpGet; rw [if_neg (by omega), if_neg (by omega)]
theorem swp_step {l m : List PairE} {a b i : Nat} {x y : PairE} (h : ∀ k, m[k]? = swpGet l a b i k) (hab : a + i < b) (hx : m[a + i]? = some x) (hy : m[b + i]? = some y) : ∀ k, ((m.set (a + i) y).set (b + i) x)[k]? = swpGet l a b (i + 1) k := by
  obtain ⟨g1, g2, g3⟩ := swap_get hx hy
  have hla : l[a + i]? = some x := by
    have := h (a + i)
    unfold swpGet at this
    rw [if_neg (by omega), if_neg (by omega)] at this
    rw [← this]; exact hx
  have hlb : l[b + i]? = some y := by
    have := h (b + i)
    unfold swpGet at this
    rw [if_neg (by omega), if_neg (by omega)] at this
    rw [← this]; exact hy
  intro k
  by_cases e1 : k = a + i
  · subst e1
    rw [g1]
    unfold swpGet
    rw [if_pos (by omega), show a + i - a + b = b + i by omega, hlb]
  · by_cases e2 : k = b + i
    · subst e2
      rw [g2]
      unfold swpGet
      rw [if_neg (by omega), if_pos (by omega), show b + i - b + a = a + i by omega, hla]
    · rw [g3 k e1 e2, h k]
      unfold swpGet
      by_cases c1 : a ≤ k ∧ k < a + i
      · rw [if_pos c1, if_pos (by omega)]
      · rw [if_neg c1, if_neg (show ¬ (a ≤ k ∧ k < a + (i + 1)) by omega)]
        by_cases c2 : b ≤ k ∧ k < b + i
        · rw [if_pos c2, if_pos (by omega)]
        · rw [if_neg c2, if_neg (show ¬ (b ≤ k ∧ k < b + (i + 1)) by omega)]
/-- What stands at k once from a up to b what stood from m on is first. -/
def rotGet (l : List PairE) (a m b k : Nat) : Option PairE := if a ≤ k ∧ k < b then (if k < a + (b - m) then l[k + (m - a)]? else l[k - (b - m)]?) else l[k]?
theorem rot_less {l c c' : List PairE} {a m b i j : Nat} (h : ∀ k, rotGet c (m - i) m (m + j) k = rotGet l a m b k) (hi : i ≤ m) (hij : j < i) (hs : ∀ k, c'[k]? = swpGet c (m - i) m j k) : ∀ k, rotGet c' (m - (i - j)) m (m + j) k = rotGet l a m b k := by
  intro k
  rw [← h k]
  have hs1 := hs k
  have hs2 := hs (k + (m - (m - (i - j))))
  have hs3 := hs (k - (m + j - m))
  unfold swpGet at hs1 hs2 hs3
  unfold rotGet
  by_cases c1 : m - (i - j) ≤ k ∧ k < m + j
  · rw [if_pos c1, if_pos (show m - i ≤ k ∧ k < m + j by omega), if_neg (show ¬ k < m - i + (m + j - m) by omega)]
    by_cases c2 : k < m - (i - j) + (m + j - m)
    · rw [if_pos c2, hs2, if_neg (by omega), if_pos (by omega)]
      congr 1; omega
    · rw [if_neg c2, hs3, if_neg (by omega), if_neg (by omega)]
  · rw [if_neg c1, hs1]
    by_cases c3 : m - i ≤ k ∧ k < m - i + j
    · rw [if_pos c3, if_pos (show m - i ≤ k ∧ k < m + j by omega), if_pos (show k < m - i + (m + j - m) by omega)]
      congr 1; omega
    · rw [if_neg c3, if_neg (show ¬ (m ≤ k ∧ k < m + j) by omega), if_neg (show ¬ (m - i ≤ k ∧ k < m + j) by omega)]
theorem rot_more {l c c' : List PairE} {a m b i j : Nat} (h : ∀ k, rotGet c (m - i) m (m + j) k = rotGet l a m b k) (hi : i ≤ m) (hij : i < j) (hs : ∀ k, c'[k]? = swpGet c (m - i) (m + j - i) i k) : ∀ k, rotGet c' (m - i) m (m + (j - i)) k = rotGet l a m b k := by
  intro k
  rw [← h k]
  have hs1 := hs k
  have hs2 := hs (k + (m - (m - i)))
  have hs3 := hs (k - (m + (j - i) - m))
  unfold swpGet at hs1 hs2 hs3
  unfold rotGet
  by_cases c1 : m - i ≤ k ∧ k < m + (j - i)
  · rw [if_pos c1, if_pos (show m - i ≤ k ∧ k < m + j by omega), if_pos (show k < m - i + (m + j - m) by omega)]
    by_cases c2 : k < m - i + (m + (j - i) - m)
    · rw [if_pos c2, hs2, if_neg (by omega), if_neg (by omega)]
    · rw [if_neg c2, hs3, if_pos (by omega)]
      congr 1; omega
  · rw [if_neg c1, hs1]
    by_cases c3 : m + j - i ≤ k ∧ k < m + j - i + i
    · rw [if_neg (by omega), if_pos c3, if_pos (show m - i ≤ k ∧ k < m + j by omega), if_neg (show ¬ k < m - i + (m + j - m) by omega)]
      congr 1; omega
    · rw [if_neg (show ¬ (m - i ≤ k ∧ k < m - i + i) by omega), if_neg c3, if_neg (show ¬ (m - i ≤ k ∧ k < m + j) by omega)]
theorem rot_same {l c c' : List PairE} {a m b i : Nat} (h : ∀ k, rotGet c (m - i) m (m + i) k = rotGet l a m b k) (hi : i ≤ m) (hs : ∀ k, c'[k]? = swpGet c (m - i) m i k) : ∀ k, c'[k]? = rotGet l a m b k := by
  intro k
  rw [← h k, hs k]
  unfold swpGet rotGet
  by_cases c1 : m - i ≤ k ∧ k < m - i + i
  · rw [if_pos c1, if_pos (show m - i ≤ k ∧ k < m + i by omega), if_pos (by omega)]
    congr 1; omega
  · rw [if_neg c1]
    by_cases c2 : m ≤ k ∧ k < m + i
    · rw [if_pos c2, if_pos (show m - i ≤ k ∧ k < m + i by omega), if_neg (by omega)]
      congr 1; omega
    · rw [if_neg c2, if_neg (show ¬ (m - i ≤ k ∧ k < m + i) by omega)]
theorem rot_start (l : List PairE) {a m b : Nat} (h1 : a ≤ m) (h2 : m ≤ b) : ∀ k, rotGet l (m - (m - a)) m (m + (b - m)) k = rotGet l a m b k := fun k => by
  rw [show m - (m - a) = a by omega, show m + (b - m) = b by omega]
theorem rot_id {l : List PairE} {a m b : Nat} (h : a = m ∨ m = b) : ∀ k, l[k]? = rotGet l a m b k := fun k => by
  unfold rotGet
  by_cases c1 : a ≤ k ∧ k < b
  · rw [if_pos c1]
    rcases h with rfl | rfl
    · rw [if_pos (by omega)]; congr 1; omega
    · rw [if_neg (by omega)]; congr 1; omega
  · rw [if_neg c1]
end Go.Dav
