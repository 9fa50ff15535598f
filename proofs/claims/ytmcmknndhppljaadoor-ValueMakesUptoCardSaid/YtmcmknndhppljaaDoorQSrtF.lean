/-
  The merge of two sorted runs in plain.
-/
import Derived.Test.YtmcmknndhppljaaDoorQSrtD
namespace Go.Dav
set_option linter.unusedVariables false
set_option linter.unusedSimpArgs false
open Go Go.RowKit
theorem get_some {l : List PairE} {i n : Nat} (h : i < n) (hn : n ≤ l.length) : ∃ x, l[i]? = some x := ⟨_, List.getElem?_eq_getElem (by omega)⟩
theorem rot_lo {l : List PairE} {a m b k : Nat} (h : k < a) : rotGet l a m b k = l[k]? := by unfold rotGet; rw [if_neg (by omega)]
theorem rot_hi {l : List PairE} {a m b k : Nat} (h : b ≤ k) : rotGet l a m b k = l[k]? := by unfold rotGet; rw [if_neg (by omega)]
theorem rot_one {l : List PairE} {a m b k : Nat} (h1 : a ≤ k) (h2 : k < a + (b - m)) (h3 : a ≤ m) (h4 : m ≤ b) : rotGet l a m b k = l[k + (m - a)]? := by unfold rotGet; rw [if_pos (by omega), if_pos h2]
theorem rot_two {l : List PairE} {a m b k : Nat} (h1 : a + (b - m) ≤ k) (h2 : k < b) (h3 : a ≤ m) (h4 : m ≤ b) : rotGet l a m b k = l[k - (b - m)]? := by unfold rotGet; rw [if_pos (by omega), if_neg (by omega)]
/-- The runs behind a merge's rotation. -/
structure Runs (l : List PairE) (a s mid e b : Nat) : Prop where
  r1 : SortedS l a s
  r2 : SortedS l s mid
  r3 : SortedS l mid e
  r4 : SortedS l e b
  cross : ∀ i j x y, a ≤ i → i < mid → mid ≤ j → j < b → l[i]? = some x → l[j]? = some y → kle x.key y.key
theorem runs_of {l c : List PairE} {a m b s mid e : Nat} (h1 : SortedS l a m) (h2 : SortedS l m b) (hlen : b ≤ l.length) (has : a ≤ s) (hsm : s ≤ m) (hme : m ≤ e) (heb : e ≤ b) (hmid : s + e = mid + m)
    (hA : s = a ∨ e = b ∨ ∀ x y, l[s - 1]? = some x → l[e]? = some y → kle x.key y.key) (hB : s = m ∨ e = m ∨ ∀ x y, l[e - 1]? = some x → l[s]? = some y → kle x.key y.key)
    (hc : ∀ k, c[k]? = rotGet l s m e k) : Runs c a s mid e b := by
  have k1 : ∀ k, k < s → c[k]? = l[k]? := fun k h => (hc k).trans (rot_lo h)
  have k2 : ∀ k, s ≤ k → k < mid → c[k]? = l[k + (m - s)]? := fun k h h' => (hc k).trans (rot_one h (by omega) hsm hme)
  have k3 : ∀ k, mid ≤ k → k < e → c[k]? = l[k - (e - m)]? := fun k h h' => (hc k).trans (rot_two (by omega) h' hsm hme)
  have k4 : ∀ k, e ≤ k → c[k]? = l[k]? := fun k h => (hc k).trans (rot_hi h)
  refine ⟨fun i j x y g1 g2 g3 hx hy => ?_, fun i j x y g1 g2 g3 hx hy => ?_, fun i j x y g1 g2 g3 hx hy => ?_, fun i j x y g1 g2 g3 hx hy => ?_, fun i j x y g1 g2 g3 g4 hx hy => ?_⟩
  · rw [k1 i (by omega)] at hx
    rw [k1 j (by omega)] at hy
    exact h1 i j x y g1 g2 (by omega) hx hy
  · rw [k2 i g1 (by omega)] at hx
    rw [k2 j (by omega) g3] at hy
    exact h2 _ _ x y (by omega) (by omega) (by omega) hx hy
  · rw [k3 i g1 (by omega)] at hx
    rw [k3 j (by omega) g3] at hy
    exact h1 _ _ x y (by omega) (by omega) (by omega) hx hy
  · rw [k4 i g1] at hx
    rw [k4 j (by omega)] at hy
    exact h2 i j x y (by omega) g2 g3 hx hy
  · by_cases ci : i < s
    · rw [k1 i ci] at hx
      by_cases cj : j < e
      · rw [k3 j g3 cj] at hy
        exact h1 _ _ x y g1 (by omega) (by omega) hx hy
      · rw [k4 j (by omega)] at hy
        obtain ⟨z, hz⟩ := get_some (l := l) (i := s - 1) (n := b) (by omega) hlen
        obtain ⟨u, hu⟩ := get_some (l := l) (i := e) (n := b) (by omega) hlen
        rcases hA with h | h | h
        · omega
        · omega
        · exact kle_trans (h1 i (s - 1) x z g1 (by omega) (by omega) hx hz) (kle_trans (h z u hz hu) (h2 e j u y hme (by omega) g4 hu hy))
    · rw [k2 i (by omega) g2] at hx
      by_cases cj : j < e
      · rw [k3 j g3 cj] at hy
        obtain ⟨z, hz⟩ := get_some (l := l) (i := e - 1) (n := b) (by omega) hlen
        obtain ⟨u, hu⟩ := get_some (l := l) (i := s) (n := b) (by omega) hlen
        rcases hB with h | h | h
        · omega
        · omega
        · exact kle_trans (h2 _ (e - 1) x z (by omega) (by omega) (by omega) hx hz) (kle_trans (h z u hz hu) (h1 s _ u y has (by omega) (by omega) hu hy))
      · rw [k4 j (by omega)] at hy
        exact h2 _ _ x y (by omega) (by omega) g4 hx hy
/-- Both halves sorted, one behind the other. -/
theorem halves {c c1 c2 : List PairE} {a mid b : Nat} (hcross : ∀ i j x y, a ≤ i → i < mid → mid ≤ j → j < b → c[i]? = some x → c[j]? = some y → kle x.key y.key) (s1 : SegP c c1 a mid) (o1 : SortedS c1 a mid) (s2 : SegP c1 c2 mid b) (o2 : SortedS c2 mid b) : SortedS c2 a b := by
  intro i j x y g1 g2 g3 hx hy
  by_cases ci : i < mid
  · rw [s2.out i (.inl ci)] at hx
    by_cases cj : j < mid
    · rw [s2.out j (.inl cj)] at hy
      exact o1 i j x y g1 g2 cj hx hy
    · obtain ⟨i', p1, p2, p3⟩ := s1.mem i x g1 ci hx
      obtain ⟨j', q1, q2, q3⟩ := s2.mem j y (by omega) g3 hy
      rw [s1.out j' (.inr q1)] at q3
      exact hcross i' j' x y p1 p2 q1 q2 p3 q3
  · exact o2 i j x y (by omega) g2 g3 hx hy
theorem SortedS.join {l : List PairE} {a m b : Nat} (h : a = m ∨ m = b) (h1 : SortedS l a m) (h2 : SortedS l m b) : SortedS l a b := by
  rcases h with rfl | rfl
  · exact h2
  · exact h1
/-- One element, up to its place. -/
theorem up_step {l c : List PairE} {a k : Nat} {x y : PairE} (h : ∀ p, c[p]? = rotGet l a (a + 1) (k + 1) p) (hak : a ≤ k) (hx : c[k]? = some x) (hy : c[k + 1]? = some y) : ∀ p, ((c.set k y).set (k + 1) x)[p]? = rotGet l a (a + 1) (k + 2) p := by
  obtain ⟨g1, g2, g3⟩ := swap_get hx hy
  intro p
  by_cases e1 : p = k
  · subst e1
    rw [g1, ← hy, h (p + 1), rot_hi (by omega), rot_one hak (by omega) (by omega) (by omega)]
    congr 1; omega
  · by_cases e2 : p = k + 1
    · subst e2
      rw [g2, ← hx, h k, rot_two (by omega) (by omega) (by omega) (by omega), rot_two (by omega) (by omega) (by omega) (by omega)]
      congr 1; omega
    · rw [g3 p e1 e2, h p]
      by_cases c1 : a ≤ p ∧ p < k
      · rw [rot_one c1.1 (by omega) (by omega) (by omega), rot_one c1.1 (by omega) (by omega) (by omega)]
      · unfold rotGet
        rw [if_neg (show ¬ (a ≤ p ∧ p < k + 1) by omega), if_neg (show ¬ (a ≤ p ∧ p < k + 2) by omega)]
/-- One element, down to its place. -/
theorem down_step {l c : List PairE} {m k : Nat} {x y : PairE} (h : ∀ p, c[p]? = rotGet l (k + 1) m (m + 1) p) (hkm : k + 1 ≤ m) (hx : c[k + 1]? = some x) (hy : c[k]? = some y) : ∀ p, ((c.set (k + 1) y).set k x)[p]? = rotGet l k m (m + 1) p := by
  obtain ⟨g1, g2, g3⟩ := swap_get hx hy
  intro p
  by_cases e1 : p = k + 1
  · subst e1
    rw [g1, ← hy, h k, rot_lo (by omega), rot_two (by omega) (by omega) (by omega) (by omega)]
    congr 1; omega
  · by_cases e2 : p = k
    · subst e2
      rw [g2, ← hx, h (p + 1), rot_one (by omega) (by omega) (by omega) (by omega), rot_one (by omega) (by omega) (by omega) (by omega)]
      congr 1; omega
    · rw [g3 p e1 e2, h p]
      by_cases c1 : k + 1 < p ∧ p < m + 1
      · rw [rot_two (by omega) c1.2 (by omega) (by omega), rot_two (by omega) c1.2 (by omega) (by omega)]
      · unfold rotGet
        rw [if_neg (show ¬ (k + 1 ≤ p ∧ p < m + 1) by omega), if_neg (show ¬ (k ≤ p ∧ p < m + 1) by omega)]
theorem up_sorted {l c : List PairE} {a b i : Nat} (h2 : SortedS l (a + 1) b) (hai : a + 1 ≤ i) (hib : i ≤ b) (hlen : b ≤ l.length) (lo : ∀ k x y, a + 1 ≤ k → k < i → l[k]? = some x → l[a]? = some y → kle x.key y.key) (hi : ∀ k x y, i ≤ k → k < b → l[k]? = some x → l[a]? = some y → kle y.key x.key)
    (hc : ∀ k, c[k]? = rotGet l a (a + 1) i k) : SortedS c a b := by
  have k1 : ∀ k, a ≤ k → k + 1 < i → c[k]? = l[k + 1]? := fun k h h' => by rw [hc k, rot_one h (by omega) (by omega) (by omega)]; congr 1; omega
  have k2 : c[i - 1]? = l[a]? := by rw [hc, rot_two (by omega) (by omega) (by omega) (by omega)]; congr 1; omega
  have k3 : ∀ k, i ≤ k → c[k]? = l[k]? := fun k h => by rw [hc k, rot_hi h]
  intro p q x y g1 g2 g3 hx hy
  by_cases e1 : p + 1 < i
  · rw [k1 p g1 e1] at hx
    by_cases f1 : q + 1 < i
    · rw [k1 q (by omega) f1] at hy
      exact h2 _ _ x y (by omega) (by omega) (by omega) hx hy
    · by_cases f2 : q = i - 1
      · subst f2
        rw [k2] at hy
        exact lo _ x y (by omega) e1 hx hy
      · rw [k3 q (by omega)] at hy
        exact h2 _ _ x y (by omega) (by omega) g3 hx hy
  · by_cases e2 : p = i - 1
    · subst e2
      rw [k2] at hx
      by_cases f2 : q = i - 1
      · subst f2
        rw [k2] at hy
        rw [hx] at hy; cases hy; exact kle_refl _
      · rw [k3 q (by omega)] at hy
        exact hi q y x (by omega) g3 hy hx
    · rw [k3 p (by omega)] at hx
      rw [k3 q (by omega)] at hy
      exact h2 p q x y (by omega) g2 g3 hx hy
theorem down_sorted {l c : List PairE} {a m i : Nat} (h1 : SortedS l a m) (hai : a ≤ i) (him : i ≤ m) (lo : ∀ k x y, a ≤ k → k < i → l[k]? = some x → l[m]? = some y → kle x.key y.key) (hi : ∀ k x y, i ≤ k → k < m → l[k]? = some x → l[m]? = some y → kle y.key x.key)
    (hc : ∀ k, c[k]? = rotGet l i m (m + 1) k) : SortedS c a (m + 1) := by
  have k1 : ∀ k, k < i → c[k]? = l[k]? := fun k h => by rw [hc k, rot_lo h]
  have k2 : c[i]? = l[m]? := by rw [hc, rot_one (by omega) (by omega) (by omega) (by omega)]; congr 1; omega
  have k3 : ∀ k, i < k → k < m + 1 → c[k]? = l[k - 1]? := fun k h h' => by rw [hc k, rot_two (by omega) h' (by omega) (by omega)]; congr 1; omega
  intro p q x y g1 g2 g3 hx hy
  by_cases e1 : p < i
  · rw [k1 p e1] at hx
    by_cases f1 : q < i
    · rw [k1 q f1] at hy
      exact h1 _ _ x y g1 g2 (by omega) hx hy
    · by_cases f2 : q = i
      · subst f2
        rw [k2] at hy
        exact lo _ x y g1 e1 hx hy
      · rw [k3 q (by omega) g3] at hy
        exact h1 _ _ x y g1 (by omega) (by omega) hx hy
  · by_cases e2 : p = i
    · subst e2
      rw [k2] at hx
      by_cases f2 : q = p
      · subst f2
        rw [k2] at hy
        rw [hx] at hy; cases hy; exact kle_refl _
      · rw [k3 q (by omega) g3] at hy
        exact hi _ y x (by omega) (by omega) hy hx
    · rw [k3 p (by omega) (by omega)] at hx
      rw [k3 q (by omega) g3] at hy
      exact h1 _ _ x y (by omega) (by omega) (by omega) hx hy
end Go.Dav
