/-
  Pairs put one by one where they belong (layer 4's answer), in plain; the same as sorted and without a double.
-/
import Derived.Test.YtmcmknndhppljaaDoorVbK
namespace Go.Dav
set_option linter.unusedVariables false
set_option linter.unusedSimpArgs false
open Go Go.RowKit
theorem kless_trans {a b c : ByteArray} (h : kless a b = true) (k : kless b c = true) : kless a c = true := by rw [kless_iff] at *; exact List.lt_trans h k
theorem kless_irrefl (a : ByteArray) : kless a a = false := by
  cases h : kless a a with
  | false => rfl
  | true => rw [kless_iff] at h; exact (List.lt_irrefl _ h).elim
theorem kless_of_ne {a b : ByteArray} (h : kless a b = false) (hn : a.toList ≠ b.toList) : kless b a = true := by
  cases k : kless b a with
  | true => rfl
  | false => exact (hn (kle_antisymm k h)).elim
/-- How many stand ahead of a key. -/
def lowK (k : ByteArray) (m : List PairE) : Nat := (m.takeWhile fun x => kless x.key k).length
def isAtK (k : ByteArray) (m : List PairE) : Bool := match m[lowK k m]? with
  | some x => x.key.toList == k.toList
  | none => false
def insOne (m : List PairE) (e : PairE) : Option (List PairE) := if isAtK e.key m = true then none else some (m.take (lowK e.key m) ++ e :: m.drop (lowK e.key m))
def insFold : List PairE → List PairE → Option (List PairE)
  | m, [] => some m
  | m, e :: l => (insOne m e).bind fun m => insFold m l
def StrictK (m : List PairE) : Prop := m.Pairwise fun x y => kless x.key y.key = true
theorem lowK_le (k : ByteArray) (m : List PairE) : lowK k m ≤ m.length := by
  unfold lowK
  exact List.IsPrefix.length_le (List.takeWhile_prefix _)
theorem lowK_less {k : ByteArray} : ∀ {m : List PairE} {i : Nat} {x : PairE}, i < lowK k m → m[i]? = some x → kless x.key k = true
  | [], i, x, h, hx => by simp at hx
  | y :: m, i, x, h, hx => by
    unfold lowK at h
    rw [List.takeWhile_cons] at h
    cases hy : kless y.key k with
    | false => rw [hy] at h; simp at h
    | true =>
      rw [hy] at h
      cases i with
      | zero => simp only [List.getElem?_cons_zero, Option.some.injEq] at hx; subst hx; exact hy
      | succ i =>
        simp only [List.getElem?_cons_succ] at hx
        simp only [if_pos, List.length_cons] at h
        exact lowK_less (m := m) (by unfold lowK; omega) hx
theorem lowK_stop {k : ByteArray} : ∀ {m : List PairE} {x : PairE}, m[lowK k m]? = some x → kless x.key k = false
  | [], x, hx => by simp at hx
  | y :: m, x, hx => by
    unfold lowK at hx
    rw [List.takeWhile_cons] at hx
    cases hy : kless y.key k with
    | false => rw [hy] at hx; simp at hx; subst hx; exact hy
    | true =>
      rw [hy] at hx
      simp only [if_pos, List.length_cons, List.getElem?_cons_succ] at hx
      exact lowK_stop (m := m) hx
theorem lowK_is {k : ByteArray} {m : List PairE} {a : Nat} (h1 : ∀ i x, i < a → m[i]? = some x → kless x.key k = true) (h2 : ∀ x, m[a]? = some x → kless x.key k = false) (h3 : a ≤ m.length) : lowK k m = a := by
  have hle := lowK_le k m
  rcases Nat.lt_trichotomy (lowK k m) a with h | h | h
  · obtain ⟨x, hx⟩ : ∃ x, m[lowK k m]? = some x := ⟨_, List.getElem?_eq_getElem (by omega)⟩
    have := lowK_stop hx
    rw [h1 _ x h hx] at this
    cases this
  · exact h
  · obtain ⟨x, hx⟩ : ∃ x, m[a]? = some x := ⟨_, List.getElem?_eq_getElem (by omega)⟩
    have := lowK_less h hx
    rw [h2 x hx] at this
    cases this
theorem insOne_some {m m2 : List PairE} {e : PairE} (hs : StrictK m) (h : insOne m e = some m2) : StrictK m2 ∧ m2.Perm (e :: m) := by
  unfold insOne at h
  by_cases hi : isAtK e.key m = true
  · rw [if_pos hi] at h; cases h
  · rw [if_neg hi] at h
    cases h
    have hp : (m.take (lowK e.key m) ++ e :: m.drop (lowK e.key m)).Perm (e :: m) := by
      have := List.perm_middle (a := e) (l₁ := m.take (lowK e.key m)) (l₂ := m.drop (lowK e.key m))
      rwa [List.take_append_drop] at this
    refine ⟨?_, hp⟩
    have ht : ∀ x ∈ m.take (lowK e.key m), kless x.key e.key = true := fun x hx => by
      obtain ⟨i, hi⟩ := List.mem_iff_getElem?.1 hx
      rw [List.getElem?_take] at hi
      split at hi
      · exact lowK_less (by assumption) hi
      · cases hi
    have hd : ∀ x ∈ m.drop (lowK e.key m), kless e.key x.key = true := fun x hx => by
      have hsd : StrictK (m.drop (lowK e.key m)) := List.Pairwise.sublist (List.drop_sublist _ _) hs
      cases hcd : m.drop (lowK e.key m) with
      | nil => rw [hcd] at hx; simp at hx
      | cons y r =>
        have hy : m[lowK e.key m]? = some y := by
          have := congrArg (·[0]?) hcd
          simpa using this
        have hy1 := lowK_stop hy
        have hy2 : kless e.key y.key = true := by
          refine kless_of_ne hy1 fun he => hi ?_
          unfold isAtK
          rw [hy]
          simpa using he
        rw [hcd] at hx hsd
        rcases List.mem_cons.1 hx with rfl | hx
        · exact hy2
        · exact kless_trans hy2 ((List.pairwise_cons.1 hsd).1 x hx)
    unfold StrictK
    rw [List.pairwise_append]
    refine ⟨List.Pairwise.sublist (List.take_sublist _ _) hs, List.pairwise_cons.2 ⟨hd, List.Pairwise.sublist (List.drop_sublist _ _) hs⟩, fun x hx y hy => ?_⟩
    rcases List.mem_cons.1 hy with rfl | hy
    · exact ht x hx
    · exact kless_trans (ht x hx) (hd y hy)
theorem insOne_none {m : List PairE} {e : PairE} (h : insOne m e = none) : ∃ x ∈ m, x.key.toList = e.key.toList := by
  unfold insOne at h
  by_cases hi : isAtK e.key m = true
  · unfold isAtK at hi
    split at hi
    · exact ⟨_, List.mem_of_getElem? (by assumption), by simpa using hi⟩
    · cases hi
  · rw [if_neg hi] at h; cases h
theorem insFold_some : ∀ {l m m2 : List PairE}, StrictK m → insFold m l = some m2 → StrictK m2 ∧ m2.Perm (m ++ l)
  | [], m, m2, hs, h => by simp only [insFold, Option.some.injEq] at h; subst h; exact ⟨hs, by rw [List.append_nil]⟩
  | e :: l, m, m2, hs, h => by
    unfold insFold at h
    obtain ⟨m1, h1, h2⟩ := Option.bind_eq_some_iff.1 h
    obtain ⟨g1, g2⟩ := insOne_some hs h1
    obtain ⟨g3, g4⟩ := insFold_some g1 h2
    refine ⟨g3, g4.trans ((g2.append_right l).trans ?_)⟩
    rw [List.cons_append]
    exact (List.perm_middle (a := e) (l₁ := m) (l₂ := l)).symm
theorem insFold_none : ∀ {l m : List PairE}, StrictK m → insFold m l = none → ¬ ((m ++ l).map fun e => e.key.toList).Nodup
  | [], m, _, h => by simp [insFold] at h
  | e :: l, m, hs, h => by
    unfold insFold at h
    cases h1 : insOne m e with
    | none =>
      obtain ⟨x, hx, hk⟩ := insOne_none h1
      intro hn
      rw [List.map_append, List.nodup_append] at hn
      exact hn.2.2 _ (List.mem_map.2 ⟨x, hx, rfl⟩) _ (List.mem_map.2 ⟨e, List.mem_cons_self, rfl⟩) hk
    | some m1 =>
      rw [h1] at h
      obtain ⟨g1, g2⟩ := insOne_some hs h1
      intro hn
      refine insFold_none g1 h ?_
      refine List.Perm.nodup (((List.perm_middle (a := e) (l₁ := m) (l₂ := l)).trans ?_).map _) hn
      rw [← List.cons_append]
      exact (g2.append_right l).symm
theorem StrictK.nodup {m : List PairE} (h : StrictK m) : (m.map fun e => e.key.toList).Nodup := by
  unfold StrictK at h
  rw [List.Nodup, List.pairwise_map]
  refine h.imp fun {x y} hk e => ?_
  rw [kless_iff, e] at hk
  exact List.lt_irrefl _ hk
/-- Sorted, and no two neighbours one: strictly. -/
theorem strict_of {m : List PairE} {n : Nat} (hl : m.length = n) (hs : SortedS m 0 n) (hd : noDup m n) : StrictK m := by
  unfold StrictK
  rw [List.pairwise_iff_getElem]
  intro i j hi hj hij
  have h1 := hs (i + 1) j m[i + 1] m[j] (by omega) (by omega) (by omega) (List.getElem?_eq_getElem (by omega)) (List.getElem?_eq_getElem hj)
  have h2 := hs i (i + 1) m[i] m[i + 1] (by omega) (by omega) (by omega) (List.getElem?_eq_getElem (by omega)) (List.getElem?_eq_getElem (by omega))
  have h3 := hd i m[i] m[i + 1] (by omega) (List.getElem?_eq_getElem (by omega)) (List.getElem?_eq_getElem (by omega))
  have h4 : kless m[i].key m[i + 1].key = true := kless_of_ne h2 (fun e => by rw [e] at h3; simp at h3)
  cases hk : kless m[i].key m[j].key with
  | true => rfl
  | false =>
    have h5 : kle m[i].key m[i + 1].key := kle_of_less h4
    have h6 : kle m[i + 1].key m[i].key := kle_trans h1 hk
    exact (by rw [kle_antisymm h5 h6] at h3; simp at h3)
theorem dup_not {m : List PairE} (h : hasDup m) : ¬ (m.map fun e => e.key.toList).Nodup := by
  obtain ⟨i, x, y, hx, hy, hk⟩ := h
  intro hn
  have hi := (List.getElem?_eq_some_iff.1 hx)
  have hj := (List.getElem?_eq_some_iff.1 hy)
  obtain ⟨li, ei⟩ := hi
  obtain ⟨lj, ej⟩ := hj
  have := (List.pairwise_iff_getElem.1 hn) i (i + 1) (by simpa using li) (by simpa using lj) (by omega)
  rw [List.getElem_map, List.getElem_map, ei, ej] at this
  exact this (by simpa using hk)
theorem StrictK.unique : ∀ {m m2 : List PairE}, StrictK m → StrictK m2 → m.Perm m2 → m = m2
  | [], m2, _, _, h => (List.nil_perm.1 h).symm
  | x :: m, [], _, _, h => by simpa using h.length_eq
  | x :: m, y :: m2, h1, h2, h => by
    obtain ⟨h1a, h1b⟩ := List.pairwise_cons.1 h1
    obtain ⟨h2a, h2b⟩ := List.pairwise_cons.1 h2
    have hxy : x = y := by
      rcases List.mem_cons.1 (h.mem_iff.1 (List.mem_cons_self (a := x) (l := m))) with e | hx
      · exact e
      · rcases List.mem_cons.1 (h.mem_iff.2 (List.mem_cons_self (a := y) (l := m2))) with e | hy
        · exact e.symm
        · have := kless_trans (h1a y hy) (h2a x hx)
          rw [kless_irrefl] at this; cases this
    subst hxy
    rw [StrictK.unique h1b h2b (List.Perm.cons_inv h)]
/-- The program's way and the answer's agree. -/
theorem ways_none {l m : List PairE} (hp : m.Perm l) (hd : hasDup m) : insFold [] l = none := by
  cases h : insFold [] l with
  | none => rfl
  | some m2 =>
    obtain ⟨g1, g2⟩ := insFold_some (List.Pairwise.nil) h
    exact (dup_not hd (List.Perm.nodup ((g2.trans hp.symm).map _) g1.nodup)).elim
theorem ways_some {l m : List PairE} {n : Nat} (hl : m.length = n) (hp : m.Perm l) (hs : SortedS m 0 n) (hd : noDup m n) : insFold [] l = some m := by
  have hk := strict_of hl hs hd
  cases h : insFold [] l with
  | none => exact (insFold_none (List.Pairwise.nil) h (List.Perm.nodup (hp.map _) hk.nodup)).elim
  | some m2 =>
    obtain ⟨g1, g2⟩ := insFold_some (List.Pairwise.nil) h
    rw [StrictK.unique g1 hk (g2.trans hp.symm)]
/-- Another order of the pairs changes nothing. -/
theorem orders_dup {m m2 : List PairE} {n : Nat} (hl : m2.length = n) (hp : m.Perm m2) (hd : hasDup m) (hs : SortedS m2 0 n) : ¬ noDup m2 n := fun hn => dup_not hd (List.Perm.nodup (hp.symm.map _) (strict_of hl hs hn).nodup)
theorem orders_same {m m2 : List PairE} {n : Nat} (hl : m.length = n) (hl2 : m2.length = n) (hp : m.Perm m2) (hs : SortedS m 0 n) (hs2 : SortedS m2 0 n) (hd : noDup m n) (hd2 : noDup m2 n) : m = m2 := StrictK.unique (strict_of hl hs hd) (strict_of hl2 hs2 hd2) hp
end Go.Dav
