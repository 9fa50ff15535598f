/-
  Rows and their reduction, in plain: the counts, the least and the greatest number.
-/
import Derived.Test.YtdebmifjfemcjaaMonAll
namespace Go.Proofs.Ytdebmifjfemcjaa
set_option linter.unusedVariables false
set_option linter.unusedSimpArgs false
open Go.RowKit Go.Dav

/-- What the reduction says of the rows that it is of. -/
structure TryEnds (L : List TryRow) (R : Red) : Prop where
  cnt : R.c = L.length
  ints : R.n = (L.filter TryRow.b).length
  bound : ∀ r ∈ L, r.b = true → R.l ≤ r.x ∧ r.x ≤ R.m
  least : 0 < R.n → L.any (fun r => r.b && decide (r.x = R.l)) = true
  most : 0 < R.n → L.any (fun r => r.b && decide (r.x = R.m)) = true
  blank : R.n = 0 → R.s = 0 ∧ R.l = 0 ∧ R.m = 0

theorem TryEnds_nil : TryEnds [] Red.zero := by
  constructor <;> simp [Red.zero]

theorem TryEnds_snoc {L : List TryRow} {R : Red} {r : TryRow} (h : TryEnds L R) : TryEnds (L ++ [r]) (R.both r.red) := by
  obtain ⟨h1, h2, h3, h4, h5, h6⟩ := h
  have hn : 0 ≤ R.n := by rw [h2]; omega
  cases hb : r.b with
  | false =>
    have e : r.red = ⟨1, 0, 0, 0, 0⟩ := by unfold TryRow.red rowRed; rw [hb]; rfl
    rw [e]
    constructor <;> simp only [Red.both, bothN, bothS, bothL, bothM, if_true]
    · rw [h1]; simp
    · rw [h2, List.filter_append]; simp [hb]
    · intro x hx hxb
      rcases List.mem_append.1 hx with hx | hx
      · exact h3 x hx hxb
      · have := List.mem_singleton.1 hx; subst this; rw [hb] at hxb; cases hxb
    · intro h; rw [List.any_append, h4 h]; rfl
    · intro h; rw [List.any_append, h5 h]; rfl
    · exact h6
  | true =>
    have e : r.red = ⟨1, 1, r.x, r.x, r.x⟩ := by unfold TryRow.red rowRed; rw [hb]; rfl
    rw [e]
    by_cases hz : 0 < R.n
    · have k4 := h4 hz
      have k5 := h5 hz
      constructor <;> simp only [Red.both, bothN, bothS, bothL, bothM, Int.one_ne_zero, if_false, if_pos hz]
      · rw [h1]; simp
      · rw [h2, List.filter_append]; simp [hb]
      · intro x hx hxb
        rcases List.mem_append.1 hx with hx | hx
        · have := h3 x hx hxb; omega
        · have := List.mem_singleton.1 hx; subst this; omega
      · intro _
        rw [List.any_append]
        by_cases hm : R.l ≤ r.x
        · rw [Int.min_eq_left hm, k4]; rfl
        · rw [Int.min_eq_right (by omega)]; simp [hb]
      · intro _
        rw [List.any_append]
        by_cases hm : r.x ≤ R.m
        · rw [Int.max_eq_left hm, k5]; rfl
        · rw [Int.max_eq_right (by omega)]; simp [hb]
      · intro h; omega
    · have h0 : R.n = 0 := by omega
      have hnone : L.filter TryRow.b = [] := by rw [h0] at h2; exact List.length_eq_zero_iff.1 (by omega)
      constructor <;> simp only [Red.both, bothN, bothS, bothL, bothM, Int.one_ne_zero, if_false, if_neg hz]
      · rw [h1]; simp
      · rw [h2, List.filter_append]; simp [hb]
      · intro x hx hxb
        rcases List.mem_append.1 hx with hx | hx
        · have := List.mem_filter.2 ⟨hx, hxb⟩; rw [hnone] at this; cases this
        · have := List.mem_singleton.1 hx; subst this; omega
      · intro _; rw [List.any_append]; simp [hb]
      · intro _; rw [List.any_append]; simp [hb]
      · intro h; omega

theorem TryEnds_sum (l : List TryRow) : ∀ k, k ≤ l.length → TryEnds (l.take k) (TrySum l k)
  | 0, _ => by have := TryEnds_nil; simpa [TrySum, redAll] using this
  | k + 1, h => by
    have hk : l[k]? = some l[k] := List.getElem?_eq_getElem (by omega)
    rw [TrySum_succ l k _ hk, List.take_succ_eq_append_getElem (by omega)]
    exact TryEnds_snoc (TryEnds_sum l k (by omega))

/-- How many of the first k rows have a number; whether one of them is the number v. -/
def TryInts (l : List TryRow) (k : Nat) : Nat := ((l.take k).filter TryRow.b).length
def TryMet (l : List TryRow) (v : Int) (k : Nat) : Bool := (l.take k).any fun r => r.b && decide (r.x = v)
theorem TryInts_le (l : List TryRow) (k : Nat) : TryInts l k ≤ k := by
  unfold TryInts
  have := List.length_filter_le TryRow.b (l.take k)
  have := List.length_take_le k l
  omega
theorem TryInts_no {l : List TryRow} {k : Nat} {r : TryRow} (h : l[k]? = some r) (hb : r.b = false) : TryInts l (k + 1) = TryInts l k := by
  unfold TryInts; rw [List.take_add_one, h, List.filter_append]; simp [hb]
theorem TryInts_yes {l : List TryRow} {k : Nat} {r : TryRow} (h : l[k]? = some r) (hb : r.b = true) : TryInts l (k + 1) = TryInts l k + 1 := by
  unfold TryInts; rw [List.take_add_one, h, List.filter_append]; simp [hb]
theorem TryMet_no {l : List TryRow} {k : Nat} {r : TryRow} (v : Int) (h : l[k]? = some r) (hb : r.b = false) : TryMet l v (k + 1) = TryMet l v k := by
  unfold TryMet; rw [List.take_add_one, h, List.any_append]; simp [hb]
theorem TryMet_yes {l : List TryRow} {k : Nat} {r : TryRow} (v : Int) (h : l[k]? = some r) (hb : r.b = true) : TryMet l v (k + 1) = (TryMet l v k || decide (r.x = v)) := by
  unfold TryMet; rw [List.take_add_one, h, List.any_append]; simp [hb]
end Go.Proofs.Ytdebmifjfemcjaa
