/-
  Reductions, in plain: those that come of rows are valid; joining is associative, commutative, and the empty one is its identity.
-/
import Derived.Test.YtdebmifjfemcjaaMonRed
namespace Go.Dav
set_option linter.unusedVariables false
set_option linter.unusedSimpArgs false
open Go Go.RowKit

/-- What a row alone is reduced to. -/
def rowRed (b : Bool) (x : Int) : Red := if b then ⟨1, 1, x, x, x⟩ else ⟨1, 0, 0, 0, 0⟩

/-- Sound: the numbers are such as rows bring. -/
structure Red.good (r : Red) : Prop where
  n0 : 0 ≤ r.n
  nc : r.n ≤ r.c
  none : r.n = 0 → r.s = 0 ∧ r.l = 0 ∧ r.m = 0
  le : r.l ≤ r.m
  i64l : -9223372036854775808 ≤ r.l
  i64m : r.m ≤ 9223372036854775807
  low : 1 ≤ r.n → r.m + r.l * (r.n - 1) ≤ r.s
  high : 1 ≤ r.n → r.s ≤ r.l + r.m * (r.n - 1)

theorem Red.zero_good : Red.zero.good := by
  constructor <;> simp [Red.zero]

theorem rowRed_good (b : Bool) (x : Int) (h : I64 x) : (rowRed b x).good := by
  unfold I64 at h
  cases b <;> constructor <;> simp [rowRed] <;> omega

theorem Red.ext' {r t : Red} (h1 : r.c = t.c) (h2 : r.n = t.n) (h3 : r.s = t.s) (h4 : r.l = t.l) (h5 : r.m = t.m) : r = t := by
  cases r; cases t; simp_all

theorem mul_low {a b k : Int} (h : a ≤ b) (hk : 0 ≤ k) : a * k ≤ b * k := Int.mul_le_mul_of_nonneg_right h hk

theorem Red.both_good {r t : Red} (hr : r.good) (ht : t.good) : (r.both t).good := by
  obtain ⟨a1, a2, a3, a4, a5, a6, a7, a8⟩ := hr
  obtain ⟨b1, b2, b3, b4, b5, b6, b7, b8⟩ := ht
  by_cases e2 : t.n = 0
  · obtain ⟨z1, z2, z3⟩ := b3 e2
    constructor <;> simp only [Red.both, bothN, bothS, bothL, bothM, if_pos e2] <;> first | assumption | omega
  · by_cases e1 : r.n = 0
    · obtain ⟨z1, z2, z3⟩ := a3 e1
      have e1' : ¬ 0 < r.n := by omega
      constructor <;> simp only [Red.both, bothN, bothS, bothL, bothM, if_neg e2, if_neg e1', e1, z1, Int.zero_add] <;> first | assumption | omega
    · have e1' : 0 < r.n := by omega
      have c7 := a7 (by omega)
      have c8 := a8 (by omega)
      have d7 := b7 (by omega)
      have d8 := b8 (by omega)
      constructor <;> simp only [Red.both, bothN, bothS, bothL, bothM, if_neg e2, if_pos e1']
      · omega
      · omega
      · omega
      · omega
      · omega
      · omega
      · intro _
        have p1 := mul_low (Int.min_le_left r.l t.l) (show 0 ≤ r.n - 1 by omega)
        have p2 := mul_low (Int.min_le_right r.l t.l) (show 0 ≤ t.n - 1 by omega)
        have p3 : min r.l t.l * (r.n + t.n - 1) = min r.l t.l * (r.n - 1) + min r.l t.l * (t.n - 1) + min r.l t.l := by
          rw [show r.n + t.n - 1 = (r.n - 1) + (t.n - 1) + 1 by omega, Int.mul_add, Int.mul_add, Int.mul_one]
        rw [p3]
        generalize min r.l t.l * (r.n - 1) = q1 at p1 ⊢
        generalize min r.l t.l * (t.n - 1) = q2 at p2 ⊢
        generalize r.l * (r.n - 1) = q3 at *
        generalize t.l * (t.n - 1) = q4 at *
        omega
      · intro _
        have p1 := mul_low (Int.le_max_left r.m t.m) (show 0 ≤ r.n - 1 by omega)
        have p2 := mul_low (Int.le_max_right r.m t.m) (show 0 ≤ t.n - 1 by omega)
        have p3 : max r.m t.m * (r.n + t.n - 1) = max r.m t.m * (r.n - 1) + max r.m t.m * (t.n - 1) + max r.m t.m := by
          rw [show r.n + t.n - 1 = (r.n - 1) + (t.n - 1) + 1 by omega, Int.mul_add, Int.mul_add, Int.mul_one]
        rw [p3]
        generalize max r.m t.m * (r.n - 1) = q1 at p1 ⊢
        generalize max r.m t.m * (t.n - 1) = q2 at p2 ⊢
        generalize r.m * (r.n - 1) = q3 at *
        generalize t.m * (t.n - 1) = q4 at *
        omega

theorem Red.zero_both {t : Red} (h : t.good) : Red.zero.both t = t := by
  by_cases e : t.n = 0
  · obtain ⟨z1, z2, z3⟩ := h.none e
    apply Red.ext' <;> simp [Red.both, Red.zero, bothN, bothS, bothL, bothM, e, z1, z2, z3]
  · apply Red.ext' <;> simp [Red.both, Red.zero, bothN, bothS, bothL, bothM, e]

theorem Red.both_zero (t : Red) : t.both Red.zero = t := by
  apply Red.ext' <;> simp [Red.both, Red.zero, bothN, bothS, bothL, bothM]

theorem Red.both_comm {r t : Red} (hr : r.good) (ht : t.good) : r.both t = t.both r := by
  by_cases e1 : r.n = 0 <;> by_cases e2 : t.n = 0
  · obtain ⟨z1, z2, z3⟩ := hr.none e1
    obtain ⟨y1, y2, y3⟩ := ht.none e2
    apply Red.ext' <;> simp only [Red.both, bothN, bothS, bothL, bothM, if_pos e1, if_pos e2] <;> omega
  · obtain ⟨z1, z2, z3⟩ := hr.none e1
    have : ¬ 0 < r.n := by omega
    apply Red.ext' <;> simp only [Red.both, bothN, bothS, bothL, bothM, if_pos e1, if_neg e2, if_neg this] <;> omega
  · obtain ⟨y1, y2, y3⟩ := ht.none e2
    have : ¬ 0 < t.n := by omega
    apply Red.ext' <;> simp only [Red.both, bothN, bothS, bothL, bothM, if_neg e1, if_pos e2, if_neg this] <;> omega
  · have h1 := hr.n0
    have h2 := ht.n0
    have h1 : 0 < r.n := by omega
    have h2 : 0 < t.n := by omega
    apply Red.ext' <;> simp only [Red.both, bothN, bothS, bothL, bothM, if_neg e1, if_neg e2, if_pos h1, if_pos h2] <;> omega

theorem Red.both_assoc {r t u : Red} (hr : r.good) (ht : t.good) (hu : u.good) : (r.both t).both u = r.both (t.both u) := by
  have h1 := hr.n0
  have h2 := ht.n0
  have h3 := hu.n0
  by_cases e2 : t.n = 0
  · by_cases e3 : u.n = 0
    · apply Red.ext' <;> simp only [Red.both, bothN, bothS, bothL, bothM, if_pos e2, if_pos e3] <;> omega
    · have z := ht.none e2
      have n2 : ¬ 0 < t.n := by omega
      have n3 : ¬ 0 + u.n = 0 := by omega
      apply Red.ext' <;> simp [Red.both, bothN, bothS, bothL, bothM, e2, e3, z.1]
      omega
  · by_cases e3 : u.n = 0
    · apply Red.ext' <;> simp only [Red.both, bothN, bothS, bothL, bothM, if_neg e2, if_pos e3] <;> omega
    · have n2 : 0 < t.n := by omega
      have n3 : ¬ t.n + u.n = 0 := by omega
      have n4 : 0 < r.n + t.n := by omega
      by_cases e1 : 0 < r.n
      · apply Red.ext' <;> simp only [Red.both, bothN, bothS, bothL, bothM, if_neg e2, if_neg e3, if_pos n2, if_neg n3, if_pos n4, if_pos e1] <;> omega
      · apply Red.ext' <;> simp only [Red.both, bothN, bothS, bothL, bothM, if_neg e2, if_neg e3, if_pos n2, if_neg n3, if_pos n4, if_neg e1] <;> omega

theorem sg_small {s : Int} (h1 : -170141183460469231731687303715884105728 ≤ s) (h2 : s < 170141183460469231731687303715884105728) : sg s = s := by
  unfold sg hi lo; rw [wrap64_def]; omega

theorem Red.good_ok {r : Red} (h : r.good) (hc : r.c ≤ 1073741824) : r.ok = true := by
  obtain ⟨a1, a2, a3, a4, a5, a6, a7, a8⟩ := h
  unfold Red.ok redB
  rw [if_neg (by omega)]
  by_cases e0 : r.n = 0
  · obtain ⟨z1, z2, z3⟩ := a3 e0
    rw [if_pos e0]
    simp [z1, z2, z3, hi_zero, lo_zero]
  · rw [if_neg e0]
    have b7 := a7 (by omega)
    have b8 := a8 (by omega)
    by_cases e1 : r.n = 1
    · rw [if_pos e1]
      rw [e1] at b7 b8
      have h1 : r.l = r.m := by omega
      have h2 : r.s = r.l := by omega
      rw [← h1, h2]
      simp
    · rw [if_neg e1]
      have hn : 0 ≤ r.n - 1 := by omega
      have p1 := mul_low a5 hn
      have p2 := mul_low a6 hn
      have p3 := mul_low (Int.le_trans a4 a6) hn
      have p4 := mul_low (Int.le_trans a5 a4) hn
      have q1 : r.l + r.m + r.l * (r.n - 2) = r.m + r.l * (r.n - 1) := by
        rw [show r.n - 1 = (r.n - 2) + 1 by omega, Int.mul_add, Int.mul_one]; omega
      have q2 : r.l + r.m + r.m * (r.n - 2) = r.l + r.m * (r.n - 1) := by
        rw [show r.n - 1 = (r.n - 2) + 1 by omega, Int.mul_add, Int.mul_one]; omega
      rw [q1, q2]
      generalize r.l * (r.n - 1) = x at *
      generalize r.m * (r.n - 1) = y at *
      unfold aboveB
      rw [sg_small (s := r.s) (by omega) (by omega), sg_small (s := r.m + x) (by omega) (by omega), sg_small (s := r.l + y) (by omega) (by omega)]
      simp
      omega

/-- All joined, one behind the other. -/
def redAll (l : List Red) : Red := l.foldl Red.both Red.zero

theorem foldl_good : ∀ (l : List Red) (a : Red), a.good → (∀ r ∈ l, r.good) → (l.foldl Red.both a).good
  | [], _, h, _ => h
  | x :: l, a, h, hl => foldl_good l (a.both x) (Red.both_good h (hl x (by simp))) fun r hr => hl r (by simp [hr])

theorem redAll_good {l : List Red} (h : ∀ r ∈ l, r.good) : (redAll l).good := foldl_good l _ Red.zero_good h

theorem foldl_both : ∀ (l : List Red) (a : Red), a.good → (∀ r ∈ l, r.good) → l.foldl Red.both a = a.both (redAll l)
  | [], a, _, _ => (Red.both_zero a).symm
  | x :: l, a, h, hl => by
    have hx := hl x (by simp)
    have hl' : ∀ r ∈ l, r.good := fun r hr => hl r (by simp [hr])
    have hg := redAll_good hl'
    show l.foldl Red.both (a.both x) = _
    rw [foldl_both l _ (Red.both_good h hx) hl']
    unfold redAll
    rw [List.foldl_cons, Red.zero_both hx, foldl_both l x hx hl']
    exact Red.both_assoc h hx hg

theorem redAll_append {l k : List Red} (hl : ∀ r ∈ l, r.good) (hk : ∀ r ∈ k, r.good) : redAll (l ++ k) = (redAll l).both (redAll k) := by
  unfold redAll
  rw [List.foldl_append]
  exact foldl_both k _ (redAll_good hl) hk

theorem foldl_c : ∀ (l : List Red) (a : Red), (l.foldl Red.both a).c = a.c + (l.map Red.c).sum
  | [], a => by simp
  | x :: l, a => by
    rw [List.foldl_cons, foldl_c l]
    simp only [Red.both, List.map_cons, List.sum_cons]
    omega

theorem sum_nonneg : ∀ (l : List Red), (∀ r ∈ l, r.good) → 0 ≤ (l.map Red.c).sum
  | [], _ => by simp
  | x :: l, h => by
    have h1 := h x (by simp)
    have h2 := sum_nonneg l fun r hr => h r (by simp [hr])
    have h3 := h1.n0
    have h4 := h1.nc
    simp only [List.map_cons, List.sum_cons]
    omega

theorem joinL_good : ∀ (l : List Red) (a : Red), a.good → (∀ r ∈ l, r.good) → a.c + (l.map Red.c).sum ≤ 1073741824 → joinL a l = some (l.foldl Red.both a)
  | [], _, _, _, _ => rfl
  | x :: l, a, h, hl, hc => by
    have hx := hl x (by simp)
    have hl' : ∀ r ∈ l, r.good := fun r hr => hl r (by simp [hr])
    have hs := sum_nonneg l hl'
    simp only [List.map_cons, List.sum_cons] at hc
    unfold joinL
    rw [if_neg (by omega), List.foldl_cons]
    exact joinL_good l _ (Red.both_good h hx) hl' (by simp only [Red.both]; omega)

/-- What Join answers of sound reductions, if there are not too many rows. -/
theorem joined_good {l : List Red} (hl : ∀ r ∈ l, r.good) (hc : (l.map Red.c).sum ≤ 1073741824) : joined l = (redAll l, 0) := by
  have hall : l.all Red.ok = true := List.all_eq_true.2 fun r hr => by
    refine Red.good_ok (hl r hr) ?_
    obtain ⟨p, q, rfl⟩ := List.append_of_mem hr
    have h1 := sum_nonneg p fun r hr => hl r (by simp [hr])
    have h2 := sum_nonneg q fun r hr => hl r (by simp [hr])
    simp only [List.map_append, List.map_cons, List.sum_append, List.sum_cons] at hc
    omega
  unfold joined
  rw [if_pos hall, joinL_good l _ Red.zero_good hl (by simpa [Red.zero] using hc)]
  rfl

end Go.Dav
