/-
  Reductions: what is kept of many rows, as five whole numbers; joining them.
-/
import Derived.Test.YtdebmifjfemcjaaMonSum
namespace Go.Dav
set_option linter.unusedVariables false
set_option linter.unusedSimpArgs false
open Go Go.RowKit

/-- A reduction: how many rows, how many numbers, their sum, the least, the greatest. -/
structure Red where
  c : Int
  n : Int
  s : Int
  l : Int
  m : Int

def Red.zero : Red := ⟨0, 0, 0, 0, 0⟩
/-- Its cells in memory. -/
def Red.cells (r : Red) : List Value := [.int .i64 r.c, .int .i64 r.n, .int .i64 (hi r.s), .int .u64 (lo r.s), .int .i64 r.l, .int .i64 r.m]
def Red.fits (r : Red) : Prop := I64 r.c ∧ I64 r.n ∧ I64 r.l ∧ I64 r.m
def Red.ok (r : Red) : Bool := redB r.c r.n r.s r.l r.m
def Red.both (r t : Red) : Red := ⟨r.c + t.c, bothN r.n t.n, bothS t.n r.s t.s, bothL r.n t.n r.l t.l, bothM r.n t.n r.m t.m⟩

theorem Red.ok_spec {r : Red} (h : r.ok = true) : 0 ≤ r.n ∧ r.n ≤ r.c ∧ r.c ≤ 1073741824 ∧ (r.n = 0 → hi r.s = 0 ∧ lo r.s = 0 ∧ r.l = 0 ∧ r.m = 0) := by
  unfold Red.ok redB at h
  by_cases h1 : r.n < 0 ∨ r.c < r.n ∨ 1073741824 < r.c
  · rw [if_pos h1] at h; cases h
  · rw [if_neg h1] at h
    refine ⟨by omega, by omega, by omega, fun h0 => ?_⟩
    rw [if_pos h0] at h
    simpa using h

/-- All that come behind are joined to the first; none: there are too many rows. -/
def joinL : Red → List Red → Option Red
  | acc, [] => some acc
  | acc, r :: l => if 1073741824 - r.c < acc.c then none else joinL (acc.both r) l

/-- What Join answers. -/
def joined (l : List Red) : Red × Int :=
  if l.all Red.ok then match joinL Red.zero l with
    | some r => (r, 0)
    | none => (Red.zero, 5)
  else (Red.zero, 230)

/-- What is at hand while reductions are joined. -/
def Red.fine (r : Red) : Prop := 0 ≤ r.n ∧ r.n ≤ r.c ∧ r.c ≤ 1073741824
theorem Red.zero_fine : Red.zero.fine := by unfold Red.fine Red.zero; simp
theorem Red.fine_of {r : Red} (h : r.ok = true) : r.fine := by
  have := Red.ok_spec h
  exact ⟨this.1, this.2.1, this.2.2.1⟩
theorem Red.both_fine {r t : Red} (hr : r.fine) (ht : t.fine) (h : ¬ 1073741824 - t.c < r.c) : (r.both t).fine := by
  unfold Red.fine Red.both bothN at *
  simp only
  split <;> omega

theorem Red.fine_n {r : Red} (h : r.fine) : 0 ≤ r.n := h.1

theorem one_ok (x : Int) : Red.ok ⟨1, 1, x, x, x⟩ = true := by
  unfold Red.ok redB
  simp

/-- Its sum is the one that its halves say. -/
def Red.canon (r : Red) : Prop := r.s = hi r.s * 18446744073709551616 + lo r.s
theorem Red.ok_zero {r : Red} (h : r.ok = true) (hc : r.canon) (hn : r.n = 0) : r.s = 0 := by
  obtain ⟨h1, h2, _, _⟩ := (Red.ok_spec h).2.2.2 hn
  unfold Red.canon at hc
  rw [h1, h2] at hc
  omega
/-- Where there are no numbers there is no least and no greatest one. -/
def Red.blank (r : Red) : Prop := r.n = 0 → r.l = 0 ∧ r.m = 0
theorem Red.blank_at {r : Red} (h : r.blank) (hn : r.n = 0) : r.l = 0 ∧ r.m = 0 := h hn
theorem Red.zero_blank : Red.zero.blank := fun _ => ⟨rfl, rfl⟩
theorem Red.both_blank {r t : Red} (hr : r.blank) (h1 : 0 ≤ r.n) (h2 : 0 ≤ t.n) : (r.both t).blank := by
  unfold Red.blank Red.both bothN bothL bothM at *
  simp only
  intro h
  by_cases e : t.n = 0
  · rw [if_pos e] at h; rw [if_pos e, if_pos e]; exact hr h
  · rw [if_neg e] at h; omega

/-- What Join answers of valid reductions, as the law finds it: too many rows; or the reduction. -/
theorem joined_bad {l : List Red} {r : Red} (hr : r ∈ l) (h : r.ok = false) : joined l = (Red.zero, 230) := by
  unfold joined
  rw [if_neg]
  intro hc
  have := List.all_eq_true.1 hc r hr
  rw [h] at this
  cases this

theorem hi_lo_zero {s : Int} (h1 : hi s = 0) (h2 : lo s = 0) : s % 340282366920938463463374607431768211456 = 0 := by
  unfold hi lo at *; rw [wrap64_def] at h1; omega

end Go.Dav
