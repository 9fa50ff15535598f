/-
  Small words of the walks.
  The sums of 128 bits as whole numbers: hi and lo are the halves of a number, taken modulo 2^128.
  Reductions: what is kept of many rows, as five whole numbers; joining them.
  Reductions, in plain: those that come of rows are valid; joining is associative, commutative, and the empty one is its identity.
  A region that draws its order: one set of facts, one for each operation, serves every order.
  The sums of layer 13, walked: of, plus, above, fits, total, with: what each returns, and that nothing that was there is written.
  Blocks of cells, each known whole: what a call, a new block, a store leaves of them.
  Layer 13: a number so many times, and the bounds of a sum, walked.
  Layer 13: the bounds of a sum, walked.
-/
import Derived.WalkKit
import Derived.IntWalk
import Derived.WalkSmall
import Derived.StillTail
import Derived.Below
import Derived.KernelRfl
import Derived.Test.YtmcmknndhppljaaDoorProg
import Derived.WalkSpells
import Derived.WalkLawsBesides
import Derived.Lib.Hide
import Derived.Deep.Draws
namespace Go.Dav
set_option linter.unusedVariables false
set_option linter.unusedSimpArgs false
open Go Go.RowKit
theorem ret_bool {a b : Bool} (h : a = b) : Ending.returned (.bool a) = .returned (.bool b) := by rw [h]
theorem ret_int {k : IntKind} {a b : Int} (h : a = b) : Ending.returned (.int k a) = .returned (.int k b) := by rw [h]
end Go.Dav

namespace Go.Dav
set_option linter.unusedVariables false
set_option linter.unusedSimpArgs false
open Go Go.RowKit

/-- Fits an int64. -/
def I64 (n : Int) : Prop := -9223372036854775808 ≤ n ∧ n ≤ 9223372036854775807

def lo (s : Int) : Int := s % 18446744073709551616
def hi (s : Int) : Int := wrap64 (s / 18446744073709551616)
/-- The number of 128 bits, with a sign. -/
def sg (s : Int) : Int := hi s * 18446744073709551616 + lo s

theorem wrap_u64 (s : Int) : IntKind.u64.wrap s = s % 18446744073709551616 := by
  simp [IntKind.wrap, IntKind.bits, IntKind.signed]
theorem wrap64_def (s : Int) : wrap64 s = (s + 9223372036854775808) % 18446744073709551616 - 9223372036854775808 := by
  simp only [wrap64]
theorem lo_bd (s : Int) : 0 ≤ lo s ∧ lo s < 18446744073709551616 := by unfold lo; omega
theorem hi_bd (s : Int) : -9223372036854775808 ≤ hi s ∧ hi s < 9223372036854775808 := by unfold hi; rw [wrap64_def]; omega
theorem sg_of {s : Int} (h1 : -170141183460469231731687303715884105728 ≤ s) (h2 : s < 170141183460469231731687303715884105728) : sg s = s := by
  unfold sg hi lo; rw [wrap64_def]; omega
theorem lo_add (a b : Int) : IntKind.u64.wrap (lo a + lo b) = lo (a + b) := by
  rw [wrap_u64]; unfold lo; omega
theorem carry (a b : Int) : (lo (a + b) < lo a) ↔ 18446744073709551616 ≤ lo a + lo b := by
  unfold lo; omega
theorem hi_add_yes (a b : Int) (h : 18446744073709551616 ≤ lo a + lo b) : wrap64 (wrap64 (hi a + hi b) + 1) = hi (a + b) := by
  unfold hi lo at *; simp only [wrap64_def]; omega
theorem hi_add_no (a b : Int) (h : ¬ 18446744073709551616 ≤ lo a + lo b) : wrap64 (hi a + hi b) = hi (a + b) := by
  unfold hi lo at *; simp only [wrap64_def]; omega
theorem hi_of {n : Int} (h : I64 n) : n / 9223372036854775808 = hi n := by
  unfold I64 at h
  unfold hi; rw [wrap64_def]; omega
theorem lo_of (n : Int) : IntKind.u64.wrap n = lo n := by rw [wrap_u64]; rfl
theorem pair_hi {h l : Int} (h1 : I64 h) (h3 : 0 ≤ l) (h4 : l < 18446744073709551616) : hi (h * 18446744073709551616 + l) = h := by
  unfold I64 at h1
  unfold hi; rw [wrap64_def]; omega
theorem pair_lo {h l : Int} (h3 : 0 ≤ l) (h4 : l < 18446744073709551616) : lo (h * 18446744073709551616 + l) = l := by
  unfold lo; omega
theorem hi_zero : hi 0 = 0 := by decide +kernel
theorem lo_zero : lo 0 = 0 := by decide +kernel
theorem i64_wrap_def (n : Int) : IntKind.i64.wrap n = (n + 9223372036854775808) % 18446744073709551616 - 9223372036854775808 := by
  simp only [IntKind.wrap, IntKind.bits, IntKind.signed]
  simp
  split <;> omega
theorem i64_wrap_bd (n : Int) : I64 (IntKind.i64.wrap n) := by
  unfold I64
  rw [i64_wrap_def]; omega
/-- The number has 64 bits. -/
def fitsB (s : Int) : Bool := decide (-9223372036854775808 ≤ sg s ∧ sg s < 9223372036854775808)
/-- The first number is above the second. -/
def aboveB (x y : Int) : Bool := decide (sg y < sg x)
theorem fits_key (s : Int) : (decide (hi s = hi (IntKind.i64.wrap (lo s))) && decide (lo s = lo (IntKind.i64.wrap (lo s)))) = fitsB s := by
  unfold fitsB
  rw [Bool.eq_iff_iff]
  simp only [Bool.and_eq_true, decide_eq_true_eq, i64_wrap_def]
  unfold sg hi lo
  simp only [wrap64_def]
  omega
theorem sg_lo {s : Int} (h1 : -9223372036854775808 ≤ sg s) (h2 : sg s < 9223372036854775808) : IntKind.i64.wrap (lo s) = sg s := by
  rw [i64_wrap_def]
  unfold sg hi lo at *
  simp only [wrap64_def] at *
  omega
/-- 'm & 1' on an int. -/
theorem and_one_i64 (m : Nat) (h0 : I64 m) : bits BinOp.and IntKind.i64 (m : Int) 1 = ((m % 2 : Nat) : Int) := by
  have h := h0.2
  have e : (BitVec.ofInt 64 (m : Int) &&& BitVec.ofInt 64 1).toNat = m % 2 := by
    rw [BitVec.toNat_and]
    have e1 : (BitVec.ofInt 64 (m : Int)).toNat = m := by
      rw [BitVec.ofInt_natCast, BitVec.toNat_ofNat]; exact Nat.mod_eq_of_lt (by omega)
    have e2 : (BitVec.ofInt 64 1).toNat = 1 := by decide +kernel
    rw [e1, e2, Nat.and_one_is_mod]
  show IntKind.i64.wrap (((BitVec.ofInt 64 (m : Int) &&& BitVec.ofInt 64 1).toNat : Nat) : Int) = _
  rw [e, i64_wrap_def]
  omega
theorem half_odd (acc base : Int) (m : Nat) (h : m % 2 = 1) : acc + base + (base + base) * ((m / 2 : Nat) : Int) = acc + base * (m : Int) := by
  have hm : (m : Int) = 2 * ((m / 2 : Nat) : Int) + 1 := by omega
  rw [hm, Int.add_mul, Int.mul_add, Int.mul_left_comm base 2]
  omega
theorem half_even (acc base : Int) (m : Nat) (h : m % 2 = 0) : acc + (base + base) * ((m / 2 : Nat) : Int) = acc + base * (m : Int) := by
  have hm : (m : Int) = 2 * ((m / 2 : Nat) : Int) := by omega
  rw [hm, Int.add_mul, Int.mul_left_comm base 2]
  omega
/-- What Check answers. -/
def redE (b : Bool) : Int := if b then 0 else 230
/-- May a reduction be? -/
def redB (c n s l m : Int) : Bool :=
  if n < 0 ∨ c < n ∨ 1073741824 < c then false
  else if n = 0 then decide (hi s = 0 ∧ lo s = 0 ∧ l = 0 ∧ m = 0)
  else if n = 1 then decide (l = m ∧ hi s = hi l ∧ lo s = lo l)
  else decide (l ≤ m) && (!aboveB (l + m + l * (n - 2)) s && !aboveB s (l + m + m * (n - 2)))
/-- The reduction of two: its sum, its least, its greatest number. -/
def bothS (n2 s1 s2 : Int) : Int := if n2 = 0 then s1 else s1 + s2
def bothN (n1 n2 : Int) : Int := if n2 = 0 then n1 else n1 + n2
def bothL (n1 n2 l1 l2 : Int) : Int := if n2 = 0 then l1 else if 0 < n1 then min l1 l2 else l2
def bothM (n1 n2 m1 m2 : Int) : Int := if n2 = 0 then m1 else if 0 < n1 then max m1 m2 else m2
/-- What is missing from the low half to the greatest number. -/
def notLo (x : Int) : Int := 18446744073709551615 - lo x
theorem notLo_eq (x : Int) : IntKind.u64.wrap (18446744073709551615 - lo x) = notLo x := by
  rw [wrap_u64]; unfold notLo lo; omega
theorem notLo_lt (x y : Int) : notLo x < lo y ↔ 18446744073709551616 ≤ lo x + lo y := by
  unfold notLo; omega
theorem carry_yes (x y : Int) (h : notLo x < lo y) : wrap64 (wrap64 (hi x + hi y) + 1) = hi (x + y) := hi_add_yes x y ((notLo_lt x y).1 h)
theorem carry_no (x y : Int) (h : ¬ notLo x < lo y) : wrap64 (wrap64 (hi x + hi y) + 0) = hi (x + y) := by
  rw [Int.add_zero, hi_add_no x y (fun hc => h ((notLo_lt x y).2 hc)), ]
  unfold hi; simp only [wrap64_def]; omega
theorem hi_add_no' (x y : Int) (h : ¬ notLo x < lo y) : wrap64 (hi x + hi y) = hi (x + y) := hi_add_no x y (fun hc => h ((notLo_lt x y).2 hc))
theorem wrap64_hi (s : Int) : wrap64 (hi s) = hi s := by
  unfold hi; simp only [wrap64_def]; omega
theorem hi_neg {n : Int} (h : I64 n) (hn : n < 0) : hi n = -1 := by
  unfold I64 at h; unfold hi; rw [wrap64_def]; omega
theorem hi_pos {n : Int} (h : I64 n) (hn : ¬ n < 0) : hi n = 0 := by
  unfold I64 at h; unfold hi; rw [wrap64_def]; omega
theorem less_key (x y : Int) : (if hi x = hi y then decide (lo x < lo y) else decide (hi x < hi y)) = aboveB y x := by
  have hx := lo_bd x
  have hy := lo_bd y
  unfold aboveB sg
  by_cases h : hi x = hi y
  · rw [if_pos h, h, Bool.eq_iff_iff]; simp
  · rw [if_neg h, Bool.eq_iff_iff]; simp; omega
theorem half_div {k : Int} (h0 : 0 ≤ k) (h : I64 k) : wrap64 (k.tdiv 2) = k / 2 := by
  rw [Int.tdiv_eq_ediv_of_nonneg h0, wrap64_def]; unfold I64 at h; omega
theorem half_mod {k : Int} (h0 : 0 ≤ k) : k.tmod 2 = k % 2 := Int.tmod_eq_emod_of_nonneg h0
theorem half_mod' {k : Int} : wrap64 (k % 2) = k % 2 := by
  rw [wrap64_def]; omega
theorem fits_sg {s : Int} (h : fitsB s = true) : wrap64 (lo s) = sg s := by
  unfold fitsB at h
  simp only [decide_eq_true_eq] at h
  rw [← sg_lo h.1 h.2, i64_wrap_def, wrap64_def]
theorem i64_of_wf {n : Int} (h : (Lit.int .i64 n).wf = true) : I64 n := by
  unfold I64
  simp [Lit.wf, IntKind.min, IntKind.max, IntKind.bits, IntKind.signed] at h
  omega
theorem u64_of_wf {n : Int} (h : (Lit.int .u64 n).wf = true) : 0 ≤ n ∧ n ≤ 18446744073709551615 := by
  simp [Lit.wf, IntKind.min, IntKind.max, IntKind.bits, IntKind.signed] at h
  omega
end Go.Dav

namespace Go.Dav
set_option linter.unusedVariables false
set_option linter.unusedSimpArgs false
open Go Go.RowKit

/-- A reduction: how many rows, how many numbers, their sum, the least, the greatest. -/
structure Red where
  c : Int
  n : Int
  s : Int
  l : Int
  m : Int

def Red.zero : Red := ⟨0, 0, 0, 0, 0⟩
/-- Its cells in memory. -/
def Red.cells (r : Red) : List Value := [.int .i64 r.c, .int .i64 r.n, .int .i64 (hi r.s), .int .u64 (lo r.s), .int .i64 r.l, .int .i64 r.m]
def Red.fits (r : Red) : Prop := I64 r.c ∧ I64 r.n ∧ I64 r.l ∧ I64 r.m
def Red.ok (r : Red) : Bool := redB r.c r.n r.s r.l r.m
def Red.both (r t : Red) : Red := ⟨r.c + t.c, bothN r.n t.n, bothS t.n r.s t.s, bothL r.n t.n r.l t.l, bothM r.n t.n r.m t.m⟩

theorem Red.ok_spec {r : Red} (h : r.ok = true) : 0 ≤ r.n ∧ r.n ≤ r.c ∧ r.c ≤ 1073741824 ∧ (r.n = 0 → hi r.s = 0 ∧ lo r.s = 0 ∧ r.l = 0 ∧ r.m = 0) := by
  unfold Red.ok redB at h
  by_cases h1 : r.n < 0 ∨ r.c < r.n ∨ 1073741824 < r.c
  · rw [if_pos h1] at h; cases h
  · rw [if_neg h1] at h
    refine ⟨by omega, by omega, by omega, fun h0 => ?_⟩
    rw [if_pos h0] at h
    simpa using h

/-- All that come behind are joined to the first; none: there are too many rows. -/
def joinL : Red → List Red → Option Red
  | acc, [] => some acc
  | acc, r :: l => if 1073741824 - r.c < acc.c then none else joinL (acc.both r) l

/-- What Join answers. -/
def joined (l : List Red) : Red × Int :=
  if l.all Red.ok then match joinL Red.zero l with
    | some r => (r, 0)
    | none => (Red.zero, 5)
  else (Red.zero, 230)

/-- What is at hand while reductions are joined. -/
def Red.fine (r : Red) : Prop := 0 ≤ r.n ∧ r.n ≤ r.c ∧ r.c ≤ 1073741824
theorem Red.zero_fine : Red.zero.fine := by unfold Red.fine Red.zero; simp
theorem Red.fine_of {r : Red} (h : r.ok = true) : r.fine := by
  have := Red.ok_spec h
  exact ⟨this.1, this.2.1, this.2.2.1⟩
theorem Red.both_fine {r t : Red} (hr : r.fine) (ht : t.fine) (h : ¬ 1073741824 - t.c < r.c) : (r.both t).fine := by
  unfold Red.fine Red.both bothN at *
  simp only
  split <;> omega

theorem Red.fine_n {r : Red} (h : r.fine) : 0 ≤ r.n := h.1

theorem one_ok (x : Int) : Red.ok ⟨1, 1, x, x, x⟩ = true := by
  unfold Red.ok redB
  simp

/-- Its sum is the one that its halves say. -/
def Red.canon (r : Red) : Prop := r.s = hi r.s * 18446744073709551616 + lo r.s
theorem Red.ok_zero {r : Red} (h : r.ok = true) (hc : r.canon) (hn : r.n = 0) : r.s = 0 := by
  obtain ⟨h1, h2, _, _⟩ := (Red.ok_spec h).2.2.2 hn
  unfold Red.canon at hc
  rw [h1, h2] at hc
  omega
/-- Where there are no numbers there is no least and no greatest one. -/
def Red.blank (r : Red) : Prop := r.n = 0 → r.l = 0 ∧ r.m = 0
theorem Red.blank_at {r : Red} (h : r.blank) (hn : r.n = 0) : r.l = 0 ∧ r.m = 0 := h hn
theorem Red.zero_blank : Red.zero.blank := fun _ => ⟨rfl, rfl⟩
theorem Red.both_blank {r t : Red} (hr : r.blank) (h1 : 0 ≤ r.n) (h2 : 0 ≤ t.n) : (r.both t).blank := by
  unfold Red.blank Red.both bothN bothL bothM at *
  simp only
  intro h
  by_cases e : t.n = 0
  · rw [if_pos e] at h; rw [if_pos e, if_pos e]; exact hr h
  · rw [if_neg e] at h; omega

/-- What Join answers of valid reductions, as the law finds it: too many rows; or the reduction. -/
theorem joined_bad {l : List Red} {r : Red} (hr : r ∈ l) (h : r.ok = false) : joined l = (Red.zero, 230) := by
  unfold joined
  rw [if_neg]
  intro hc
  have := List.all_eq_true.1 hc r hr
  rw [h] at this
  cases this

theorem hi_lo_zero {s : Int} (h1 : hi s = 0) (h2 : lo s = 0) : s % 340282366920938463463374607431768211456 = 0 := by
  unfold hi lo at *; rw [wrap64_def] at h1; omega

end Go.Dav

namespace Go.Dav
set_option linter.unusedVariables false
set_option linter.unusedSimpArgs false
open Go Go.RowKit

/-- What a row alone is reduced to. -/
def rowRed (b : Bool) (x : Int) : Red := if b then ⟨1, 1, x, x, x⟩ else ⟨1, 0, 0, 0, 0⟩

/-- Sound: the numbers are such as rows bring. -/
structure Red.good (r : Red) : Prop where
  n0 : 0 ≤ r.n
  nc : r.n ≤ r.c
  none : r.n = 0 → r.s = 0 ∧ r.l = 0 ∧ r.m = 0
  le : r.l ≤ r.m
  i64l : -9223372036854775808 ≤ r.l
  i64m : r.m ≤ 9223372036854775807
  low : 1 ≤ r.n → r.m + r.l * (r.n - 1) ≤ r.s
  high : 1 ≤ r.n → r.s ≤ r.l + r.m * (r.n - 1)

theorem Red.zero_good : Red.zero.good := by
  constructor <;> simp [Red.zero]

theorem rowRed_good (b : Bool) (x : Int) (h : I64 x) : (rowRed b x).good := by
  unfold I64 at h
  cases b <;> constructor <;> simp [rowRed] <;> omega

theorem Red.ext' {r t : Red} (h1 : r.c = t.c) (h2 : r.n = t.n) (h3 : r.s = t.s) (h4 : r.l = t.l) (h5 : r.m = t.m) : r = t := by
  cases r; cases t; simp_all

theorem mul_low {a b k : Int} (h : a ≤ b) (hk : 0 ≤ k) : a * k ≤ b * k := Int.mul_le_mul_of_nonneg_right h hk

theorem Red.both_good {r t : Red} (hr : r.good) (ht : t.good) : (r.both t).good := by
  obtain ⟨a1, a2, a3, a4, a5, a6, a7, a8⟩ := hr
  obtain ⟨b1, b2, b3, b4, b5, b6, b7, b8⟩ := ht
  by_cases e2 : t.n = 0
  · obtain ⟨z1, z2, z3⟩ := b3 e2
    constructor <;> simp only [Red.both, bothN, bothS, bothL, bothM, if_pos e2] <;> first | assumption | omega
  · by_cases e1 : r.n = 0
    · obtain ⟨z1, z2, z3⟩ := a3 e1
      have e1' : ¬ 0 < r.n := by omega
      constructor <;> simp only [Red.both, bothN, bothS, bothL, bothM, if_neg e2, if_neg e1', e1, z1, Int.zero_add] <;> first | assumption | omega
    · have e1' : 0 < r.n := by omega
      have c7 := a7 (by omega)
      have c8 := a8 (by omega)
      have d7 := b7 (by omega)
      have d8 := b8 (by omega)
      constructor <;> simp only [Red.both, bothN, bothS, bothL, bothM, if_neg e2, if_pos e1']
      · omega
      · omega
      · omega
      · omega
      · omega
      · omega
      · intro _
        have p1 := mul_low (Int.min_le_left r.l t.l) (show 0 ≤ r.n - 1 by omega)
        have p2 := mul_low (Int.min_le_right r.l t.l) (show 0 ≤ t.n - 1 by omega)
        have p3 : min r.l t.l * (r.n + t.n - 1) = min r.l t.l * (r.n - 1) + min r.l t.l * (t.n - 1) + min r.l t.l := by
          rw [show r.n + t.n - 1 = (r.n - 1) + (t.n - 1) + 1 by omega, Int.mul_add, Int.mul_add, Int.mul_one]
        rw [p3]
        generalize min r.l t.l * (r.n - 1) = q1 at p1 ⊢
        generalize min r.l t.l * (t.n - 1) = q2 at p2 ⊢
        generalize r.l * (r.n - 1) = q3 at *
        generalize t.l * (t.n - 1) = q4 at *
        omega
      · intro _
        have p1 := mul_low (Int.le_max_left r.m t.m) (show 0 ≤ r.n - 1 by omega)
        have p2 := mul_low (Int.le_max_right r.m t.m) (show 0 ≤ t.n - 1 by omega)
        have p3 : max r.m t.m * (r.n + t.n - 1) = max r.m t.m * (r.n - 1) + max r.m t.m * (t.n - 1) + max r.m t.m := by
          rw [show r.n + t.n - 1 = (r.n - 1) + (t.n - 1) + 1 by omega, Int.mul_add, Int.mul_add, Int.mul_one]
        rw [p3]
        generalize max r.m t.m * (r.n - 1) = q1 at p1 ⊢
        generalize max r.m t.m * (t.n - 1) = q2 at p2 ⊢
        generalize r.m * (r.n - 1) = q3 at *
        generalize t.m * (t.n - 1) = q4 at *
        omega

theorem Red.zero_both {t : Red} (h : t.good) : Red.zero.both t = t := by
  by_cases e : t.n = 0
  · obtain ⟨z1, z2, z3⟩ := h.none e
    apply Red.ext' <;> simp [Red.both, Red.zero, bothN, bothS, bothL, bothM, e, z1, z2, z3]
  · apply Red.ext' <;> simp [Red.both, Red.zero, bothN, bothS, bothL, bothM, e]

theorem Red.both_zero (t : Red) : t.both Red.zero = t := by
  apply Red.ext' <;> simp [Red.both, Red.zero, bothN, bothS, bothL, bothM]

theorem Red.both_comm {r t : Red} (hr : r.good) (ht : t.good) : r.both t = t.both r := by
  by_cases e1 : r.n = 0 <;> by_cases e2 : t.n = 0
  · obtain ⟨z1, z2, z3⟩ := hr.none e1
    obtain ⟨y1, y2, y3⟩ := ht.none e2
    apply Red.ext' <;> simp only [Red.both, bothN, bothS, bothL, bothM, if_pos e1, if_pos e2] <;> omega
  · obtain ⟨z1, z2, z3⟩ := hr.none e1
    have : ¬ 0 < r.n := by omega
    apply Red.ext' <;> simp only [Red.both, bothN, bothS, bothL, bothM, if_pos e1, if_neg e2, if_neg this] <;> omega
  · obtain ⟨y1, y2, y3⟩ := ht.none e2
    have : ¬ 0 < t.n := by omega
    apply Red.ext' <;> simp only [Red.both, bothN, bothS, bothL, bothM, if_neg e1, if_pos e2, if_neg this] <;> omega
  · have h1 := hr.n0
    have h2 := ht.n0
    have h1 : 0 < r.n := by omega
    have h2 : 0 < t.n := by omega
    apply Red.ext' <;> simp only [Red.both, bothN, bothS, bothL, bothM, if_neg e1, if_neg e2, if_pos h1, if_pos h2] <;> omega

theorem Red.both_assoc {r t u : Red} (hr : r.good) (ht : t.good) (hu : u.good) : (r.both t).both u = r.both (t.both u) := by
  have h1 := hr.n0
  have h2 := ht.n0
  have h3 := hu.n0
  by_cases e2 : t.n = 0
  · by_cases e3 : u.n = 0
    · apply Red.ext' <;> simp only [Red.both, bothN, bothS, bothL, bothM, if_pos e2, if_pos e3] <;> omega
    · have z := ht.none e2
      have n2 : ¬ 0 < t.n := by omega
      have n3 : ¬ 0 + u.n = 0 := by omega
      apply Red.ext' <;> simp [Red.both, bothN, bothS, bothL, bothM, e2, e3, z.1]
      omega
  · by_cases e3 : u.n = 0
    · apply Red.ext' <;> simp only [Red.both, bothN, bothS, bothL, bothM, if_neg e2, if_pos e3] <;> omega
    · have n2 : 0 < t.n := by omega
      have n3 : ¬ t.n + u.n = 0 := by omega
      have n4 : 0 < r.n + t.n := by omega
      by_cases e1 : 0 < r.n
      · apply Red.ext' <;> simp only [Red.both, bothN, bothS, bothL, bothM, if_neg e2, if_neg e3, if_pos n2, if_neg n3, if_pos n4, if_pos e1] <;> omega
      · apply Red.ext' <;> simp only [Red.both, bothN, bothS, bothL, bothM, if_neg e2, if_neg e3, if_pos n2, if_neg n3, if_pos n4, if_neg e1] <;> omega

theorem sg_small {s : Int} (h1 : -170141183460469231731687303715884105728 ≤ s) (h2 : s < 170141183460469231731687303715884105728) : sg s = s := by
  unfold sg hi lo; rw [wrap64_def]; omega

theorem Red.good_ok {r : Red} (h : r.good) (hc : r.c ≤ 1073741824) : r.ok = true := by
  obtain ⟨a1, a2, a3, a4, a5, a6, a7, a8⟩ := h
  unfold Red.ok redB
  rw [if_neg (by omega)]
  by_cases e0 : r.n = 0
  · obtain ⟨z1, z2, z3⟩ := a3 e0
    rw [if_pos e0]
    simp [z1, z2, z3, hi_zero, lo_zero]
  · rw [if_neg e0]
    have b7 := a7 (by omega)
    have b8 := a8 (by omega)
    by_cases e1 : r.n = 1
    · rw [if_pos e1]
      rw [e1] at b7 b8
      have h1 : r.l = r.m := by omega
      have h2 : r.s = r.l := by omega
      rw [← h1, h2]
      simp
    · rw [if_neg e1]
      have hn : 0 ≤ r.n - 1 := by omega
      have p1 := mul_low a5 hn
      have p2 := mul_low a6 hn
      have p3 := mul_low (Int.le_trans a4 a6) hn
      have p4 := mul_low (Int.le_trans a5 a4) hn
      have q1 : r.l + r.m + r.l * (r.n - 2) = r.m + r.l * (r.n - 1) := by
        rw [show r.n - 1 = (r.n - 2) + 1 by omega, Int.mul_add, Int.mul_one]; omega
      have q2 : r.l + r.m + r.m * (r.n - 2) = r.l + r.m * (r.n - 1) := by
        rw [show r.n - 1 = (r.n - 2) + 1 by omega, Int.mul_add, Int.mul_one]; omega
      rw [q1, q2]
      generalize r.l * (r.n - 1) = x at *
      generalize r.m * (r.n - 1) = y at *
      unfold aboveB
      rw [sg_small (s := r.s) (by omega) (by omega), sg_small (s := r.m + x) (by omega) (by omega), sg_small (s := r.l + y) (by omega) (by omega)]
      simp
      omega

/-- All joined, one behind the other. -/
def redAll (l : List Red) : Red := l.foldl Red.both Red.zero

theorem foldl_good : ∀ (l : List Red) (a : Red), a.good → (∀ r ∈ l, r.good) → (l.foldl Red.both a).good
  | [], _, h, _ => h
  | x :: l, a, h, hl => foldl_good l (a.both x) (Red.both_good h (hl x (by simp))) fun r hr => hl r (by simp [hr])

theorem redAll_good {l : List Red} (h : ∀ r ∈ l, r.good) : (redAll l).good := foldl_good l _ Red.zero_good h

theorem foldl_both : ∀ (l : List Red) (a : Red), a.good → (∀ r ∈ l, r.good) → l.foldl Red.both a = a.both (redAll l)
  | [], a, _, _ => (Red.both_zero a).symm
  | x :: l, a, h, hl => by
    have hx := hl x (by simp)
    have hl' : ∀ r ∈ l, r.good := fun r hr => hl r (by simp [hr])
    have hg := redAll_good hl'
    show l.foldl Red.both (a.both x) = _
    rw [foldl_both l _ (Red.both_good h hx) hl']
    unfold redAll
    rw [List.foldl_cons, Red.zero_both hx, foldl_both l x hx hl']
    exact Red.both_assoc h hx hg

theorem redAll_append {l k : List Red} (hl : ∀ r ∈ l, r.good) (hk : ∀ r ∈ k, r.good) : redAll (l ++ k) = (redAll l).both (redAll k) := by
  unfold redAll
  rw [List.foldl_append]
  exact foldl_both k _ (redAll_good hl) hk

theorem foldl_c : ∀ (l : List Red) (a : Red), (l.foldl Red.both a).c = a.c + (l.map Red.c).sum
  | [], a => by simp
  | x :: l, a => by
    rw [List.foldl_cons, foldl_c l]
    simp only [Red.both, List.map_cons, List.sum_cons]
    omega

theorem sum_nonneg : ∀ (l : List Red), (∀ r ∈ l, r.good) → 0 ≤ (l.map Red.c).sum
  | [], _ => by simp
  | x :: l, h => by
    have h1 := h x (by simp)
    have h2 := sum_nonneg l fun r hr => h r (by simp [hr])
    have h3 := h1.n0
    have h4 := h1.nc
    simp only [List.map_cons, List.sum_cons]
    omega

theorem joinL_good : ∀ (l : List Red) (a : Red), a.good → (∀ r ∈ l, r.good) → a.c + (l.map Red.c).sum ≤ 1073741824 → joinL a l = some (l.foldl Red.both a)
  | [], _, _, _, _ => rfl
  | x :: l, a, h, hl, hc => by
    have hx := hl x (by simp)
    have hl' : ∀ r ∈ l, r.good := fun r hr => hl r (by simp [hr])
    have hs := sum_nonneg l hl'
    simp only [List.map_cons, List.sum_cons] at hc
    unfold joinL
    rw [if_neg (by omega), List.foldl_cons]
    exact joinL_good l _ (Red.both_good h hx) hl' (by simp only [Red.both]; omega)

/-- What Join answers of sound reductions, if there are not too many rows. -/
theorem joined_good {l : List Red} (hl : ∀ r ∈ l, r.good) (hc : (l.map Red.c).sum ≤ 1073741824) : joined l = (redAll l, 0) := by
  have hall : l.all Red.ok = true := List.all_eq_true.2 fun r hr => by
    refine Red.good_ok (hl r hr) ?_
    obtain ⟨p, q, rfl⟩ := List.append_of_mem hr
    have h1 := sum_nonneg p fun r hr => hl r (by simp [hr])
    have h2 := sum_nonneg q fun r hr => hl r (by simp [hr])
    simp only [List.map_append, List.map_cons, List.sum_append, List.sum_cons] at hc
    omega
  unfold joined
  rw [if_pos hall, joinL_good l _ Red.zero_good hl (by simpa [Red.zero] using hc)]
  rfl

end Go.Dav

namespace Go.Dav
set_option linter.unusedVariables false
set_option linter.unusedSimpArgs false
open Go Go.RowKit

/-- The operation, carried out in W, yields a value for which R holds, and a world that has only grown. -/
def Gives (P : Program) (o : Oper) (a : Act) (W : World) (R : Value → World → Prop) : Prop :=
  match (execOp a.eval o).run P W with
  | .ok (.value u) W' => Below W.heap.size W W' ∧ R u W'
  | .ok .skip W' => Below W.heap.size W W' ∧ R undef W'
  | .ok (.enter f args) W' => Below W.heap.size W W' ∧ Calls P f args W' (fun e W'' => ∃ v, e = .returned v ∧ Below W'.heap.size W' W'' ∧ R v W'')
  | _ => False

theorem ext_trans {a b c : World} (h : Below a.heap.size a b) (k : Below b.heap.size b c) : Below a.heap.size a c := h.trans (k.mono h.size)

theorem wp_of_gives {P : Program} {o : Oper} {a : Act} {W : World} {R : Value → World → Prop} {K : Act → World → Prop} {Q : Exit → Act → World → Prop}
    (h : Gives P o a W R) (hk : ∀ v W', Below W.heap.size W W' → R v W' → K (a.put o.dst v) W') : o.wp P a W K Q := by
  unfold Gives at h
  unfold Oper.wp
  generalize (execOp a.eval o).run P W = r at *
  cases r with
  | ok n w' =>
    cases n <;> simp only [Oper.upon] at h ⊢
    case value u => exact hk _ _ h.1 h.2
    case skip => exact hk _ _ h.1 h.2
    case enter f args =>
      refine h.2.mono fun e w'' ⟨v, he, hb, hr⟩ => ?_
      subst he
      exact hk _ _ (ext_trans h.1 hb) hr
  | halt x w' => cases h

theorem Gives.of_eval {P : Program} {o : Oper} {a a' : Act} {W : World} {R : Value → World → Prop} (h : Gives P o a W R) (he : execOp a'.eval o = execOp a.eval o) : Gives P o a' W R := by
  unfold Gives at *
  rwa [he]

section
variable {P : Program} {ops : Array Oper}

/-- The last of the first m operations that p picks and that write slot t. -/
def lastW (ops : Array Oper) (p : Nat → Bool) (t : Tmp) : Nat → Option Nat
  | 0 => none
  | m + 1 => if p m = true ∧ (ops[m]?).bind (·.dst) = some t then some m else lastW ops p t m

theorem lastW_some {p : Nat → Bool} {t : Tmp} : ∀ {m j : Nat}, lastW ops p t m = some j → j < m ∧ p j = true ∧ (ops[j]?).bind (·.dst) = some t ∧ ∀ k, j < k → k < m → ¬ (p k = true ∧ (ops[k]?).bind (·.dst) = some t)
  | 0, _, h => by cases h
  | m + 1, j, h => by
    unfold lastW at h
    split at h
    · rename_i hp
      obtain rfl : m = j := by simpa using h
      exact ⟨by omega, hp.1, hp.2, fun k h1 h2 => by omega⟩
    · rename_i hp
      obtain ⟨h1, h2, h3, h4⟩ := lastW_some h
      refine ⟨by omega, h2, h3, fun k hk hk' => ?_⟩
      by_cases e : k = m
      · subst e; exact hp
      · exact h4 k hk (by omega)

theorem lastW_none {p : Nat → Bool} {t : Tmp} : ∀ {m : Nat}, lastW ops p t m = none → ∀ k, k < m → ¬ (p k = true ∧ (ops[k]?).bind (·.dst) = some t)
  | 0, _, k, hk => by omega
  | m + 1, h, k, hk => by
    unfold lastW at h
    split at h
    · cases h
    · rename_i hp
      by_cases e : k = m
      · subst e; exact hp
      · exact lastW_none h k (by omega)

theorem lastW_eq {p q : Nat → Bool} {t : Tmp} {m n : Nat}
    (h : ∀ j, (j < m ∧ p j = true ∧ (ops[j]?).bind (·.dst) = some t) ↔ (j < n ∧ q j = true ∧ (ops[j]?).bind (·.dst) = some t)) : lastW ops p t m = lastW ops q t n := by
  cases h1 : lastW ops p t m with
  | none =>
    cases h2 : lastW ops q t n with
    | none => rfl
    | some j =>
      obtain ⟨a1, a2, a3, _⟩ := lastW_some h2
      obtain ⟨b1, b2, b3⟩ := (h j).2 ⟨a1, a2, a3⟩
      exact absurd ⟨b2, b3⟩ (lastW_none h1 j b1)
  | some i =>
    obtain ⟨a1, a2, a3, a4⟩ := lastW_some h1
    obtain ⟨b1, b2, b3⟩ := (h i).1 ⟨a1, a2, a3⟩
    cases h2 : lastW ops q t n with
    | none => exact absurd ⟨b2, b3⟩ (lastW_none h2 i b1)
    | some j =>
      obtain ⟨c1, c2, c3, c4⟩ := lastW_some h2
      obtain ⟨d1, d2, d3⟩ := (h j).2 ⟨c1, c2, c3⟩
      congr 1
      rcases Nat.lt_trichotomy i j with hl | hl | hl
      · exact absurd ⟨d2, d3⟩ (a4 j hl d1)
      · exact hl
      · exact absurd ⟨b2, b3⟩ (c4 i hl b1)

/-- What slot t holds once the operations that p picks, of the first m, have laid their values. -/
def slotOf (ops : Array Oper) (p : Nat → Bool) (vs : Nat → Value) (a : Act) (m : Nat) (t : Tmp) : Option Value :=
  match lastW ops p t m with
  | none => a.tmps[t]?
  | some j => if t < a.tmps.size then some (vs j) else none

/-- The first m operations' values, laid in the order of the text. -/
def lay (ops : Array Oper) (vs : Nat → Value) (a : Act) : Nat → Act
  | 0 => a
  | m + 1 => (lay ops vs a m).put ((ops[m]?).bind (·.dst)) (vs m)

theorem put_size (a : Act) (d : Option Tmp) (v : Value) : (a.put d v).tmps.size = a.tmps.size := by
  cases d <;> simp [Act.put]
theorem put_defers (a : Act) (d : Option Tmp) (v : Value) : (a.put d v).defers = a.defers := by
  cases d <;> rfl
theorem put_get (a : Act) (d : Option Tmp) (v : Value) (t : Tmp) : (a.put d v).tmps[t]? = if d = some t then (if t < a.tmps.size then some v else none) else a.tmps[t]? := by
  cases d with
  | none => simp [Act.put]
  | some e =>
    by_cases h : e = t
    · subst h; simp [Act.put, Array.getElem?_setIfInBounds]
    · simp [Act.put, h, Array.getElem?_setIfInBounds_ne h]

theorem lay_size (vs : Nat → Value) (a : Act) : ∀ m, (lay ops vs a m).tmps.size = a.tmps.size
  | 0 => rfl
  | m + 1 => by rw [lay, put_size, lay_size vs a m]
theorem lay_defers (vs : Nat → Value) (a : Act) : ∀ m, (lay ops vs a m).defers = a.defers
  | 0 => rfl
  | m + 1 => by rw [lay, put_defers, lay_defers vs a m]
theorem lay_get (vs : Nat → Value) (a : Act) (t : Tmp) : ∀ m : Nat, (lay ops vs a m).tmps[t]? = slotOf ops (fun _ => true) vs a m t
  | 0 => rfl
  | m + 1 => by
    rw [lay, put_get, lay_size]
    unfold slotOf lastW
    by_cases h : (ops[m]?).bind (·.dst) = some t
    · simp [h]
    · simp only [h, and_false, if_false]; exact lay_get vs a t m

theorem act_ext {a b : Act} (h : ∀ t : Nat, a.tmps[t]? = b.tmps[t]?) (hd : a.defers = b.defers) : a = b := by
  cases a; cases b
  simp only at h hd
  rw [Array.ext_getElem? h, hd]

theorem eval_congr {a b : Act} {l : List Tmp} (h : ∀ t ∈ l, a.tmps[t]? = b.tmps[t]?) (x : Operand) (hx : ∀ t, x = .tmp t → t ∈ l) : a.eval x = b.eval x := by
  cases x with
  | tmp t => have := h t (hx t rfl); simp [Act.eval, Array.getD_eq_getD_getElem?, this]
  | _ => rfl

theorem exec_congr {a b : Act} {o : Oper} (hs : ∀ cs t, o.op ≠ .select cs t) (h : ∀ t ∈ o.looksAt ops, a.tmps[t]? = b.tmps[t]?) : execOp a.eval o = execOp b.eval o :=
  execOp_congr o hs fun x hx => eval_congr h x fun t ht => by
    unfold Oper.looksAt
    refine List.mem_append_left _ (List.mem_filterMap.2 ⟨x, by simpa using hx, by rw [ht]⟩)

theorem wanted_congr {a b : Act} {o : Oper} (h : ∀ t ∈ o.looksAt ops, a.tmps[t]? = b.tmps[t]?) : Region.wanted o (yielded ops a.tmps) = Region.wanted o (yielded ops b.tmps) := by
  unfold Region.wanted
  cases hg : o.guard with
  | none => rfl
  | some g =>
    obtain ⟨j, want⟩ := g
    simp only
    congr 1
    unfold yielded
    cases hd : (ops[j]?).bind (·.dst) with
    | none => rfl
    | some d =>
      simp only [Option.bind_some]
      rw [h d (by unfold Oper.looksAt; refine List.mem_append_right _ ?_; simp [hg, hd])]

/-- What is laid of an operation: a known value, or what holds of it. -/
def holdsOf : Value ⊕ (Value → World → Prop) → Value → World → Prop
  | .inl v, u, _ => u = v
  | .inr R, u, W => R u W

/-- The slots that an operation looks at, each written by none of the others, or by one that it waits for (or that waits for it). -/
def tidyB (ops : Array Oper) (n : Nat) : Bool :=
  (List.range n).all fun i => (List.range n).all fun j =>
    match ops[i]?, ops[j]? with
    | some oi, some oj => match oj.dst with
      | none => true
      | some d =>
        if i = j then !(oi.looksAt ops).contains d
        else if (oi.looksAt ops).contains d || oi.dst == some d then (if i < j then Region.waitsFor .any ops j i else Region.waitsFor .any ops i j) else true
    | _, _ => false

/-- Operations wait for earlier ones alone. -/
def backB (ops : Array Oper) (n : Nat) : Bool :=
  (List.range n).all fun i => match ops[i]? with
    | some o => o.after.all fun e => !Region.binds .any e || decide (e.on < i)
    | none => false

/-- All that the theorem asks of the region itself. -/
def partsB (ops : Array Oper) (n : Nat) : Bool :=
  Region.noSelect ops && tidyB ops n && backB ops n && decide (n ≤ ops.size) && (decide (n = ops.size) || (Region.sinkB .any ops n && Region.chainB .any ops n)) &&
    Region.seqB .any ops (ops.size - n) n ((Array.range ops.size).map fun j => decide (j < n))

end
section
variable {P : Program} {ops : Array Oper}

theorem tidy_spec {n : Nat} (h : tidyB ops n = true) {i j : Nat} {oi oj : Oper} {d : Tmp} (hi : i < n) (hj : j < n) (hoi : ops[i]? = some oi) (hoj : ops[j]? = some oj) (hd : oj.dst = some d)
    (hl : d ∈ oi.looksAt ops ∨ (oi.dst = some d ∧ i ≠ j)) : i ≠ j ∧ (i < j → Region.waitsFor .any ops j i = true) ∧ (j < i → Region.waitsFor .any ops i j = true) := by
  have h1 := List.all_eq_true.1 (List.all_eq_true.1 h i (List.mem_range.2 hi)) j (List.mem_range.2 hj)
  simp only [hoi, hoj, hd] at h1
  by_cases e : i = j
  · subst e
    simp only [if_true] at h1
    rcases hl with hl | ⟨_, hl⟩
    · simp [hl] at h1
    · exact absurd rfl hl
  · have hc : ((oi.looksAt ops).contains d || oi.dst == some d) = true := by
      rcases hl with hl | ⟨hl, _⟩
      · simp [hl]
      · simp [hl]
    simp only [e, if_false, hc, if_true] at h1
    refine ⟨e, fun hlt => by simpa [hlt] using h1, fun hlt => ?_⟩
    have : ¬ i < j := by omega
    simpa [this] using h1

/-- What holds at any point while the first n operations are carried out: 'listed' have been. -/
structure Mid (ops : Array Oper) (n : Nat) (ps : Nat → Value ⊕ (Value → World → Prop)) (a0 : Act) (w0 : World) (listed : Array Bool) (vs : Nat → Value) (a : Act) (W : World) : Prop where
  ext : Below w0.heap.size w0 W
  size : a.tmps.size = a0.tmps.size
  defers : a.defers = a0.defers
  slots : ∀ t : Nat, a.tmps[t]? = slotOf ops (fun j => listed.getD j false) vs a0 n t
  held : ∀ j, j < n → listed.getD j false = true → holdsOf (ps j) (vs j) W

/-- The facts that operation i may use: of the operations whose slots it looks at. -/
def depsHold (ops : Array Oper) (ps : Nat → Value ⊕ (Value → World → Prop)) (vs : Nat → Value) (o : Oper) (W : World) : Nat → Prop
  | 0 => True
  | m + 1 => (match (ops[m]?).bind (·.dst) with
      | none => True
      | some d => if (o.looksAt ops).contains d then holdsOf (ps m) (vs m) W else True) ∧ depsHold ops ps vs o W m

theorem depsHold_of {ps : Nat → Value ⊕ (Value → World → Prop)} {vs : Nat → Value} {o : Oper} {W : World} : ∀ m, (∀ j d, j < m → (ops[j]?).bind (·.dst) = some d → d ∈ o.looksAt ops → holdsOf (ps j) (vs j) W) → depsHold ops ps vs o W m
  | 0, _ => trivial
  | m + 1, h => by
    refine ⟨?_, depsHold_of m fun j d hj => h j d (by omega)⟩
    split
    · trivial
    · rename_i d hd
      split
      · rename_i hc
        exact h m d (by omega) hd (by simpa using hc)
      · trivial

/-- What is asked of operation i: in every later world in which the facts of what it looks at hold. -/
def stepFor (P : Program) (ops : Array Oper) (ps : Nat → Value ⊕ (Value → World → Prop)) (a0 : Act) (w0 : World) (vs : Nat → Value) (i : Nat) : Prop :=
  match ops[i]? with
  | none => True
  | some o => ∀ W, Below w0.heap.size w0 W → depsHold ops ps vs o W i →
      if Region.wanted o (yielded ops (lay ops vs a0 i).tmps) then Gives P o (lay ops vs a0 i) W (holdsOf (ps i)) else holdsOf (ps i) undef W

/-- All that stands behind: once all have been carried out. -/
def allHold (ps : Nat → Value ⊕ (Value → World → Prop)) (vs : Nat → Value) (W : World) : Nat → Prop
  | 0 => True
  | m + 1 => holdsOf (ps m) (vs m) W ∧ allHold ps vs W m

theorem allHold_of {ps : Nat → Value ⊕ (Value → World → Prop)} {vs : Nat → Value} {W : World} : ∀ m, (∀ j, j < m → holdsOf (ps j) (vs j) W) → allHold ps vs W m
  | 0, _ => trivial
  | m + 1, h => ⟨h m (by omega), allHold_of m fun j hj => h j (by omega)⟩

theorem mid_step {n : Nat} {ps : Nat → Value ⊕ (Value → World → Prop)} {a0 : Act} {w0 : World} {listed : Array Bool} {vs : Nat → Value} {a : Act} {W : World} {Q : Exit → Act → World → Prop}
    (hB : tidyB ops n = true) (hsel : Region.noSelect ops = true) (hst : ∀ j R, ps j = .inr R → ∀ v W W', R v W → Below W.heap.size W W' → R v W')
    (hop : ∀ vs i, i < n → stepFor P ops ps a0 w0 vs i) (inv : HeadInv .any ops n listed) (mid : Mid ops n ps a0 w0 listed vs a W)
    {i : Nat} (hr : i ∈ Region.ready .any ops listed) (hin : i < n) {K : Act → World → Prop}
    (hk : ∀ vs a W, HeadInv .any ops n (listed.setIfInBounds i true) → Mid ops n ps a0 w0 (listed.setIfInBounds i true) vs a W → K a W) : wpOp P ops Q i K a W := by
  obtain ⟨hun, oi, hoi, hall⟩ := mem_ready.1 hr
  have hunf : listed.getD i false = false := getD_both hun
  have hisz : i < listed.size := by rw [inv.size]; exact (Array.getElem?_eq_some_iff.1 hoi).1
  -- what a listed operation has to do with i
  have later : ∀ j oj d, j < n → ops[j]? = some oj → oj.dst = some d → listed.getD j false = true → (d ∈ oi.looksAt ops ∨ oi.dst = some d) → j < i := by
    intro j oj d hj hoj hd hl hlook
    have hji : i ≠ j := fun e => by subst e; rw [hunf] at hl; cases hl
    obtain ⟨_, h1, _⟩ := tidy_spec hB hin hj hoi hoj hd (hlook.imp id fun h => ⟨h, hji⟩)
    rcases Nat.lt_trichotomy i j with h | h | h
    · obtain ⟨oj', hoj', e, he, hb, hon⟩ := Region.waitsFor_spec (h1 h)
      have := inv.closed j oj' hoj' hl e he hb
      rw [hon, hunf] at this
      cases this
    · exact absurd h hji
    · exact h
  have early : ∀ j oj d, j < i → ops[j]? = some oj → oj.dst = some d → (d ∈ oi.looksAt ops) → listed.getD j false = true := by
    intro j oj d hj hoj hd hlook
    obtain ⟨_, _, h2⟩ := tidy_spec hB hin (by omega) hoi hoj hd (.inl hlook)
    obtain ⟨oi', hoi', e, he, hb, hon⟩ := Region.waitsFor_spec (h2 hj)
    have : oi' = oi := Option.some.inj (hoi'.symm.trans hoi)
    subst this
    have := hall e he hb
    rwa [hon] at this
  have looks : ∀ t ∈ oi.looksAt ops, (lay ops vs a0 i).tmps[t]? = a.tmps[t]? := by
    intro t ht
    rw [lay_get, mid.slots t]
    unfold slotOf
    rw [lastW_eq (ops := ops) (t := t) (p := fun _ => true) (q := fun j => listed.getD j false) (m := i) (n := n) ?_]
    intro j
    constructor
    · rintro ⟨h1, _, h3⟩
      obtain ⟨oj, hoj, hd⟩ := Option.bind_eq_some_iff.1 h3
      exact ⟨by omega, early j oj t h1 hoj hd ht, h3⟩
    · rintro ⟨h1, h2, h3⟩
      obtain ⟨oj, hoj, hd⟩ := Option.bind_eq_some_iff.1 h3
      exact ⟨later j oj t h1 hoj hd h2 (.inl ht), rfl, h3⟩
  have hdeps : depsHold ops ps vs oi W i := depsHold_of i fun j d hj hd hl => by
    obtain ⟨oj, hoj, hd'⟩ := Option.bind_eq_some_iff.1 hd
    exact mid.held j (by omega) (early j oj d hj hoj hd' hl)
  have hs := hop vs i hin
  unfold stepFor at hs
  simp only [hoi] at hs
  have hs := hs W mid.ext hdeps
  rw [wanted_congr looks] at hs
  have next : ∀ v W', Below W.heap.size W W' → holdsOf (ps i) v W' → K (a.put oi.dst v) W' := by
    intro v W' hb hv
    refine hk (fun j => if j = i then v else vs j) _ W' (inv.set hr hin) ⟨ext_trans mid.ext hb, by rw [put_size, mid.size], by rw [put_defers, mid.defers], fun t => ?_, fun j hj hl => ?_⟩
    · rw [put_get, mid.size]
      unfold slotOf
      by_cases hd : oi.dst = some t
      · simp only [hd, if_true]
        have : lastW ops (fun j => (listed.setIfInBounds i true).getD j false) t n = some i := by
          cases hc : lastW ops (fun j => (listed.setIfInBounds i true).getD j false) t n with
          | none => exact absurd ⟨by simp [hisz], by simp [hoi, hd]⟩ (lastW_none hc i hin)
          | some j =>
            obtain ⟨c1, c2, c3, c4⟩ := lastW_some hc
            obtain ⟨oj, hoj, hdj⟩ := Option.bind_eq_some_iff.1 c3
            by_cases e : j = i
            · rw [e]
            · have hlj : listed.getD j false = true := by rwa [getD_set_ne false (Ne.symm e)] at c2
              have := later j oj t c1 hoj hdj hlj (.inr hd)
              exact absurd ⟨by simp [hisz], by simp [hoi, hd]⟩ (c4 i this hin)
        rw [this]
        simp
      · simp only [hd, if_false]
        rw [mid.slots t]
        unfold slotOf
        have : lastW ops (fun j => (listed.setIfInBounds i true).getD j false) t n = lastW ops (fun j => listed.getD j false) t n := by
          refine lastW_eq fun j => ?_
          by_cases e : j = i
          · subst e; simp [hoi, hd]
          · rw [getD_set_ne false (Ne.symm e)]
        rw [this]
        cases hc : lastW ops (fun j => listed.getD j false) t n with
        | none => rfl
        | some j =>
          obtain ⟨c1, c2, c3, c4⟩ := lastW_some hc
          have e : j ≠ i := fun e => by subst e; simp [hoi, hd] at c3
          simp [e]
    · by_cases e : j = i
      · subst e; simpa using hv
      · simp only [e, if_false]
        have hl' : listed.getD j false = true := by rwa [getD_set_ne false (Ne.symm e)] at hl
        have h1 := mid.held j hj hl'
        cases hp : ps j with
        | inl u => simpa [hp, holdsOf] using h1
        | inr R => simp only [hp, holdsOf] at h1 ⊢; exact hst j R hp _ _ _ h1 hb
  unfold wpOp
  simp only [hoi]
  split
  · rename_i hw
    simp only [hw, if_true] at hs
    exact .inl (wp_of_gives (hs.of_eval (exec_congr (fun cs b => Region.noSelect_spec hsel i oi cs b hoi) (fun t ht => (looks t ht).symm))) next)
  · rename_i hw
    simp only [hw] at hs
    exact next _ _ (Below.refl _ _) (by simpa using hs)


def cnt (listed : Array Bool) : Nat → Nat
  | 0 => 0
  | m + 1 => cnt listed m + if listed.getD m false then 0 else 1

theorem cnt_far (listed : Array Bool) (i : Nat) : ∀ m, m ≤ i → cnt (listed.setIfInBounds i true) m = cnt listed m
  | 0, _ => rfl
  | m + 1, h => by rw [cnt, cnt, cnt_far listed i m (by omega), getD_set_ne false (show i ≠ m by omega)]

theorem cnt_set (listed : Array Bool) (i : Nat) (hi : i < listed.size) (hu : listed.getD i false = false) : ∀ m, i < m → cnt (listed.setIfInBounds i true) m + 1 = cnt listed m
  | 0, h => by omega
  | m + 1, h => by
    rw [cnt, cnt]
    by_cases e : i = m
    · subst e; rw [cnt_far _ _ _ (Nat.le_refl _), hu]; simp [hi]
    · have := cnt_set listed i hi hu m (by omega)
      rw [getD_set_ne false e]; omega

theorem cnt_zero (listed : Array Bool) : ∀ m, cnt listed m = 0 → ∀ j, j < m → listed.getD j false = true
  | 0, _, j, h => by omega
  | m + 1, h, j, hj => by
    rw [cnt] at h
    by_cases e : j = m
    · subst e
      cases hl : listed.getD j false with
      | true => rfl
      | false => simp [hl] at h
    · exact cnt_zero listed m (by omega) j (by omega)

theorem least_unlisted (listed : Array Bool) : ∀ m, cnt listed m ≠ 0 → ∃ i, i < m ∧ listed.getD i false = false ∧ ∀ k, k < i → listed.getD k false = true
  | 0, h => absurd rfl h
  | m + 1, h => by
    by_cases e : cnt listed m = 0
    · rw [cnt, e] at h
      refine ⟨m, by omega, ?_, cnt_zero listed m e⟩
      cases hl : listed.getD m false with
      | true => simp [hl] at h
      | false => rfl
    · obtain ⟨i, h1, h2, h3⟩ := least_unlisted listed m e
      exact ⟨i, by omega, h2, h3⟩

theorem wpAny_of_mid {n : Nat} {ps : Nat → Value ⊕ (Value → World → Prop)} {a0 : Act} {w0 : World} {Q : Exit → Act → World → Prop} {l : List Oper}
    (hl : ∀ j : Nat, l[j]? = ops[n + j]?) (hll : l.length = ops.size - n)
    (hB : partsB ops n = true) (hst : ∀ j R, ps j = .inr R → ∀ v W W', R v W → Below W.heap.size W W' → R v W')
    (hop : ∀ vs i, i < n → stepFor P ops ps a0 w0 vs i)
    (hend : ∀ vs W, Below w0.heap.size w0 W → allHold ps vs W n → wpList P ops Q l (lay ops vs a0 n) W) :
    ∀ (f : Nat) (listed : Array Bool) (vs : Nat → Value) (a : Act) (W : World), HeadInv .any ops n listed → Mid ops n ps a0 w0 listed vs a W → cnt listed n = f →
      wpAny P .any ops Q (f + (ops.size - n)) listed a W := by
  simp only [partsB, Bool.and_eq_true, decide_eq_true_eq] at hB
  obtain ⟨⟨⟨⟨⟨hsel, htidy⟩, hback⟩, hn⟩, htail0⟩, hseq⟩ := hB
  have htail : n = ops.size ∨ (Region.sinkB .any ops n = true ∧ Region.chainB .any ops n = true) := by simpa using htail0
  intro f
  induction f with
  | zero =>
    intro listed vs a W inv mid hc
    have hall := cnt_zero listed n hc
    have hlisted : listed = (Array.range ops.size).map fun j => decide (j < n) := by
      apply Array.ext
      · simp [inv.size]
      · intro j h1 h2
        simp only [Array.getElem_map, Array.getElem_range]
        by_cases hj : j < n
        · have := hall j hj
          simp only [h1, Array.getD_eq_getD_getElem?, Array.getElem?_eq_getElem, Option.getD_some] at this
          simp [hj, this]
        · have := getD_both (inv.tail j (by omega) (by simpa using h2))
          simp only [h1, Array.getD_eq_getD_getElem?, Array.getElem?_eq_getElem, Option.getD_some] at this
          simp [hj, this]
    have ha : a = lay ops vs a0 n := act_ext (fun t => by
      rw [lay_get, mid.slots t]
      unfold slotOf
      rw [lastW_eq (ops := ops) (t := t) (p := fun j => listed.getD j false) (q := fun _ => true) (m := n) (n := n) ?_]
      intro j
      constructor
      · rintro ⟨h1, _, h3⟩; exact ⟨h1, rfl, h3⟩
      · rintro ⟨h1, _, h3⟩; exact ⟨h1, hall j h1, h3⟩) (by rw [mid.defers, lay_defers])
    have h := hend vs W mid.ext (allHold_of n fun j hj => mid.held j hj (hall j hj))
    rw [Nat.zero_add, ← hll]
    rw [← hlisted, ← hll] at hseq
    rw [ha]
    exact wpAny_of_seq l n listed _ W hl hseq h
  | succ f ih =>
    intro listed vs a W inv mid hc
    obtain ⟨i0, hi0, hu0, hlow⟩ := least_unlisted listed n (by omega)
    rw [show f + 1 + (ops.size - n) = (f + (ops.size - n)) + 1 by omega]
    refine ⟨fun h => ?_, fun i hi => ?_⟩
    · exfalso
      have h1 := List.all_eq_true.1 hback i0 (List.mem_range.2 hi0)
      cases ho : ops[i0]? with
      | none => simp [ho] at h1
      | some o =>
        simp only [ho] at h1
        have : i0 ∈ Region.ready .any ops listed := by
          refine mem_ready.2 ⟨getD_in (by rw [inv.size]; omega) hu0, o, ho, fun e he hb => ?_⟩
          have h2 := Array.all_eq_true'.1 h1 e he
          simp only [hb, Bool.not_true, Bool.false_or, decide_eq_true_eq] at h2
          exact hlow e.on h2
        rw [h] at this
        cases this
    · have hin : i < n := by
        rcases Nat.lt_or_ge i n with h | h
        · exact h
        · rcases htail with ht | ht
          · obtain ⟨_, o, ho, _⟩ := mem_ready.1 hi
            have := (Array.getElem?_eq_some_iff.1 ho).1
            omega
          · rcases Nat.lt_or_ge n ops.size with hns | hns
            · exact absurd hi (tail_waits ht.1 ht.2 hns inv _ i0 rfl hi0 (getD_in (by rw [inv.size]; omega) hu0) i h)
            · obtain ⟨_, o, ho, _⟩ := mem_ready.1 hi
              have := (Array.getElem?_eq_some_iff.1 ho).1
              omega
      have hun := (mem_ready.1 hi).1
      refine mid_step htidy hsel hst hop inv mid hi hin fun vs' a' W' inv' mid' => ih _ vs' a' W' inv' mid' ?_
      have := cnt_set listed i (by rw [inv.size]; omega) (getD_both hun) n hin
      omega

/-- **A region that draws its order.** Its first n operations yield, in whatever order, what 'ps' says of them, each in every later world, by the facts of the operations whose slots it looks at; what stands behind them comes in the order of the text. -/
theorem wp_region_parts {id : Nat} {ops : List Oper} {Q : Exit → Act → World → Prop} {a : Act} {w : World} (n : Nat) (ps : Nat → Value ⊕ (Value → World → Prop)) (hm : P.follows .mixedOrders = true) (hB : partsB ops.toArray n = true)
    (hst : ∀ j R, ps j = .inr R → ∀ v W W', R v W → Below W.heap.size W W' → R v W')
    (hop : ∀ vs i, i < n → stepFor P ops.toArray ps a w vs i)
    (hend : ∀ vs W, Below w.heap.size w W → allHold ps vs W n → wpList P ops.toArray Q (ops.drop n) (lay ops.toArray vs a n) W) : (Code.region id ops.toArray true).wp P Q a w := by
  have hn : n ≤ ops.toArray.size := by
    simp only [partsB, Bool.and_eq_true, decide_eq_true_eq] at hB
    exact hB.1.1.2
  have he : Below w.heap.size w { w with drawn := w.drawn + 1 } := (Below.refl _ _).drew
  have hc : ∀ m, cnt (Array.replicate ops.toArray.size false) m = m := fun m => by
    induction m with
    | zero => rfl
    | succ m ih => rw [cnt, ih, getD_replicate_false]; rfl
  refine wp_region_any hm ?_
  have := wpAny_of_mid (P := P) (ops := ops.toArray) (l := ops.drop n) (fun j => by simp [List.getElem?_drop]) (by simp) hB hst hop hend n (Array.replicate ops.toArray.size false) (fun _ => undef) a { w with drawn := w.drawn + 1 }
    ⟨by simp, fun j oj _ hl => (by rw [getD_replicate_false] at hl; cases hl), fun t _ ht => getD_in (by simpa using ht) (getD_replicate_false _ _)⟩
    ⟨he, rfl, rfl, fun t => ?_, fun j _ hl => (by rw [getD_replicate_false] at hl; cases hl)⟩ (hc n)
  · rwa [show n + (ops.toArray.size - n) = ops.toArray.size by omega] at this
  · unfold slotOf
    rw [show lastW ops.toArray (fun j => (Array.replicate ops.toArray.size false).getD j false) t n = none from ?_]
    cases h : lastW ops.toArray (fun j => (Array.replicate ops.toArray.size false).getD j false) t n with
    | none => rfl
    | some j => have := (lastW_some h).2.1; rw [getD_replicate_false] at this; cases this

end

section
variable {P : Program}

abbrev Piece := Value ⊕ (Value → World → Prop)

/-- The facts, among those at hand, of the slots that an operation looks at. -/
def near (ops : Array Oper) (o : Oper) : List (Tmp × (World → Prop)) → World → Prop
  | [], _ => True
  | g :: G, W => if (o.looksAt ops).contains g.1 then g.2 W ∧ near ops o G W else near ops o G W

def every : List (Tmp × (World → Prop)) → World → Prop
  | [], _ => True
  | g :: G, W => g.2 W ∧ every G W

/-- The walk in the order of the text. -/
def wpParts (P : Program) (ops : Array Oper) (w : World) (Q : Exit → Act → World → Prop) : List Oper → List Piece → List (Tmp × (World → Prop)) → Act → Prop
  | o :: os, .inl v :: ps, G, a =>
    (if Region.wanted o (yielded ops a.tmps) then (∀ W, Below w.heap.size w W → near ops o G W → Gives P o a W (fun u _ => u = v)) else undef = v) ∧ wpParts P ops w Q os ps G (a.put o.dst v)
  | o :: os, .inr R :: ps, G, a =>
    ((∀ v W W', R v W → Below W.heap.size W W' → R v W') ∧ Region.wanted o (yielded ops a.tmps) = true ∧ (∀ W, Below w.heap.size w W → near ops o G W → Gives P o a W R)) ∧
      ∀ u, wpParts P ops w Q os ps (match o.dst with | some d => (d, R u) :: G | none => G) (a.put o.dst u)
  | os, _, G, a => ∀ W, Below w.heap.size w W → every G W → wpList P ops Q os a W

end

section
variable {P : Program} {ops : Array Oper}

theorem depsHold_get {ps : Nat → Piece} {vs : Nat → Value} {o : Oper} {W : World} : ∀ {m : Nat}, depsHold ops ps vs o W m → ∀ j d, j < m → (ops[j]?).bind (·.dst) = some d → d ∈ o.looksAt ops → holdsOf (ps j) (vs j) W
  | 0, _, j, _, hj, _, _ => by omega
  | m + 1, h, j, d, hj, hd, hl => by
    obtain ⟨h1, h2⟩ := h
    by_cases e : j = m
    · subst e
      rw [hd] at h1
      have hc : (o.looksAt ops).contains d = true := by simpa using hl
      simpa only [hc, if_true] using h1
    · exact depsHold_get h2 j d (by omega) hd hl

theorem allHold_get {ps : Nat → Piece} {vs : Nat → Value} {W : World} : ∀ {m : Nat}, allHold ps vs W m → ∀ j, j < m → holdsOf (ps j) (vs j) W
  | 0, _, j, hj => by omega
  | m + 1, h, j, hj => by
    by_cases e : j = m
    · subst e; exact h.1
    · exact allHold_get h.2 j (by omega)

/-- The values, those that are known put in. -/
def fixed (ps : Nat → Piece) (vs : Nat → Value) (i : Nat) : Value :=
  match ps i with
  | .inl v => v
  | .inr _ => vs i

theorem fixed_eq {ps : Nat → Piece} {vs : Nat → Value} {i : Nat} {W : World} (h : holdsOf (ps i) (vs i) W) : fixed ps vs i = vs i := by
  unfold fixed holdsOf at *
  split <;> rename_i h'
  · rw [h'] at h; exact h.symm
  · rfl

/-- The facts at hand behind the first k operations. -/
def facts (ops : Array Oper) (ps : Nat → Piece) (vs : Nat → Value) : Nat → List (Tmp × (World → Prop))
  | 0 => []
  | k + 1 => match ps k with
    | .inl _ => facts ops ps vs k
    | .inr R => match (ops[k]?).bind (·.dst) with
      | some d => (d, R (vs k)) :: facts ops ps vs k
      | none => facts ops ps vs k

theorem near_of {ps : Nat → Piece} {vs : Nat → Value} {o : Oper} {W : World} : ∀ {k : Nat}, depsHold ops ps vs o W k → near ops o (facts ops ps vs k) W
  | 0, _ => trivial
  | k + 1, h => by
    have ih := near_of h.2
    unfold facts
    cases hp : ps k with
    | inl v => exact ih
    | inr R =>
      simp only
      cases hd : (ops[k]?).bind (·.dst) with
      | none => exact ih
      | some d =>
        simp only [near]
        by_cases hl : d ∈ o.looksAt ops
        · have h1 := depsHold_get h k d (by omega) hd hl
          rw [hp] at h1
          rw [if_pos (by simpa using hl)]
          exact ⟨h1, ih⟩
        · rw [if_neg (by simpa using hl)]
          exact ih

theorem every_of {ps : Nat → Piece} {vs : Nat → Value} {W : World} : ∀ {k : Nat}, allHold ps vs W k → every (facts ops ps vs k) W
  | 0, _ => trivial
  | k + 1, h => by
    have ih := every_of h.2
    unfold facts
    cases hp : ps k with
    | inl v => exact ih
    | inr R =>
      simp only
      cases hd : (ops[k]?).bind (·.dst) with
      | none => exact ih
      | some d =>
        have h1 := h.1
        rw [hp] at h1
        exact ⟨h1, ih⟩

/-- What the walk in the order of the text says of each operation, and of what stands behind. -/
theorem parts_spec {w : World} {Q : Exit → Act → World → Prop} {a : Act} {qs : Nat → Piece} (vs : Nat → Value) :
    ∀ (l : List Oper) (ps : List Piece) (k : Nat), (∀ j : Nat, l[j]? = ops[k + j]?) → (∀ j p, ps[j]? = some p → qs (k + j) = p) → ps.length ≤ l.length →
      wpParts P ops w Q l ps (facts ops qs vs k) (lay ops (fixed qs vs) a k) →
      (∀ i, k ≤ i → i < k + ps.length → ∃ o, ops[i]? = some o ∧ ∀ W, Below w.heap.size w W → near ops o (facts ops qs vs i) W →
        (if Region.wanted o (yielded ops (lay ops (fixed qs vs) a i).tmps) then Gives P o (lay ops (fixed qs vs) a i) W (holdsOf (qs i)) else holdsOf (qs i) undef W)) ∧
      (∀ i R, k ≤ i → i < k + ps.length → qs i = .inr R → ∀ v W W', R v W → Below W.heap.size W W' → R v W') ∧
      (∀ W, Below w.heap.size w W → every (facts ops qs vs (k + ps.length)) W → wpList P ops Q (l.drop ps.length) (lay ops (fixed qs vs) a (k + ps.length)) W)
  | l, [], k, _, _, _, h => by
    refine ⟨fun i h1 h2 => ?_, fun i R h1 h2 => ?_, ?_⟩
    · simp at h2; omega
    · simp at h2; omega
    · cases l <;> simpa [wpParts] using h
  | [], _ :: _, _, _, _, hlen, _ => by simp at hlen
  | o :: l, p :: ps, k, hl, hq, hlen, h => by
    have h0 : ops[k]? = some o := by simpa using (hl 0).symm
    have hp : qs k = p := by simpa using hq 0 p rfl
    have hb : (ops[k]?).bind (·.dst) = o.dst := by rw [h0]; rfl
    have rest := fun (h' : wpParts P ops w Q l ps (facts ops qs vs (k + 1)) (lay ops (fixed qs vs) a (k + 1))) => parts_spec vs l ps (k + 1) (fun j => by have := hl (j + 1); simpa [Nat.add_assoc, Nat.add_comm 1 j] using this)
      (fun j q hj => by have := hq (j + 1) q (by simpa using hj); simpa [Nat.add_assoc, Nat.add_comm 1 j] using this) (by simpa using hlen) h'
    have key : wpParts P ops w Q l ps (facts ops qs vs (k + 1)) (lay ops (fixed qs vs) a (k + 1)) ∧
        (∀ R, p = .inr R → ∀ v W W', R v W → Below W.heap.size W W' → R v W') ∧
        ∀ W, Below w.heap.size w W → near ops o (facts ops qs vs k) W →
          (if Region.wanted o (yielded ops (lay ops (fixed qs vs) a k).tmps) then Gives P o (lay ops (fixed qs vs) a k) W (holdsOf p) else holdsOf p undef W) := by
      cases p with
      | inl v =>
        obtain ⟨h1, h2⟩ := h
        have e : fixed qs vs k = v := by unfold fixed; rw [hp]
        refine ⟨by rw [facts, hp, lay, hb, e]; exact h2, (fun R hR => by cases hR), fun W hW hn => ?_⟩
        split
        · rename_i hw; rw [if_pos hw] at h1; exact h1 W hW hn
        · rename_i hw; rw [if_neg hw] at h1; exact h1
      | inr R =>
        obtain ⟨⟨h1, h3, h4⟩, h2⟩ := h
        have e : fixed qs vs k = vs k := by unfold fixed; rw [hp]
        refine ⟨?_, (fun R' hR => by cases hR; exact h1), fun W hW hn => by rw [if_pos h3]; exact h4 W hW hn⟩
        have := h2 (vs k)
        rw [facts, hp, lay, hb, e]
        cases hd : o.dst <;> simpa [hd] using this
    obtain ⟨r1, r2, r3⟩ := rest key.1
    have hl' : k + (p :: ps).length = k + 1 + ps.length := by simp; omega
    refine ⟨fun i h1 h2 => ?_, fun i R h1 h2 hR => ?_, ?_⟩
    · by_cases e : i = k
      · subst e; exact ⟨o, h0, by rw [hp]; exact key.2.2⟩
      · exact r1 i (by omega) (by omega)
    · by_cases e : i = k
      · subst e; exact key.2.1 R (by rw [← hp, hR])
      · exact r2 i R (by omega) (by omega) hR
    · rw [hl']; simpa using r3

/-- **A region that draws its order**, walked in the order of the text: 'ps' says of each of its first operations what it yields. -/
theorem wp_region_seq {id : Nat} {l : List Oper} {Q : Exit → Act → World → Prop} {a : Act} {w : World} (ps : List Piece) (hm : P.follows .mixedOrders = true) (hB : partsB l.toArray ps.length = true)
    (h : wpParts P l.toArray w Q l ps [] a) : (Code.region id l.toArray true).wp P Q a w := by
  have hn : ps.length ≤ l.length := by
    simp only [partsB, Bool.and_eq_true, decide_eq_true_eq] at hB
    simpa using hB.1.1.2
  have spec := fun vs => parts_spec (P := P) (ops := l.toArray) (w := w) (Q := Q) (a := a) (qs := fun i => (ps[i]?).getD (.inl undef)) vs l ps 0 (fun j => by simp) (fun j p hj => by simp [hj]) hn h
  refine wp_region_parts ps.length (fun i => (ps[i]?).getD (.inl undef)) hm hB ?_ ?_ ?_
  · intro j R hj
    by_cases hlt : j < ps.length
    · exact (spec (fun _ => undef)).2.1 j R (by omega) (by omega) hj
    · have : ps[j]? = none := by simp; omega
      simp [this] at hj
  · intro vs i hi
    unfold stepFor
    obtain ⟨o, ho, hs⟩ := (spec vs).1 i (by omega) (by omega)
    rw [ho]
    intro W hW hd
    have hs := hs W hW (near_of hd)
    have looks : ∀ t ∈ o.looksAt l.toArray, (lay l.toArray (fixed (fun i => (ps[i]?).getD (.inl undef)) vs) a i).tmps[t]? = (lay l.toArray vs a i).tmps[t]? := by
      intro t ht
      rw [lay_get, lay_get]
      unfold slotOf
      cases hc : lastW l.toArray (fun _ => true) t i with
      | none => rfl
      | some j =>
        obtain ⟨c1, _, c3, _⟩ := lastW_some hc
        simp only
        rw [fixed_eq (depsHold_get hd j t c1 c3 ht)]
    rw [wanted_congr looks] at hs
    simp only
    split
    · rename_i hw; rw [if_pos hw] at hs
      refine hs.of_eval (exec_congr (fun cs b => Region.noSelect_spec (by simp only [partsB, Bool.and_eq_true] at hB; exact hB.1.1.1.1.1) i o cs b ho) (fun t ht => (looks t ht).symm))
    · rename_i hw; rw [if_neg hw] at hs; exact hs
  · intro vs W hW hall
    have := (spec vs).2.2 W hW (every_of (by simpa using hall))
    have e : lay l.toArray (fixed (fun i => (ps[i]?).getD (.inl undef)) vs) a ps.length = lay l.toArray vs a ps.length := act_ext (fun t => by
      rw [lay_get, lay_get]
      unfold slotOf
      cases hc : lastW l.toArray (fun _ => true) t ps.length with
      | none => rfl
      | some j =>
        obtain ⟨c1, _, _, _⟩ := lastW_some hc
        simp only
        rw [fixed_eq (allHold_get hall j c1)]) (by rw [lay_defers, lay_defers])
    rw [Nat.zero_add, e] at this
    exact this

end

section
variable {P : Program} {ops : Array Oper} {w : World} {Q : Exit → Act → World → Prop} {o : Oper} {os : List Oper} {ps : List Piece} {G : List (Tmp × (World → Prop))} {a : Act}

/-- One operation, whose value is known. -/
theorem wpParts_det {v : Value} (hw : Region.wanted o (yielded ops a.tmps) = true) (h : ∀ W, Below w.heap.size w W → near ops o G W → Gives P o a W (fun u _ => u = v))
    (hr : wpParts P ops w Q os ps G (a.put o.dst v)) : wpParts P ops w Q (o :: os) (.inl v :: ps) G a := by
  unfold wpParts
  rw [if_pos hw]
  exact ⟨h, hr⟩

/-- One operation that is passed over. -/
theorem wpParts_skip (hw : Region.wanted o (yielded ops a.tmps) = false) (hr : wpParts P ops w Q os ps G (a.put o.dst undef)) : wpParts P ops w Q (o :: os) (.inl undef :: ps) G a := by
  unfold wpParts
  rw [if_neg (by rw [hw]; exact Bool.false_ne_true)]
  exact ⟨rfl, hr⟩

/-- One operation of whose value something is known. -/
theorem wpParts_any {d : Tmp} {R : Value → World → Prop} (hd : o.dst = some d) (hst : ∀ v W W', R v W → Below W.heap.size W W' → R v W') (hw : Region.wanted o (yielded ops a.tmps) = true)
    (h : ∀ W, Below w.heap.size w W → near ops o G W → Gives P o a W R) (hr : ∀ u, wpParts P ops w Q os ps ((d, R u) :: G) (a.put (some d) u)) : wpParts P ops w Q (o :: os) (.inr R :: ps) G a := by
  unfold wpParts
  refine ⟨⟨hst, hw, h⟩, fun u => ?_⟩
  simp only [hd]
  exact hr u

theorem wpParts_end (h : ∀ W, Below w.heap.size w W → every G W → wpList P ops Q os a W) : wpParts P ops w Q os [] G a := by
  cases os <;> (unfold wpParts; exact h)

end

/-- Where two ways give a Bool each: one way, the test as a Bool. -/
theorem ite_val (p : Prop) [Decidable p] (W : World) (b : Bool) : (if p then (Result.ok (Next.value (.bool b)) W) else (Result.ok (Next.value (.bool false)) W)) = Result.ok (Next.value (.bool (decide p && b))) W := by
  by_cases h : p <;> simp [h]
theorem ite_val_true (p : Prop) [Decidable p] (W : World) : (if p then (Result.ok (Next.value (.bool true)) W) else (Result.ok (Next.value (.bool false)) W)) = Result.ok (Next.value (.bool (decide p))) W := by
  by_cases h : p <;> simp [h]
end Go.Dav

namespace Go.Proofs.YtmcmknndhppljaaDoor
set_option linter.unusedVariables false
set_option linter.unusedSimpArgs false
open Go.RowKit Go.Dav
attribute [local go_sem] Gives ite_val ite_val_true

theorem Tryd_of (n : Int) (w : World) (h : I64 n) :
    Calls Tryd.prog 66 #[.int .i64 n] w fun e w' => e = .returned (.agg #[.int .i64 (hi n), .int .u64 (lo n)]) ∧ Below w.heap.size w w' := by
  have e1 := hi_of h
  have e2 := lo_of n
  have H := Lib.hid e1; clear e1
  have H2 := Lib.hid e2; clear e2
  clear h
  go_enter Tryd.func66, Tryd.ntmps66
  go_wp2
  refine bodyPost_ret (v := .agg #[.int .i64 (hi n), .int .u64 (lo n)]) (by simp [results, Tryd.results66, go_sem, H.out, H2.out]) rfl ⟨rfl, ?_⟩
  exact (Below.refl _ _).alloc (Nat.le_refl _) _

theorem Tryd_plus (x y : Int) (w : World) :
    Calls Tryd.prog 70 #[.agg #[.int .i64 (hi x), .int .u64 (lo x)], .agg #[.int .i64 (hi y), .int .u64 (lo y)]] w fun e w' =>
      e = .returned (.agg #[.int .i64 (hi (x + y)), .int .u64 (lo (x + y))]) ∧ Below w.heap.size w w' := by
  have el := lo_add x y
  by_cases h : lo (x + y) < lo x
  · have e1 := hi_add_yes x y ((carry x y).1 h)
    go_enter Tryd.func70, Tryd.ntmps70
    go_wp2
    refine bodyPost_ret (v := .agg #[.int .i64 (hi (x + y)), .int .u64 (lo (x + y))]) (by simp [results, Tryd.results70, go_sem]) rfl ⟨rfl, ?_⟩
    exact (((Below.refl _ _).alloc (Nat.le_refl _) _).alloc (by simp) _).alloc (by simp; omega) _
  · have e1 := hi_add_no x y (fun hc => h ((carry x y).2 hc))
    go_enter Tryd.func70, Tryd.ntmps70
    go_wp2
    refine bodyPost_ret (v := .agg #[.int .i64 (hi (x + y)), .int .u64 (lo (x + y))]) (by simp [results, Tryd.results70, go_sem]) rfl ⟨rfl, ?_⟩
    exact (((Below.refl _ _).alloc (Nat.le_refl _) _).alloc (by simp) _).alloc (by simp; omega) _

theorem Tryd_above (x y : Int) (w : World) :
    Calls Tryd.prog 69 #[.agg #[.int .i64 (hi x), .int .u64 (lo x)], .agg #[.int .i64 (hi y), .int .u64 (lo y)]] w fun e w' =>
      e = .returned (.bool (aboveB x y)) ∧ Below w.heap.size w w' := by
  have hx := lo_bd x
  have hy := lo_bd y
  have key : aboveB x y = (decide (hi y < hi x) || (decide (hi x = hi y) && decide (lo y < lo x))) := by
    unfold aboveB sg
    rw [Bool.eq_iff_iff]; simp; omega
  rw [key]
  have H := Lib.hid hx; clear hx
  have H2 := Lib.hid hy; clear hy
  clear key H H2
  generalize hi x = a
  generalize hi y = b
  generalize lo x = c
  generalize lo y = d
  by_cases g1 : b < a
  · go_enter Tryd.func69, Tryd.ntmps69
    go_wp2
    go_ret
    exact ⟨by simp [g1], ((Below.refl _ _).alloc (Nat.le_refl _) _).alloc (by simp) _⟩
  · by_cases g2 : a = b
    · subst g2
      go_enter Tryd.func69, Tryd.ntmps69
      go_wp2
      go_ret
      exact ⟨by simp, ((Below.refl _ _).alloc (Nat.le_refl _) _).alloc (by simp) _⟩
    · have g3 : (a == b) = false := by simpa using g2
      go_enter Tryd.func69, Tryd.ntmps69
      go_wp2
      go_ret
      exact ⟨by simp [g1], ((Below.refl _ _).alloc (Nat.le_refl _) _).alloc (by simp) _⟩

theorem Tryd_total (c n s l m : Int) (w : World) :
    Calls Tryd.prog 67 #[.agg #[.int .i64 c, .int .i64 n, .int .i64 (hi s), .int .u64 (lo s), .int .i64 l, .int .i64 m]] w fun e w' =>
      e = .returned (.agg #[.int .i64 (hi s), .int .u64 (lo s)]) ∧ Below w.heap.size w w' := by
  go_enter Tryd.func67, Tryd.ntmps67
  go_wp2
  refine bodyPost_ret (v := .agg #[.int .i64 (hi s), .int .u64 (lo s)]) (by simp [results, Tryd.results67, go_sem]) rfl ⟨rfl, ?_⟩
  exact ((Below.refl _ _).alloc (Nat.le_refl _) _).alloc (by simp) _

theorem Tryd_with (c n h l0 l m s : Int) (w : World) :
    Calls Tryd.prog 65 #[.agg #[.int .i64 c, .int .i64 n, .int .i64 h, .int .u64 l0, .int .i64 l, .int .i64 m], .agg #[.int .i64 (hi s), .int .u64 (lo s)]] w fun e w' =>
      e = .returned (.agg #[.int .i64 c, .int .i64 n, .int .i64 (hi s), .int .u64 (lo s), .int .i64 l, .int .i64 m]) ∧ Below w.heap.size w w' := by
  go_enter Tryd.func65, Tryd.ntmps65
  go_wp2
  go_region
  go_wp2
  refine bodyPost_ret (v := .agg #[.int .i64 c, .int .i64 n, .int .i64 (hi s), .int .u64 (lo s), .int .i64 l, .int .i64 m]) (by simp [results, Tryd.results65, go_sem]) rfl ⟨rfl, ?_⟩
  exact ((((Below.refl _ _).alloc (Nat.le_refl _) _).alloc (by simp) _).alloc (by simp; omega) _).drew

theorem Tryd_fits (s : Int) (w : World) :
    Calls Tryd.prog 107 #[.agg #[.int .i64 (hi s), .int .u64 (lo s)]] w fun e w' =>
      e = .returned (.bool (fitsB s)) ∧ Below w.heap.size w w' := by
  have key := fits_key s
  have hb1 := i64_wrap_bd (lo s)
  have K := Lib.hid key; clear key
  go_enter Tryd.func107, Tryd.ntmps107
  go_wp2_with fail
  refine' wp_region_seq [.inl _, .inl _, .inl _, .inl _, .inl _, .inl _, .inl _, .inl _] (by kernel_rfl) (by kernel_rfl) ?main1
  case main1 =>
    refine wpParts_det (by rfl) (fun W hE hN => ?_) ?_
    · have hc := fun b o h => hE.cell (p := ⟨b, o, none⟩) h
      go_simp; refine ⟨Below.refl _ _, ?_⟩; rfl
    simp only [Act.put, List.setIfInBounds_toArray, List.set_cons_zero, List.set_cons_succ]
    refine wpParts_det (by rfl) (fun W hE hN => ?_) ?_
    · go_simp; refine ⟨Below.refl _ _, ?_⟩; rfl
    simp only [Act.put, List.setIfInBounds_toArray, List.set_cons_zero, List.set_cons_succ]
    refine wpParts_det (by rfl) (fun W hE hN => ?_) ?_
    · go_simp; refine ⟨Below.refl _ _, ?_⟩; rfl
    simp only [Act.put, List.setIfInBounds_toArray, List.set_cons_zero, List.set_cons_succ]
    refine wpParts_det (by rfl) (fun W hE hN => ?_) ?_
    · have hc := fun b o h => hE.cell (p := ⟨b, o, none⟩) h
      go_simp; refine ⟨Below.refl _ _, ?_⟩; rfl
    simp only [Act.put, List.setIfInBounds_toArray, List.set_cons_zero, List.set_cons_succ]
    refine wpParts_det (by rfl) (fun W hE hN => ?_) ?_
    · go_simp; refine ⟨Below.refl _ _, ?_⟩; rfl
    simp only [Act.put, List.setIfInBounds_toArray, List.set_cons_zero, List.set_cons_succ]
    refine wpParts_det (by rfl) (fun W hE hN => ?_) ?_
    · go_simp; refine ⟨Below.refl _ _, ?_⟩; refine (Tryd_of _ _ hb1).mono ?_; rintro e w' ⟨rfl, hb⟩; refine ⟨?_, hb⟩; rfl
    simp only [Act.put, List.setIfInBounds_toArray, List.set_cons_zero, List.set_cons_succ]
    refine wpParts_det (by rfl) (fun W hE hN => ?_) ?_
    · go_simp; refine ⟨Below.refl _ _, ?_⟩; rfl
    simp only [Act.put, List.setIfInBounds_toArray, List.set_cons_zero, List.set_cons_succ]
    refine wpParts_det (by rfl) (fun W hE hN => ?_) ?_
    · go_simp; refine ⟨Below.refl _ _, ?_⟩; rfl
    simp only [Act.put, List.setIfInBounds_toArray, List.set_cons_zero, List.set_cons_succ]
    refine wpParts_end fun W1 hE1 hG1 => ?_
    have hcW1 := fun b o h => hE1.cell (p := ⟨b, o, none⟩) h
    have hfW1 := fun b o h => hE1.frozen (p := ⟨b, o, none⟩) h
    go_wp2
    go_ret
    exact ⟨ret_bool K.out, ext_trans ((Below.refl _ _).alloc (Nat.le_refl _) _) hE1⟩
end Go.Proofs.YtmcmknndhppljaaDoor

namespace Go.Dav
set_option linter.unusedVariables false
set_option linter.unusedSimpArgs false
open Go Go.RowKit

/-- Block p holds just these cells, and all of them may be written. -/
def Blk (W : World) (p : Nat) (cs : List Value) (t : TypeId) : Prop := W.heap[p]? = some (.cells cs.toArray t (0, 0))

theorem Blk.lt {W : World} {p : Nat} {cs : List Value} {t : TypeId} (h : Blk W p cs t) : p < W.heap.size := (Array.getElem?_eq_some_iff.1 h).1
theorem Blk.cell {W : World} {p : Nat} {cs : List Value} {t : TypeId} (h : Blk W p cs t) (i : Nat) {v : Value} (hi : cs[i]? = some v) : W.cell? ⟨p, i, none⟩ = some v := by
  unfold Blk at h
  simp [World.cell?, h, hi]
theorem Blk.frozen {W : World} {p : Nat} {cs : List Value} {t : TypeId} (h : Blk W p cs t) (i : Nat) : W.frozen? ⟨p, i, none⟩ = false := by
  unfold Blk at h
  simp [World.frozen?, h]
/-- All its cells, for the walk. -/
theorem Blk.cells {W : World} {p : Nat} {cs : List Value} {t : TypeId} (h : Blk W p cs t) : ∀ i, W.cell? ⟨p, i, none⟩ = cs[i]? := fun i => by
  unfold Blk at h
  simp [World.cell?, h]
theorem Blk.marks {W : World} {p : Nat} {cs : List Value} {t : TypeId} (h : Blk W p cs t) : ∀ i, W.frozen? ⟨p, i, none⟩ = false := fun i => h.frozen i
theorem Blk.below {W W' : World} {B p : Nat} {cs : List Value} {t : TypeId} (h : Blk W p cs t) (hb : Below B W W') (hp : p < B) : Blk W' p cs t := (hb.block p hp).trans h
theorem Blk.ext {W W' : World} {p : Nat} {cs : List Value} {t : TypeId} (h : Blk W p cs t) (hb : Below W.heap.size W W') : Blk W' p cs t := h.below hb h.lt
theorem Blk.new (W : World) (cs : List Value) (t : TypeId) : Blk (W.alloc (.cells cs.toArray t)) W.heap.size cs t := by
  unfold Blk World.alloc
  simp
theorem Blk.new' (W : World) (cs : List Value) (t : TypeId) {p : Nat} (h : W.heap.size = p) : Blk (W.alloc (.cells cs.toArray t)) p cs t := h ▸ Blk.new W cs t
theorem Blk.alloc {W : World} {p : Nat} {cs : List Value} {t : TypeId} (h : Blk W p cs t) (o : Obj) : Blk (W.alloc o) p cs t := (Below.heap_alloc W o p h.lt).trans h
theorem Blk.drew {W : World} {p : Nat} {cs : List Value} {t : TypeId} (h : Blk W p cs t) : Blk W.drew p cs t := h
theorem Blk.set {W : World} {p : Nat} {cs : List Value} {t : TypeId} (h : Blk W p cs t) (i : Nat) (v : Value) : Blk (W.setCell ⟨p, i, none⟩ v) p (cs.set i v) t := by
  have hlt := h.lt
  unfold Blk at *
  have : W.heap[p] = .cells cs.toArray t (0, 0) := (Array.getElem?_eq_some_iff.1 h).2
  simp [World.setCell, hlt, Array.getElem_modify, this]
theorem Blk.other {W : World} {p q : Nat} {cs : List Value} {t : TypeId} (h : Blk W p cs t) (hne : p ≠ q) (i : Nat) (v : Value) : Blk (W.setCell ⟨q, i, none⟩ v) p cs t :=
  (Below.heap_setCell W ⟨q, i, none⟩ v p hne).trans h

theorem cell_new_at (W : World) (cs : Array Value) (t : TypeId) {p : Nat} (h : p = W.heap.size) (j : Nat) : (W.alloc (.cells cs t)).cell? ⟨p, j, none⟩ = cs[j]? := by
  subst h
  have e : (W.alloc (.cells cs t)).heap[W.heap.size]? = some (.cells cs t) := by unfold World.alloc; simp
  unfold World.cell?
  simp only [e]
  rfl

/-- A new block, at B or beyond, and a value that points to it. -/
def NewBlk (B : Nat) (cs : List Value) (t : TypeId) (v : Value) (W : World) : Prop := ∃ p, v = .pointer (some ⟨p, 0, none⟩) ∧ B ≤ p ∧ Blk W p cs t
theorem NewBlk.later {B : Nat} {cs : List Value} {t : TypeId} : ∀ v W W', NewBlk B cs t v W → Below W.heap.size W W' → NewBlk B cs t v W' :=
  fun _ _ _ ⟨p, h1, h2, h3⟩ hb => ⟨p, h1, h2, h3.ext hb⟩
theorem newBlk_alloc {B : Nat} {cs : List Value} {t : TypeId} {W : World} (h : B ≤ W.heap.size) :
    Below W.heap.size W (W.alloc (.cells cs.toArray t)) ∧ NewBlk B cs t (.pointer (some ⟨W.heap.size, 0, none⟩)) (W.alloc (.cells cs.toArray t)) :=
  ⟨(Below.refl _ _).alloc (Nat.le_refl _) _, ⟨_, rfl, h, Blk.new _ _ _⟩⟩

/-- A pointer to offset o of some block, and what cell j of that block holds. -/
def CellIs (o j : Nat) (u v : Value) (W : World) : Prop := ∃ g, v = .pointer (some ⟨g, o, none⟩) ∧ W.cell? ⟨g, j, none⟩ = some u
theorem CellIs.later {o j : Nat} {u : Value} : ∀ v W W', CellIs o j u v W → Below W.heap.size W W' → CellIs o j u v W' :=
  fun _ _ _ ⟨g, h1, h2⟩ hb => ⟨g, h1, by rw [hb.cell (p := ⟨g, j, none⟩) (World.block_lt_of_cell? _ _ h2)]; exact h2⟩

theorem below_drewN {B : Nat} {w w' : World} (h : Below B w w') (n : Nat) : Below B w (w'.drewN n) := ⟨h.os, h.tape, h.output, h.size, h.block⟩
/-- Block p alone is written; new blocks may have come. -/
structure Only (p : Nat) (w w' : World) : Prop where
  os : w'.os = w.os
  tape : w'.tape = w.tape
  output : w'.output = w.output
  size : w.heap.size ≤ w'.heap.size
  block : ∀ k, k < w.heap.size → k ≠ p → w'.heap[k]? = w.heap[k]?
theorem Only.refl (p : Nat) (w : World) : Only p w w := ⟨rfl, rfl, rfl, Nat.le_refl _, fun _ _ _ => rfl⟩
theorem Only.set {p : Nat} {w w' : World} (h : Only p w w') (i : Nat) (v : Value) : Only p w (w'.setCell ⟨p, i, none⟩ v) :=
  ⟨h.os, h.tape, h.output, by simpa using h.size, fun k hk hne => (Below.heap_setCell w' ⟨p, i, none⟩ v k hne).trans (h.block k hk hne)⟩
theorem Only.alloc {p : Nat} {w w' : World} (h : Only p w w') (o : Obj) : Only p w (w'.alloc o) :=
  ⟨h.os, h.tape, h.output, by have := h.size; simp; omega, fun k hk hne => (Below.heap_alloc w' o k (Nat.lt_of_lt_of_le hk h.size)).trans (h.block k hk hne)⟩
theorem Only.drew {p : Nat} {w w' : World} (h : Only p w w') : Only p w w'.drew := ⟨h.os, h.tape, h.output, h.size, h.block⟩
theorem Only.ext {p : Nat} {w w' w'' : World} (h : Only p w w') (hb : Below w'.heap.size w' w'') : Only p w w'' :=
  ⟨hb.os.trans h.os, hb.tape.trans h.tape, hb.output.trans h.output, Nat.le_trans h.size hb.size, fun k hk hne => (hb.block k (Nat.lt_of_lt_of_le hk h.size)).trans (h.block k hk hne)⟩
theorem Only.trans {p : Nat} {w w' w'' : World} (h : Only p w w') (k : Only p w' w'') : Only p w w'' :=
  ⟨k.os.trans h.os, k.tape.trans h.tape, k.output.trans h.output, Nat.le_trans h.size k.size, fun i hi hne => (k.block i (Nat.lt_of_lt_of_le hi h.size) hne).trans (h.block i hi hne)⟩
theorem below_only {B p : Nat} {a w w' : World} (h : Below B a w) (k : Only p w w') (hs : B ≤ w.heap.size) (hp : B ≤ p) : Below B a w' :=
  ⟨k.os.trans h.os, k.tape.trans h.tape, k.output.trans h.output, Nat.le_trans h.size k.size, fun i hi => (k.block i (by omega) (by omega)).trans (h.block i hi)⟩
theorem Blk.only {W W' : World} {p q : Nat} {cs : List Value} {t : TypeId} (h : Blk W q cs t) (k : Only p W W') (hne : q ≠ p) : Blk W' q cs t := (k.block q h.lt hne).trans h
/-- What a call leaves of what lay there, for the walk. -/
theorem after {W W' : World} (hb : Below W.heap.size W W') : (∀ b o, b < W.heap.size → W'.cell? ⟨b, o, none⟩ = W.cell? ⟨b, o, none⟩) ∧ (∀ b o, b < W.heap.size → W'.frozen? ⟨b, o, none⟩ = W.frozen? ⟨b, o, none⟩) ∧ W.heap.size ≤ W'.heap.size :=
  ⟨fun b o h => hb.cell (p := ⟨b, o, none⟩) h, fun b o h => hb.frozen (p := ⟨b, o, none⟩) h, hb.size⟩
end Go.Dav

namespace Go.Proofs.YtmcmknndhppljaaDoor
set_option linter.unusedVariables false
set_option linter.unusedSimpArgs false
open Go.RowKit Go.Dav
attribute [local go_sem] Gives ite_val ite_val_true

/-- What the loop keeps: what is in the two sums, and what is still to be added. -/
def TrydTimesRel (w : World) (n k : Int) (kv pv : Value) (wr : World) : Prop :=
  ∃ (m p : Nat) (acc base : Int), kv = .int .i64 m ∧ I64 m ∧ pv = .pointer (some ⟨p, 0, none⟩) ∧ w.heap.size + 1 < p ∧ acc + base * m = n * k ∧
    Blk wr (w.heap.size + 1) [.int .i64 (hi acc), .int .u64 (lo acc)] 108 ∧ Blk wr p [.int .i64 (hi base), .int .u64 (lo base)] 108 ∧
    Blk wr w.heap.size [.int .i64 0, .int .u64 0] 108 ∧ Below w.heap.size w wr

set_option maxRecDepth 4000 in
theorem Tryd_times (n k : Int) (w : World) (h1 : I64 n) (h3 : 0 ≤ k) (h4 : I64 k) :
    Calls Tryd.prog 84 #[.int .i64 n, .int .i64 k] w fun e w' => e = .returned (.agg #[.int .i64 (hi (n * k)), .int .u64 (lo (n * k))]) ∧ Below w.heap.size w w' := by
  obtain ⟨m0, rfl⟩ := Int.eq_ofNat_of_zero_le h3
  go_enter Tryd.func84, Tryd.ntmps84
  go_wp2_with (first | (go_at_call 66; refine (Tryd_of _ _ h1).mono ?_; rintro e w1 ⟨rfl, hb⟩; obtain ⟨hc, hf, hs⟩ := after hb))
  go_loopw [1, 6] (fun kv pv wr => TrydTimesRel w n m0 kv pv wr) (fun kv _ _ => (intOf kv).toNat)
  case atStart =>
    refine ⟨m0, w1.heap.size, 0, n, rfl, h4, rfl, by simp at hs; omega, by omega, ?_, Blk.new _ [_, _] _, ?_, ?_⟩
    · have := ((Blk.new (w.alloc (.cells #[.int .i64 0, .int .u64 0] 108)) [.int .i64 0, .int .u64 0] 108).ext hb).alloc (.cells #[.int .i64 (hi n), .int .u64 (lo n)] 108)
      rw [hi_zero, lo_zero]
      simpa using this
    · exact (((Blk.new _ [_, _] _).alloc _).ext hb).alloc _
    · exact (ext_trans (((Below.refl _ _).alloc (Nat.le_refl _) _).alloc (by simp) _) hb).alloc (by simp at hs; omega) _
  case round =>
    obtain ⟨m, p, acc, base, rfl, hm, rfl, hp, heq, ho, hpart, hres, hbel⟩ := hrel
    have c0 := ho.cell 0 rfl
    have c1 := ho.cell 1 rfl
    have c2 := hpart.cell 0 rfl
    have c3 := hpart.cell 1 rfl
    have f0 := ho.frozen 0
    have f1 := ho.frozen 1
    have f2 := hpart.frozen 0
    have f3 := hpart.frozen 1
    have l0 := ho.lt
    have l1 := hpart.lt
    have hn1 : w.heap.size + 1 ≠ p := by omega
    have hbs := hbel.size
    have Heq := Lib.hid heq; clear heq
    by_cases hz : m = 0
    · subst hz
      have hr0 := hres.cell 0 rfl
      have hr1 := hres.cell 1 rfl
      have hrf0 := hres.frozen 0
      have hrf1 := hres.frozen 1
      go_wp2
      have e : n * m0 = acc := by have := Heq.out; simp at this; omega
      refine bodyPost_ret (v := .agg #[.int .i64 (hi acc), .int .u64 (lo acc)]) (by simp [results, Tryd.results84, go_sem, hr0, hr1]) rfl ⟨by rw [e], ?_⟩
      exact (hbel.setCell (p := ⟨w.heap.size, 0, none⟩) (Nat.le_refl _) _).setCell (p := ⟨w.heap.size, 1, none⟩) (Nat.le_refl _) _
    · have ha := and_one_i64 m hm
      have hm0 : (0 : Int) < (m : Int) := by omega
      have hn2 : p ≠ w.heap.size + 1 := by omega
      have eI : I64 ((m / 2 : Nat) : Int) := by unfold I64 at *; omega
      by_cases hodd : m % 2 = 1
      · have e1 : acc + base + (base + base) * ((m / 2 : Nat) : Int) = n * m0 := by
          rw [half_odd acc base m hodd]; exact Heq.out
        rw [hodd] at ha
        have Ho := Lib.hid hodd; clear hodd
        have E1 := Lib.hid e1; clear e1
        go_wp2_with fail
        refine (Tryd_plus _ _ _).mono ?_; rintro e w1 ⟨rfl, hb1⟩; obtain ⟨hc1, hf1, hs1⟩ := after hb1
        have lp1 := Nat.lt_of_lt_of_le l1 hs1
        have lo1 := Nat.lt_of_lt_of_le l0 hs1
        go_wp2_with fail
        refine (Tryd_plus _ _ _).mono ?_; rintro e w2 ⟨rfl, hb2⟩; obtain ⟨hc2, hf2, hs2⟩ := after hb2
        simp only [World.size_setCell] at hs2
        have lp2 := Nat.lt_of_lt_of_le lp1 hs2
        have lo2 := Nat.lt_of_lt_of_le lo1 hs2
        go_wp2_with fail
        go_roundw
        case rel =>
          have b0 := (((ho.ext hb1).set 0 (.int .i64 (hi (acc + base)))).set 1 (.int .u64 (lo (acc + base)))).ext hb2
          have b1 := (((hpart.ext hb1).other hn2 0 (.int .i64 (hi (acc + base)))).other hn2 1 (.int .u64 (lo (acc + base)))).ext hb2
          have b2 := (((hres.ext hb1).other (by omega) 0 (.int .i64 (hi (acc + base)))).other (by omega) 1 (.int .u64 (lo (acc + base)))).ext hb2
          have bl := (((hbel.trans (hb1.mono hbs)).setCell (p := ⟨w.heap.size + 1, 0, none⟩) (by simp) (.int .i64 (hi (acc + base)))).setCell (p := ⟨w.heap.size + 1, 1, none⟩) (by simp) (.int .u64 (lo (acc + base)))).trans (hb2.mono (by simp; omega))
          refine ⟨m / 2, w2.heap.size, acc + base, base + base, by simp, eI, rfl, by omega, E1.out, ?_, Blk.new' _ [_, _] _ (by simp), ?_, ?_⟩
          · exact ((b0.other hn1 _ _).other hn1 _ _).alloc _
          · exact ((b2.other (by omega) _ _).other (by omega) _ _).alloc _
          · exact ((bl.setCell (p := ⟨p, 0, none⟩) (by simp; omega) _).setCell (p := ⟨p, 1, none⟩) (by simp; omega) _).alloc (by simp; omega) _
        case measure => simp [intOf]; omega
      · have hev : m % 2 = 0 := by omega
        have e1 : acc + (base + base) * ((m / 2 : Nat) : Int) = n * m0 := by
          rw [half_even acc base m hev]; exact Heq.out
        rw [hev] at ha
        have E1 := Lib.hid e1; clear e1
        have Ho := Lib.hid hodd; clear hodd
        have Hev := Lib.hid hev; clear hev
        go_wp2_with fail
        refine (Tryd_plus _ _ _).mono ?_; rintro e w2 ⟨rfl, hb2⟩; obtain ⟨hc2, hf2, hs2⟩ := after hb2
        have lp2 := Nat.lt_of_lt_of_le l1 hs2
        have lo2 := Nat.lt_of_lt_of_le l0 hs2
        go_wp2_with fail
        go_roundw
        case rel =>
          have bl := hbel.trans (hb2.mono hbs)
          refine ⟨m / 2, w2.heap.size, acc, base + base, by simp, eI, rfl, by omega, E1.out, ?_, Blk.new' _ [_, _] _ (by simp), ?_, ?_⟩
          · exact (((ho.ext hb2).other hn1 _ _).other hn1 _ _).alloc _
          · exact (((hres.ext hb2).other (by omega) _ _).other (by omega) _ _).alloc _
          · exact ((bl.setCell (p := ⟨p, 0, none⟩) (by simp; omega) _).setCell (p := ⟨p, 1, none⟩) (by simp; omega) _).alloc (by simp; omega) _
        case measure => simp [intOf]; omega
end Go.Proofs.YtmcmknndhppljaaDoor

namespace Go.Proofs.YtmcmknndhppljaaDoor
set_option linter.unusedVariables false
set_option linter.unusedSimpArgs false
open Go.RowKit Go.Dav
attribute [local go_sem] Gives ite_val ite_val_true

set_option maxRecDepth 4000 in
theorem Tryd_bounds (c n s l m : Int) (w : World) (hn : 2 ≤ n) (hn' : I64 n) (hl : I64 l) (hm : I64 m) :
    Calls Tryd.prog 68 #[.agg #[.int .i64 c, .int .i64 n, .int .i64 (hi s), .int .u64 (lo s), .int .i64 l, .int .i64 m]] w fun e w' =>
      e = .returned (.tuple #[.agg #[.int .i64 (hi (l + m + l * (n - 2))), .int .u64 (lo (l + m + l * (n - 2)))], .agg #[.int .i64 (hi (l + m + m * (n - 2))), .int .u64 (lo (l + m + m * (n - 2)))]]) ∧ Below w.heap.size w w' := by
  have hk : I64 (n - 2) := by unfold I64 at *; omega
  have hk0 : 0 ≤ n - 2 := by omega
  have hw : IntKind.i64.wrap (n - 2) = n - 2 := by rw [i64_wrap_def]; unfold I64 at hk; omega
  go_enter Tryd.func68, Tryd.ntmps68
  go_wp2_with fail
  refine' wp_region_seq [.inl _, .inl _, .inl _, .inl _, .inl _, .inl _, .inl _, .inr (NewBlk (w.heap.size + 1 + 1 + 1) [.int .i64 0, .int .u64 0] 108)] (by kernel_rfl) (by kernel_rfl) ?main1
  case main1 =>
    refine wpParts_det (by rfl) (fun W hE hN => ?_) ?_
    · go_simp; refine ⟨Below.refl _ _, ?_⟩; rfl
    simp only [Act.put, List.setIfInBounds_toArray, List.set_cons_zero, List.set_cons_succ]
    refine wpParts_det (by rfl) (fun W hE hN => ?_) ?_
    · have hc := fun b o h => hE.cell (p := ⟨b, o, none⟩) h
      go_simp; refine ⟨Below.refl _ _, ?_⟩; rfl
    simp only [Act.put, List.setIfInBounds_toArray, List.set_cons_zero, List.set_cons_succ]
    refine wpParts_det (by rfl) (fun W hE hN => ?_) ?_
    · go_simp; refine ⟨Below.refl _ _, ?_⟩; refine (Tryd_of _ _ (by assumption)).mono ?_; rintro e w' ⟨rfl, hb⟩; refine ⟨?_, hb⟩; rfl
    simp only [Act.put, List.setIfInBounds_toArray, List.set_cons_zero, List.set_cons_succ]
    refine wpParts_det (by rfl) (fun W hE hN => ?_) ?_
    · go_simp; refine ⟨Below.refl _ _, ?_⟩; rfl
    simp only [Act.put, List.setIfInBounds_toArray, List.set_cons_zero, List.set_cons_succ]
    refine wpParts_det (by rfl) (fun W hE hN => ?_) ?_
    · have hc := fun b o h => hE.cell (p := ⟨b, o, none⟩) h
      go_simp; refine ⟨Below.refl _ _, ?_⟩; rfl
    simp only [Act.put, List.setIfInBounds_toArray, List.set_cons_zero, List.set_cons_succ]
    refine wpParts_det (by rfl) (fun W hE hN => ?_) ?_
    · go_simp; refine ⟨Below.refl _ _, ?_⟩; refine (Tryd_of _ _ (by assumption)).mono ?_; rintro e w' ⟨rfl, hb⟩; refine ⟨?_, hb⟩; rfl
    simp only [Act.put, List.setIfInBounds_toArray, List.set_cons_zero, List.set_cons_succ]
    refine wpParts_det (by rfl) (fun W hE hN => ?_) ?_
    · go_simp; refine ⟨Below.refl _ _, ?_⟩; refine (Tryd_plus _ _ _).mono ?_; rintro e w' ⟨rfl, hb⟩; refine ⟨?_, hb⟩; rfl
    simp only [Act.put, List.setIfInBounds_toArray, List.set_cons_zero, List.set_cons_succ]
    refine wpParts_any rfl (NewBlk.later) (by rfl) (fun W hE hN => ?_) (fun u7 => ?_)
    · go_simp; exact newBlk_alloc (cs := [.int .i64 0, .int .u64 0]) (by have := hE.size; simp at this; omega)
    simp only [Act.put, List.setIfInBounds_toArray, List.set_cons_zero, List.set_cons_succ]
    refine wpParts_end fun W1 hE1 hG1 => ?_
    have hcW1 := fun b o h => hE1.cell (p := ⟨b, o, none⟩) h
    have hfW1 := fun b o h => hE1.frozen (p := ⟨b, o, none⟩) h
    obtain ⟨p, rfl, hp, hblk⟩ := hG1.1
    have s1 := hE1.size
    simp at s1
    have c0 := hblk.cell 0 rfl
    have c1 := hblk.cell 1 rfl
    have f0 := hblk.frozen 0
    have f1 := hblk.frozen 1
    have lp := hblk.lt
    go_wp2_with fail
    have lb : w.heap.size < W1.heap.size := by omega
    have lb1 : w.heap.size + 1 < W1.heap.size := by omega
    have lb2 : w.heap.size + 1 + 1 < W1.heap.size := by omega
    refine' wp_region_seq [.inl _, .inl _, .inl _, .inl _, .inl _, .inl _, .inl _, .inl _, .inl _, .inl _, .inl _, .inl _, .inl _, .inl _, .inl _, .inl _] (by kernel_rfl) (by kernel_rfl) ?main2
    case main2 =>
      refine wpParts_det (by rfl) (fun W hE hN => ?_) ?_
      · have hc := fun b o h => hE.cell (p := ⟨b, o, none⟩) h
        go_simp; refine ⟨Below.refl _ _, ?_⟩; rfl
      simp only [Act.put, List.setIfInBounds_toArray, List.set_cons_zero, List.set_cons_succ]
      refine wpParts_det (by rfl) (fun W hE hN => ?_) ?_
      · go_simp; refine ⟨Below.refl _ _, ?_⟩; rfl
      simp only [Act.put, List.setIfInBounds_toArray, List.set_cons_zero, List.set_cons_succ]
      refine wpParts_det (by rfl) (fun W hE hN => ?_) ?_
      · have hc := fun b o h => hE.cell (p := ⟨b, o, none⟩) h
        go_simp; refine ⟨Below.refl _ _, ?_⟩; rfl
      simp only [Act.put, List.setIfInBounds_toArray, List.set_cons_zero, List.set_cons_succ]
      refine wpParts_det (by rfl) (fun W hE hN => ?_) ?_
      · go_simp; refine ⟨Below.refl _ _, ?_⟩; rfl
      simp only [Act.put, List.setIfInBounds_toArray, List.set_cons_zero, List.set_cons_succ]
      refine wpParts_det (by rfl) (fun W hE hN => ?_) ?_
      · have hc := fun b o h => hE.cell (p := ⟨b, o, none⟩) h
        go_simp; refine ⟨Below.refl _ _, ?_⟩; rfl
      simp only [Act.put, List.setIfInBounds_toArray, List.set_cons_zero, List.set_cons_succ]
      refine wpParts_det (by rfl) (fun W hE hN => ?_) ?_
      · go_simp; refine ⟨Below.refl _ _, ?_⟩; rfl
      simp only [Act.put, List.setIfInBounds_toArray, List.set_cons_zero, List.set_cons_succ]
      refine wpParts_det (by rfl) (fun W hE hN => ?_) ?_
      · go_simp; refine ⟨Below.refl _ _, ?_⟩; refine (Tryd_times _ _ _ (by assumption) hk0 hk).mono ?_; rintro e w' ⟨rfl, hb⟩; refine ⟨?_, hb⟩; rfl
      simp only [Act.put, List.setIfInBounds_toArray, List.set_cons_zero, List.set_cons_succ]
      refine wpParts_det (by rfl) (fun W hE hN => ?_) ?_
      · go_simp; refine ⟨Below.refl _ _, ?_⟩; refine (Tryd_plus _ _ _).mono ?_; rintro e w' ⟨rfl, hb⟩; refine ⟨?_, hb⟩; rfl
      simp only [Act.put, List.setIfInBounds_toArray, List.set_cons_zero, List.set_cons_succ]
      refine wpParts_det (by rfl) (fun W hE hN => ?_) ?_
      · have hc := fun b o h => hE.cell (p := ⟨b, o, none⟩) h
        go_simp; refine ⟨Below.refl _ _, ?_⟩; rfl
      simp only [Act.put, List.setIfInBounds_toArray, List.set_cons_zero, List.set_cons_succ]
      refine wpParts_det (by rfl) (fun W hE hN => ?_) ?_
      · go_simp; refine ⟨Below.refl _ _, ?_⟩; rfl
      simp only [Act.put, List.setIfInBounds_toArray, List.set_cons_zero, List.set_cons_succ]
      refine wpParts_det (by rfl) (fun W hE hN => ?_) ?_
      · have hc := fun b o h => hE.cell (p := ⟨b, o, none⟩) h
        go_simp; refine ⟨Below.refl _ _, ?_⟩; rfl
      simp only [Act.put, List.setIfInBounds_toArray, List.set_cons_zero, List.set_cons_succ]
      refine wpParts_det (by rfl) (fun W hE hN => ?_) ?_
      · go_simp; refine ⟨Below.refl _ _, ?_⟩; rfl
      simp only [Act.put, List.setIfInBounds_toArray, List.set_cons_zero, List.set_cons_succ]
      refine wpParts_det (by rfl) (fun W hE hN => ?_) ?_
      · have hc := fun b o h => hE.cell (p := ⟨b, o, none⟩) h
        go_simp; refine ⟨Below.refl _ _, ?_⟩; rfl
      simp only [Act.put, List.setIfInBounds_toArray, List.set_cons_zero, List.set_cons_succ]
      refine wpParts_det (by rfl) (fun W hE hN => ?_) ?_
      · go_simp; refine ⟨Below.refl _ _, ?_⟩; rfl
      simp only [Act.put, List.setIfInBounds_toArray, List.set_cons_zero, List.set_cons_succ]
      refine wpParts_det (by rfl) (fun W hE hN => ?_) ?_
      · go_simp; refine ⟨Below.refl _ _, ?_⟩; refine (Tryd_times _ _ _ (by assumption) hk0 hk).mono ?_; rintro e w' ⟨rfl, hb⟩; refine ⟨?_, hb⟩; rfl
      simp only [Act.put, List.setIfInBounds_toArray, List.set_cons_zero, List.set_cons_succ]
      refine wpParts_det (by rfl) (fun W hE hN => ?_) ?_
      · go_simp; refine ⟨Below.refl _ _, ?_⟩; refine (Tryd_plus _ _ _).mono ?_; rintro e w' ⟨rfl, hb⟩; refine ⟨?_, hb⟩; rfl
      simp only [Act.put, List.setIfInBounds_toArray, List.set_cons_zero, List.set_cons_succ]
      refine wpParts_end fun W2 hE2 hG2 => ?_
      have hcW2 := fun b o h => hE2.cell (p := ⟨b, o, none⟩) h
      have hfW2 := fun b o h => hE2.frozen (p := ⟨b, o, none⟩) h
      have s2 := hE2.size
      simp at s2
      have lc : w.heap.size < W2.heap.size := by omega
      have lc1 : w.heap.size + 1 < W2.heap.size := by omega
      have lc2 : w.heap.size + 1 + 1 < W2.heap.size := by omega
      go_wp2_with fail
      refine bodyPost_ret (v := .tuple #[.agg #[.int .i64 (hi (l + m + l * (n - 2))), .int .u64 (lo (l + m + l * (n - 2)))], .agg #[.int .i64 (hi (l + m + m * (n - 2))), .int .u64 (lo (l + m + m * (n - 2)))]])
        (by simp [results, Tryd.results68, go_sem, *]) rfl ⟨rfl, ?_⟩
      exact (by repeat (first | (with_reducible exact Below.refl _ _) | (with_reducible exact Below.refl _ _) | (with_reducible refine Below.setCell ?_ (by first | omega | (simp; done) | (simp; omega)) _) | (with_reducible refine Below.alloc ?_ (by first | omega | (simp; done) | (simp; omega)) _) | (with_reducible refine Below.drew ?_) | (with_reducible refine below_drewN ?_ _) | (with_reducible refine Below.trans ?_ (hE2.mono (by first | omega | (simp; done) | (simp; omega)))) | (with_reducible refine Below.trans ?_ (hE1.mono (by first | omega | (simp; done) | (simp; omega))))))
end Go.Proofs.YtmcmknndhppljaaDoor
