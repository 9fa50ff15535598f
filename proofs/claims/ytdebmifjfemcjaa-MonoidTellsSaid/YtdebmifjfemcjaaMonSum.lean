/-
  The sums of 128 bits as whole numbers: hi and lo are the halves of a number, taken modulo 2^128.
-/
import Derived.IntWalk
import Derived.WalkSmall
import Derived.WalkKit
import Derived.Test.YtdebmifjfemcjaaRet
namespace Go.Dav
set_option linter.unusedVariables false
set_option linter.unusedSimpArgs false
open Go Go.RowKit

/-- Fits an int64. -/
def I64 (n : Int) : Prop := -9223372036854775808 ≤ n ∧ n ≤ 9223372036854775807

def lo (s : Int) : Int := s % 18446744073709551616
def hi (s : Int) : Int := wrap64 (s / 18446744073709551616)
/-- The number of 128 bits, with a sign. -/
def sg (s : Int) : Int := hi s * 18446744073709551616 + lo s

theorem wrap_u64 (s : Int) : IntKind.u64.wrap s = s % 18446744073709551616 := by
  simp [IntKind.wrap, IntKind.bits, IntKind.signed]
theorem wrap64_def (s : Int) : wrap64 s = (s + 9223372036854775808) % 18446744073709551616 - 9223372036854775808 := by
  simp only [wrap64]
theorem lo_bd (s : Int) : 0 ≤ lo s ∧ lo s < 18446744073709551616 := by unfold lo; omega
theorem hi_bd (s : Int) : -9223372036854775808 ≤ hi s ∧ hi s < 9223372036854775808 := by unfold hi; rw [wrap64_def]; omega
theorem sg_of {s : Int} (h1 : -170141183460469231731687303715884105728 ≤ s) (h2 : s < 170141183460469231731687303715884105728) : sg s = s := by
  unfold sg hi lo; rw [wrap64_def]; omega
theorem lo_add (a b : Int) : IntKind.u64.wrap (lo a + lo b) = lo (a + b) := by
  rw [wrap_u64]; unfold lo; omega
theorem carry (a b : Int) : (lo (a + b) < lo a) ↔ 18446744073709551616 ≤ lo a + lo b := by
  unfold lo; omega
theorem hi_add_yes (a b : Int) (h : 18446744073709551616 ≤ lo a + lo b) : wrap64 (wrap64 (hi a + hi b) + 1) = hi (a + b) := by
  unfold hi lo at *; simp only [wrap64_def]; omega
theorem hi_add_no (a b : Int) (h : ¬ 18446744073709551616 ≤ lo a + lo b) : wrap64 (hi a + hi b) = hi (a + b) := by
  unfold hi lo at *; simp only [wrap64_def]; omega
theorem hi_of {n : Int} (h : I64 n) : n / 9223372036854775808 = hi n := by
  unfold I64 at h
  unfold hi; rw [wrap64_def]; omega
theorem lo_of (n : Int) : IntKind.u64.wrap n = lo n := by rw [wrap_u64]; rfl
theorem pair_hi {h l : Int} (h1 : I64 h) (h3 : 0 ≤ l) (h4 : l < 18446744073709551616) : hi (h * 18446744073709551616 + l) = h := by
  unfold I64 at h1
  unfold hi; rw [wrap64_def]; omega
theorem pair_lo {h l : Int} (h3 : 0 ≤ l) (h4 : l < 18446744073709551616) : lo (h * 18446744073709551616 + l) = l := by
  unfold lo; omega
theorem hi_zero : hi 0 = 0 := by decide +kernel
theorem lo_zero : lo 0 = 0 := by decide +kernel
theorem i64_wrap_def (n : Int) : IntKind.i64.wrap n = (n + 9223372036854775808) % 18446744073709551616 - 9223372036854775808 := by
  simp only [IntKind.wrap, IntKind.bits, IntKind.signed]
  simp
  split <;> omega
theorem i64_wrap_bd (n : Int) : I64 (IntKind.i64.wrap n) := by
  unfold I64
  rw [i64_wrap_def]; omega
/-- The number has 64 bits. -/
def fitsB (s : Int) : Bool := decide (-9223372036854775808 ≤ sg s ∧ sg s < 9223372036854775808)
/-- The first number is above the second. -/
def aboveB (x y : Int) : Bool := decide (sg y < sg x)
theorem fits_key (s : Int) : (decide (hi s = hi (IntKind.i64.wrap (lo s))) && decide (lo s = lo (IntKind.i64.wrap (lo s)))) = fitsB s := by
  unfold fitsB
  rw [Bool.eq_iff_iff]
  simp only [Bool.and_eq_true, decide_eq_true_eq, i64_wrap_def]
  unfold sg hi lo
  simp only [wrap64_def]
  omega
theorem sg_lo {s : Int} (h1 : -9223372036854775808 ≤ sg s) (h2 : sg s < 9223372036854775808) : IntKind.i64.wrap (lo s) = sg s := by
  rw [i64_wrap_def]
  unfold sg hi lo at *
  simp only [wrap64_def] at *
  omega
/-- 'm & 1' on an int. -/
theorem and_one_i64 (m : Nat) (h0 : I64 m) : bits BinOp.and IntKind.i64 (m : Int) 1 = ((m % 2 : Nat) : Int) := by
  have h := h0.2
  have e : (BitVec.ofInt 64 (m : Int) &&& BitVec.ofInt 64 1).toNat = m % 2 := by
    rw [BitVec.toNat_and]
    have e1 : (BitVec.ofInt 64 (m : Int)).toNat = m := by
      rw [BitVec.ofInt_natCast, BitVec.toNat_ofNat]; exact Nat.mod_eq_of_lt (by omega)
    have e2 : (BitVec.ofInt 64 1).toNat = 1 := by decide +kernel
    rw [e1, e2, Nat.and_one_is_mod]
  show IntKind.i64.wrap (((BitVec.ofInt 64 (m : Int) &&& BitVec.ofInt 64 1).toNat : Nat) : Int) = _
  rw [e, i64_wrap_def]
  omega
theorem half_odd (acc base : Int) (m : Nat) (h : m % 2 = 1) : acc + base + (base + base) * ((m / 2 : Nat) : Int) = acc + base * (m : Int) := by
  have hm : (m : Int) = 2 * ((m / 2 : Nat) : Int) + 1 := by omega
  rw [hm, Int.add_mul, Int.mul_add, Int.mul_left_comm base 2]
  omega
theorem half_even (acc base : Int) (m : Nat) (h : m % 2 = 0) : acc + (base + base) * ((m / 2 : Nat) : Int) = acc + base * (m : Int) := by
  have hm : (m : Int) = 2 * ((m / 2 : Nat) : Int) := by omega
  rw [hm, Int.add_mul, Int.mul_left_comm base 2]
  omega
/-- What Check answers. -/
def redE (b : Bool) : Int := if b then 0 else 230
/-- May a reduction be? -/
def redB (c n s l m : Int) : Bool :=
  if n < 0 ∨ c < n ∨ 1073741824 < c then false
  else if n = 0 then decide (hi s = 0 ∧ lo s = 0 ∧ l = 0 ∧ m = 0)
  else if n = 1 then decide (l = m ∧ hi s = hi l ∧ lo s = lo l)
  else decide (l ≤ m) && (!aboveB (l + m + l * (n - 2)) s && !aboveB s (l + m + m * (n - 2)))
/-- The reduction of two: its sum, its least, its greatest number. -/
def bothS (n2 s1 s2 : Int) : Int := if n2 = 0 then s1 else s1 + s2
def bothN (n1 n2 : Int) : Int := if n2 = 0 then n1 else n1 + n2
def bothL (n1 n2 l1 l2 : Int) : Int := if n2 = 0 then l1 else if 0 < n1 then min l1 l2 else l2
def bothM (n1 n2 m1 m2 : Int) : Int := if n2 = 0 then m1 else if 0 < n1 then max m1 m2 else m2
/-- What is missing from the low half to the greatest number. -/
def notLo (x : Int) : Int := 18446744073709551615 - lo x
theorem notLo_eq (x : Int) : IntKind.u64.wrap (18446744073709551615 - lo x) = notLo x := by
  rw [wrap_u64]; unfold notLo lo; omega
theorem notLo_lt (x y : Int) : notLo x < lo y ↔ 18446744073709551616 ≤ lo x + lo y := by
  unfold notLo; omega
theorem carry_yes (x y : Int) (h : notLo x < lo y) : wrap64 (wrap64 (hi x + hi y) + 1) = hi (x + y) := hi_add_yes x y ((notLo_lt x y).1 h)
theorem carry_no (x y : Int) (h : ¬ notLo x < lo y) : wrap64 (wrap64 (hi x + hi y) + 0) = hi (x + y) := by
  rw [Int.add_zero, hi_add_no x y (fun hc => h ((notLo_lt x y).2 hc)), ]
  unfold hi; simp only [wrap64_def]; omega
theorem hi_add_no' (x y : Int) (h : ¬ notLo x < lo y) : wrap64 (hi x + hi y) = hi (x + y) := hi_add_no x y (fun hc => h ((notLo_lt x y).2 hc))
theorem wrap64_hi (s : Int) : wrap64 (hi s) = hi s := by
  unfold hi; simp only [wrap64_def]; omega
theorem hi_neg {n : Int} (h : I64 n) (hn : n < 0) : hi n = -1 := by
  unfold I64 at h; unfold hi; rw [wrap64_def]; omega
theorem hi_pos {n : Int} (h : I64 n) (hn : ¬ n < 0) : hi n = 0 := by
  unfold I64 at h; unfold hi; rw [wrap64_def]; omega
theorem less_key (x y : Int) : (if hi x = hi y then decide (lo x < lo y) else decide (hi x < hi y)) = aboveB y x := by
  have hx := lo_bd x
  have hy := lo_bd y
  unfold aboveB sg
  by_cases h : hi x = hi y
  · rw [if_pos h, h, Bool.eq_iff_iff]; simp
  · rw [if_neg h, Bool.eq_iff_iff]; simp; omega
theorem half_div {k : Int} (h0 : 0 ≤ k) (h : I64 k) : wrap64 (k.tdiv 2) = k / 2 := by
  rw [Int.tdiv_eq_ediv_of_nonneg h0, wrap64_def]; unfold I64 at h; omega
theorem half_mod {k : Int} (h0 : 0 ≤ k) : k.tmod 2 = k % 2 := Int.tmod_eq_emod_of_nonneg h0
theorem half_mod' {k : Int} : wrap64 (k % 2) = k % 2 := by
  rw [wrap64_def]; omega
theorem fits_sg {s : Int} (h : fitsB s = true) : wrap64 (lo s) = sg s := by
  unfold fitsB at h
  simp only [decide_eq_true_eq] at h
  rw [← sg_lo h.1 h.2, i64_wrap_def, wrap64_def]
theorem i64_of_wf {n : Int} (h : (Lit.int .i64 n).wf = true) : I64 n := by
  unfold I64
  simp [Lit.wf, IntKind.min, IntKind.max, IntKind.bits, IntKind.signed] at h
  omega
theorem u64_of_wf {n : Int} (h : (Lit.int .u64 n).wf = true) : 0 ≤ n ∧ n ≤ 18446744073709551615 := by
  simp [Lit.wf, IntKind.min, IntKind.max, IntKind.bits, IntKind.signed] at h
  omega
end Go.Dav
