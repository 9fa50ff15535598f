/-
  The sums of 128 bits as whole numbers: hi and lo are the halves of a number, taken modulo 2^128.
  Reductions: what is kept of many rows, as five whole numbers; joining them.
  Layer 13: what is told of a reduction, in plain.
-/
import Derived.IntWalk
import Derived.WalkSmall
import Derived.WalkKit
import Derived.Test.YtmcmknndhppljaaDoorVbA
import Derived.Test.YtmcmknndhppljaaDoorVbG
namespace Go.Dav
set_option linter.unusedVariables false
set_option linter.unusedSimpArgs false
open Go Go.RowKit

/-- Fits an int64. -/
def I64 (n : Int) : Prop := -9223372036854775808 ≤ n ∧ n ≤ 9223372036854775807

def lo (s : Int) : Int := s % 18446744073709551616
def hi (s : Int) : Int := wrap64 (s / 18446744073709551616)
/-- The number of 128 bits, with a sign. -/
def sg (s : Int) : Int := hi s * 18446744073709551616 + lo s

theorem wrap_u64 (s : Int) : IntKind.u64.wrap s = s % 18446744073709551616 := by
  simp [IntKind.wrap, IntKind.bits, IntKind.signed]
theorem wrap64_def (s : Int) : wrap64 s = (s + 9223372036854775808) % 18446744073709551616 - 9223372036854775808 := by
  simp only [wrap64]
theorem lo_bd (s : Int) : 0 ≤ lo s ∧ lo s < 18446744073709551616 := by unfold lo; omega
theorem hi_bd (s : Int) : -9223372036854775808 ≤ hi s ∧ hi s < 9223372036854775808 := by unfold hi; rw [wrap64_def]; omega
theorem sg_of {s : Int} (h1 : -170141183460469231731687303715884105728 ≤ s) (h2 : s < 170141183460469231731687303715884105728) : sg s = s := by
  unfold sg hi lo; rw [wrap64_def]; omega
theorem lo_add (a b : Int) : IntKind.u64.wrap (lo a + lo b) = lo (a + b) := by
  rw [wrap_u64]; unfold lo; omega
theorem carry (a b : Int) : (lo (a + b) < lo a) ↔ 18446744073709551616 ≤ lo a + lo b := by
  unfold lo; omega
theorem hi_add_yes (a b : Int) (h : 18446744073709551616 ≤ lo a + lo b) : wrap64 (wrap64 (hi a + hi b) + 1) = hi (a + b) := by
  unfold hi lo at *; simp only [wrap64_def]; omega
theorem hi_add_no (a b : Int) (h : ¬ 18446744073709551616 ≤ lo a + lo b) : wrap64 (hi a + hi b) = hi (a + b) := by
  unfold hi lo at *; simp only [wrap64_def]; omega
theorem hi_of {n : Int} (h : I64 n) : n / 9223372036854775808 = hi n := by
  unfold I64 at h
  unfold hi; rw [wrap64_def]; omega
theorem lo_of (n : Int) : IntKind.u64.wrap n = lo n := by rw [wrap_u64]; rfl
theorem pair_hi {h l : Int} (h1 : I64 h) (h3 : 0 ≤ l) (h4 : l < 18446744073709551616) : hi (h * 18446744073709551616 + l) = h := by
  unfold I64 at h1
  unfold hi; rw [wrap64_def]; omega
theorem pair_lo {h l : Int} (h3 : 0 ≤ l) (h4 : l < 18446744073709551616) : lo (h * 18446744073709551616 + l) = l := by
  unfold lo; omega
theorem hi_zero : hi 0 = 0 := by decide +kernel
theorem lo_zero : lo 0 = 0 := by decide +kernel
theorem i64_wrap_def (n : Int) : IntKind.i64.wrap n = (n + 9223372036854775808) % 18446744073709551616 - 9223372036854775808 := by
  simp only [IntKind.wrap, IntKind.bits, IntKind.signed]
  simp
  split <;> omega
theorem i64_wrap_bd (n : Int) : I64 (IntKind.i64.wrap n) := by
  unfold I64
  rw [i64_wrap_def]; omega
/-- The number has 64 bits. -/
def fitsB (s : Int) : Bool := decide (-9223372036854775808 ≤ sg s ∧ sg s < 9223372036854775808)
/-- The first number is above the second. -/
def aboveB (x y : Int) : Bool := decide (sg y < sg x)
theorem fits_key (s : Int) : (decide (hi s = hi (IntKind.i64.wrap (lo s))) && decide (lo s = lo (IntKind.i64.wrap (lo s)))) = fitsB s := by
  unfold fitsB
  rw [Bool.eq_iff_iff]
  simp only [Bool.and_eq_true, decide_eq_true_eq, i64_wrap_def]
  unfold sg hi lo
  simp only [wrap64_def]
  omega
theorem sg_lo {s : Int} (h1 : -9223372036854775808 ≤ sg s) (h2 : sg s < 9223372036854775808) : IntKind.i64.wrap (lo s) = sg s := by
  rw [i64_wrap_def]
  unfold sg hi lo at *
  simp only [wrap64_def] at *
  omega
/-- 'm & 1' on an int. -/
theorem and_one_i64 (m : Nat) (h0 : I64 m) : bits BinOp.and IntKind.i64 (m : Int) 1 = ((m % 2 : Nat) : Int) := by
  have h := h0.2
  have e : (BitVec.ofInt 64 (m : Int) &&& BitVec.ofInt 64 1).toNat = m % 2 := by
    rw [BitVec.toNat_and]
    have e1 : (BitVec.ofInt 64 (m : Int)).toNat = m := by
      rw [BitVec.ofInt_natCast, BitVec.toNat_ofNat]; exact Nat.mod_eq_of_lt (by omega)
    have e2 : (BitVec.ofInt 64 1).toNat = 1 := by decide +kernel
    rw [e1, e2, Nat.and_one_is_mod]
  show IntKind.i64.wrap (((BitVec.ofInt 64 (m : Int) &&& BitVec.ofInt 64 1).toNat : Nat) : Int) = _
  rw [e, i64_wrap_def]
  omega
theorem half_odd (acc base : Int) (m : Nat) (h : m % 2 = 1) : acc + base + (base + base) * ((m / 2 : Nat) : Int) = acc + base * (m : Int) := by
  have hm : (m : Int) = 2 * ((m / 2 : Nat) : Int) + 1 := by omega
  rw [hm, Int.add_mul, Int.mul_add, Int.mul_left_comm base 2]
  omega
theorem half_even (acc base : Int) (m : Nat) (h : m % 2 = 0) : acc + (base + base) * ((m / 2 : Nat) : Int) = acc + base * (m : Int) := by
  have hm : (m : Int) = 2 * ((m / 2 : Nat) : Int) := by omega
  rw [hm, Int.add_mul, Int.mul_left_comm base 2]
  omega
/-- What Check answers. -/
def redE (b : Bool) : Int := if b then 0 else 230
/-- May a reduction be? -/
def redB (c n s l m : Int) : Bool :=
  if n < 0 ∨ c < n ∨ 1073741824 < c then false
  else if n = 0 then decide (hi s = 0 ∧ lo s = 0 ∧ l = 0 ∧ m = 0)
  else if n = 1 then decide (l = m ∧ hi s = hi l ∧ lo s = lo l)
  else decide (l ≤ m) && (!aboveB (l + m + l * (n - 2)) s && !aboveB s (l + m + m * (n - 2)))
/-- The reduction of two: its sum, its least, its greatest number. -/
def bothS (n2 s1 s2 : Int) : Int := if n2 = 0 then s1 else s1 + s2
def bothN (n1 n2 : Int) : Int := if n2 = 0 then n1 else n1 + n2
def bothL (n1 n2 l1 l2 : Int) : Int := if n2 = 0 then l1 else if 0 < n1 then min l1 l2 else l2
def bothM (n1 n2 m1 m2 : Int) : Int := if n2 = 0 then m1 else if 0 < n1 then max m1 m2 else m2
/-- What is missing from the low half to the greatest number. -/
def notLo (x : Int) : Int := 18446744073709551615 - lo x
theorem notLo_eq (x : Int) : IntKind.u64.wrap (18446744073709551615 - lo x) = notLo x := by
  rw [wrap_u64]; unfold notLo lo; omega
theorem notLo_lt (x y : Int) : notLo x < lo y ↔ 18446744073709551616 ≤ lo x + lo y := by
  unfold notLo; omega
theorem carry_yes (x y : Int) (h : notLo x < lo y) : wrap64 (wrap64 (hi x + hi y) + 1) = hi (x + y) := hi_add_yes x y ((notLo_lt x y).1 h)
theorem carry_no (x y : Int) (h : ¬ notLo x < lo y) : wrap64 (wrap64 (hi x + hi y) + 0) = hi (x + y) := by
  rw [Int.add_zero, hi_add_no x y (fun hc => h ((notLo_lt x y).2 hc)), ]
  unfold hi; simp only [wrap64_def]; omega
theorem hi_add_no' (x y : Int) (h : ¬ notLo x < lo y) : wrap64 (hi x + hi y) = hi (x + y) := hi_add_no x y (fun hc => h ((notLo_lt x y).2 hc))
theorem wrap64_hi (s : Int) : wrap64 (hi s) = hi s := by
  unfold hi; simp only [wrap64_def]; omega
theorem hi_neg {n : Int} (h : I64 n) (hn : n < 0) : hi n = -1 := by
  unfold I64 at h; unfold hi; rw [wrap64_def]; omega
theorem hi_pos {n : Int} (h : I64 n) (hn : ¬ n < 0) : hi n = 0 := by
  unfold I64 at h; unfold hi; rw [wrap64_def]; omega
theorem less_key (x y : Int) : (if hi x = hi y then decide (lo x < lo y) else decide (hi x < hi y)) = aboveB y x := by
  have hx := lo_bd x
  have hy := lo_bd y
  unfold aboveB sg
  by_cases h : hi x = hi y
  · rw [if_pos h, h, Bool.eq_iff_iff]; simp
  · rw [if_neg h, Bool.eq_iff_iff]; simp; omega
theorem half_div {k : Int} (h0 : 0 ≤ k) (h : I64 k) : wrap64 (k.tdiv 2) = k / 2 := by
  rw [Int.tdiv_eq_ediv_of_nonneg h0, wrap64_def]; unfold I64 at h; omega
theorem half_mod {k : Int} (h0 : 0 ≤ k) : k.tmod 2 = k % 2 := Int.tmod_eq_emod_of_nonneg h0
theorem half_mod' {k : Int} : wrap64 (k % 2) = k % 2 := by
  rw [wrap64_def]; omega
theorem fits_sg {s : Int} (h : fitsB s = true) : wrap64 (lo s) = sg s := by
  unfold fitsB at h
  simp only [decide_eq_true_eq] at h
  rw [← sg_lo h.1 h.2, i64_wrap_def, wrap64_def]
theorem i64_of_wf {n : Int} (h : (Lit.int .i64 n).wf = true) : I64 n := by
  unfold I64
  simp [Lit.wf, IntKind.min, IntKind.max, IntKind.bits, IntKind.signed] at h
  omega
theorem u64_of_wf {n : Int} (h : (Lit.int .u64 n).wf = true) : 0 ≤ n ∧ n ≤ 18446744073709551615 := by
  simp [Lit.wf, IntKind.min, IntKind.max, IntKind.bits, IntKind.signed] at h
  omega
end Go.Dav

namespace Go.Dav
set_option linter.unusedVariables false
set_option linter.unusedSimpArgs false
open Go Go.RowKit

/-- A reduction: how many rows, how many numbers, their sum, the least, the greatest. -/
structure Red where
  c : Int
  n : Int
  s : Int
  l : Int
  m : Int

def Red.zero : Red := ⟨0, 0, 0, 0, 0⟩
/-- Its cells in memory. -/
def Red.cells (r : Red) : List Value := [.int .i64 r.c, .int .i64 r.n, .int .i64 (hi r.s), .int .u64 (lo r.s), .int .i64 r.l, .int .i64 r.m]
def Red.fits (r : Red) : Prop := I64 r.c ∧ I64 r.n ∧ I64 r.l ∧ I64 r.m
def Red.ok (r : Red) : Bool := redB r.c r.n r.s r.l r.m
def Red.both (r t : Red) : Red := ⟨r.c + t.c, bothN r.n t.n, bothS t.n r.s t.s, bothL r.n t.n r.l t.l, bothM r.n t.n r.m t.m⟩

theorem Red.ok_spec {r : Red} (h : r.ok = true) : 0 ≤ r.n ∧ r.n ≤ r.c ∧ r.c ≤ 1073741824 ∧ (r.n = 0 → hi r.s = 0 ∧ lo r.s = 0 ∧ r.l = 0 ∧ r.m = 0) := by
  unfold Red.ok redB at h
  by_cases h1 : r.n < 0 ∨ r.c < r.n ∨ 1073741824 < r.c
  · rw [if_pos h1] at h; cases h
  · rw [if_neg h1] at h
    refine ⟨by omega, by omega, by omega, fun h0 => ?_⟩
    rw [if_pos h0] at h
    simpa using h

/-- All that come behind are joined to the first; none: there are too many rows. -/
def joinL : Red → List Red → Option Red
  | acc, [] => some acc
  | acc, r :: l => if 1073741824 - r.c < acc.c then none else joinL (acc.both r) l

/-- What Join answers. -/
def joined (l : List Red) : Red × Int :=
  if l.all Red.ok then match joinL Red.zero l with
    | some r => (r, 0)
    | none => (Red.zero, 5)
  else (Red.zero, 230)

/-- What is at hand while reductions are joined. -/
def Red.fine (r : Red) : Prop := 0 ≤ r.n ∧ r.n ≤ r.c ∧ r.c ≤ 1073741824
theorem Red.zero_fine : Red.zero.fine := by unfold Red.fine Red.zero; simp
theorem Red.fine_of {r : Red} (h : r.ok = true) : r.fine := by
  have := Red.ok_spec h
  exact ⟨this.1, this.2.1, this.2.2.1⟩
theorem Red.both_fine {r t : Red} (hr : r.fine) (ht : t.fine) (h : ¬ 1073741824 - t.c < r.c) : (r.both t).fine := by
  unfold Red.fine Red.both bothN at *
  simp only
  split <;> omega

theorem Red.fine_n {r : Red} (h : r.fine) : 0 ≤ r.n := h.1

theorem one_ok (x : Int) : Red.ok ⟨1, 1, x, x, x⟩ = true := by
  unfold Red.ok redB
  simp

/-- Its sum is the one that its halves say. -/
def Red.canon (r : Red) : Prop := r.s = hi r.s * 18446744073709551616 + lo r.s
theorem Red.ok_zero {r : Red} (h : r.ok = true) (hc : r.canon) (hn : r.n = 0) : r.s = 0 := by
  obtain ⟨h1, h2, _, _⟩ := (Red.ok_spec h).2.2.2 hn
  unfold Red.canon at hc
  rw [h1, h2] at hc
  omega
/-- Where there are no numbers there is no least and no greatest one. -/
def Red.blank (r : Red) : Prop := r.n = 0 → r.l = 0 ∧ r.m = 0
theorem Red.blank_at {r : Red} (h : r.blank) (hn : r.n = 0) : r.l = 0 ∧ r.m = 0 := h hn
theorem Red.zero_blank : Red.zero.blank := fun _ => ⟨rfl, rfl⟩
theorem Red.both_blank {r t : Red} (hr : r.blank) (h1 : 0 ≤ r.n) (h2 : 0 ≤ t.n) : (r.both t).blank := by
  unfold Red.blank Red.both bothN bothL bothM at *
  simp only
  intro h
  by_cases e : t.n = 0
  · rw [if_pos e] at h; rw [if_pos e, if_pos e]; exact hr h
  · rw [if_neg e] at h; omega

/-- What Join answers of valid reductions, as the law finds it: too many rows; or the reduction. -/
theorem joined_bad {l : List Red} {r : Red} (hr : r ∈ l) (h : r.ok = false) : joined l = (Red.zero, 230) := by
  unfold joined
  rw [if_neg]
  intro hc
  have := List.all_eq_true.1 hc r hr
  rw [h] at this
  cases this

theorem hi_lo_zero {s : Int} (h1 : hi s = 0) (h2 : lo s = 0) : s % 340282366920938463463374607431768211456 = 0 := by
  unfold hi lo at *; rw [wrap64_def] at h1; omega

end Go.Dav

namespace Go.Dav
set_option linter.unusedVariables false
set_option linter.unusedSimpArgs false
open Go Go.RowKit
theorem Blk.fiveV {W : World} {p : Nat} {x0 x1 x2 x3 x4 : Value} {t : TypeId} (h : Blk W p [x0, x1, x2, x3, x4] t) (y0 y1 y2 y3 y4 : Value) :
    Blk (((((W.setCell ⟨p, 0, none⟩ y0).setCell ⟨p, 1, none⟩ y1).setCell ⟨p, 2, none⟩ y2).setCell ⟨p, 3, none⟩ y3).setCell ⟨p, 4, none⟩ y4) p [y0, y1, y2, y3, y4] t := ((((h.set 0 y0).set 1 y1).set 2 y2).set 3 y3).set 4 y4
theorem Only.fiveV (W : World) (p : Nat) (y0 y1 y2 y3 y4 : Value) : Only p W (((((W.setCell ⟨p, 0, none⟩ y0).setCell ⟨p, 1, none⟩ y1).setCell ⟨p, 2, none⟩ y2).setCell ⟨p, 3, none⟩ y3).setCell ⟨p, 4, none⟩ y4) :=
  (((((Only.refl p W).set 0 y0).set 1 y1).set 2 y2).set 3 y3).set 4 y4
def noStr : ByteArray := ⟨#[]⟩
def leafV (d : Nat) (k n : Int) : ValN (d + 1) := (⟨k, n, noStr, [], []⟩ : ValF (ValN d))
def endV (d : Nat) (n x : Int) : ValN (d + 1) := if 0 < n then leafV d 3 x else leafV d 1 0
def statKeys : List ByteArray := [⟨#[99, 111, 117, 110, 116]⟩, ⟨#[109, 97, 120]⟩, ⟨#[109, 105, 110]⟩, ⟨#[110, 117, 109, 98, 101, 114, 115]⟩, ⟨#[115, 117, 109]⟩]
def statsV (r : Red) : ValN 2 := (⟨6, 0, noStr, [leafV 0 3 r.c, endV 0 r.n r.m, endV 0 r.n r.l, leafV 0 3 r.n, leafV 0 3 (sg r.s)], statKeys⟩ : ValF (ValN 1))
/-- What is told of a reduction, by a kind. -/
def tellV (k : Nat) (r : Red) : ValN 2 :=
  if k = 1 then leafV 1 3 r.c else if k = 2 then leafV 1 3 (sg r.s) else if k = 3 then endV 1 r.n r.l else if k = 4 then endV 1 r.n r.m else statsV r
theorem leaf_at (W : World) (d : Nat) {k n : Int} (hk : I64' k) (hn : I64' n) : ValAt W (d + 1) (.agg #[.int .i64 k, .int .i64 n, .string ⟨#[]⟩, .slice none 0 0, .slice none 0 0]) (leafV d k n) :=
  ⟨none, 0, 0, none, 0, 0, rfl, hk, hn, by show noStr.size ≤ _; decide, rfl, Nat.le_refl _, by unfold maxLen; omega, by omega, fun _ => rfl, fun i y hy => by simp [leafV, ValN.to] at hy, StrsAt.nil_⟩
theorem leaf_good (d : Nat) {k n : Int} (h : k = 3 ∨ (k = 1 ∧ n = 0)) : aloneB (leafV d k n).to = true := by
  rcases h with rfl | ⟨rfl, rfl⟩
  · unfold aloneB; simp [leafV, ValN.to, keysTo, strEmpty, noStr]
  · unfold aloneB; simp [leafV, ValN.to, keysTo, strEmpty, noStr]
theorem leaf_within (d L : Nat) (m : Int) {k n : Int} (h : k = 3 ∨ (k = 1 ∧ n = 0)) (hm : 1 ≤ m) : withinV (d + 1) (leafV d k n) L m = 1 := by
  rw [withinV_yes (fun hh => ?_)]
  · rfl
  · rcases hh with hh | hh | hh
    · omega
    · rw [leaf_good d h] at hh; cases hh
    · have : (leafV d k n).to.kind = k := rfl
      omega
theorem end_leaf (d : Nat) (n x : Int) : ∃ k y, endV d n x = leafV d k y ∧ (k = 3 ∨ (k = 1 ∧ y = 0)) := by
  unfold endV; split
  · exact ⟨3, x, rfl, .inl rfl⟩
  · exact ⟨1, 0, rfl, .inr ⟨rfl, rfl⟩⟩
set_option maxRecDepth 100000 in
theorem stat_keys : keysTo statKeys 5 = true := by decide +kernel
theorem stats_alone (r : Red) : aloneB (statsV r).to = true := by
  have h := stat_keys
  unfold aloneB
  rw [show (statsV r).to.keys = statKeys from rfl, show statKeys.length = 5 from rfl, h, Bool.true_and, show (statsV r).to.kind = 6 from rfl]
  simp [show (statsV r).to.n = 0 from rfl, show (statsV r).to.s = noStr from rfl, show (statsV r).to.kids.length = 5 from rfl, strEmpty, noStr]
theorem stats_right (r : Red) : rightV 2 (statsV r) = true := by
  obtain ⟨k1, y1, e1, h1⟩ := end_leaf 0 r.n r.m
  obtain ⟨k2, y2, e2, h2⟩ := end_leaf 0 r.n r.l
  unfold rightV
  rw [withinV_yes (fun hh => by
    rcases hh with hh | hh | hh
    · omega
    · rw [stats_alone] at hh; cases hh
    · exact absurd hh.2 (by decide))]
  have e : (statsV r).to.kids = [leafV 0 3 r.c, leafV 0 k1 y1, leafV 0 k2 y2, leafV 0 3 r.n, leafV 0 3 (sg r.s)] := by
    show [leafV 0 3 r.c, endV 0 r.n r.m, endV 0 r.n r.l, leafV 0 3 r.n, leafV 0 3 (sg r.s)] = _
    rw [e1, e2]
  rw [e]
  have f3 := fun n m hm => leaf_within 0 7 m (k := 3) (n := n) (.inl rfl) hm
  simp only [withinL, f3 _ (256 - ((1 : Nat) : Int)) (by omega), f3 _ (256 - ((1 + 1 + 1 + 1 : Nat) : Int)) (by omega), f3 _ (256 - ((1 + 1 + 1 + 1 + 1 : Nat) : Int)) (by omega), leaf_within 0 7 (256 - ((1 + 1 : Nat) : Int)) h1 (by omega), leaf_within 0 7 (256 - ((1 + 1 + 1 : Nat) : Int)) h2 (by omega), if_false, Nat.one_ne_zero]
  decide
theorem tell_right (k : Nat) (r : Red) : rightV 2 (tellV k r) = true := by
  have hl : ∀ k n, (k = 3 ∨ (k = 1 ∧ n = 0)) → rightV 2 (leafV 1 k n) = true := fun k n h => by
    unfold rightV; rw [leaf_within 1 8 256 h (by omega)]; decide
  have he : ∀ n x, rightV 2 (endV 1 n x) = true := fun n x => by
    obtain ⟨k, y, e, h⟩ := end_leaf 1 n x
    rw [e]; exact hl _ _ h
  unfold tellV
  split
  · exact hl _ _ (.inl rfl)
  · split
    · exact hl _ _ (.inl rfl)
    · split
      · exact he _ _
      · split
        · exact he _ _
        · exact stats_right r
theorem oneL_refl {K : Type} {f : K → K → Bool} (k : Int) : ∀ (l : List K) (ks : List ByteArray), (∀ y ∈ l, f y y = true) → oneL f k l l ks ks = true
  | [], _, _ => rfl
  | y :: ys, ks, h => by
    rw [oneL_cons, h y (by simp), oneL_refl k ys ks.tail fun z hz => h z (by simp [hz])]
    simp
theorem oneV_refl : ∀ (d : Nat) (x : ValN d), goodV d x = true → oneV d d x x = true
  | 0, _, h => by unfold goodV at h; cases h
  | d + 1, x, h => by
    rw [oneV_eq, oneL_refl _ _ _ fun y hy => oneV_refl d y (by
      obtain ⟨i, hi⟩ := List.getElem?_of_mem hy
      exact (good_alone h).2 i y hi)]
    simp
theorem tell_same (k : Nat) (r : Red) : sameV 2 2 (tellV k r) (tellV k r) = true := by
  unfold sameV
  rw [tell_right, oneV_refl 2 _ (withinV_good 2 _ 8 256 (by have h := tell_right k r; unfold rightV at h; rw [decide_eq_true_eq] at h; omega))]
  rfl
def five (k n : Int) : List Value := [.int .i64 k, .int .i64 n, .string ⟨#[]⟩, .slice none 0 0, .slice none 0 0]
/-- A slice in a block of its own. -/
def SlNew (B n : Nat) (cs : List Value) (t : TypeId) (v : Value) (W : World) : Prop := ∃ g, v = .slice (some ⟨g, 0, none⟩) n n ∧ B ≤ g ∧ Blk W g cs t
theorem SlNew.later {B n : Nat} {cs : List Value} {t : TypeId} : ∀ v W W', SlNew B n cs t v W → Below W.heap.size W W' → SlNew B n cs t v W' := fun _ _ _ ⟨g, h1, h2, h3⟩ hb => ⟨g, h1, h2, h3.ext hb⟩
theorem stats_at {W : World} {g q : Nat} {r : Red} {x y : Int × Int} {t s : TypeId} {cg cq : Nat} (hx : endV 0 r.n r.l = leafV 0 x.1 x.2) (hy : endV 0 r.n r.m = leafV 0 y.1 y.2) (h1 : I64' r.c) (h2 : I64' r.n) (h3 : I64' (sg r.s)) (hx1 : I64' x.1) (hx2 : I64' x.2) (hy1 : I64' y.1) (hy2 : I64' y.2)
    (hg : ∀ i v, (five 3 r.c ++ (five y.1 y.2 ++ (five x.1 x.2 ++ (five 3 r.n ++ five 3 (sg r.s)))))[i]? = some v → W.cell? ⟨g, i, none⟩ = some v) (hgl : g < W.heap.size) (hcg : 5 ≤ cg ∧ cg ≤ maxLen) (hq : Blk W q [.string ⟨#[99, 111, 117, 110, 116]⟩, .string ⟨#[109, 97, 120]⟩, .string ⟨#[109, 105, 110]⟩, .string ⟨#[110, 117, 109, 98, 101, 114, 115]⟩, .string ⟨#[115, 117, 109]⟩] s) (hcq : 5 ≤ cq ∧ cq ≤ maxLen) :
    ValAt W 2 (.agg #[.int .i64 6, .int .i64 0, .string ⟨#[]⟩, .slice (some ⟨g, 0, none⟩) 5 cg, .slice (some ⟨q, 0, none⟩) 5 cq]) (statsV r) := by
  refine ⟨some ⟨g, 0, none⟩, 5, cg, some ⟨q, 0, none⟩, 5, cq, rfl, by show I64' 6; unfold I64'; omega, by show I64' 0; unfold I64'; omega, by show noStr.size ≤ _; decide, rfl, hcg.1, hcg.2, by omega, (fun h => by cases h), fun i z hz => ?_, rfl, hcq.1, hcq.2, by omega, fun k z hz => ?_, (fun h => by cases h), fun z hz => ?_⟩
  · have hz' : [leafV 0 3 r.c, leafV 0 y.1 y.2, leafV 0 x.1 x.2, leafV 0 3 r.n, leafV 0 3 (sg r.s)][i]? = some z := by
      rw [← hx, ← hy]; exact hz
    have hi : i < 5 := by have := (List.getElem?_eq_some_iff.1 hz').1; simpa using this
    rcases (by omega : i = 0 ∨ i = 1 ∨ i = 2 ∨ i = 3 ∨ i = 4) with rfl | rfl | rfl | rfl | rfl
    · cases hz'; exact ⟨g, 0, _, _, _, _, _, rfl, hgl, hg 0 _ rfl, hg 1 _ rfl, hg 2 _ rfl, hg 3 _ rfl, hg 4 _ rfl, leaf_at W 0 (by unfold I64'; omega) h1⟩
    · cases hz'; exact ⟨g, 0, _, _, _, _, _, rfl, hgl, hg 5 _ rfl, hg 6 _ rfl, hg 7 _ rfl, hg 8 _ rfl, hg 9 _ rfl, leaf_at W 0 hy1 hy2⟩
    · cases hz'; exact ⟨g, 0, _, _, _, _, _, rfl, hgl, hg 10 _ rfl, hg 11 _ rfl, hg 12 _ rfl, hg 13 _ rfl, hg 14 _ rfl, leaf_at W 0 hx1 hx2⟩
    · cases hz'; exact ⟨g, 0, _, _, _, _, _, rfl, hgl, hg 15 _ rfl, hg 16 _ rfl, hg 17 _ rfl, hg 18 _ rfl, hg 19 _ rfl, leaf_at W 0 (by unfold I64'; omega) h2⟩
    · cases hz'; exact ⟨g, 0, _, _, _, _, _, rfl, hgl, hg 20 _ rfl, hg 21 _ rfl, hg 22 _ rfl, hg 23 _ rfl, hg 24 _ rfl, leaf_at W 0 (by unfold I64'; omega) h3⟩
  · refine ⟨q, 0, rfl, hq.lt, ?_⟩
    rw [Nat.zero_add, hq.cells]
    have hz' : statKeys[k]? = some z := hz
    have hk : k < 5 := by have := (List.getElem?_eq_some_iff.1 hz').1; simpa [statKeys] using this
    rcases (by omega : k = 0 ∨ k = 1 ∨ k = 2 ∨ k = 3 ∨ k = 4) with rfl | rfl | rfl | rfl | rfl
    all_goals (cases hz'; rfl)
  · have hz' : z ∈ statKeys := hz
    simp only [statKeys, List.mem_cons, List.not_mem_nil, or_false] at hz'
    rcases hz' with rfl | rfl | rfl | rfl | rfl
    all_goals decide
end Go.Dav
