/-
  A burst of bits within 32 changes the sum: in plain.
-/
import Derived.Test.YtafigbomcgncnaaCrcC
namespace Go.Dav
set_option linter.unusedVariables false
set_option linter.unusedSimpArgs false
open Go Go.RowKit
theorem crcBit_xor (a b : Nat) : crcBit (a ^^^ b) = crcBit a ^^^ crcBit b := by
  unfold crcBit
  rw [xor_mod2, xor_div2]
  rcases Nat.mod_two_eq_zero_or_one a with ha | ha <;> rcases Nat.mod_two_eq_zero_or_one b with hb | hb <;> rw [ha, hb]
  · simp
  · simp [Nat.xor_assoc]
  · simp only [if_true, Nat.one_ne_zero, if_false, Nat.zero_ne_one]
    rw [Nat.xor_assoc, Nat.xor_assoc, Nat.xor_comm (b / 2)]
  · simp only [if_true, if_neg Nat.zero_ne_one]
    rw [Nat.xor_assoc, Nat.xor_comm 2197175160, Nat.xor_assoc, Nat.xor_self, Nat.xor_zero]
theorem crcBits_xor (a b : Nat) : ∀ k, crcBits k (a ^^^ b) = crcBits k a ^^^ crcBits k b
  | 0 => rfl
  | k + 1 => by show crcBit (crcBits k (a ^^^ b)) = _; rw [crcBits_xor a b k, crcBit_xor]; rfl
theorem crcByte_xor (s t c d : Nat) : crcByte (s ^^^ t) (c ^^^ d) = crcByte s c ^^^ crcByte t d := by
  unfold crcByte
  rw [← crcBits_xor]
  congr 1
  rw [Nat.xor_assoc, Nat.xor_assoc, ← Nat.xor_assoc t c d, Nat.xor_comm t c, Nat.xor_assoc]
theorem crcBit_ne {s : Nat} (h : s < 4294967296) (h0 : s ≠ 0) : crcBit s ≠ 0 := by
  unfold crcBit
  split
  · intro e
    have h1 : s / 2 = 2197175160 := by
      have h2 : s / 2 ^^^ 2197175160 ^^^ 2197175160 = 0 ^^^ 2197175160 := by rw [e]
      rw [Nat.xor_assoc, Nat.xor_self, Nat.xor_zero, Nat.zero_xor] at h2
      exact h2
    omega
  · omega
theorem crcBits_ne {s : Nat} (h : s < 4294967296) (h0 : s ≠ 0) : ∀ k, crcBits k s ≠ 0
  | 0 => h0
  | k + 1 => crcBit_ne (crcBits_lt h k) (crcBits_ne h h0 k)
/-- The state behind k bits of x, the lowest first, from s on. -/
def lins (s x : Nat) : Nat → Nat
  | 0 => s
  | k + 1 => crcBit (lins s x k ^^^ x / 2 ^ k % 2)
theorem crcBits_pow : ∀ k : Nat, k ≤ 32 → ∀ j, j ≤ k → crcBits j (2 ^ k) = 2 ^ (k - j)
  | k, hk, 0, _ => rfl
  | k, hk, j + 1, hj => by
    show crcBit (crcBits j (2 ^ k)) = _
    rw [crcBits_pow k hk j (by omega)]
    obtain ⟨m, hm⟩ : ∃ m, k - j = m + 1 := ⟨k - j - 1, by omega⟩
    rw [hm, show k - (j + 1) = m by omega]
    unfold crcBit
    rw [Nat.pow_succ, if_neg (by omega)]
    omega
theorem crcBits_zero : ∀ k, crcBits k 0 = 0
  | 0 => rfl
  | k + 1 => by show crcBit (crcBits k 0) = 0; rw [crcBits_zero k]; rfl
theorem mod_succ_xor (x k : Nat) : x % 2 ^ (k + 1) = x % 2 ^ k ^^^ (x / 2 ^ k % 2) * 2 ^ k := by
  apply Nat.eq_of_testBit_eq
  intro i
  rw [Nat.testBit_xor, Nat.testBit_mod_two_pow, Nat.testBit_mod_two_pow]
  rcases Nat.mod_two_eq_zero_or_one (x / 2 ^ k) with h | h
  · rw [h, Nat.zero_mul, Nat.zero_testBit, Bool.xor_false]
    by_cases e : i = k
    · subst e
      have : x.testBit i = false := by rw [Nat.testBit_eq_decide_div_mod_eq, h]; rfl
      rw [this, Bool.and_false, Bool.and_false]
    · congr 1
      rw [Bool.eq_iff_iff]; simp; omega
  · rw [h, Nat.one_mul, Nat.testBit_two_pow]
    by_cases e : i = k
    · subst e
      have : x.testBit i = true := by rw [Nat.testBit_eq_decide_div_mod_eq, h]; rfl
      rw [this]; simp
    · have e1 : decide (k = i) = false := by simp; omega
      rw [e1, Bool.xor_false]
      congr 1
      rw [Bool.eq_iff_iff]; simp; omega
/-- All bits at once. -/
theorem crcBits_lins (s x : Nat) : ∀ k, k ≤ 32 → crcBits k (s ^^^ x % 2 ^ k) = lins s x k
  | 0, _ => by simp [crcBits, lins, Nat.mod_one]
  | k + 1, hk => by
    show crcBit (crcBits k (s ^^^ x % 2 ^ (k + 1))) = crcBit (lins s x k ^^^ x / 2 ^ k % 2)
    rw [mod_succ_xor, ← Nat.xor_assoc, crcBits_xor, crcBits_lins s x k (by omega)]
    congr 2
    rcases Nat.mod_two_eq_zero_or_one (x / 2 ^ k) with h | h
    · rw [h, Nat.zero_mul, crcBits_zero]
    · rw [h, Nat.one_mul, crcBits_pow k (by omega) k (Nat.le_refl _), Nat.sub_self]
theorem lins_add (s x m : Nat) : ∀ k, lins s x (m + k) = lins (lins s x m) (x / 2 ^ m) k
  | 0 => rfl
  | k + 1 => by
    show crcBit (lins s x (m + k) ^^^ x / 2 ^ (m + k) % 2) = crcBit (lins (lins s x m) (x / 2 ^ m) k ^^^ x / 2 ^ m / 2 ^ k % 2)
    rw [lins_add s x m k, Nat.div_div_eq_div_mul, ← Nat.pow_add]
/-- The j-th byte of a number. -/
def byteOf (x j : Nat) : UInt8 := UInt8.ofNat (x / 2 ^ (8 * j))
theorem byteOf_nat (x j : Nat) : (byteOf x j).toNat = x / 2 ^ (8 * j) % 2 ^ 8 := by
  unfold byteOf; rw [UInt8.toNat_ofNat']
/-- The bytes of a number, the lowest first. -/
theorem crcOf_bytes (s x : Nat) : ∀ n, crcOf s ((List.range n).map (byteOf x)) = lins s x (8 * n)
  | 0 => rfl
  | n + 1 => by
    rw [List.range_succ, List.map_append, List.map_singleton, crcOf_snoc, crcOf_bytes s x n, show 8 * (n + 1) = 8 * n + 8 by omega, lins_add, ← crcBits_lins _ _ 8 (by omega), byteOf_nat]
    rfl
theorem crcFour_bytes (t : Nat) : crcFour t = (List.range 4).map (byteOf t) := by
  unfold crcFour byteOf
  simp [List.range_succ]
theorem xor_comp {s : Nat} (h : s < 4294967296) : s ^^^ (4294967295 - s) = 4294967295 := by
  rw [← xor_ones h, Nat.xor_comm 4294967295, ← Nat.xor_assoc, Nat.xor_self, Nat.zero_xor]
/-- The sum of bytes and of their sum behind them hangs on nothing. -/
theorem crc_rest (l : List UInt8) : crcOf 4294967295 (crcLay l) = crcBits 32 4294967295 := by
  unfold crcLay
  rw [crcOf_append, crcFour_bytes, crcOf_bytes, ← crcBits_lins _ _ 32 (by omega), Nat.mod_eq_of_lt (by have := crcSum_lt l; omega)]
  unfold crcSum
  rw [xor_comp (crcOf_lt (by omega) l)]
/-- Bytes, with the bits of a number turned. -/
def turnAt (l : List UInt8) (x : Nat) : List UInt8 := l.mapIdx fun j c => c ^^^ byteOf x j
theorem turnAt_len (l : List UInt8) (x : Nat) : (turnAt l x).length = l.length := by simp [turnAt]
theorem turnAt_get (l : List UInt8) (x j : Nat) : (turnAt l x)[j]? = (l[j]?).map fun c => c ^^^ byteOf x j := by simp [turnAt]
theorem crcByte_u8 (s t : Nat) (c d : UInt8) : crcByte s c.toNat ^^^ crcByte t (c ^^^ d).toNat = crcByte (s ^^^ t) d.toNat := by
  rw [← crcByte_xor]
  congr 1
  rw [UInt8.toNat_xor, ← Nat.xor_assoc, Nat.xor_self, Nat.zero_xor]
/-- How far two sums part. -/
theorem crc_part (x : Nat) (l : List UInt8) : ∀ n, n ≤ l.length → crcOf 4294967295 (l.take n) ^^^ crcOf 4294967295 ((turnAt l x).take n) = crcOf 0 ((List.range n).map (byteOf x))
  | 0, _ => by simp [crcOf]
  | n + 1, hn => by
    obtain ⟨c, hc⟩ : ∃ c, l[n]? = some c := ⟨_, List.getElem?_eq_getElem (by omega)⟩
    rw [List.take_add_one, List.take_add_one, turnAt_get, hc, Option.map_some, Option.toList_some, Option.toList_some, crcOf_snoc, crcOf_snoc, crcByte_u8, crc_part x l n (by omega), List.range_succ, List.map_append, List.map_singleton, crcOf_snoc]
theorem lins_zero_bits (s x n : Nat) : ∀ k, (∀ i, i < k → x / 2 ^ (n + i) % 2 = 0) → lins s x (n + k) = crcBits k (lins s x n)
  | 0, _ => rfl
  | k + 1, h => by
    show crcBit (lins s x (n + k) ^^^ x / 2 ^ (n + k) % 2) = crcBit (crcBits k (lins s x n))
    rw [h k (by omega), Nat.xor_zero, lins_zero_bits s x n k fun i hi => h i (by omega)]
/-- A burst leaves a state that is not 0. -/
theorem burst_ne {b at_ n j : Nat} (hb : b ≠ 0) (hj : j ≤ 32) (hbj : b < 2 ^ j) (hn : at_ + j ≤ n) : lins 0 (b * 2 ^ at_) n ≠ 0 := by
  have h0 : lins 0 (b * 2 ^ at_) at_ = 0 := by
    have h := lins_zero_bits 0 (b * 2 ^ at_) 0 at_ fun i hi => by
      rw [Nat.zero_add, show at_ = (at_ - i - 1) + 1 + i by omega, Nat.pow_add, ← Nat.mul_assoc, Nat.mul_div_cancel _ (Nat.two_pow_pos i), Nat.pow_succ, ← Nat.mul_assoc]
      omega
    rw [Nat.zero_add] at h
    rw [h]
    exact crcBits_zero at_
  have h1 : lins 0 (b * 2 ^ at_) (at_ + j) = crcBits j b := by
    rw [lins_add, h0, Nat.mul_div_cancel _ (Nat.two_pow_pos _), ← crcBits_lins 0 b j hj, Nat.zero_xor, Nat.mod_eq_of_lt hbj]
  have hlt : b < 4294967296 := Nat.lt_of_lt_of_le hbj (Nat.pow_le_pow_right (by omega) hj)
  obtain ⟨k, rfl⟩ : ∃ k, n = at_ + j + k := ⟨n - (at_ + j), by omega⟩
  rw [lins_zero_bits 0 _ (at_ + j) k fun i _ => by
    rw [show at_ + j + i = at_ + (j + i) by omega, Nat.pow_add, ← Nat.div_div_eq_div_mul, Nat.mul_div_cancel _ (Nat.two_pow_pos _), Nat.div_eq_of_lt (Nat.lt_of_lt_of_le hbj (Nat.pow_le_pow_right (by omega) (by omega)))], h1]
  exact crcBits_ne (crcBits_lt hlt j) (crcBits_ne hlt hb j) k
theorem high_lt {b at_ m : Nat} (hb : b < 2 ^ 32) (h : 32 + at_ ≤ 8 + m) : b * 2 ^ at_ / 2 ^ m < 2 ^ 8 := by
  rw [Nat.div_lt_iff_lt_mul (Nat.two_pow_pos _), ← Nat.pow_add]
  have h1 : b * 2 ^ at_ < 2 ^ (32 + at_) := by rw [Nat.pow_add]; exact Nat.mul_lt_mul_of_pos_right hb (Nat.two_pow_pos _)
  exact Nat.lt_of_lt_of_le h1 (Nat.pow_le_pow_right (by omega) h)
theorem low_of {x m : Nat} (h : x / 2 ^ m = 0) : x < 2 ^ m := by
  rcases Nat.lt_or_ge x (2 ^ m) with h5 | h5
  · exact h5
  · have := Nat.div_pos h5 (Nat.two_pow_pos m)
    omega
theorem burst_low {b at_ m : Nat} (h : b * 2 ^ at_ < 2 ^ m) (hm : at_ ≤ m) : b < 2 ^ (m - at_) := by
  apply Nat.lt_of_mul_lt_mul_right (a := 2 ^ at_)
  rw [← Nat.pow_add, Nat.sub_add_cancel hm]
  exact h
/-- The bit that is turned, in its byte. -/
def bitByte (m : Nat) : UInt8 := UInt8.ofNat (2 ^ (m % 8))
theorem bitByte_nat (m : Nat) : (bitByte m).toNat = 2 ^ (m % 8) := by
  unfold bitByte
  rw [UInt8.toNat_ofNat', Nat.mod_eq_of_lt]
  exact Nat.pow_lt_pow_right (by omega) (Nat.mod_lt _ (by omega))
theorem byteOf_flip (x m j : Nat) : byteOf (x ^^^ 2 ^ m) j = if j = m / 8 then byteOf x j ^^^ bitByte m else byteOf x j := by
  apply UInt8.toNat_inj.1
  split
  · rename_i hj
    rw [UInt8.toNat_xor, byteOf_nat, byteOf_nat, bitByte_nat]
    apply Nat.eq_of_testBit_eq
    intro i
    rw [Nat.testBit_xor, Nat.testBit_mod_two_pow, Nat.testBit_mod_two_pow, Nat.testBit_div_two_pow, Nat.testBit_div_two_pow, Nat.testBit_xor, Nat.testBit_two_pow, Nat.testBit_two_pow]
    by_cases h : i < 8
    · have e : decide (m = 8 * j + i) = decide (m % 8 = i) := by rw [Bool.eq_iff_iff]; simp; omega
      simp [h]
      rw [show (m = i + 8 * j) ↔ (m % 8 = i) by omega]
    · have e : ¬ m % 8 = i := by omega
      simp [h, e]
  · rename_i hj
    rw [byteOf_nat, byteOf_nat]
    apply Nat.eq_of_testBit_eq
    intro i
    rw [Nat.testBit_mod_two_pow, Nat.testBit_mod_two_pow, Nat.testBit_div_two_pow, Nat.testBit_div_two_pow, Nat.testBit_xor, Nat.testBit_two_pow]
    by_cases h : i < 8
    · have e : decide (m = i + 8 * j) = false := by simp; omega
      rw [e, Bool.xor_false]
    · simp [h]
theorem turnAt_flip {l : List UInt8} {x m : Nat} {c : UInt8} (hc : (turnAt l x)[m / 8]? = some c) : (turnAt l x).set (m / 8) (c ^^^ bitByte m) = turnAt l (x ^^^ 2 ^ m) := by
  apply List.ext_getElem?
  intro j
  rw [List.getElem?_set, turnAt_get, turnAt_get, byteOf_flip]
  by_cases hj : m / 8 = j
  · subst hj
    rw [turnAt_get] at hc
    obtain ⟨d, hd, rfl⟩ := Option.map_eq_some_iff.1 hc
    have hl := (List.getElem?_eq_some_iff.1 hd).1
    rw [if_pos rfl, if_pos rfl, if_pos (by rw [turnAt_len]; exact hl), hd, Option.map_some]
    congr 1
    apply UInt8.toNat_inj.1
    simp only [UInt8.toNat_xor]
    rw [Nat.xor_assoc]
  · rw [if_neg hj, if_neg (fun e => hj e.symm)]
/-- The bits that the first k rounds turn. -/
def turnTo (b at_ k : Nat) : Nat := b % 2 ^ k * 2 ^ at_
theorem turnTo_zero (b at_ : Nat) : turnTo b at_ 0 = 0 := by simp [turnTo, Nat.mod_one]
theorem turnTo_no {b at_ k : Nat} (h : b / 2 ^ k % 2 = 0) : turnTo b at_ (k + 1) = turnTo b at_ k := by
  unfold turnTo; rw [mod_succ_xor, h, Nat.zero_mul, Nat.xor_zero]
theorem turnTo_yes {b at_ k : Nat} (h : b / 2 ^ k % 2 = 1) : turnTo b at_ (k + 1) = turnTo b at_ k ^^^ 2 ^ (at_ + k) := by
  unfold turnTo
  rw [mod_succ_xor, h, Nat.one_mul, ← Nat.shiftLeft_eq, ← Nat.shiftLeft_eq, Nat.shiftLeft_xor_distrib, Nat.shiftLeft_eq (2 ^ k), ← Nat.pow_add, Nat.add_comm k at_]
theorem turnTo_all {b at_ : Nat} (hb : b < 2 ^ 32) : turnTo b at_ 32 = b * 2 ^ at_ := by
  unfold turnTo; rw [Nat.mod_eq_of_lt hb]
theorem turnAt_zero (l : List UInt8) : turnAt l 0 = l := by
  apply List.ext_getElem?
  intro j
  rw [turnAt_get]
  have : byteOf 0 j = 0 := by unfold byteOf; rw [Nat.zero_div]; rfl
  rw [this]
  cases l[j]? <;> simp
/-- How far two sums part, from one state on. -/
theorem crc_parts (s x : Nat) (l : List UInt8) : ∀ n, n ≤ l.length → crcOf s (l.take n) ^^^ crcOf s ((turnAt l x).take n) = crcOf 0 ((List.range n).map (byteOf x))
  | 0, _ => by simp [crcOf]
  | n + 1, hn => by
    obtain ⟨c, hc⟩ : ∃ c, l[n]? = some c := ⟨_, List.getElem?_eq_getElem (by omega)⟩
    rw [List.take_add_one, List.take_add_one, turnAt_get, hc, Option.map_some, Option.toList_some, Option.toList_some, crcOf_snoc, crcOf_snoc, crcByte_u8, crc_parts s x l n (by omega), List.range_succ, List.map_append, List.map_singleton, crcOf_snoc]
/-- Bytes of which bits are turned, all within 32, have another sum. -/
theorem turned_sum {s b at_ : Nat} {l : List UInt8} (hb : b ≠ 0) (hb32 : b < 2 ^ 32) (hat : at_ + 32 ≤ 8 * l.length) : crcOf s (turnAt l (b * 2 ^ at_)) ≠ crcOf s l := fun h => by
  have hp := crc_parts s (b * 2 ^ at_) l l.length (Nat.le_refl _)
  rw [List.take_length, List.take_of_length_le (by rw [turnAt_len]; exact Nat.le_refl _), h, Nat.xor_self, crcOf_bytes] at hp
  exact burst_ne hb (Nat.le_refl 32) hb32 hat hp.symm
end Go.Dav
