/-
  The sum in plain: it is linear, and loses nothing: a state that is not 0 stays so.
-/
import Derived.Test.YtmjmjjakhmeogaaCrcB
namespace Go.Dav
set_option linter.unusedVariables false
set_option linter.unusedSimpArgs false
open Go Go.RowKit
theorem crcBit_xor (a b : Nat) : crcBit (a ^^^ b) = crcBit a ^^^ crcBit b := by
  unfold crcBit
  rw [xor_mod2, xor_div2]
  rcases Nat.mod_two_eq_zero_or_one a with ha | ha <;> rcases Nat.mod_two_eq_zero_or_one b with hb | hb <;> rw [ha, hb]
  · simp
  · simp [Nat.xor_assoc]
  · simp only [if_true, Nat.one_ne_zero, if_false, Nat.zero_ne_one]
    rw [Nat.xor_assoc, Nat.xor_assoc, Nat.xor_comm (b / 2)]
  · simp only [if_true, if_neg Nat.zero_ne_one]
    rw [Nat.xor_assoc, Nat.xor_comm 2197175160, Nat.xor_assoc, Nat.xor_self, Nat.xor_zero]
theorem crcBits_xor (a b : Nat) : ∀ k, crcBits k (a ^^^ b) = crcBits k a ^^^ crcBits k b
  | 0 => rfl
  | k + 1 => by show crcBit (crcBits k (a ^^^ b)) = _; rw [crcBits_xor a b k, crcBit_xor]; rfl
theorem crcByte_xor (s t c d : Nat) : crcByte (s ^^^ t) (c ^^^ d) = crcByte s c ^^^ crcByte t d := by
  unfold crcByte
  rw [← crcBits_xor]
  congr 1
  rw [Nat.xor_assoc, Nat.xor_assoc, ← Nat.xor_assoc t c d, Nat.xor_comm t c, Nat.xor_assoc]
theorem crcBit_ne {s : Nat} (h : s < 4294967296) (h0 : s ≠ 0) : crcBit s ≠ 0 := by
  unfold crcBit
  split
  · intro e
    have h1 : s / 2 = 2197175160 := by
      have h2 : s / 2 ^^^ 2197175160 ^^^ 2197175160 = 0 ^^^ 2197175160 := by rw [e]
      rw [Nat.xor_assoc, Nat.xor_self, Nat.xor_zero, Nat.zero_xor] at h2
      exact h2
    omega
  · omega
theorem crcBits_ne {s : Nat} (h : s < 4294967296) (h0 : s ≠ 0) : ∀ k, crcBits k s ≠ 0
  | 0 => h0
  | k + 1 => crcBit_ne (crcBits_lt h k) (crcBits_ne h h0 k)
end Go.Dav
