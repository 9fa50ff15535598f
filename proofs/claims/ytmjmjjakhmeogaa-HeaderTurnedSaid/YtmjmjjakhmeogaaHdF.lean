/-
  Layer 12: the number that some bytes are, the highest first, walked.
-/
import Derived.Test.YtmjmjjakhmeogaaHdE
import Derived.Stop.BytesEq
namespace Go.Dav
set_option linter.unusedVariables false
set_option linter.unusedSimpArgs false
open Go Go.RowKit
def numOf (l : List UInt8) : Nat := l.foldl (fun x c => x * 256 + c.toNat) 0
theorem numOf_snoc (l : List UInt8) (c : UInt8) : numOf (l ++ [c]) = numOf l * 256 + c.toNat := by simp [numOf]
theorem numFrom_lt : ∀ (l : List UInt8) (x : Nat), l.foldl (fun x c => x * 256 + c.toNat) x < (x + 1) * 256 ^ l.length
  | [], x => by simp
  | c :: l, x => by
    have h := numFrom_lt l (x * 256 + c.toNat)
    have hc := c.toNat_lt
    rw [List.foldl_cons, List.length_cons, Nat.pow_succ]
    refine Nat.lt_of_lt_of_le h ?_
    rw [Nat.mul_comm (256 ^ l.length) 256, ← Nat.mul_assoc]
    exact Nat.mul_le_mul_right _ (by omega)
theorem numOf_lt (l : List UInt8) : numOf l < 256 ^ l.length := by
  have := numFrom_lt l 0
  simpa [numOf] using this
theorem bits_join8 {x c : Nat} (hx : x < 72057594037927936) (hc : c < 256) : bits .or .u64 ((x : Int) * 256) (c : Int) = ((x * 256 + c : Nat) : Int) := by
  rw [bits_join .u64 64 (by decide) (fun n h0 h1 => by rw [IntKind.wrap_u64]; omega) 8 ((x : Int) * 256) (c : Int) (by omega) (by omega) (by omega) (by omega) (by omega) (by omega)]
  omega
end Go.Dav
namespace Go.Proofs.Ytmjmjjakhmeogaa
set_option linter.unusedVariables false
set_option linter.unusedSimpArgs false
open Go.RowKit Go.Dav
attribute [local go_sem] Gives ite_val ite_val_true

set_option maxRecDepth 8000 in
set_option maxHeartbeats 4000000 in
theorem Try_number (a : Option Addr) (n c : Nat) (l : List UInt8) (w : World) (hl : BytesAt w a n c l) (hn : n ≤ 8) :
    Calls Try.prog 67 #[.slice a n c] w fun e w' => e = .returned (.int .u64 (numOf l : Int)) ∧ Below w.heap.size w w' := by
  have HL := Lib.hid hl
  have hn' : (n : Int) ≤ 8 := by omega
  clear hl
  go_enter Try.func67, Try.ntmps67
  go_wp2_with fail
  go_loopg [2, 7] n (fun g xx ix wr => ∃ k : Nat, k ≤ n ∧ g = n - k ∧ ix = .int .i64 k ∧ xx = .int .u64 (numOf (l.take k) : Int) ∧ w = wr)
  case atStart => exact ⟨0, Nat.zero_le _, rfl, rfl, rfl, rfl⟩
  case round =>
    obtain ⟨k, hk, rfl, rfl, rfl, rfl⟩ := hrel
    by_cases hkn : k < n
    · obtain ⟨y, hy⟩ : ∃ y, l[k]? = some y := ⟨_, List.getElem?_eq_getElem (by have := HL.out.hlen; omega)⟩
      obtain ⟨b, o, rfl, hb, hc⟩ := HL.out.hat k y hy
      have hkn' : (k : Int) < (n : Int) := by omega
      have hlt := numOf_lt (l.take k)
      rw [List.length_take, Nat.min_eq_left (by have := HL.out.hlen; omega)] at hlt
      have hp : 256 ^ k ≤ 256 ^ 7 := Nat.pow_le_pow_right (by omega) (by omega)
      obtain ⟨x, hx⟩ : ∃ x, numOf (l.take k) = x := ⟨_, rfl⟩
      rw [hx] at hlt ⊢
      have hxl : x < 72057594037927936 := Nat.lt_of_lt_of_le hlt hp
      have h1 : (x : Int) * 256 % 18446744073709551616 = (x : Int) * 256 := by omega
      have hyl := y.toNat_lt
      have h2 := bits_join8 hxl hyl
      have h3 : (y.toNat : Int) % 18446744073709551616 = (y.toNat : Int) := by omega
      obtain ⟨z, hz⟩ : ∃ z, x * 256 + y.toNat = z := ⟨_, rfl⟩
      rw [hz] at h2
      have HZ := Lib.hid hz
      have HX := Lib.hid hx
      have HY := Lib.hid hy
      clear hy hlt hp hxl hyl hz hx hk
      go_wp2_with fail
      go_roundg (n - (k + 1))
      case measure => omega
      case rel => exact ⟨k + 1, by omega, rfl, by go_num, by rw [List.take_add_one, HY.out, Option.toList_some, numOf_snoc, HX.out, HZ.out], rfl⟩
    · obtain rfl : k = n := by omega
      have hkn' : ¬ (k : Int) < (k : Int) := by omega
      have HE := Lib.hid (show l.take k = l from List.take_of_length_le (by have := HL.out.hlen; omega))
      clear hkn
      go_wp2
      go_ret
      exact ⟨by rw [HE.out]; rfl, Below.refl _ _⟩
end Go.Proofs.Ytmjmjjakhmeogaa
