/-
  The sum by which damage is seen: the reference's steps, walked: they come to the same sum.
-/
import Derived.Test.YtafigbomcgncnaaCrcA
namespace Go.Dav
set_option linter.unusedVariables false
set_option linter.unusedSimpArgs false
open Go Go.RowKit

/-- The reference's step: a sum takes in a bit. -/
def refBit (s x : Nat) : Nat := if s % 2 ≠ x then s / 2 ^^^ 2197175160 else s / 2
theorem refBit_lt {s x : Nat} (h : s < 4294967296) : refBit s x < 4294967296 := by
  unfold refBit
  split
  · exact xor_lt (by omega) (by decide)
  · omega
/-- The sum behind k bits of c. -/
def refBits (s c : Nat) : Nat → Nat
  | 0 => s
  | k + 1 => refBit (refBits s c k) (c / 2 ^ k % 2)
theorem refBits_lt {s c : Nat} (h : s < 4294967296) : ∀ k, refBits s c k < 4294967296
  | 0 => h
  | k + 1 => refBit_lt (refBits_lt h k)
theorem xor_mod2 (a b : Nat) : (a ^^^ b) % 2 = if a % 2 = b % 2 then 0 else 1 := by
  have h := Nat.xor_mod_two_eq_one (a := a) (b := b)
  split <;> omega
theorem xor_div2 (a b : Nat) : (a ^^^ b) / 2 = a / 2 ^^^ b / 2 := by
  apply Nat.eq_of_testBit_eq
  intro i
  rw [Nat.testBit_xor, Nat.testBit_div_two, Nat.testBit_div_two, Nat.testBit_div_two, Nat.testBit_xor]
theorem crcBits_ref (s c : Nat) : ∀ k, crcBits k (s ^^^ c) = refBits s c k ^^^ c / 2 ^ k
  | 0 => by simp [crcBits, refBits]
  | k + 1 => by
    show crcBit (crcBits k (s ^^^ c)) = refBit (refBits s c k) (c / 2 ^ k % 2) ^^^ c / 2 ^ (k + 1)
    rw [crcBits_ref s c k]
    generalize refBits s c k = a
    have hd : c / 2 ^ (k + 1) = c / 2 ^ k / 2 := by rw [Nat.pow_succ, Nat.div_div_eq_div_mul]
    rw [hd]
    generalize c / 2 ^ k = b
    unfold crcBit refBit
    rw [xor_mod2, xor_div2]
    by_cases h : a % 2 = b % 2
    · rw [if_pos h, if_neg (by decide), if_neg (by omega)]
    · rw [if_neg h, if_pos rfl, if_pos h, Nat.xor_assoc, Nat.xor_assoc, Nat.xor_comm (b / 2)]
theorem refBits_byte {s c : Nat} (hc : c < 256) : refBits s c 8 = crcByte s c := by
  unfold crcByte
  rw [crcBits_ref, show c / 2 ^ 8 = 0 by omega, Nat.xor_zero]
end Go.Dav
namespace Go.Proofs.Ytafigbomcgncnaa
set_option linter.unusedVariables false
set_option linter.unusedSimpArgs false
open Go.RowKit Go.Dav
attribute [local go_sem] Gives ite_val ite_val_true

set_option maxRecDepth 8000 in
set_option maxHeartbeats 4000000 in
theorem Try_refBit (s x : Nat) (hs : s < 4294967296) (w : World) :
    Calls Try.prog 58 #[.int .u32 (s : Int), .int .u32 (x : Int)] w fun e w' => e = .returned (.int .u32 (refBit s x : Int)) ∧ Below w.heap.size w w' := by
  have hp := bits_poly hs
  have HS := Lib.hid hs
  have ht : ((s : Int).tmod 2) = ((s % 2 : Nat) : Int) := by rw [Int.tmod_eq_emod_of_nonneg (by omega)]; omega
  have hq : (s : Int) / 2 % 4294967296 = ((s / 2 : Nat) : Int) := by omega
  rw [show (s : Int) / 2 = ((s / 2 : Nat) : Int) by omega] at hp
  obtain ⟨y, hy⟩ : ∃ y, s / 2 = y := ⟨_, rfl⟩
  obtain ⟨z, hz⟩ : ∃ z, s % 2 = z := ⟨_, rfl⟩
  have hv : refBit s x = if z ≠ x then y ^^^ 2197175160 else y := by unfold refBit; rw [hy, hz]
  have HV := Lib.hid hv
  rw [hy] at hp hq
  rw [hz] at ht
  clear hs hy hz hv
  by_cases h : z = x
  · have h' : ((z : Int) != (x : Int)) = false := by simp [h]
    have HH := Lib.hid h
    clear h
    go_enter Try.func58, Try.ntmps58
    go_wp2
    go_ret
    exact ⟨by rw [HV.out, if_neg (fun k => k HH.out)]; exact congrArg (fun z => Ending.returned (Value.int .u32 z)) hq, Below.refl _ _⟩
  · have h' : ((z : Int) != (x : Int)) = true := by simp; omega
    have HH := Lib.hid h
    clear h
    go_enter Try.func58, Try.ntmps58
    go_wp2
    go_ret
    exact ⟨by rw [HV.out, if_pos HH.out]; rfl, Below.refl _ _⟩
set_option maxRecDepth 8000 in
set_option maxHeartbeats 4000000 in
theorem Try_refTake (s : Nat) (a : Option Addr) (n c : Nat) (l : List UInt8) (hs : s < 4294967296) (w : World) (hl : BytesAt w a n c l) :
    Calls Try.prog 49 #[.int .u32 (s : Int), .slice a n c] w fun e w' => e = .returned (.int .u32 (crcOf s l : Int)) ∧ Below w.heap.size w w' := by
  have HL := Lib.hid hl
  have hnf := hl.hfew
  have hnf' : (n : Int) ≤ 140737488355328 := by omega
  have HS := Lib.hid hs
  clear hl hs hnf
  go_enter Try.func49, Try.ntmps49
  go_wp2_with fail
  go_loopg [0, 5] n (fun g sx ix wr => ∃ k : Nat, k ≤ n ∧ g = n - k ∧ ix = .int .i64 k ∧ sx = .int .u32 (crcOf s (l.take k) : Int) ∧ Below w.heap.size w wr)
  case atStart => exact ⟨0, Nat.zero_le _, rfl, rfl, rfl, Below.refl _ _⟩
  case round =>
    obtain ⟨k, hk, rfl, rfl, rfl, hbl⟩ := hrel
    have HBL := Lib.hid hbl
    have hlt := crcOf_lt HS.out (l.take k)
    obtain ⟨x, hx1⟩ : ∃ x, crcOf s (l.take k) = x := ⟨_, rfl⟩
    have HX := Lib.hid hx1
    rw [hx1] at hlt ⊢
    have HLT := Lib.hid hlt
    clear hbl hlt hx1
    by_cases hkn : k < n
    · obtain ⟨y, hy⟩ : ∃ y, l[k]? = some y := ⟨_, List.getElem?_eq_getElem (by have := HL.out.hlen; omega)⟩
      obtain ⟨b, o, rfl, hb, hc⟩ := HL.out.hat k y hy
      have hc' := (HBL.out.cell (p := ⟨b, o + k, none⟩) hb).trans hc
      have hkn' : (k : Int) < (n : Int) := by omega
      have HY := Lib.hid hy
      clear hy hc hb
      go_wp2_with fail
      go_loopg [0, 6, 7] 8 (fun g sx cx jx w2 => ∃ j : Nat, j ≤ 8 ∧ g = 8 - j ∧ jx = .int .i64 j ∧ sx = .int .u32 (refBits x y.toNat j : Int) ∧ cx = .int .u32 ((y.toNat / 2 ^ j : Nat) : Int) ∧ Below w.heap.size w w2)
      case atStart => exact ⟨0, by omega, rfl, rfl, rfl, by have := y.toNat_lt; simp; omega, HBL.out⟩
      case round =>
        obtain ⟨j, hj, rfl, rfl, rfl, rfl, hb2⟩ := hrel
        have HB2 := Lib.hid hb2
        have hlt := refBits_lt (c := y.toNat) HLT.out j
        have HRL := Lib.hid hlt
        clear hb2 hlt
        by_cases hj8 : j < 8
        · have hj8' : (j : Int) < 8 := by omega
          obtain ⟨u, hu⟩ : ∃ u, refBits x y.toNat j = u := ⟨_, rfl⟩
          obtain ⟨v, hv⟩ : ∃ v, y.toNat / 2 ^ j = v := ⟨_, rfl⟩
          have hvl : v < 256 := by rw [← hv]; exact Nat.lt_of_le_of_lt (Nat.div_le_self _ _) y.toNat_lt
          have h1 : (v : Int).tmod 2 = ((v % 2 : Nat) : Int) := by rw [Int.tmod_eq_emod_of_nonneg (by omega)]; omega
          have h2 : (v : Int) / 2 % 4294967296 = ((v / 2 : Nat) : Int) := by omega
          have HU := Lib.hid hu
          have HV := Lib.hid hv
          rw [hu, hv]
          clear hu hv hvl hj
          go_wp2_with fail
          have hA := Try_refBit u (v % 2) (by rw [← HU.out]; exact HRL.out) wr
          rw [show ((v % 2 : Nat) : Int) = (v : Int) % 2 by omega] at hA
          with_reducible refine hA.mono ?_
          rintro e w' ⟨rfl, hb⟩
          go_wp2_with fail
          go_roundg (8 - (j + 1))
          case measure => omega
          case rel => exact ⟨j + 1, by omega, rfl, by go_num, by rw [← HU.out, ← HV.out]; rfl, by rw [Nat.pow_succ, ← Nat.div_div_eq_div_mul, HV.out]; first | rfl | (congr 1; omega), HB2.out.trans (hb.mono HB2.out.size)⟩
        · obtain rfl : j = 8 := by omega
          clear hj8 hj
          go_wp2_with fail
          go_roundg (n - (k + 1))
          case measure => omega
          case rel => exact ⟨k + 1, by omega, rfl, by go_num, by rw [List.take_add_one, HY.out, Option.toList_some, crcOf_snoc, HX.out, refBits_byte y.toNat_lt], HB2.out⟩
    · obtain rfl : k = n := by omega
      have hkn' : ¬ (k : Int) < (k : Int) := by omega
      have hle : l.take k = l := List.take_of_length_le (by have := HL.out.hlen; omega)
      have HE := Lib.hid (show x = crcOf s l by rw [← HX.out, hle])
      clear hle hkn
      go_wp2
      go_ret
      exact ⟨by rw [HE.out]; rfl, HBL.out⟩
set_option maxRecDepth 8000 in
theorem Try_refMore (s : Nat) (a : Option Addr) (n c : Nat) (l : List UInt8) (hs : s < 4294967296) (w : World) (hl : BytesAt w a n c l) :
    Calls Try.prog 38 #[.int .u32 (s : Int), .slice a n c] w fun e w' => e = .returned (.int .u32 ((4294967295 - crcOf (4294967295 - s) l : Nat) : Int)) ∧ Below w.heap.size w w' := by
  have h1 : (4294967295 - (s : Int)) % 4294967296 = ((4294967295 - s : Nat) : Int) := by omega
  have hA := Try_refTake (4294967295 - s) a n c l (by omega) w hl
  have hlt := crcOf_lt (show 4294967295 - s < 4294967296 by omega) l
  obtain ⟨g, hg⟩ : ∃ g, 4294967295 - s = g := ⟨_, rfl⟩
  rw [hg] at h1 hA hlt ⊢
  obtain ⟨x, hx⟩ : ∃ x, crcOf g l = x := ⟨_, rfl⟩
  rw [hx] at hA hlt ⊢
  have h2 : (4294967295 - (x : Int)) % 4294967296 = ((4294967295 - x : Nat) : Int) := by omega
  obtain ⟨z, hz⟩ : ∃ z, 4294967295 - x = z := ⟨_, rfl⟩
  rw [hz] at h2 ⊢
  have HA := Lib.hid hA
  clear hA hl hs hlt hg hx hz
  go_enter Try.func38, Try.ntmps38
  go_wp2_with fail
  refine HA.out.mono ?_; rintro e w' ⟨rfl, hb⟩
  go_wp2
  go_ret
  exact ⟨congrArg (fun z => Ending.returned (Value.int .u32 z)) h2, hb⟩
end Go.Proofs.Ytafigbomcgncnaa
