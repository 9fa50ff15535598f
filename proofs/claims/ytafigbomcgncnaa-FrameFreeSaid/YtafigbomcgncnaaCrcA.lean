/-
  The sum by which damage is seen, in plain: bit by bit; the program's own steps, walked.
-/
import Derived.Test.YtafigbomcgncnaaFilC
import Derived.Laws.BitsLemmas
import Derived.Laws.EntriesVeiled
import Derived.Deep.DeepCutAuto
namespace Go.Dav
set_option linter.unusedVariables false
set_option linter.unusedSimpArgs false
open Go Go.RowKit

def crcBit (s : Nat) : Nat := if s % 2 = 1 then s / 2 ^^^ 2197175160 else s / 2
def crcBits : Nat → Nat → Nat
  | 0, s => s
  | k + 1, s => crcBit (crcBits k s)
def crcByte (s c : Nat) : Nat := crcBits 8 (s ^^^ c)
def crcOf (s : Nat) (l : List UInt8) : Nat := l.foldl (fun s c => crcByte s c.toNat) s
theorem crcOf_snoc (s : Nat) (l : List UInt8) (c : UInt8) : crcOf s (l ++ [c]) = crcByte (crcOf s l) c.toNat := by simp [crcOf]
theorem crcOf_append (s : Nat) (l m : List UInt8) : crcOf s (l ++ m) = crcOf (crcOf s l) m := by simp [crcOf]
theorem xor_lt {a b : Nat} (ha : a < 4294967296) (hb : b < 4294967296) : a ^^^ b < 4294967296 := Nat.xor_lt_two_pow (n := 32) ha hb
theorem crcBit_lt {s : Nat} (h : s < 4294967296) : crcBit s < 4294967296 := by
  unfold crcBit
  split
  · exact xor_lt (by omega) (by decide)
  · omega
theorem crcBits_lt {s : Nat} (h : s < 4294967296) : ∀ k, crcBits k s < 4294967296
  | 0 => h
  | k + 1 => crcBit_lt (crcBits_lt h k)
theorem crcByte_lt {s c : Nat} (h : s < 4294967296) (hc : c < 256) : crcByte s c < 4294967296 := crcBits_lt (xor_lt h (by omega)) 8
theorem crcOf_lt {s : Nat} (h : s < 4294967296) : ∀ l : List UInt8, crcOf s l < 4294967296 := by
  intro l
  induction l generalizing s with
  | nil => exact h
  | cons c l ih => exact ih (crcByte_lt h c.toNat_lt)
theorem bits_xor_nat (k : IntKind) (j : Nat) (hj : j ≤ k.bits) (hk : ∀ n : Int, 0 ≤ n → n < 2 ^ j → k.wrap n = n) (a b : Nat) (ha : a < 2 ^ j) (hb : b < 2 ^ j) : bits .xor k a b = ((a ^^^ b : Nat) : Int) := by
  have hp : 2 ^ j ≤ 2 ^ k.bits := Nat.pow_le_pow_right (by decide) hj
  have ha' : a % 2 ^ k.bits = a := Nat.mod_eq_of_lt (Nat.lt_of_lt_of_le ha hp)
  have hb' : b % 2 ^ k.bits = b := Nat.mod_eq_of_lt (Nat.lt_of_lt_of_le hb hp)
  simp only [bits, BitVec.ofInt_natCast, BitVec.toNat_xor, BitVec.toNat_ofNat, ha', hb']
  exact hk _ (Int.natCast_nonneg _) (by exact_mod_cast Nat.xor_lt_two_pow ha hb)
theorem bits_xor_u32 {a b : Nat} (ha : a < 4294967296) (hb : b < 4294967296) : bits .xor .u32 (a : Int) (b : Int) = ((a ^^^ b : Nat) : Int) :=
  bits_xor_nat .u32 32 (by decide) (fun n h0 h1 => by rw [IntKind.wrap_u32]; omega) a b ha hb
theorem bits_and_one {a : Nat} (ha : a < 4294967296) : bits .and .u32 (a : Int) 1 = ((a % 2 : Nat) : Int) := by
  have h := (bits_nat .u32 32 (by decide) (fun n h0 h1 => by rw [IntKind.wrap_u32]; omega) a 1 ha (by decide)).1
  rw [Nat.and_one_is_mod] at h
  exact h
theorem bits_poly {a : Nat} (ha : a < 4294967296) : bits .xor .u32 ((a : Int) / 2) 2197175160 = ((a / 2 ^^^ 2197175160 : Nat) : Int) := by
  have h := bits_xor_u32 (a := a / 2) (b := 2197175160) (by omega) (by decide)
  rw [show ((a / 2 : Nat) : Int) = (a : Int) / 2 by omega] at h
  exact h
theorem xor_ones {s : Nat} (h : s < 4294967296) : 4294967295 ^^^ s = 4294967295 - s := by
  have h1 : (BitVec.allOnes 32 ^^^ BitVec.ofNat 32 s).toNat = 4294967295 ^^^ s := by
    rw [BitVec.toNat_xor, BitVec.toNat_allOnes, BitVec.toNat_ofNat, Nat.mod_eq_of_lt (show s < 2 ^ 32 from h)]
  rw [← h1, BitVec.allOnes_xor, BitVec.toNat_not, BitVec.toNat_ofNat, Nat.mod_eq_of_lt (show s < 2 ^ 32 from h)]
theorem bits_ones {s : Nat} (h : s < 4294967296) : bits .xor .u32 IntKind.u32.max (s : Int) = ((4294967295 - s : Nat) : Int) := by
  rw [show IntKind.u32.max = ((4294967295 : Nat) : Int) from rfl, bits_xor_u32 (by decide) h, xor_ones h]
end Go.Dav
namespace Go.Proofs.Ytafigbomcgncnaa
set_option linter.unusedVariables false
set_option linter.unusedSimpArgs false
open Go.RowKit Go.Dav
attribute [local go_sem] Gives ite_val ite_val_true

set_option maxRecDepth 8000 in
set_option maxHeartbeats 4000000 in
theorem Try_takes (s c p : Nat) (hs : s < 4294967296) (hc : c < 256) (w : World) (hp : Blk w p [.int .u32 (s : Int)] 97) :
    Calls Try.prog 57 #[.pointer (some ⟨p, 0, none⟩), .int .u8 (c : Int)] w fun e w' => e = .returned (.tuple #[]) ∧ Blk w' p [.int .u32 (crcByte s c : Int)] 97 ∧ Only p w w' := by
  have q := hp.cells
  have m := hp.marks
  have l := hp.lt
  have hx := bits_xor_u32 hs (show c < 4294967296 by omega)
  have hxl := xor_lt hs (show c < 4294967296 by omega)
  have HP := Lib.hid hp
  have HXL := Lib.hid hxl
  clear hp hxl
  go_enter Try.func57, Try.ntmps57
  go_wp2_with fail
  go_loopg [16] 8 (fun g ix wr => ∃ k : Nat, k ≤ 8 ∧ g = 8 - k ∧ ix = .int .i64 k ∧ Blk wr p [.int .u32 (crcBits k (s ^^^ c) : Int)] 97 ∧ Only p w wr)
  case atStart => exact ⟨0, by omega, rfl, rfl, HP.out.set 0 _, (by repeat (first | (with_reducible exact Only.refl _ _) | (with_reducible refine Only.set ?_ _ _) | (with_reducible refine Only.alloc ?_ _) | (with_reducible refine Only.drew ?_)))⟩
  case round =>
    obtain ⟨k, hk, rfl, rfl, hb, ho⟩ := hrel
    have hlt := crcBits_lt HXL.out k
    obtain ⟨x, hx1⟩ : ∃ x, crcBits k (s ^^^ c) = x := ⟨_, rfl⟩
    rw [hx1] at hb hlt
    have HX1 := Lib.hid hx1
    have qk := hb.cells
    have mk := hb.marks
    have lk := hb.lt
    have HB := Lib.hid hb
    have HO := Lib.hid ho
    clear hb ho hx1 q m l hx
    by_cases h8 : k < 8
    · have h8' : (k : Int) < 8 := by omega
      have ha := bits_and_one hlt
      have hp := bits_poly hlt
      by_cases h1 : x % 2 = 1
      · have hv : crcBits (k + 1) (s ^^^ c) = x / 2 ^^^ 2197175160 := by
          show crcBit (crcBits k (s ^^^ c)) = _
          rw [HX1.out]; unfold crcBit; rw [if_pos h1]
        have HV := Lib.hid hv
        have h1' : ((x : Int) % 2 == 1) = true := by simp; omega
        rw [h1] at ha
        clear hv
        go_wp2_with fail
        go_roundg (8 - (k + 1))
        case measure => omega
        case rel => exact ⟨k + 1, by omega, rfl, by go_num, by rw [HV.out]; exact (HB.out.set 0 _).set 0 _, (HO.out.set 0 _).set 0 _⟩
      · have hv : crcBits (k + 1) (s ^^^ c) = x / 2 := by
          show crcBit (crcBits k (s ^^^ c)) = _
          rw [HX1.out]; unfold crcBit; rw [if_neg h1]
        have HV := Lib.hid hv
        rw [show x % 2 = 0 by omega] at ha
        clear hv
        go_wp2_with fail
        go_roundg (8 - (k + 1))
        case measure => omega
        case rel => exact ⟨k + 1, by omega, rfl, by go_num, by rw [HV.out, Int.natCast_ediv]; exact HB.out.set 0 _, HO.out.set 0 _⟩
    · obtain rfl : k = 8 := by omega
      clear h8
      go_wp2
      go_end0
      exact ⟨rfl, by unfold crcByte; rw [HX1.out]; exact HB.out, HO.out⟩

theorem Try_enter57 (args : Array Value) (W : World) : (callFunc 57 args).run Try.prog W = .ok (Next.enter 57 args) W := by kernel_rfl
set_option maxRecDepth 8000 in
set_option maxHeartbeats 4000000 in
theorem Try_crcMore (s : Nat) (a : Option Addr) (n c : Nat) (l : List UInt8) (hs : s < 4294967296) (w : World) (hl : BytesAt w a n c l) :
    Calls Try.prog 45 #[.int .u32 (s : Int), .slice a n c] w fun e w' => e = .returned (.int .u32 ((4294967295 - crcOf (4294967295 - s) l : Nat) : Int)) ∧ Below w.heap.size w w' := by
  have HL := Lib.hid hl
  have hnf := hl.hfew
  have HS := Lib.hid hs
  have hnf' : (n : Int) ≤ 140737488355328 := by omega
  obtain ⟨g0, hg0⟩ : ∃ g0, 4294967295 - s = g0 := ⟨_, rfl⟩
  have hgl : g0 < 4294967296 := by omega
  have hx := bits_ones hs
  rw [hg0] at hx
  have HG := Lib.hid hg0
  have HGL := Lib.hid hgl
  have HB0 := Lib.hid (Blk.new w [.int .u32 (g0 : Int)] 97)
  clear hg0 hgl
  have hen := Try_enter57
  clear hl hs hnf
  go_enter Try.func45, Try.ntmps45
  go_wp2_with fail
  go_loopg [16] n (fun g ix wr => ∃ k : Nat, k ≤ n ∧ g = n - k ∧ ix = .int .i64 k ∧ Blk wr w.heap.size [.int .u32 (crcOf g0 (l.take k) : Int)] 97 ∧ Below w.heap.size w wr)
  case atStart => exact ⟨0, Nat.zero_le _, rfl, rfl, HB0.out, (by repeat (first | (with_reducible exact Below.refl _ _) | (with_reducible exact Below.refl _ _) | (with_reducible refine Below.setCell ?_ (by first | omega | (simp; done) | (simp; omega)) _) | (with_reducible refine Below.alloc ?_ (by first | omega | (simp; done) | (simp; omega)) _) | (with_reducible refine Below.drew ?_) | (with_reducible refine below_drewN ?_ _)))⟩
  case round =>
    obtain ⟨k, hk, rfl, rfl, hb, hbl⟩ := hrel
    have HB := Lib.hid hb
    have HBL := Lib.hid hbl
    have hlt := crcOf_lt HGL.out (l.take k)
    have HLT := Lib.hid hlt
    obtain ⟨x, hx1⟩ : ∃ x, crcOf g0 (l.take k) = x := ⟨_, rfl⟩
    have HX := Lib.hid hx1
    rw [hx1] at hb
    have qk := hb.cells
    have lk := hb.lt
    clear hb hbl hlt hx1 hx
    by_cases hkn : k < n
    · obtain ⟨y, hy⟩ : ∃ y, l[k]? = some y := ⟨_, List.getElem?_eq_getElem (by have := HL.out.hlen; omega)⟩
      obtain ⟨b, o, rfl, hb, hc⟩ := HL.out.hat k y hy
      have hc' := (HBL.out.cell (p := ⟨b, o + k, none⟩) hb).trans hc
      have hkn' : (k : Int) < (n : Int) := by omega
      have HY := Lib.hid hy
      clear hy hc hb
      go_wp2_with fail
      have hA := Try_takes (crcOf g0 (l.take k)) y.toNat w.heap.size HLT.out y.toNat_lt wr HB.out
      with_reducible refine hA.mono ?_
      rintro e w' ⟨rfl, hb, ho⟩
      go_wp2_with fail
      go_roundg (n - (k + 1))
      case measure => omega
      case rel => exact ⟨k + 1, by omega, rfl, by go_num, by rw [List.take_add_one, HY.out, Option.toList_some, crcOf_snoc]; exact hb, below_only HBL.out ho HBL.out.size (Nat.le_refl _)⟩
    · obtain rfl : k = n := by omega
      have hkn' : ¬ (k : Int) < (k : Int) := by omega
      have hx2 := bits_ones HLT.out
      rw [HX.out] at hx2
      have hle : l.take k = l := List.take_of_length_le (by have := HL.out.hlen; omega)
      have HE := Lib.hid (show 4294967295 - x = 4294967295 - crcOf g0 l by rw [← HX.out, hle])
      obtain ⟨z, hz⟩ : ∃ z, 4294967295 - x = z := ⟨_, rfl⟩
      rw [hz] at hx2
      have HZ := Lib.hid hz
      clear hz hle hkn
      go_wp2
      go_ret
      exact ⟨by rw [HG.out]; first | rfl | (rw [← HE.out, HZ.out]; rfl), HBL.out⟩
set_option maxRecDepth 8000 in
theorem Try_crcSum (a : Option Addr) (n c : Nat) (l : List UInt8) (w : World) (hl : BytesAt w a n c l) :
    Calls Try.prog 46 #[.slice a n c] w fun e w' => e = .returned (.int .u32 ((4294967295 - crcOf 4294967295 l : Nat) : Int)) ∧ Below w.heap.size w w' := by
  have hA : Calls Try.prog 45 #[.int .u32 0, .slice a n c] w _ := Try_crcMore 0 a n c l (by omega) w hl
  have HA := Lib.hid hA
  clear hA hl
  go_enter Try.func46, Try.ntmps46
  go_wp2_with fail
  refine HA.out.mono ?_; rintro e w' ⟨rfl, hb⟩
  go_wp2
  go_ret
  exact ⟨rfl, hb⟩
end Go.Proofs.Ytafigbomcgncnaa
