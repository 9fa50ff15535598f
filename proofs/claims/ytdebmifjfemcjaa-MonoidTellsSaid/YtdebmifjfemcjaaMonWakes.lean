/-
  The law's own look whether the layer works at all: it does.
-/
import Derived.Test.YtdebmifjfemcjaaMonTell2
import Derived.Test.YtdebmifjfemcjaaMonJoin
namespace Go.Proofs.Ytdebmifjfemcjaa
set_option linter.unusedVariables false
set_option linter.unusedSimpArgs false
open Go.RowKit Go.Dav
attribute [local go_sem] Gives ite_val ite_val_true

set_option maxRecDepth 8000 in
set_option maxHeartbeats 8000000 in
theorem Try_wakes (w : World) : Calls Try.prog 8 #[] w fun e w' => e = .returned (.bool true) ∧ Below w.heap.size w w' := by
  go_enter Try.func8, Try.ntmps8
  go_wp2_with fail
  refine (Try_row _ _ (by unfold I64; omega)).mono ?_; rintro e w1 ⟨rfl, hb1⟩
  have s1 := hb1.size
  go_wp2_with fail
  refine (Try_One_no _ _ _ _ rfl rfl).mono ?_; rintro e w2 ⟨rfl, hb2⟩
  have s2 := hb2.size
  go_wp2_with fail
  refine (Try_row _ _ (by unfold I64; omega)).mono ?_; rintro e w3 ⟨rfl, hb3⟩
  have s3 := hb3.size
  go_wp2_with fail
  have r1 : TryRedsAt (w3.alloc (.cells #[.int .i64 1, .int .i64 1, .int .i64 (hi (-1)), .int .u64 (lo (-1)), .int .i64 (-1), .int .i64 (-1), .int .i64 1, .int .i64 0, .int .i64 (hi 0), .int .u64 (lo 0), .int .i64 0, .int .i64 0,
      .int .i64 1, .int .i64 1, .int .i64 (hi 3), .int .u64 (lo 3), .int .i64 3, .int .i64 3] 24)) w3.heap.size 0 [⟨1, 1, -1, -1, -1⟩, ⟨1, 0, 0, 0, 0⟩, ⟨1, 1, 3, 3, 3⟩] :=
    Try_RedsAt_flat (Blk.new _ [_, _, _, _, _, _, _, _, _, _, _, _, _, _, _, _, _, _] _) rfl
  have j1 : joined [⟨1, 1, -1, -1, -1⟩, ⟨1, 0, 0, 0, 0⟩, ⟨1, 1, 3, 3, 3⟩] = (⟨3, 2, 2, -1, 3⟩, 0) := by kernel_rfl
  have R1 := Lib.hid r1; clear r1
  have J1 := Lib.hid j1; clear j1
  (with_reducible refine (Try_Join' w3.heap.size 0 3 3 [⟨1, 1, -1, -1, -1⟩, ⟨1, 0, 0, 0, 0⟩, ⟨1, 1, 3, 3, 3⟩] _ rfl (by omega) (by simp) R1.out (by simp [Red.fits, I64])).mono ?_)
  rintro e w4 ⟨rfl, hb4⟩
  have s4 := hb4.size
  rw [J1.out]
  simp only [Red.cells]
  go_wp2_with fail
  have j2 : joined [⟨3, 2, 2, -1, 3⟩, ⟨1073741824, 0, 0, 0, 0⟩] = (Red.zero, 5) := by kernel_rfl
  have J2 := Lib.hid j2; clear j2
  (with_reducible refine (Try_Join' (w4.heap.size + 1) 0 2 2 [⟨3, 2, 2, -1, 3⟩, ⟨1073741824, 0, 0, 0, 0⟩] _ rfl (by omega) ?b2 ?r2 (by simp [Red.fits, I64])).mono ?_)
  case b2 => simp
  case r2 => exact Try_RedsAt_flat (Blk.new' _ [_, _, _, _, _, _, _, _, _, _, _, _] _ (by simp)) (by simp [Red.cells, hi_zero, lo_zero])
  rintro e w5 ⟨rfl, hb5⟩
  have s5 := hb5.size
  simp at s5
  obtain ⟨hc5, hf5, _⟩ := after hb5
  have lt_w5_0_0 : w4.heap.size < w5.heap.size := by omega
  have lt_w5_0_1 : w4.heap.size < w5.heap.size + 1 := by omega
  rw [J2.out]
  simp only [Red.cells, Red.zero]
  go_wp2_with fail
  have t1 : fitsB 2 = true := by decide +kernel
  have T1 := Lib.hid t1; clear t1
  (with_reducible refine (Try_Tell_sum_yes ⟨3, 2, 2, -1, 3⟩ _ (by decide +kernel) (by simp [I64]) (by simp [I64]) T1.out).mono ?_)
  rintro e w6 ⟨rfl, hb6⟩
  have s6 := hb6.size
  simp at s6
  obtain ⟨hc6, hf6, _⟩ := after hb6
  have lt_w6_0_0 : w4.heap.size < w6.heap.size := by omega
  have lt_w6_0_1 : w4.heap.size < w6.heap.size + 1 := by omega
  have lt_w6_1_0 : w5.heap.size < w6.heap.size := by omega
  have lt_w6_1_1 : w5.heap.size < w6.heap.size + 1 := by omega
  go_wp2_with fail
  refine (Try_row _ _ (by unfold I64; omega)).mono ?_; rintro e w7 ⟨rfl, hb7⟩
  have s7 := hb7.size
  simp at s7
  obtain ⟨hc7, hf7, _⟩ := after hb7
  have lt_w7_0_0 : w4.heap.size < w7.heap.size := by omega
  have lt_w7_0_1 : w4.heap.size < w7.heap.size + 1 := by omega
  have lt_w7_1_0 : w5.heap.size < w7.heap.size := by omega
  have lt_w7_1_1 : w5.heap.size < w7.heap.size + 1 := by omega
  have lt_w7_2_0 : w6.heap.size < w7.heap.size := by omega
  have lt_w7_2_1 : w6.heap.size < w7.heap.size + 1 := by omega
  go_wp2_with fail
  refine (Try_row _ _ (by unfold I64; omega)).mono ?_; rintro e w8 ⟨rfl, hb8⟩
  have s8 := hb8.size
  obtain ⟨hc8, hf8, _⟩ := after hb8
  have lt_w8_0_0 : w4.heap.size < w8.heap.size := by omega
  have lt_w8_0_1 : w4.heap.size < w8.heap.size + 1 := by omega
  have lt_w8_1_0 : w5.heap.size < w8.heap.size := by omega
  have lt_w8_1_1 : w5.heap.size < w8.heap.size + 1 := by omega
  have lt_w8_2_0 : w6.heap.size < w8.heap.size := by omega
  have lt_w8_2_1 : w6.heap.size < w8.heap.size + 1 := by omega
  go_wp2_with fail
  have j3 : joined [⟨1, 1, 9223372036854775807, 9223372036854775807, 9223372036854775807⟩, ⟨1, 1, 9223372036854775807, 9223372036854775807, 9223372036854775807⟩] = (⟨2, 2, 18446744073709551614, 9223372036854775807, 9223372036854775807⟩, 0) := by kernel_rfl
  have J3 := Lib.hid j3; clear j3
  (with_reducible refine (Try_Join' w8.heap.size 0 2 2 [⟨1, 1, 9223372036854775807, 9223372036854775807, 9223372036854775807⟩, ⟨1, 1, 9223372036854775807, 9223372036854775807, 9223372036854775807⟩] _ rfl (by omega) ?b3 ?r3 (by simp [Red.fits, I64])).mono ?_)
  case b3 => simp
  case r3 => exact Try_RedsAt_flat (Blk.new _ [_, _, _, _, _, _, _, _, _, _, _, _] _) rfl
  rintro e w9 ⟨rfl, hb9⟩
  have s9 := hb9.size
  simp at s9
  obtain ⟨hc9, hf9, _⟩ := after hb9
  have lt_w9_0_0 : w4.heap.size < w9.heap.size := by omega
  have lt_w9_0_1 : w4.heap.size < w9.heap.size + 1 := by omega
  have lt_w9_1_0 : w5.heap.size < w9.heap.size := by omega
  have lt_w9_1_1 : w5.heap.size < w9.heap.size + 1 := by omega
  have lt_w9_2_0 : w6.heap.size < w9.heap.size := by omega
  have lt_w9_2_1 : w6.heap.size < w9.heap.size + 1 := by omega
  rw [J3.out]
  simp only [Red.cells]
  go_wp2_with fail
  have t2 : fitsB 18446744073709551614 = false := by decide +kernel
  have T2 := Lib.hid t2; clear t2
  (with_reducible refine (Try_Tell_sum_no ⟨2, 2, 18446744073709551614, 9223372036854775807, 9223372036854775807⟩ _ (by decide +kernel) (by simp [I64]) (by simp [I64]) T2.out).mono ?_)
  rintro e w10 ⟨rfl, hb10⟩
  have s10 := hb10.size
  simp at s10
  obtain ⟨hc10, hf10, _⟩ := after hb10
  have lt_w10_0_0 : w4.heap.size < w10.heap.size := by omega
  have lt_w10_0_1 : w4.heap.size < w10.heap.size + 1 := by omega
  have lt_w10_1_0 : w5.heap.size < w10.heap.size := by omega
  have lt_w10_1_1 : w5.heap.size < w10.heap.size + 1 := by omega
  have lt_w10_2_0 : w6.heap.size < w10.heap.size := by omega
  have lt_w10_2_1 : w6.heap.size < w10.heap.size + 1 := by omega
  have lt_w10_3_0 : w9.heap.size < w10.heap.size := by omega
  have lt_w10_3_1 : w9.heap.size < w10.heap.size + 1 := by omega
  go_wp2_with fail
  have ch := Try_mCheck ⟨1, 1, 5, 4, 5⟩
  simp only [show hi 5 = 0 from by decide +kernel, show lo 5 = 5 from by decide +kernel, show redE (Red.ok ⟨1, 1, 5, 4, 5⟩) = 230 from by decide +kernel] at ch
  (with_reducible refine (ch _ (by simp [I64]) (by simp [I64])).mono ?_)
  clear ch
  rintro e w11 ⟨rfl, hb11⟩
  have s11 := hb11.size
  simp at s11
  obtain ⟨hc11, hf11, _⟩ := after hb11
  have lt_w11_0_0 : w4.heap.size < w11.heap.size := by omega
  have lt_w11_0_1 : w4.heap.size < w11.heap.size + 1 := by omega
  have lt_w11_1_0 : w5.heap.size < w11.heap.size := by omega
  have lt_w11_1_1 : w5.heap.size < w11.heap.size + 1 := by omega
  have lt_w11_2_0 : w6.heap.size < w11.heap.size := by omega
  have lt_w11_2_1 : w6.heap.size < w11.heap.size + 1 := by omega
  have lt_w11_3_0 : w9.heap.size < w11.heap.size := by omega
  have lt_w11_3_1 : w9.heap.size < w11.heap.size + 1 := by omega
  have lt_w11_4_0 : w10.heap.size < w11.heap.size := by omega
  have lt_w11_4_1 : w10.heap.size < w11.heap.size + 1 := by omega
  go_wp2_with fail
  have kd := Try_Kind ⟨#[95, 115, 117, 109]⟩
  simp only [show TryKindOf (ByteArray.toList ⟨#[95, 115, 117, 109]⟩) = (2, 0) from by decide +kernel] at kd
  (with_reducible refine (kd _).mono ?_)
  clear kd
  rintro e w12 ⟨rfl, hb12⟩
  have s12 := hb12.size
  obtain ⟨hc12, hf12, _⟩ := after hb12
  have lt_w12_0_0 : w4.heap.size < w12.heap.size := by omega
  have lt_w12_0_1 : w4.heap.size < w12.heap.size + 1 := by omega
  have lt_w12_1_0 : w5.heap.size < w12.heap.size := by omega
  have lt_w12_1_1 : w5.heap.size < w12.heap.size + 1 := by omega
  have lt_w12_2_0 : w6.heap.size < w12.heap.size := by omega
  have lt_w12_2_1 : w6.heap.size < w12.heap.size + 1 := by omega
  have lt_w12_3_0 : w9.heap.size < w12.heap.size := by omega
  have lt_w12_3_1 : w9.heap.size < w12.heap.size + 1 := by omega
  have lt_w12_4_0 : w10.heap.size < w12.heap.size := by omega
  have lt_w12_4_1 : w10.heap.size < w12.heap.size + 1 := by omega
  have sg2 : sg 2 = 2 := by decide +kernel
  have hi2 : hi 2 = 0 := by decide +kernel
  have lo2 : lo 2 = 2 := by decide +kernel
  go_wp2_with fail
  go_ret
  refine ⟨rfl, ?_⟩
  simp only [World.size_alloc, World.size_setCell, World.size_drew] at s1 s2 s3 s4 s5 s6 s7 s8 s9 s10 s11 s12
  exact (by repeat (first | (with_reducible exact Below.refl _ _) | (with_reducible exact Below.refl _ _) | (with_reducible refine Below.setCell ?_ (by first | omega | (simp; done) | (simp; omega)) _) | (with_reducible refine Below.alloc ?_ (by first | omega | (simp; done) | (simp; omega)) _) | (with_reducible refine Below.drew ?_) | (with_reducible refine below_drewN ?_ _) | (with_reducible refine Below.trans ?_ (hb12.mono (by first | omega | (simp; done) | (simp; omega)))) | (with_reducible refine Below.trans ?_ (hb11.mono (by first | omega | (simp; done) | (simp; omega)))) | (with_reducible refine Below.trans ?_ (hb10.mono (by first | omega | (simp; done) | (simp; omega)))) | (with_reducible refine Below.trans ?_ (hb9.mono (by first | omega | (simp; done) | (simp; omega)))) | (with_reducible refine Below.trans ?_ (hb8.mono (by first | omega | (simp; done) | (simp; omega)))) | (with_reducible refine Below.trans ?_ (hb7.mono (by first | omega | (simp; done) | (simp; omega)))) | (with_reducible refine Below.trans ?_ (hb6.mono (by first | omega | (simp; done) | (simp; omega)))) | (with_reducible refine Below.trans ?_ (hb5.mono (by first | omega | (simp; done) | (simp; omega)))) | (with_reducible refine Below.trans ?_ (hb4.mono (by first | omega | (simp; done) | (simp; omega)))) | (with_reducible refine Below.trans ?_ (hb3.mono (by first | omega | (simp; done) | (simp; omega)))) | (with_reducible refine Below.trans ?_ (hb2.mono (by first | omega | (simp; done) | (simp; omega)))) | (with_reducible refine Below.trans ?_ (hb1.mono (by first | omega | (simp; done) | (simp; omega))))))
end Go.Proofs.Ytdebmifjfemcjaa
