/-
  A sum laid in four bytes behind what it is of: the program's Lay, the reference's Laid, walked.
-/
import Derived.Test.YtafigbomcgncnaaCrcB
import Derived.Test.YtafigbomcgncnaaFilI
import Derived.Laws.CopyOwn
import Derived.Laws.MakeOwn
import Derived.Laws.OwnMore
namespace Go.Dav
set_option linter.unusedVariables false
set_option linter.unusedSimpArgs false
open Go Go.RowKit

/-- A sum in four bytes, the lowest first. -/
def crcFour (s : Nat) : List UInt8 := [UInt8.ofNat s, UInt8.ofNat (s / 256), UInt8.ofNat (s / 65536), UInt8.ofNat (s / 16777216)]
theorem crcFour_cells (s : Nat) : u8s (crcFour s) = [.int .u8 ((s : Int) % 256), .int .u8 ((s : Int) / 256 % 256), .int .u8 ((s : Int) / 65536 % 256), .int .u8 ((s : Int) / 16777216 % 256)] := by
  simp [u8s, crcFour]
/-- The sum of bytes. -/
def crcSum (l : List UInt8) : Nat := 4294967295 - crcOf 4294967295 l
theorem crcSum_lt (l : List UInt8) : crcSum l < 4294967296 := by unfold crcSum; omega
/-- Bytes, and their sum behind them. -/
def crcLay (l : List UInt8) : List UInt8 := l ++ crcFour (crcSum l)
end Go.Dav
namespace Go.Proofs.Ytafigbomcgncnaa
set_option linter.unusedVariables false
set_option linter.unusedSimpArgs false
open Go.RowKit Go.Dav
attribute [local go_sem] Gives ite_val ite_val_true

set_option maxRecDepth 8000 in
set_option maxHeartbeats 4000000 in
theorem Try_refLaid (s : Nat) (hs : s < 4294967296) (w : World) :
    Calls Try.prog 37 #[.int .u32 (s : Int)] w fun e w' => ∃ p, e = .returned (.slice (some ⟨p, 0, none⟩) 4 4) ∧ w.heap.size ≤ p ∧ Blk w' p (u8s (crcFour s)) 5 ∧ Below w.heap.size w w' := by
  have HS := Lib.hid hs
  have t1 : (s : Int).tmod 256 = (s : Int) % 256 := Int.tmod_eq_emod_of_nonneg (by omega)
  have t2 : ((s : Int) / 256 % 4294967296).tmod 256 = (s : Int) / 256 % 256 := by rw [Int.tmod_eq_emod_of_nonneg (by omega)]; omega
  have t3 : ((s : Int) / 65536 % 4294967296).tmod 256 = (s : Int) / 65536 % 256 := by rw [Int.tmod_eq_emod_of_nonneg (by omega)]; omega
  have t4 : (s : Int) / 16777216 % 4294967296 = (s : Int) / 16777216 := by omega
  clear hs
  go_enter Try.func37, Try.ntmps37
  go_wp2
  go_ret
  exact ⟨_, rfl, Nat.le_refl _, by rw [crcFour_cells]; exact Blk.new _ _ _, (by repeat (first | (with_reducible exact Below.refl _ _) | (with_reducible exact Below.refl _ _) | (with_reducible refine Below.setCell ?_ (by first | omega | (simp; done) | (simp; omega)) _) | (with_reducible refine Below.alloc ?_ (by first | omega | (simp; done) | (simp; omega)) _) | (with_reducible refine Below.drew ?_) | (with_reducible refine below_drewN ?_ _)))⟩

theorem Try_make4 (n : Nat) (hn : n ≤ 1048576) (W : World) : (Instr.makeSlice 22 (.int .i64 (n : Int)) (.int .i64 ((n : Int) + 4))).run Try.prog W = .ok (.slice (some ⟨W.heap.size, 0, none⟩) n (n + 4)) (W.alloc (.cells (madeCells #[.int .u8 0] (n + 4)) 5)) := by
  have hinfo : (Try.prog.info? 5).map (fun i => (i.zero, i.size, i.bytes)) = some (some (.int .u8 0), 1, 1) := by kernel_rfl
  obtain ⟨i, hi, hz, hs, hb⟩ := info_parts hinfo
  have h := run_make (P := Try.prog) (w := W) 22 5 i (.int .u8 0) Try.underlying22 hi hz .i64 .i64 (n : Int) ((n : Int) + 4) (by omega) (by omega) (by rw [hb]; omega) (by omega)
  rw [hs] at h
  simp only [Int.toNat_natCast, show ((n : Int) + 4).toNat = n + 4 by omega, Nat.mul_one] at h
  exact h
end Go.Proofs.Ytafigbomcgncnaa
