/-
  The reference of layer 14: high, walked.
-/
import Derived.Test.YtfhhcpolicdfpaaQAppB
import Derived.Test.YtfhhcpolicdfpaaNdE
import Derived.Deep.OwnRows
namespace Go.Dav
set_option linter.unusedVariables false
set_option linter.unusedSimpArgs false
open Go Go.RowKit
theorem u8s_setB (l : List UInt8) (i : Nat) (x : UInt8) : (u8s l).set i (.int .u8 (x.toNat : Int)) = u8s (l.set i x) := by simp [u8s, List.map_set]
theorem high_part {x n j m : Nat} (h : n = j + 1 + m) : (List.replicate (n - j) (0 : UInt8) ++ (highOf x n).drop (n - j)).set m (UInt8.ofNat (x / 256 ^ j)) = List.replicate (n - (j + 1)) 0 ++ (highOf x n).drop (n - (j + 1)) := by
  have e1 : n - j = m + 1 := by omega
  have e2 : n - (j + 1) = m := by omega
  rw [e1, e2]
  have e3 : (highOf x n).drop m = UInt8.ofNat (x / 256 ^ j) :: (highOf x n).drop (m + 1) := by
    rw [List.drop_eq_getElem_cons (by rw [highOf_len]; omega)]
    congr 1
    have h1 := highOf_get (x := x) (show m < n by omega)
    rw [List.getElem?_eq_getElem (by rw [highOf_len]; omega)] at h1
    have h2 := Option.some.inj h1
    rw [h2, show n - 1 - m = j by omega, Nat.pow_mul]
  rw [e3, List.replicate_succ', List.append_assoc, List.set_append_right _ _ (by simp)]
  simp
end Go.Dav
namespace Go.Proofs.Ytfhhcpolicdfpaa
set_option linter.unusedVariables false
set_option linter.unusedSimpArgs false
open Go.RowKit Go.Dav
attribute [local go_sem] Gives ite_val ite_val_true

theorem Try_makeN14 (n : Nat) (hn : n ≤ 1048576) (W : World) : (Instr.makeSlice 22 (.int .i64 (n : Int)) (.int .i64 (n : Int))).run Try.prog W = .ok (.slice (some ⟨W.heap.size, 0, none⟩) n n) (W.alloc (.cells (u8s (List.replicate n 0)).toArray 5)) := by
  have hinfo : (Try.prog.info? 5).map (fun i => (i.zero, i.size, i.bytes)) = some (some (.int .u8 0), 1, 1) := by kernel_rfl
  have h := run_make_row' (P := Try.prog) 22 5 (.int .u8 0) 1 Try.underlying22 hinfo rfl .i64 .i64 n (by omega) (by omega) W
  rw [h, u8s_zeros, ← toList_madeCells_one]
set_option maxRecDepth 8000 in
set_option maxHeartbeats 4000000 in
theorem Try_high14 (x n : Nat) (w : World) (hn : n ≤ 8) (hx : x < 18446744073709551616) :
    Calls Try.prog 46 #[.int .u64 (x : Int), .int .i64 (n : Int)] w fun e w' => ∃ p, e = .returned (.slice (some ⟨p, 0, none⟩) n n) ∧ w.heap.size ≤ p ∧ Blk w' p (u8s (highOf x n)) 5 ∧ Below w.heap.size w w' := by
  have hmk := Try_makeN14 n (by omega)
  have HX := Lib.hid hx
  have HB := Lib.hid (Blk.new w (u8s (List.replicate n 0)) 5)
  have hn' : (n : Int) ≤ 8 := by omega
  clear hx
  go_enter Try.func46, Try.ntmps46
  go_wp2_with fail
  clear hmk
  go_loopg [0, 6] n (fun g sx ix wr => ∃ j : Nat, j ≤ n ∧ g = n - j ∧ ix = .int .i64 ((n : Int) - 1 - (j : Int)) ∧ sx = .int .u64 ((x / 256 ^ j : Nat) : Int) ∧ Blk wr w.heap.size (u8s (List.replicate (n - j) 0 ++ (highOf x n).drop (n - j))) 5 ∧ Below w.heap.size w wr)
  case atStart => exact ⟨0, Nat.zero_le _, rfl, by go_num, by simp, by rw [Nat.sub_zero, List.drop_of_length_le (by rw [highOf_len]; omega), List.append_nil]; exact HB.out, (by repeat (first | (with_reducible exact Below.refl _ _) | (with_reducible exact Below.refl _ _) | (with_reducible refine Below.setCell ?_ (by first | omega | (simp; done) | (simp; omega)) _) | (with_reducible refine Below.alloc ?_ (by first | omega | (simp; done) | (simp; omega)) _) | (with_reducible refine Below.drew ?_) | (with_reducible refine below_drewN ?_ _)))⟩
  case round =>
    obtain ⟨j, hj, rfl, rfl, rfl, hb, hbl⟩ := hrel
    have HBL := Lib.hid hbl
    have HBK := Lib.hid hb
    by_cases hjn : j < n
    · obtain ⟨m, hm⟩ : ∃ m, n = j + 1 + m := ⟨n - 1 - j, by omega⟩
      have e1 : (n : Int) - 1 - (j : Int) = (m : Int) := by omega
      obtain ⟨y, hy⟩ : ∃ y, x / 256 ^ j = y := ⟨_, rfl⟩
      have hyl : y ≤ x := by rw [← hy]; exact Nat.div_le_self _ _
      have hyy : y < 18446744073709551616 := Nat.lt_of_le_of_lt hyl HX.out
      have hc : wr.cell? ⟨w.heap.size, m, none⟩ = some (.int .u8 0) := hb.cell m (by
        rw [u8s_append, List.getElem?_append_left (by rw [u8s_len]; simp; omega), u8s_zeros, List.getElem?_replicate, if_pos (by omega)])
      have hf : wr.frozen? ⟨w.heap.size, m, none⟩ = false := hb.frozen m
      have hlt := hb.lt
      have t1 : (y : Int).tmod 256 = (y : Int) % 256 := Int.tmod_eq_emod_of_nonneg (by omega)
      have t2 : (y : Int) / 256 % 18446744073709551616 = ((y / 256 : Nat) : Int) := by omega
      have hmn : (m : Int) < (n : Int) := by omega
      have HM := Lib.hid hm
      have HY := Lib.hid hy
      rw [e1, hy]
      clear hb hbl e1 hy hyl hyy hm
      go_wp2_with fail
      have hb2 := HBK.out.set m (.int .u8 ((y : Int) % 256))
      rw [show (.int .u8 ((y : Int) % 256) : Value) = .int .u8 ((UInt8.ofNat y).toNat : Int) by simp, u8s_setB, ← HY.out, high_part HM.out] at hb2
      go_roundg (n - (j + 1))
      case measure => omega
      case rel =>
        refine ⟨j + 1, by omega, rfl, by rw [show (n : Int) - 1 - ((j + 1 : Nat) : Int) = (m : Int) - 1 by have := HM.out; omega], by rw [Nat.pow_succ, ← Nat.div_div_eq_div_mul, HY.out]; first | rfl | (congr 1; omega), ?_, HBL.out.setCell (by exact Nat.le_refl _) _⟩
        rw [show (.int .u8 ((y : Int) % 256) : Value) = .int .u8 ((UInt8.ofNat (x / 256 ^ j)).toNat : Int) by rw [HY.out]; simp]
        exact hb2
    · obtain rfl : j = n := by omega
      clear hb hbl hjn
      go_wp2
      go_ret
      refine ⟨_, rfl, Nat.le_refl _, ?_, HBL.out⟩
      have h := HBK.out
      rw [Nat.sub_self] at h
      exact h
end Go.Proofs.Ytfhhcpolicdfpaa
