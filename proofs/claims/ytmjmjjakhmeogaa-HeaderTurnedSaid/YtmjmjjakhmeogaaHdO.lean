/-
  Layer 12: a block of a header says that header; the layer does something, in plain.
-/
import Derived.Test.YtmjmjjakhmeogaaHdN
namespace Go.Dav
set_option linter.unusedVariables false
set_option linter.unusedSimpArgs false
open Go Go.RowKit
theorem highOf_succ (x n : Nat) : highOf x (n + 1) = highOf (x / 256) n ++ [UInt8.ofNat x] := by
  unfold highOf
  rw [List.range_succ, List.map_append]
  congr 1
  · refine List.map_congr_left fun i hi => ?_
    have hi := List.mem_range.1 hi
    rw [Nat.div_div_eq_div_mul, show (256 : Nat) = 2 ^ 8 from rfl, ← Nat.pow_add]
    congr 3
    omega
  · simp
theorem numOf_high : ∀ (n x : Nat), x < 256 ^ n → numOf (highOf x n) = x
  | 0, x, h => by
    have : x = 0 := by simpa using h
    subst this; rfl
  | n + 1, x, h => by
    rw [highOf_succ, numOf_snoc, numOf_high n (x / 256) (by rw [Nat.pow_succ] at h; omega), UInt8.toNat_ofNat']
    omega
theorem blockOf_parts (g a : Nat) : blockOf g a = [1] ++ (highOf g 8 ++ (highOf a 4 ++ (List.replicate 46 0 ++ (crcFour (crcSum (bodyOf g a)) ++ [165])))) := by
  simp [blockOf, crcLay, bodyOf, headOf]
theorem block_gen (g a : Nat) : ((blockOf g a).drop 1).take 8 = highOf g 8 := by
  rw [blockOf_parts, List.drop_append_of_le_length (by simp)]
  simp only [List.drop_succ_cons, List.drop_zero, List.nil_append]
  rw [List.take_append_of_le_length (by rw [highOf_len]; omega), List.take_of_length_le (by rw [highOf_len]; omega)]
theorem block_at (g a : Nat) : ((blockOf g a).drop 9).take 4 = highOf a 4 := by
  have e : blockOf g a = ([1] ++ highOf g 8) ++ (highOf a 4 ++ (List.replicate 46 0 ++ (crcFour (crcSum (bodyOf g a)) ++ [165]))) := by rw [blockOf_parts, List.append_assoc]
  have hl : ([1] ++ highOf g 8).length = 9 := by simp [highOf_len]
  rw [e, ← hl, List.drop_left, List.take_append_of_le_length (by rw [highOf_len]; omega), List.take_of_length_le (by rw [highOf_len]; omega)]
theorem genOf_block {g a : Nat} (hg : g < 18446744073709551616) : genOf (blockOf g a) = g := by
  unfold genOf; rw [block_gen, numOf_high 8 g (by omega)]
theorem atOf_block {g a : Nat} (ha : a < 4294967296) : atOf (blockOf g a) = a := by
  unfold atOf; rw [block_at, numOf_high 4 a (by omega)]
theorem isOf_block {g a : Nat} (hg : g < 18446744073709551616) (hr : (HeadD.mk g (a : Int)).right = true) : isOf (blockOf g a) = true := by
  have ha := (HeadD.right_spec.1 hr).2.2
  dsimp only at ha
  unfold isOf
  rw [genOf_block hg, atOf_block (by omega), hr]
  simp
theorem isOf_zeros : isOf (List.replicate 64 0) = false := by
  cases h : isOf (List.replicate 64 0) with
  | false => rfl
  | true => have := isOf_first h; simp at this
theorem saysOf_block {g a : Nat} (hg : g < 18446744073709551616) (hr : (HeadD.mk g (a : Int)).right = true) : saysOf (blockOf g a) = .tuple #[.agg #[.int .u64 (g : Int), .int .i64 (a : Int)], .bool true] := by
  have ha := (HeadD.right_spec.1 hr).2.2
  dsimp only at ha
  rw [saysOf_eq]
  unfold sayG sayA
  rw [isOf_block hg hr, if_pos rfl, if_pos rfl, genOf_block hg, atOf_block (by omega)]
theorem saysOf_no {l : List UInt8} (h : isOf l = false) : saysOf l = .tuple #[.agg #[.int .u64 0, .int .i64 0], .bool false] := by
  rw [saysOf_eq, sayG_no h, sayA_no h, h]; rfl
theorem blockAt_zero {l : List UInt8} (h : l.length = 64) : blockAt l 0 = l := by
  unfold blockAt; rw [Nat.zero_mul, List.drop_zero, List.take_of_length_le (by omega)]
theorem findOf_block {g a : Nat} (hg : g < 18446744073709551616) (hr : (HeadD.mk g (a : Int)).right = true) : findOf (blockOf g a) = .tuple #[.agg #[.int .u64 (g : Int), .int .i64 (a : Int)], .int .i64 0, .bool true] := by
  have ha := (HeadD.right_spec.1 hr).2.2
  dsimp only at ha
  have h := find_some (l := blockOf g a) (i := 0) (lastIs_some (by rw [blockOf_len]; omega) (by rw [blockAt_zero (blockOf_len g a)]; exact isOf_block hg hr) (fun j h1 h2 => by rw [blockOf_len] at h2; omega))
  rw [blockAt_zero (blockOf_len g a), genOf_block hg, atOf_block (by omega)] at h
  exact h
/-- What wakes makes. -/
def wakeF : FileD := ⟨[], [blockOf 1 1], -1, -1, false⟩
theorem wake_right : (HeadD.mk 1 ((1 : Nat) : Int)).right = true := by decide
theorem wake_put : FileD.none.put ⟨1, 1⟩ = (wakeF, 0) := by
  have e : laidOf (FileD.none.many) 1 (1 : Int).toNat = blockOf 1 1 := rfl
  have hl := blockOf_len 1 1
  have hne : blockOf 1 1 ≠ [] := fun h => by rw [h] at hl; simp at hl
  unfold FileD.put
  rw [if_pos (by decide), if_pos (by decide)]
  show FileD.none.append (laidOf (FileD.none.many) 1 (1 : Int).toNat) = _
  rw [e]
  unfold FileD.append
  rw [if_neg (fun h => hne h.2)]
  unfold FileD.op
  rw [if_pos (by decide), hl]
  rfl
theorem wake_no : FileD.none.put ⟨0, 0⟩ = (FileD.none, 220) := by
  unfold FileD.put
  rw [if_pos (by decide), if_neg (by decide)]
theorem wake_many : wakeF.many = 64 := by show 0 + ([blockOf 1 1].map List.length).sum = 64; simp [blockOf_len]
theorem wake_file : wakeF.right = true := by
  have hl := blockOf_len 1 1
  refine FileD.right_spec.2 ⟨?_, by decide, by decide, by decide, by rw [wake_many]; omega⟩
  show ([blockOf 1 1].all fun p => !p.isEmpty) = true
  cases h : blockOf 1 1 with
  | nil => rw [h] at hl; simp at hl
  | cons x xs => rfl
theorem wake_said : wakeF.said = blockOf 1 1 := by
  unfold FileD.said
  rw [if_pos wake_file]
  show [] ++ [blockOf 1 1].flatten = blockOf 1 1
  simp
theorem wake_find : findOf wakeF.said = .tuple #[.agg #[.int .u64 1, .int .i64 1], .int .i64 0, .bool true] := by
  rw [wake_said]; exact findOf_block (by omega) wake_right
theorem wake_0 : (blockOf 1 1)[0]? = some 1 := blockOf_first 1 1
theorem wake_8 : (blockOf 1 1)[8]? = some 1 := by
  rw [blockOf, crcLay, bodyOf, List.append_assoc, List.append_assoc, List.getElem?_append_left (by rw [headOf_len]; omega)]; rfl
theorem wake_12 : (blockOf 1 1)[12]? = some 1 := by
  rw [blockOf, crcLay, bodyOf, List.append_assoc, List.append_assoc, List.getElem?_append_left (by rw [headOf_len]; omega)]; rfl
end Go.Dav
