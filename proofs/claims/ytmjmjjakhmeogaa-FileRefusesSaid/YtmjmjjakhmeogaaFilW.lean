/-
  Layer 10: the reference's Crash, byte by byte, in plain: what the row holds on the way, and what comes of it.
-/
import Derived.Test.YtmjmjjakhmeogaaFilU
namespace Go.Dav
set_option linter.unusedVariables false
set_option linter.unusedSimpArgs false
open Go Go.RowKit

theorem crashTo_len (F : FileD) (keep : List Bool) (tear cut : Int) : ∀ k, (crashTo F keep tear cut k).1.length + (crashTo F keep tear cut k).2 = F.firm.length + sumTo F.loose k
  | 0 => by simp [crashTo, sumTo]
  | k + 1 => by
    have ih := crashTo_len F keep tear cut k
    cases h : F.loose[k]? with
    | none =>
      have e : crashTo F keep tear cut (k + 1) = crashTo F keep tear cut k := by rw [crashTo, h]
      have hl := List.getElem?_eq_none_iff.1 h
      have : sumTo F.loose (k + 1) = sumTo F.loose k := by
        unfold sumTo
        rw [List.take_of_length_le (by omega), List.take_of_length_le (by omega)]
      rw [e]; omega
    | some p =>
      have hs := staysOf_le keep tear cut k p
      rw [crashTo_succ h, sumTo_succ h]
      unfold crashStep
      split
      · simp; omega
      · simp; omega

/-- Does a byte stay: the j-th of piece i? -/
def staysB (keep : List Bool) (tear cut : Int) (i j : Nat) : Bool := if (i : Int) = tear then decide ((j : Int) < cut) else decide (keep[i]? = some true)
theorem staysB_iff {keep : List Bool} {tear cut : Int} {i j : Nat} {p : List UInt8} (hj : j < p.length) : staysB keep tear cut i j = true ↔ j < staysOf keep tear cut i p := by
  unfold staysB staysOf
  split
  · simp; omega
  · split <;> simp [*]

def pieceOf (F : FileD) (k : Nat) : List UInt8 := (F.loose[k]?).getD []
theorem pieceOf_get {F : FileD} {k : Nat} {p : List UInt8} (h : F.loose[k]? = some p) : pieceOf F k = p := by unfold pieceOf; rw [h]; rfl
/-- The row, behind k pieces and j bytes of the next one. -/
def rowOf (F : FileD) (keep : List Bool) (tear cut : Int) (k j : Nat) : List UInt8 :=
  (crashTo F keep tear cut k).1 ++ (List.replicate (crashTo F keep tear cut k).2 0 ++ ((pieceOf F k).take (min j (staysOf keep tear cut k (pieceOf F k))) ++ (List.replicate (j - min j (staysOf keep tear cut k (pieceOf F k))) 0 ++ ((pieceOf F k).drop j ++ (F.loose.drop (k + 1)).flatten))))
def endOf (F : FileD) (keep : List Bool) (tear cut : Int) (k j : Nat) : Nat :=
  if 0 < min j (staysOf keep tear cut k (pieceOf F k)) then F.firm.length + sumTo F.loose k + min j (staysOf keep tear cut k (pieceOf F k)) else (crashTo F keep tear cut k).1.length

theorem drop_piece (F : FileD) (k : Nat) : pieceOf F k ++ (F.loose.drop (k + 1)).flatten = (F.loose.drop k).flatten := by
  unfold pieceOf
  by_cases h : k < F.loose.length
  · rw [List.drop_eq_getElem_cons h, List.flatten_cons, List.getElem?_eq_getElem h]; rfl
  · rw [List.drop_eq_nil_of_le (by omega), List.drop_eq_nil_of_le (by omega), List.getElem?_eq_none (by omega)]; rfl
theorem rowOf_head (F : FileD) (keep : List Bool) (tear cut : Int) (k : Nat) : rowOf F keep tear cut k 0 = (crashTo F keep tear cut k).1 ++ (List.replicate (crashTo F keep tear cut k).2 0 ++ (F.loose.drop k).flatten) := by
  unfold rowOf
  rw [← drop_piece F k]
  simp
theorem rowOf_zero (F : FileD) (keep : List Bool) (tear cut : Int) : rowOf F keep tear cut 0 0 = F.all := by
  rw [rowOf_head]; simp [crashTo, FileD.all]
theorem rowOf_next {F : FileD} {keep : List Bool} {tear cut : Int} {k : Nat} {p : List UInt8} (h : F.loose[k]? = some p) : rowOf F keep tear cut k p.length = rowOf F keep tear cut (k + 1) 0 := by
  have hs := staysOf_le keep tear cut k p
  rw [rowOf_head, crashTo_succ h]
  unfold rowOf
  rw [pieceOf_get h, Nat.min_eq_right hs, List.drop_length, List.nil_append]
  unfold crashStep
  split
  · simp
  · have h0 : staysOf keep tear cut k p = 0 := by omega
    rw [h0]
    simp only [List.take_zero, List.nil_append, Nat.sub_zero]
    show _ ++ (_ ++ (_ ++ _)) = _ ++ (List.replicate (_ + p.length) 0 ++ _)
    rw [← List.replicate_append_replicate (n := (crashTo F keep tear cut k).2) (m := p.length), List.append_assoc (List.replicate _ _)]
theorem endOf_zero (F : FileD) (keep : List Bool) (tear cut : Int) (k : Nat) : endOf F keep tear cut k 0 = (crashTo F keep tear cut k).1.length := by unfold endOf; simp
theorem endOf_next {F : FileD} {keep : List Bool} {tear cut : Int} {k : Nat} {p : List UInt8} (h : F.loose[k]? = some p) : endOf F keep tear cut k p.length = endOf F keep tear cut (k + 1) 0 := by
  have hs := staysOf_le keep tear cut k p
  have hl := crashTo_len F keep tear cut k
  rw [endOf_zero, crashTo_succ h]
  unfold endOf crashStep
  rw [pieceOf_get h, Nat.min_eq_right hs]
  split
  · simp; omega
  · rfl
theorem rowOf_length (F : FileD) (keep : List Bool) (tear cut : Int) (k j : Nat) (hj : j ≤ (pieceOf F k).length) : (rowOf F keep tear cut k j).length = F.many := by
  have h1 := crashTo_len F keep tear cut k
  have h2 := congrArg List.length (drop_piece F k)
  have h3 : (F.loose.map List.length).sum = sumTo F.loose k + ((F.loose.drop k).flatten).length := by
    unfold sumTo; rw [List.length_flatten, ← List.sum_append, ← List.map_append, List.take_append_drop]
  unfold rowOf FileD.many
  have h4 := staysOf_le keep tear cut k (pieceOf F k)
  simp only [List.length_append, List.length_replicate, List.length_take, List.length_drop] at h2 ⊢
  omega
theorem rowOf_stays {F : FileD} {keep : List Bool} {tear cut : Int} {k j : Nat} {p : List UInt8} (h : F.loose[k]? = some p) (hj : j < p.length) (hs : staysB keep tear cut k j = true) :
    rowOf F keep tear cut k (j + 1) = rowOf F keep tear cut k j ∧ endOf F keep tear cut k (j + 1) = F.firm.length + sumTo F.loose k + j + 1 := by
  have h1 := (staysB_iff hj).1 hs
  unfold rowOf endOf
  rw [pieceOf_get h, Nat.min_eq_left (by omega : j + 1 ≤ _), Nat.min_eq_left (by omega : j ≤ _), Nat.sub_self, Nat.sub_self]
  refine ⟨?_, by rw [if_pos (by omega)]; omega⟩
  congr 2
  rw [List.replicate_zero, List.nil_append, List.nil_append, ← List.append_assoc, ← List.append_assoc, List.take_append_drop, List.take_append_drop]
theorem rowOf_goes {F : FileD} {keep : List Bool} {tear cut : Int} {k j : Nat} {p : List UInt8} (h : F.loose[k]? = some p) (hj : j < p.length) (hs : staysB keep tear cut k j = false) :
    rowOf F keep tear cut k (j + 1) = (rowOf F keep tear cut k j).set (F.firm.length + sumTo F.loose k + j) 0 ∧ endOf F keep tear cut k (j + 1) = endOf F keep tear cut k j := by
  have h1 : ¬ j < staysOf keep tear cut k p := fun h1 => by rw [(staysB_iff hj).2 h1] at hs; cases hs
  have hl := crashTo_len F keep tear cut k
  unfold rowOf endOf
  rw [pieceOf_get h, Nat.min_eq_right (by omega : _ ≤ j + 1), Nat.min_eq_right (by omega : _ ≤ j)]
  refine ⟨?_, rfl⟩
  have hsl := staysOf_le keep tear cut k p
  generalize hst : staysOf keep tear cut k p = st at *
  rw [List.set_append_right _ _ (by omega), List.set_append_right _ _ (by simp; omega), List.set_append_right _ _ (by simp; omega), List.set_append_right _ _ (by simp; omega)]
  have e : F.firm.length + sumTo F.loose k + j - (crashTo F keep tear cut k).1.length - (List.replicate (crashTo F keep tear cut k).2 (0 : UInt8)).length - (p.take st).length - (List.replicate (j - st) (0 : UInt8)).length = 0 := by
    simp; omega
  rw [e, List.drop_eq_getElem_cons hj, List.cons_append, List.set_cons_zero]
  congr 3
  rw [show j + 1 - st = (j - st) + 1 by omega, List.replicate_succ', List.append_assoc]
  rfl
/-- What is handed back. -/
theorem rowOf_end (F : FileD) (keep : List Bool) (tear cut : Int) : (rowOf F keep tear cut F.loose.length 0).take (endOf F keep tear cut F.loose.length 0) = (crashTo F keep tear cut F.loose.length).1 := by
  rw [rowOf_head, endOf_zero, List.take_left']
  rfl
end Go.Dav
