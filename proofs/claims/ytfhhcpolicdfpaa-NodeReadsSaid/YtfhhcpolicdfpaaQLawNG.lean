/-
  The law of layer 14, in plain: the program's Same and the reference's.
-/
import Derived.Test.YtfhhcpolicdfpaaNdN
import Derived.Test.YtfhhcpolicdfpaaNdF
namespace Go.Dav
set_option linter.unusedVariables false
set_option linter.unusedSimpArgs false
open Go Go.RowKit
theorem samePs_items : ∀ (l m : List ItemD), samePs (l.map .inl) (m.map .inl) = sameIs l m
  | [], [] => rfl
  | [], _ :: _ => rfl
  | _ :: _, [] => rfl
  | x :: l, y :: m => by
    show (sameP (.inl x) (.inl y) && samePs (l.map .inl) (m.map .inl)) = (sameItem x y && sameIs l m)
    rw [samePs_items l m]; rfl
theorem samePs_kids : ∀ (l m : List KidD), samePs (l.map .inr) (m.map .inr) = sameKs l m
  | [], [] => rfl
  | [], _ :: _ => rfl
  | _ :: _, [] => rfl
  | x :: l, y :: m => by
    show (sameP (.inr x) (.inr y) && samePs (l.map .inr) (m.map .inr)) = (sameKid x y && sameKs l m)
    rw [samePs_kids l m]; rfl
theorem leaf_shape {N : NodeD} (hok : nodeOk N = true) : (N.leaf = true → N.kids = []) ∧ (N.leaf = false → N.items = []) := by
  have hsh := (nodeOk_check hok).1
  unfold shapeB at hsh
  simp only [Bool.and_eq_true, decide_eq_true_eq] at hsh
  refine ⟨fun hl => ?_, fun hl => ?_⟩
  · have hk := hsh.2.2
    rw [if_pos hl, decide_eq_true_eq] at hk
    exact List.length_eq_zero_iff.1 hk
  · have hk := hsh.2.2
    rw [hl, if_neg Bool.false_ne_true, decide_eq_true_eq] at hk
    exact List.length_eq_zero_iff.1 hk
theorem sameN_ref {A B : NodeD} (hA : nodeOk A = true) (hB : nodeOk B = true) : sameN A B = sameR A B := by
  obtain ⟨a1, a2⟩ := leaf_shape hA
  obtain ⟨b1, b2⟩ := leaf_shape hB
  unfold sameN sameR partsOf
  rw [hA, hB, Bool.true_and, Bool.true_and]
  by_cases hl : A.leaf = B.leaf
  · rw [decide_eq_true hl, Bool.true_and, Bool.true_and]
    cases hA2 : A.leaf with
    | true =>
      have hB2 : B.leaf = true := by rw [← hl, hA2]
      rw [hB2, if_pos rfl, if_pos rfl, samePs_items, a1 hA2, b1 hB2]
      show _ = (_ && sameKs [] [])
      rw [show sameKs [] [] = true from rfl, Bool.and_true]
    | false =>
      have hB2 : B.leaf = false := by rw [← hl, hA2]
      rw [hB2, if_neg Bool.false_ne_true, if_neg Bool.false_ne_true, samePs_kids, a2 hA2, b2 hB2]
      rw [show sameIs [] [] = true from rfl, Bool.true_and]
  · rw [decide_eq_false hl]; rfl
theorem dec_comm {α : Type} [DecidableEq α] (a b : α) : decide (a = b) = decide (b = a) := by
  rw [Bool.eq_iff_iff]; simp [eq_comm]
theorem sameP_comm : ∀ (x y : PartD), sameP x y = sameP y x
  | .inl x, .inl y => by
    show sameItem x y = sameItem y x
    unfold sameItem; rw [dec_comm x.key, dec_comm x.value, dec_comm x.int, dec_comm x.n]
  | .inr x, .inr y => by
    show sameKid x y = sameKid y x
    unfold sameKid sameRed
    rw [dec_comm x.key, dec_comm x.at_, dec_comm x.red.c, dec_comm x.red.n, dec_comm (hi x.red.s), dec_comm (lo x.red.s), dec_comm x.red.l, dec_comm x.red.m]
  | .inl _, .inr _ => rfl
  | .inr _, .inl _ => rfl
theorem samePs_comm : ∀ (l m : List PartD), samePs l m = samePs m l
  | [], [] => rfl
  | [], _ :: _ => rfl
  | _ :: _, [] => rfl
  | x :: l, y :: m => by
    show (sameP x y && samePs l m) = (sameP y x && samePs m l)
    rw [sameP_comm x y, samePs_comm l m]
theorem sameN_comm (A B : NodeD) : sameN A B = sameN B A := by
  unfold sameN
  rw [dec_comm A.leaf, samePs_comm]
  cases nodeOk A <;> cases nodeOk B <;> rfl
theorem sameN_not {A B : NodeD} (h : nodeOk A = false ∨ nodeOk B = false) : sameN A B = false := by
  unfold sameN
  rcases h with h | h <;> rw [h] <;> simp
end Go.Dav
