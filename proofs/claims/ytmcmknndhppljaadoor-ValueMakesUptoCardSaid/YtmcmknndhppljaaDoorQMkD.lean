/-
  Texts and leaves: when they are right, in plain.
-/
import Derived.Test.YtmcmknndhppljaaDoorQOrdA
import Derived.Test.YtmcmknndhppljaaDoorQTldA
import Derived.Test.YtmcmknndhppljaaDoorVbL
import Derived.Test.YtmcmknndhppljaaDoorQLstB
namespace Go.Dav
set_option linter.unusedVariables false
set_option linter.unusedSimpArgs false
open Go Go.RowKit
theorem text_right (d : Nat) (s : ByteArray) : rightV (d + 1) (textV d s) = validB s.data.toList := by
  have ha : aloneB (textV d s).to = validB s.data.toList := by
    show (keysTo ([] : List ByteArray) 0 && (if (4 : Int) = 1 then _ else if (4 : Int) = 2 then _ else if (4 : Int) = 3 then _ else if (4 : Int) = 4 then decide ((0 : Int) = 0) && (validB s.data.toList && (decide (([] : List (ValN d)).length = 0) && decide (([] : List ByteArray).length = 0))) else _)) = _
    simp [keysTo]
  unfold rightV
  show decide (0 < if (256 : Int) < 1 ∨ aloneB (textV d s).to = false ∨ (5 ≤ (4 : Int) ∧ (8 : Nat) = 0) then 0 else withinL (withinV d) (8 - 1) 256 ([] : List (ValN d)) 1) = _
  rw [ha]
  cases validB s.data.toList with
  | true => rw [if_neg (by simp)]; rfl
  | false => rw [if_pos (by simp)]; rfl
theorem leaf_right (d : Nat) {k n : Int} (h : k = 3 ∨ (k = 1 ∧ n = 0) ∨ (k = 2 ∧ (n = 0 ∨ n = 1))) : rightV (d + 1) (leafV d k n) = true := by
  have ha : aloneB (leafV d k n).to = true := by
    show (keysTo ([] : List ByteArray) 0 && (if k = 1 then decide (n = 0) && (strEmpty noStr && (decide (([] : List (ValN d)).length = 0) && decide (([] : List ByteArray).length = 0))) else if k = 2 then (decide (n = 0) || decide (n = 1)) && (strEmpty noStr && (decide (([] : List (ValN d)).length = 0) && decide (([] : List ByteArray).length = 0))) else if k = 3 then strEmpty noStr && (decide (([] : List (ValN d)).length = 0) && decide (([] : List ByteArray).length = 0)) else _)) = _
    rcases h with rfl | ⟨rfl, rfl⟩ | ⟨rfl, rfl | rfl⟩ <;> simp [keysTo, strEmpty, noStr]
  unfold rightV
  show decide (0 < if (256 : Int) < 1 ∨ aloneB (leafV d k n).to = false ∨ (5 ≤ k ∧ (8 : Nat) = 0) then 0 else withinL (withinV d) (8 - 1) 256 ([] : List (ValN d)) 1) = _
  rw [ha, if_neg (by simp)]; rfl
end Go.Dav
namespace Go.Proofs.YtmcmknndhppljaaDoor
set_option linter.unusedVariables false
set_option linter.unusedSimpArgs false
open Go.RowKit Go.Dav
attribute [local go_sem] Gives ite_val ite_val_true

/-- Two leaves are one where they are right. -/
theorem Tryd_sameLeaf (k n : Int) (h : k = 3 ∨ (k = 1 ∧ n = 0) ∨ (k = 2 ∧ (n = 0 ∨ n = 1))) (hn : I64' n) (w : World) :
    Calls Tryd.prog 22 #[.agg #[.int .i64 k, .int .i64 n, .string ⟨#[]⟩, .slice none 0 0, .slice none 0 0], .agg #[.int .i64 k, .int .i64 n, .string ⟨#[]⟩, .slice none 0 0, .slice none 0 0]] w fun e' w' => e' = .returned (.bool true) ∧ Below w.heap.size w w' := by
  have hk : I64' k := by unfold I64'; omega
  have q := Tryd_rSame 1 1 (leafV 0 k n) (leafV 0 k n) _ _ w (leaf_at w 0 hk hn) (leaf_at w 0 hk hn)
  rw [sameV_self, leaf_right 0 h] at q
  exact q
theorem Tryd_zeroZ (w : World) : Calls Tryd.prog 21 #[.agg #[.int .i64 0, .int .i64 0, .string ⟨#[]⟩, .slice none 0 0, .slice none 0 0]] w fun e w' => e = .returned (.bool true) ∧ Below w.heap.size w w' := by
  obtain ⟨_, _, _, _, _, _, h⟩ := leaf_at w 0 (show I64' 0 by constructor <;> simp) (show I64' 0 by constructor <;> simp)
  have q := Tryd_rZero _ _ _ _ _ _ _ _ _ w h
  rw [show zeroF (leafV 0 0 0).to = true from by decide +kernel] at q
  exact q
theorem Tryd_sameText (s : ByteArray) (hs : s.size ≤ 17592186044416) (hv : validB s.data.toList = true) (w : World) :
    Calls Tryd.prog 22 #[.agg #[.int .i64 4, .int .i64 0, .string s, .slice none 0 0, .slice none 0 0], .agg #[.int .i64 4, .int .i64 0, .string s, .slice none 0 0, .slice none 0 0]] w fun e' w' => e' = .returned (.bool true) ∧ Below w.heap.size w w' := by
  have q := Tryd_rSame 1 1 (textV 0 s) (textV 0 s) _ _ w (text_at w 0 hs) (text_at w 0 hs)
  rw [sameV_self, text_right, hv] at q
  exact q
end Go.Proofs.YtmcmknndhppljaaDoor
