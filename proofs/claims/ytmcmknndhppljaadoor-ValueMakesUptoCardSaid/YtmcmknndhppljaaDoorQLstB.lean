/-
  Layer 4 in plain: a list of one value; a list's length and its places.
-/
import Derived.Test.YtmcmknndhppljaaDoorQLstA
namespace Go.Dav
set_option linter.unusedVariables false
set_option linter.unusedSimpArgs false
open Go Go.RowKit
theorem list_kid {d : Nat} {l : List (ValN d)} (h : rightV (d + 1) (listOf d l) = true) (i : Int) : kidV d (listOf d l) 5 i = if 0 ≤ i then l[i.toNat]? else none := by
  unfold kidV
  by_cases h0 : 0 ≤ i
  · rw [if_pos ⟨rfl, h0, h⟩, if_pos h0]; rfl
  · rw [if_neg (fun hh => h0 hh.2.1), if_neg h0]
theorem list_len {d : Nat} {l : List (ValN d)} (h : rightV (d + 1) (listOf d l) = true) : lenV d (listOf d l) = (l.length, true) := by
  unfold lenV
  rw [if_pos h, if_pos (show (listOf d l).to.kind = 5 ∨ _ from .inl rfl)]; rfl
theorem list_alone {d : Nat} (l : List (ValN d)) : aloneB (listOf d l).to = true := by
  show aloneB (⟨5, 0, noStr, l, []⟩ : ValF (ValN d)) = true
  unfold aloneB
  simp [keysTo, strEmpty, noStr]
theorem list_depth {d : Nat} (x : ValN d) : depthV (d + 1) (listOf d [x]) = depthV d x + 1 := by
  rw [show depthV (d + 1) (listOf d [x]) = if (5 : Int) < 5 then 0 else ([x].map (depthV d)).foldr max 0 + 1 from rfl, if_neg (by omega)]
  simp
theorem list_nodes {d : Nat} (x : ValN d) : nodesV (d + 1) (listOf d [x]) = 1 + nodesV d x := by
  rw [show nodesV (d + 1) (listOf d [x]) = 1 + ([x].map (nodesV d)).sum from rfl]; simp
/-- A list of a right value may be, if there is room. -/
theorem list_right {d : Nat} {x : ValN d} (h : rightV d x = true) : rightV (d + 1) (listOf d [x]) = (decide (depthV d x < 8) && decide (nodesV d x < 256)) := by
  rw [Bool.eq_iff_iff, right_iff, Bool.and_eq_true, decide_eq_true_eq, decide_eq_true_eq, list_depth, list_nodes]
  have hg : goodV (d + 1) (listOf d [x]) = true := by
    rw [show goodV (d + 1) (listOf d [x]) = (aloneB (listOf d [x]).to && [x].all (goodV d)) from rfl, list_alone]
    simp [right_good h]
  constructor
  · rintro ⟨_, h1, h2⟩; exact ⟨by omega, by omega⟩
  · rintro ⟨h1, h2⟩; exact ⟨hg, by omega, by omega⟩
end Go.Dav
