/-
  The law of layer 14, in plain: where keys stand.
-/
import Derived.Test.YtfhhcpolicdfpaaNdO
namespace Go.Dav
set_option linter.unusedVariables false
set_option linter.unusedSimpArgs false
open Go Go.RowKit
theorem ahead_irrefl : ∀ a : List UInt8, aheadB a a = false
  | [] => rfl
  | x :: a => by unfold aheadB; rw [if_pos rfl]; exact ahead_irrefl a
theorem ahead_other : ∀ {a b : List UInt8}, aheadB a b = false → a ≠ b → aheadB b a = true
  | [], [], _, h => absurd rfl h
  | [], _ :: _, h, _ => by simp [aheadB] at h
  | _ :: _, [], _, _ => by simp [aheadB]
  | x :: a, y :: b, h, hn => by
    unfold aheadB at h ⊢
    by_cases e : x = y
    · subst e
      rw [if_pos rfl] at h ⊢
      exact ahead_other h fun e => hn (by rw [e])
    · rw [if_neg e] at h
      rw [if_neg (fun e' => e e'.symm)]
      have h1 : ¬ x.toNat < y.toNat := by simpa using h
      have h2 : x.toNat ≠ y.toNat := fun h => e (UInt8.toNat_inj.1 h)
      simp; omega
theorem low_ahead : ∀ {L : List PartD} {key : List UInt8} {i : Nat} {x : PartD}, i < lowN L key → L[i]? = some x → aheadB (pKey x) key = true
  | [], _, _, _, _, hx => by simp at hx
  | y :: L, key, i, x, h, hx => by
    unfold lowN at h
    rw [List.takeWhile_cons] at h
    split at h
    · rename_i hy
      cases i with
      | zero => simp at hx; subst hx; exact hy
      | succ i => exact low_ahead (L := L) (i := i) (by unfold lowN; simpa using h) (by simpa using hx)
    · simp at h
theorem low_not : ∀ {L : List PartD} {key : List UInt8} {x : PartD}, L[lowN L key]? = some x → aheadB (pKey x) key = false
  | [], _, _, hx => by simp at hx
  | y :: L, key, x, hx => by
    unfold lowN at hx
    rw [List.takeWhile_cons] at hx
    split at hx
    · exact low_not (L := L) (by unfold lowN; simpa using hx)
    · rename_i hy
      simp at hx; subst hx; simpa using hy
/-- Each key is found in its place. -/
theorem place_own {N : NodeD} {i : Nat} {x : PartD} (hok : nodeOk N = true) (hx : (partsOf N)[i]? = some x) : placeN N (pKey x) = ((i : Int), true) := by
  have hs := (nodeOk_check hok).2.2.1
  have hl := (List.getElem?_eq_some_iff.1 hx).1
  have h1 : lowN (partsOf N) (pKey x) ≤ i := low_le hx (ahead_irrefl _)
  have h2 : ¬ lowN (partsOf N) (pKey x) < i := fun h => by
    obtain ⟨y, hy⟩ : ∃ y, (partsOf N)[lowN (partsOf N) (pKey x)]? = some y := ⟨_, List.getElem?_eq_getElem (by omega)⟩
    have h3 := low_not hy
    have h4 := steps_ahead hs (i - lowN (partsOf N) (pKey x) - 1) _ hy (by rw [show lowN (partsOf N) (pKey x) + (i - lowN (partsOf N) (pKey x) - 1) + 1 = i by omega]; exact hx)
    rw [h3] at h4; cases h4
  have e : lowN (partsOf N) (pKey x) = i := by omega
  have ha : isAt (partsOf N) i (pKey x) = true := by unfold isAt; rw [hx]; simp
  unfold placeN
  rw [if_pos hok, e, ha]
  simp
/-- Where a key stands: on what the law looks at. -/
theorem place_spec {N : NodeD} {key : List UInt8} (hok : nodeOk N = true) :
    ∃ (low at_ : Nat) (is : Bool), placeN N key = ((at_ : Int), is) ∧ low ≤ (partsOf N).length ∧ (is = true → at_ = low ∧ ∃ x, (partsOf N)[low]? = some x ∧ pKey x = key) ∧ (is = false → at_ = if N.leaf then low else low - 1) ∧
      (∀ i x, i < low → (partsOf N)[i]? = some x → aheadB (pKey x) key = true) ∧ (∀ x, (partsOf N)[low]? = some x → is = false → aheadB key (pKey x) = true) := by
  have hne : ∀ x, (partsOf N)[lowN (partsOf N) key]? = some x → isAt (partsOf N) (lowN (partsOf N) key) key = decide (pKey x = key) := fun x hx => by unfold isAt; rw [hx]; rfl
  refine ⟨lowN (partsOf N) key, (placeN N key).1.toNat, (placeN N key).2, ?_, lowN_le _ _, fun h => ?_, fun h => ?_, fun i x hi hx => low_ahead hi hx, fun x hx h => ?_⟩
  · unfold placeN; rw [if_pos hok]; dsimp only; split <;> (congr 1 <;> omega)
  · unfold placeN at h ⊢; rw [if_pos hok] at h ⊢; dsimp only at h ⊢
    rw [h, Bool.or_true, if_pos rfl]
    refine ⟨by omega, ?_⟩
    unfold isAt at h
    cases hx : (partsOf N)[lowN (partsOf N) key]? with
    | none => rw [hx] at h; simp at h
    | some x => rw [hx] at h; exact ⟨x, rfl, by simpa using h⟩
  · unfold placeN at h ⊢; rw [if_pos hok] at h ⊢; dsimp only at h ⊢
    rw [h, Bool.or_false]
    cases N.leaf <;> simp <;> omega
  · unfold placeN at h; rw [if_pos hok] at h; dsimp only at h
    rw [hne x hx] at h
    exact ahead_other (low_not hx) (by simpa using h)
end Go.Dav
