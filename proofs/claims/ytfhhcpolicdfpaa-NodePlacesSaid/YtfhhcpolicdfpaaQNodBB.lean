/-
  The reference of layer 14: where a key stands, in plain.
-/
import Derived.Test.YtfhhcpolicdfpaaQLawND
namespace Go.Dav
set_option linter.unusedVariables false
set_option linter.unusedSimpArgs false
open Go Go.RowKit
def atI (K : List (List UInt8)) (key : List UInt8) : Nat → Nat
  | 0 => 0
  | k + 1 => if aheadB (K.getD k []) key then k + 1 else atI K key k
def atK (K : List (List UInt8)) (key : List UInt8) : Nat → Nat
  | 0 => 0
  | k + 1 => if aheadB key (K.getD k []) then atK K key k else k
def isI (K : List (List UInt8)) (key : List UInt8) (k : Nat) : Bool := (List.range k).any fun i => decide (K.getD i [] = key)
theorem isI_zero (K : List (List UInt8)) (key : List UInt8) : isI K key 0 = false := rfl
theorem isI_succ (K : List (List UInt8)) (key : List UInt8) (k : Nat) : isI K key (k + 1) = (isI K key k || decide (K.getD k [] = key)) := by
  unfold isI; rw [List.range_succ, List.any_append]; simp
theorem atI_le (K : List (List UInt8)) (key : List UInt8) : ∀ k, atI K key k ≤ k
  | 0 => Nat.le_refl _
  | k + 1 => by unfold atI; split; omega; have := atI_le K key k; omega
theorem atK_le (K : List (List UInt8)) (key : List UInt8) : ∀ k, atK K key k ≤ k
  | 0 => Nat.le_refl _
  | k + 1 => by unfold atK; split; have := atK_le K key k; omega; omega
theorem atI_min {K : List (List UInt8)} {key : List UInt8} {n low : Nat} (h1 : ∀ i, i < n → i < low → aheadB (K.getD i []) key = true) (h2 : ∀ i, i < n → low ≤ i → aheadB (K.getD i []) key = false) : ∀ k, k ≤ n → atI K key k = min k low
  | 0, _ => by simp [atI]
  | k + 1, hk => by
    have ih := atI_min h1 h2 k (by omega)
    unfold atI
    by_cases hl : k < low
    · rw [h1 k (by omega) hl, if_pos rfl]; omega
    · rw [h2 k (by omega) (by omega), if_neg Bool.false_ne_true, ih]; omega
theorem atK_min {K : List (List UInt8)} {key : List UInt8} {n up : Nat} (h1 : ∀ i, i < n → i < up → aheadB key (K.getD i []) = false) (h2 : ∀ i, i < n → up ≤ i → aheadB key (K.getD i []) = true) : ∀ k, k ≤ n → atK K key k = min k up - 1
  | 0, _ => by simp [atK]
  | k + 1, hk => by
    have ih := atK_min h1 h2 k (by omega)
    unfold atK
    by_cases hl : k < up
    · rw [h1 k (by omega) hl, if_neg Bool.false_ne_true]; omega
    · rw [h2 k (by omega) (by omega), if_pos rfl, ih]; omega
theorem ahead_asym {a b : List UInt8} (h : aheadB a b = true) : aheadB b a = false := by
  cases hb : aheadB b a with
  | false => rfl
  | true => have := ahead_trans h hb; rw [ahead_irrefl] at this; cases this
theorem keyAt {L : List PartD} {i : Nat} {x : PartD} (h : L[i]? = some x) : (L.map pKey).getD i [] = pKey x := by
  rw [List.getD_eq_getElem?_getD, List.getElem?_map, h]; rfl
/-- How the keys of a right node lie to a key. -/
theorem key_cut {N : NodeD} {key : List UInt8} (hok : nodeOk N = true) :
    (∀ i, i < (partsOf N).length → i < lowN (partsOf N) key → aheadB (((partsOf N).map pKey).getD i []) key = true) ∧
    (∀ i, i < (partsOf N).length → lowN (partsOf N) key ≤ i → aheadB (((partsOf N).map pKey).getD i []) key = false) ∧
    (∀ i, i < (partsOf N).length → i < lowN (partsOf N) key + (if isAt (partsOf N) (lowN (partsOf N) key) key then 1 else 0) → aheadB key (((partsOf N).map pKey).getD i []) = false) ∧
    (∀ i, i < (partsOf N).length → lowN (partsOf N) key + (if isAt (partsOf N) (lowN (partsOf N) key) key then 1 else 0) ≤ i → aheadB key (((partsOf N).map pKey).getD i []) = true) ∧
    isI ((partsOf N).map pKey) key (partsOf N).length = isAt (partsOf N) (lowN (partsOf N) key) key := by
  have hs := (nodeOk_check hok).2.2.1
  obtain ⟨L, hL⟩ : ∃ L, partsOf N = L := ⟨_, rfl⟩
  rw [hL] at hs ⊢
  have hr := rises_of hs key
  have A1 : ∀ i, i < L.length → i < lowN L key → aheadB ((L.map pKey).getD i []) key = true := fun i hi hl => by
    rw [keyAt (List.getElem?_eq_getElem hi)]
    exact low_ahead hl (List.getElem?_eq_getElem hi)
  have A2 : ∀ i, i < L.length → lowN L key ≤ i → aheadB ((L.map pKey).getD i []) key = false := fun i hi hl => by
    rw [keyAt (List.getElem?_eq_getElem hi)]
    cases hq : aheadB (pKey L[i]) key with
    | false => rfl
    | true =>
      have h0 : lowN L key < L.length := by omega
      have := hr _ _ _ _ hl (List.getElem?_eq_getElem h0) (List.getElem?_eq_getElem hi) hq
      rw [low_not (List.getElem?_eq_getElem h0)] at this; cases this
  have AT : ∀ i (h : i < L.length), isAt L i key = decide (pKey L[i] = key) := fun i h => by
    unfold isAt; rw [List.getElem?_eq_getElem h]; rfl
  refine ⟨A1, A2, fun i hi hu => ?_, fun i hi hu => ?_, ?_⟩
  · by_cases hl : i < lowN L key
    · exact ahead_asym (A1 i hi hl)
    · have e : i = lowN L key := by split at hu <;> omega
      subst e
      have ht : isAt L (lowN L key) key = true := by
        by_cases h : isAt L (lowN L key) key = true
        · exact h
        · rw [if_neg h] at hu; omega
      rw [AT _ hi] at ht
      rw [keyAt (List.getElem?_eq_getElem hi), of_decide_eq_true ht, ahead_irrefl]
  · have h0 : lowN L key < L.length := by split at hu <;> omega
    rw [keyAt (List.getElem?_eq_getElem hi)]
    by_cases ht : isAt L (lowN L key) key = true
    · rw [if_pos ht] at hu
      rw [AT _ h0] at ht
      rw [← of_decide_eq_true ht]
      exact steps_ahead hs (i - lowN L key - 1) _ (List.getElem?_eq_getElem h0) (by rw [show lowN L key + (i - lowN L key - 1) + 1 = i by omega]; exact List.getElem?_eq_getElem hi)
    · rw [if_neg ht] at hu
      rw [AT _ h0] at ht
      have h1 : aheadB key (pKey L[lowN L key]) = true := ahead_other (low_not (List.getElem?_eq_getElem h0)) (by simpa using ht)
      by_cases e : i = lowN L key
      · subst e; exact h1
      · exact ahead_trans h1 (steps_ahead hs (i - lowN L key - 1) _ (List.getElem?_eq_getElem h0) (by rw [show lowN L key + (i - lowN L key - 1) + 1 = i by omega]; exact List.getElem?_eq_getElem hi))
  · rw [Bool.eq_iff_iff]
    unfold isI
    rw [List.any_eq_true]
    constructor
    · rintro ⟨i, hi, hk⟩
      have hi := List.mem_range.1 hi
      rw [keyAt (List.getElem?_eq_getElem hi)] at hk
      have hk := of_decide_eq_true hk
      have hl : ¬ i < lowN L key := fun hl => by
        have := A1 i hi hl
        rw [keyAt (List.getElem?_eq_getElem hi), hk, ahead_irrefl] at this; cases this
      by_cases e : i = lowN L key
      · rw [← e, AT _ hi]; simpa using hk
      · have h0 : lowN L key < L.length := by omega
        have h2 := steps_ahead hs (i - lowN L key - 1) _ (List.getElem?_eq_getElem h0) (by rw [show lowN L key + (i - lowN L key - 1) + 1 = i by omega]; exact List.getElem?_eq_getElem hi)
        rw [hk, low_not (List.getElem?_eq_getElem h0)] at h2; cases h2
    · intro h
      have h0 : lowN L key < L.length := by
        unfold isAt at h
        cases hx : L[lowN L key]? with
        | none => rw [hx] at h; simp at h
        | some x => exact (List.getElem?_eq_some_iff.1 hx).1
      exact ⟨_, List.mem_range.2 h0, by rw [keyAt (List.getElem?_eq_getElem h0), ← AT _ h0]; exact h⟩
/-- What the reference finds in a right node. -/
theorem place_ref {N : NodeD} {key : List UInt8} (hok : nodeOk N = true) :
    (N.leaf = true → N.kids = [] ∧ placeN N key = ((atI (N.items.map (·.key)) key N.items.length : Int), isI (N.items.map (·.key)) key N.items.length)) ∧
    (N.leaf = false → N.items = [] ∧ placeN N key = ((atK (N.kids.map (·.key)) key N.kids.length : Int), isI (N.kids.map (·.key)) key N.kids.length)) := by
  obtain ⟨h1, h2, h3, h4, h5⟩ := key_cut (key := key) hok
  have hlo := lowN_le (partsOf N) key
  have hsh := (nodeOk_check hok).1
  unfold shapeB at hsh
  simp only [Bool.and_eq_true, decide_eq_true_eq] at hsh
  constructor
  · intro hl
    have hk := hsh.2.2
    rw [if_pos hl, decide_eq_true_eq] at hk
    have ep : partsOf N = N.items.map .inl := by unfold partsOf; rw [if_pos hl]
    have ek : (partsOf N).map pKey = N.items.map (·.key) := by rw [ep, List.map_map]; rfl
    have el : (partsOf N).length = N.items.length := by rw [ep, List.length_map]
    rw [ek, el] at h1 h2 h5
    refine ⟨List.length_eq_zero_iff.1 hk, ?_⟩
    unfold placeN
    rw [if_pos hok, h5, hl, Bool.true_or, if_pos rfl, atI_min h1 h2 _ (Nat.le_refl _), Nat.min_eq_right (by omega)]
  · intro hl
    have hk := hsh.2.2
    rw [hl, if_neg Bool.false_ne_true, decide_eq_true_eq] at hk
    have ep : partsOf N = N.kids.map .inr := by unfold partsOf; rw [hl, if_neg Bool.false_ne_true]
    have ek : (partsOf N).map pKey = N.kids.map (·.key) := by rw [ep, List.map_map]; rfl
    have el : (partsOf N).length = N.kids.length := by rw [ep, List.length_map]
    rw [ek, el] at h3 h4 h5
    refine ⟨List.length_eq_zero_iff.1 hk, ?_⟩
    unfold placeN
    rw [if_pos hok, h5, hl, Bool.false_or, atK_min h3 h4 _ (Nat.le_refl _)]
    have hup : lowN (partsOf N) key + (if isAt (partsOf N) (lowN (partsOf N) key) key then 1 else 0) ≤ N.kids.length := by
      by_cases h : isAt (partsOf N) (lowN (partsOf N) key) key = true
      · rw [if_pos h]
        have : lowN (partsOf N) key < (partsOf N).length := by
          unfold isAt at h
          cases hx : (partsOf N)[lowN (partsOf N) key]? with
          | none => rw [hx] at h; simp at h
          | some x => exact (List.getElem?_eq_some_iff.1 hx).1
        omega
      · rw [if_neg h]; omega
    rw [Nat.min_eq_right hup]
    congr 1
    split <;> omega
end Go.Dav
