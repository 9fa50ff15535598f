/-
  The law of layer 14, in plain: a leaf's reduction is that of its two parts, joined.
-/
import Derived.Test.YtfhhcpolicdfpaaNdJ
import Derived.Test.YtfhhcpolicdfpaaNdL
import Derived.Test.YtfhhcpolicdfpaaNdA
import Derived.Test.YtfhhcpolicdfpaaNdB
namespace Go.Dav
set_option linter.unusedVariables false
set_option linter.unusedSimpArgs false
open Go Go.RowKit
theorem keys_get {l : List (List UInt8)} {n : Nat} (h : risesTo l n = true) {j : Nat} (hj : j < n) (h0 : j ≠ 0) : aheadB (l.getD (j - 1) []) (l.getD j []) = true := by
  have := List.all_eq_true.1 h j (List.mem_range.2 hj)
  simpa [h0] using this
theorem keys_of {l : List (List UInt8)} {n : Nat} (h : ∀ j, j < n → j ≠ 0 → aheadB (l.getD (j - 1) []) (l.getD j []) = true) : risesTo l n = true := by
  refine List.all_eq_true.2 fun j hj => ?_
  have hj := List.mem_range.1 hj
  by_cases h0 : j = 0
  · simp [h0]
  · rw [h j hj h0]; simp
theorem leaf_ok {N : NodeD} (hl : N.leaf = true) (h : nodeOk N = true) : N.items.all itemOk = true ∧ risesTo (N.items.map (·.key)) N.items.length = true ∧ 1 ≤ N.items.length ∧ N.items.length ≤ 6 ∧ N.kids = [] := by
  unfold nodeOk at h
  rw [if_pos hl] at h
  simp only [Bool.and_eq_true, decide_eq_true_eq] at h
  exact ⟨h.1, h.2.1, h.2.2.1, h.2.2.2.1, List.length_eq_zero_iff.1 h.2.2.2.2⟩
theorem ok_leaf {l : List ItemD} (h1 : l.all itemOk = true) (h2 : risesTo (l.map (·.key)) l.length = true) (h3 : 1 ≤ l.length) (h4 : l.length ≤ 6) : nodeOk ⟨true, l, []⟩ = true := by
  unfold nodeOk
  simp [h1, h2, h3, h4]
theorem leaf_take {N : NodeD} {k : Nat} (hl : N.leaf = true) (h : nodeOk N = true) (hk : 1 ≤ k) (hk2 : k ≤ N.items.length) : nodeOk ⟨true, N.items.take k, []⟩ = true := by
  obtain ⟨h1, h2, h3, h4, _⟩ := leaf_ok hl h
  refine ok_leaf (List.all_eq_true.2 fun x hx => List.all_eq_true.1 h1 x (List.mem_of_mem_take hx)) (keys_of fun j hj h0 => ?_) (by rw [List.length_take]; omega) (by rw [List.length_take]; omega)
  rw [List.length_take] at hj
  have := keys_get h2 (j := j) (by omega) h0
  rw [List.map_take]
  simpa [List.getD_eq_getElem?_getD, List.getElem?_take, show j - 1 < k by omega, show j < k by omega] using this
theorem leaf_drop {N : NodeD} {k : Nat} (hl : N.leaf = true) (h : nodeOk N = true) (hk2 : k < N.items.length) : nodeOk ⟨true, N.items.drop k, []⟩ = true := by
  obtain ⟨h1, h2, h3, h4, _⟩ := leaf_ok hl h
  refine ok_leaf (List.all_eq_true.2 fun x hx => List.all_eq_true.1 h1 x (List.mem_of_mem_drop hx)) (keys_of fun j hj h0 => ?_) (by rw [List.length_drop]; omega) (by rw [List.length_drop]; omega)
  rw [List.length_drop] at hj
  have := keys_get h2 (j := k + j) (by omega) (by omega)
  rw [List.map_drop]
  rw [show k + j - 1 = k + (j - 1) by omega] at this
  simpa [List.getD_eq_getElem?_getD, List.getElem?_drop] using this
/-- The reductions of a leaf's items. -/
def rowsR (l : List ItemD) : List Red := l.map fun x => rowRed x.int x.n
theorem rowsR_good {l : List ItemD} (h : ∀ x ∈ l, I64' x.n) : ∀ r ∈ rowsR l, r.good := fun r hr => by
  obtain ⟨x, hx, rfl⟩ := List.mem_map.1 hr
  exact rowRed_good _ _ (h x hx)
theorem rowsR_sum (l : List ItemD) : ((rowsR l).map Red.c).sum = (l.length : Int) := by
  induction l with
  | nil => rfl
  | cons x l ih => simp only [rowsR, List.map_cons, List.sum_cons, List.length_cons] at ih ⊢; rw [ih]; rw [show (rowRed x.int x.n).c = 1 by unfold rowRed; split <;> rfl]; omega
theorem red_leaf {l : List ItemD} (hok : nodeOk ⟨true, l, []⟩ = true) (h : ∀ x ∈ l, I64' x.n) (h6 : l.length ≤ 6) : redN ⟨true, l, []⟩ = (redAll (rowsR l), 0) := by
  unfold redN
  rw [if_pos hok]
  have e : redsOf ⟨true, l, []⟩ = rowsR l := by unfold redsOf partsOf rowsR; simp [pRed, Function.comp]
  rw [e]
  exact joined_good (rowsR_good h) (by rw [rowsR_sum]; omega)
theorem red_c {l : List ItemD} : (redAll (rowsR l)).c = (l.length : Int) := by
  unfold redAll
  rw [foldl_c, rowsR_sum]; simp [Red.zero]
theorem good_fits {r : Red} (h : r.good) (hc : r.c ≤ 6) : r.fits := by
  have a := h.n0; have b := h.nc; have c := h.le; have d := h.i64l; have e := h.i64m
  unfold Red.fits I64
  omega
/-- The law. -/
theorem red_split {N : NodeD} {k : Nat} (hl : N.leaf = true) (hok : nodeOk N = true) (hn : ∀ x ∈ N.items, I64' x.n) (hk : 1 ≤ k) (hk2 : k < N.items.length) :
    ∃ A B C : Red, redN ⟨true, N.items.take k, []⟩ = (A, 0) ∧ redN ⟨true, N.items.drop k, []⟩ = (B, 0) ∧ redN N = (C, 0) ∧ joined [A, B] = (C, 0) ∧ C.c = (N.items.length : Int) ∧ A.fits ∧ B.fits := by
  obtain ⟨h1, h2, h3, h4, h5⟩ := leaf_ok hl hok
  have hN : N = ⟨true, N.items, []⟩ := by cases N; simp_all
  have ht := fun x (hx : x ∈ N.items.take k) => hn x (List.mem_of_mem_take hx)
  have hd := fun x (hx : x ∈ N.items.drop k) => hn x (List.mem_of_mem_drop hx)
  have e1 := red_leaf (leaf_take hl hok hk (by omega)) ht (by rw [List.length_take]; omega)
  have e2 := red_leaf (leaf_drop hl hok hk2) hd (by rw [List.length_drop]; omega)
  have e3 := red_leaf (l := N.items) (by rw [← hN]; exact hok) hn h4
  rw [← hN] at e3
  have g1 := redAll_good (rowsR_good ht)
  have g2 := redAll_good (rowsR_good hd)
  have c1 := red_c (l := N.items.take k)
  have c2 := red_c (l := N.items.drop k)
  have hs : rowsR N.items = rowsR (N.items.take k) ++ rowsR (N.items.drop k) := by unfold rowsR; rw [← List.map_append, List.take_append_drop]
  have hb : redAll (rowsR N.items) = (redAll (rowsR (N.items.take k))).both (redAll (rowsR (N.items.drop k))) := by rw [hs]; exact redAll_append (rowsR_good ht) (rowsR_good hd)
  have hj : joined [redAll (rowsR (N.items.take k)), redAll (rowsR (N.items.drop k))] = ((redAll (rowsR (N.items.take k))).both (redAll (rowsR (N.items.drop k))), 0) := by
    rw [joined_good (fun r hr => by simp at hr; rcases hr with rfl | rfl; exact g1; exact g2) (by simp only [List.map_cons, List.map_nil, List.sum_cons, List.sum_nil]; rw [c1, c2, List.length_take, List.length_drop]; omega)]
    show (((Red.zero.both _).both _), (0 : Int)) = _
    rw [Red.zero_both g1]
  rw [← hb] at hj
  rw [List.length_take] at c1
  rw [List.length_drop] at c2
  exact ⟨_, _, _, e1, e2, e3, hj, red_c, good_fits g1 (by omega), good_fits g2 (by omega)⟩
theorem joinL_some : ∀ (l : List Red) (a : Red), (∀ r ∈ l, 0 ≤ r.c) → a.c + (l.map Red.c).sum ≤ 1073741824 → ∃ r, joinL a l = some r
  | [], a, _, _ => ⟨a, rfl⟩
  | x :: l, a, h, hs => by
    have hl : ∀ r ∈ l, 0 ≤ r.c := fun r hr => h r (by simp [hr])
    have hn : 0 ≤ (l.map Red.c).sum := by
      clear hs h
      induction l with
      | nil => simp
      | cons y l ih => simp only [List.map_cons, List.sum_cons]; have := hl y (by simp); have := ih (fun r hr => hl r (by simp [hr])); omega
    simp only [List.map_cons, List.sum_cons] at hs
    unfold joinL
    rw [if_neg (by omega)]
    exact joinL_some l _ hl (by show a.c + x.c + _ ≤ _; omega)
theorem rowRed_ok (b : Bool) (x : Int) : (rowRed b x).ok = true := by
  cases b
  · show Red.ok ⟨1, 0, 0, 0, 0⟩ = true; decide +kernel
  · exact one_ok x
/-- A right node has a reduction. -/
theorem red_err {N : NodeD} (hok : nodeOk N = true) : (redN N).2 = 0 := by
  have key : (∀ r ∈ redsOf N, r.ok = true ∧ 0 ≤ r.c) ∧ ((redsOf N).map Red.c).sum ≤ 1073741824 := by
    cases hl : N.leaf with
    | true =>
      obtain ⟨_, _, _, h4, _⟩ := leaf_ok hl hok
      have e : redsOf N = rowsR N.items := by unfold redsOf partsOf rowsR; rw [hl]; simp [pRed, Function.comp]
      rw [e]
      refine ⟨fun r hr => ?_, by rw [rowsR_sum]; omega⟩
      obtain ⟨x, _, rfl⟩ := List.mem_map.1 hr
      exact ⟨rowRed_ok _ _, by unfold rowRed; split <;> simp⟩
    | false =>
      unfold nodeOk at hok
      rw [if_neg (by simp [hl])] at hok
      simp only [Bool.and_eq_true, decide_eq_true_eq] at hok
      obtain ⟨_, _, _, hk, _, hc⟩ := hok
      have e : redsOf N = N.kids.map (·.red) := by unfold redsOf partsOf; rw [hl]; simp [pRed, Function.comp]
      rw [e]
      refine ⟨fun r hr => ?_, ?_⟩
      · obtain ⟨x, hx, rfl⟩ := List.mem_map.1 hr
        have := List.all_eq_true.1 hk x hx
        unfold kidOk at this
        simp only [Bool.and_eq_true, decide_eq_true_eq] at this
        exact ⟨this.2.2.2.2.2, by omega⟩
      · unfold countTo at hc
        rw [List.take_of_length_le (Nat.le_refl _)] at hc
        rw [List.map_map]; exact hc
  obtain ⟨r, hr⟩ := joinL_some (redsOf N) Red.zero (fun r hr => (key.1 r hr).2) (by simpa [Red.zero] using key.2)
  unfold redN
  rw [if_pos hok]
  unfold joined
  rw [if_pos (List.all_eq_true.2 fun r hr => (key.1 r hr).1), hr]
theorem ItemsS.takeK {W : World} {S : Nat → Prop} {a : Addr} {n c k : Nat} {l : List ItemD} (h : ItemsS W S (some a) n c l) (hk : k ≤ n) : ItemsS W S (some a) k k (l.take k) := by
  have h1 := h.hcap
  have h2 := h.hmax
  refine ⟨by rw [List.length_take, h.hlen]; omega, Nat.le_refl _, by omega, by have := h.hfew; omega, fun j x hx => ?_, fun e => by cases e⟩
  rw [List.getElem?_take] at hx
  split at hx
  · exact h.hat j x hx
  · cases hx
theorem ItemsS.dropK {W : World} {S : Nat → Prop} {b o n c k : Nat} {l : List ItemD} (h : ItemsS W S (some ⟨b, o, none⟩) n c l) (hk : k ≤ n) : ItemsS W S (some ⟨b, o + k * 4, none⟩) (n - k) (c - k) (l.drop k) := by
  have h1 := h.hcap
  have h2 := h.hmax
  refine ⟨by rw [List.length_drop, h.hlen], by omega, by omega, by have := h.hfew; omega, fun j x hx => ?_, fun e => by cases e⟩
  rw [List.getElem?_drop] at hx
  obtain ⟨b', o', ka, kl, kc, va, vl, vc, e, g1, g2, c0, c1, c2, c3, g3⟩ := h.hat _ x hx
  cases e
  have e : o + (k + j) * 4 = o + k * 4 + j * 4 := by omega
  rw [e] at c0 c1 c2 c3
  exact ⟨b, _, ka, kl, kc, va, vl, vc, rfl, g1, g2, c0, c1, c2, c3, g3⟩
theorem part_cut (x : Int) (q : Nat) (h1 : 2 ≤ q) (h6 : q ≤ 6) : ∃ k : Nat, wrap64 (1 + wrap64 ((IntKind.u64.wrap x).tmod ((q : Int) - 1))) = (k : Int) ∧ 1 ≤ k ∧ k < q := by
  have h0 : 0 ≤ IntKind.u64.wrap x := by rw [wrap_u64]; omega
  generalize IntKind.u64.wrap x = u at h0
  rw [Int.tmod_eq_emod_of_nonneg h0]
  have h1 := Int.emod_nonneg u (show (q : Int) - 1 ≠ 0 by omega)
  have h2 := Int.emod_lt_of_pos u (show (0 : Int) < (q : Int) - 1 by omega)
  refine ⟨(1 + u % ((q : Int) - 1)).toNat, ?_, by omega, by omega⟩
  rw [wrap64_def, wrap64_def]; omega
theorem red_bad {N : NodeD} (h : nodeOk N = false) : redN N = (Red.zero, 240) := by unfold redN; rw [h]; rfl
theorem nodeS_fine {W : World} {S : Nat → Prop} {ia ka : Option Addr} {il ic kl kc : Nat} {N : NodeD} (h : NodeS W S ia il ic ka kl kc N) : ∀ x ∈ N.items, I64' x.n := fun x hx => by
  obtain ⟨i, hi', e⟩ := List.mem_iff_getElem.1 hx
  obtain ⟨_, _, _, _, _, _, _, _, _, _, _, _, _, _, _, _, _, g⟩ := h.items.hat i x (by rw [List.getElem?_eq_getElem hi', e])
  exact g
end Go.Dav
