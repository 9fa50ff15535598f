/-
  Layer 14: a node in memory of its own: rows half turned, in plain.
-/
import Derived.Test.YtfhhcpolicdfpaaQNodZ
import Derived.Test.YtfhhcpolicdfpaaQPartsL
namespace Go.Dav
set_option linter.unusedVariables false
set_option linter.unusedSimpArgs false
open Go Go.RowKit
theorem turnI_zero (l : List ItemD) : turnI l 0 = l := by simp [turnI]
theorem turnI_all (l : List ItemD) : turnI l l.length = l.map ownI := by simp [turnI]
theorem turnK_zero (l : List KidD) : turnK l 0 = l := by simp [turnK]
theorem turnK_all (l : List KidD) : turnK l l.length = l.map ownK := by simp [turnK]
theorem turnI_len (l : List ItemD) (k : Nat) : (turnI l k).length = l.length := by simp [turnI]; omega
theorem turnK_len (l : List KidD) (k : Nat) : (turnK l k).length = l.length := by simp [turnK]; omega
theorem MixI.same {W W' : World} {S T : Nat → Prop} {cs : List Value} {l : List ItemD} {k : Nat} (h : MixI W S T cs l k) (hs : W.heap.size ≤ W'.heap.size) (hb : ∀ b, (S b ∨ T b) → b < W.heap.size → W'.heap[b]? = W.heap[b]?) : MixI W' S T cs l k :=
  ⟨h.1, fun i x hx => by
    obtain ⟨ka, kl, kc, va, vl, vc, c0, c1, c2, c3, h1, h2, h3⟩ := h.2 i x hx
    have hb' : ∀ b, (if i < k then T b else S b) → b < W.heap.size → W'.heap[b]? = W.heap[b]? := fun b hp => hb b (by split at hp <;> simp [hp])
    exact ⟨ka, kl, kc, va, vl, vc, c0, c1, c2, c3, h1.same hs hb', h2.same hs hb', h3⟩⟩
theorem MixI.onlyS {W W' : World} {S T p : Nat → Prop} {cs : List Value} {l : List ItemD} {k : Nat} (h : MixI W S T cs l k) (ho : OnlyS p W W') (hS : ∀ b, S b → ¬ p b) (hT : ∀ b, T b → ¬ p b) : MixI W' S T cs l k :=
  h.same ho.size fun b hb hl => ho.block b hl (by rcases hb with hb | hb; exact hS b hb; exact hT b hb)
theorem MixI.start {W : World} {S T : Nat → Prop} {cs : List Value} {l : List ItemD} (h : ItemCells W S cs l) : MixI W S T cs (turnI l 0) 0 := by
  rw [turnI_zero]
  refine ⟨h.1, fun i x hx => ?_⟩
  obtain ⟨ka, kl, kc, va, vl, vc, c0, c1, c2, c3, h1, h2, h3⟩ := h.2 i x hx
  exact ⟨ka, kl, kc, va, vl, vc, c0, c1, c2, c3, by simpa using h1, by simpa using h2, h3⟩
theorem MixI.done {W : World} {S T : Nat → Prop} {cs : List Value} {l : List ItemD} (h : MixI W S T cs (turnI l l.length) l.length) : ItemCells W T cs (l.map ownI) := by
  rw [turnI_all] at h
  refine ⟨h.1, fun i x hx => ?_⟩
  have hi : i < l.length := by simpa using (List.getElem?_eq_some_iff.1 hx).1
  obtain ⟨ka, kl, kc, va, vl, vc, c0, c1, c2, c3, h1, h2, h3⟩ := h.2 i x hx
  simp only [hi, if_true] at h1 h2
  exact ⟨ka, kl, kc, va, vl, vc, c0, c1, c2, c3, h1, h2, h3⟩
theorem MixI.step {W : World} {S T : Nat → Prop} {cs : List Value} {l : List ItemD} {k : Nat} {x : ItemD} {ka va : Option Addr} {kl kc vl vc : Nat} (h : MixI W S T cs (turnI l k) k) (hx : l[k]? = some x)
    (h1 : BytesS W T ka kl kc (x.key.take 121)) (h2 : BytesS W T va vl vc (x.value.take 121)) : MixI W S T ((cs.set (k * 4) (.slice ka kl kc)).set (k * 4 + 1) (.slice va vl vc)) (turnI l (k + 1)) (k + 1) := by
  have hk := (List.getElem?_eq_some_iff.1 hx).1
  have hlen := h.1
  rw [turnI_len] at hlen
  refine ⟨by simp [turnI_len, hlen], fun i y hy => ?_⟩
  rw [turnI_set hx] at hy
  by_cases hik : i = k
  · subst hik
    rw [List.getElem?_set_self (by rw [turnI_len]; exact hk)] at hy
    cases hy
    obtain ⟨ka', kl', kc', va', vl', vc', c0, c1, c2, c3, g1, g2, g3⟩ := h.2 i x (turnI_get hx)
    refine ⟨ka, kl, kc, va, vl, vc, ?_, ?_, ?_, ?_, ?_, ?_, g3⟩
    · rw [List.getElem?_set_ne (by omega), List.getElem?_set_self (by omega)]
    · rw [List.getElem?_set_self (by simp; omega)]
    · rw [List.getElem?_set_ne (by omega), List.getElem?_set_ne (by omega)]; exact c2
    · rw [List.getElem?_set_ne (by omega), List.getElem?_set_ne (by omega)]; exact c3
    · simpa [ownI] using h1
    · simpa [ownI] using h2
  · rw [List.getElem?_set_ne (by omega)] at hy
    obtain ⟨ka', kl', kc', va', vl', vc', c0, c1, c2, c3, g1, g2, g3⟩ := h.2 i y hy
    have e : (i < k + 1) = (i < k) := by apply propext; omega
    refine ⟨ka', kl', kc', va', vl', vc', ?_, ?_, ?_, ?_, by simpa only [e] using g1, by simpa only [e] using g2, g3⟩ <;> rw [List.getElem?_set_ne (by omega), List.getElem?_set_ne (by omega)]
    · exact c0
    · exact c1
    · exact c2
    · exact c3
/-- Kids' cells, the first k of which lie in T, the others in S. -/
def MixK (W : World) (S T : Nat → Prop) (cs : List Value) (l : List KidD) (k : Nat) : Prop :=
  cs.length = l.length * 8 ∧ ∀ (i : Nat) (x : KidD), l[i]? = some x → ∃ ka kl kc, (∀ j v, (Value.slice ka kl kc :: kidVals x)[j]? = some v → cs[i * 8 + j]? = some v) ∧ BytesS W (fun b => if i < k then T b else S b) ka kl kc x.key ∧ I64' x.at_ ∧ x.red.fits
theorem MixK.same {W W' : World} {S T : Nat → Prop} {cs : List Value} {l : List KidD} {k : Nat} (h : MixK W S T cs l k) (hs : W.heap.size ≤ W'.heap.size) (hb : ∀ b, (S b ∨ T b) → b < W.heap.size → W'.heap[b]? = W.heap[b]?) : MixK W' S T cs l k :=
  ⟨h.1, fun i x hx => by
    obtain ⟨ka, kl, kc, c0, h1, h2, h3⟩ := h.2 i x hx
    have hb' : ∀ b, (if i < k then T b else S b) → b < W.heap.size → W'.heap[b]? = W.heap[b]? := fun b hp => hb b (by split at hp <;> simp [hp])
    exact ⟨ka, kl, kc, c0, h1.same hs hb', h2, h3⟩⟩
theorem MixK.start {W : World} {S T : Nat → Prop} {cs : List Value} {l : List KidD} (h : KidCells W S cs l) : MixK W S T cs (turnK l 0) 0 := by
  rw [turnK_zero]
  refine ⟨h.1, fun i x hx => ?_⟩
  obtain ⟨ka, kl, kc, c0, h1, h2, h3⟩ := h.2 i x hx
  exact ⟨ka, kl, kc, c0, by simpa using h1, h2, h3⟩
theorem MixK.done {W : World} {S T : Nat → Prop} {cs : List Value} {l : List KidD} (h : MixK W S T cs (turnK l l.length) l.length) : KidCells W T cs (l.map ownK) := by
  rw [turnK_all] at h
  refine ⟨h.1, fun i x hx => ?_⟩
  have hi : i < l.length := by simpa using (List.getElem?_eq_some_iff.1 hx).1
  obtain ⟨ka, kl, kc, c0, h1, h2, h3⟩ := h.2 i x hx
  simp only [hi, if_true] at h1
  exact ⟨ka, kl, kc, c0, h1, h2, h3⟩
theorem MixK.step {W : World} {S T : Nat → Prop} {cs : List Value} {l : List KidD} {k : Nat} {x : KidD} {ka : Option Addr} {kl kc : Nat} (h : MixK W S T cs (turnK l k) k) (hx : l[k]? = some x)
    (h1 : BytesS W T ka kl kc (x.key.take 121)) : MixK W S T (cs.set (k * 8) (.slice ka kl kc)) (turnK l (k + 1)) (k + 1) := by
  have hk := (List.getElem?_eq_some_iff.1 hx).1
  have hlen := h.1
  rw [turnK_len] at hlen
  refine ⟨by simp [turnK_len, hlen], fun i y hy => ?_⟩
  rw [turnK_set hx] at hy
  by_cases hik : i = k
  · subst hik
    rw [List.getElem?_set_self (by rw [turnK_len]; exact hk)] at hy
    cases hy
    obtain ⟨ka', kl', kc', c0, g1, g2, g3⟩ := h.2 i x (turnK_get hx)
    refine ⟨ka, kl, kc, fun j v hv => ?_, by simpa [ownK] using h1, g2, g3⟩
    cases j with
    | zero => rw [Nat.add_zero, List.getElem?_set_self (by omega)]; simpa using hv
    | succ j => rw [List.getElem?_set_ne (by omega)]; exact c0 (j + 1) v (by simpa [ownK, kidVals] using hv)
  · rw [List.getElem?_set_ne (by omega)] at hy
    obtain ⟨ka', kl', kc', c0, g1, g2, g3⟩ := h.2 i y hy
    have e : (i < k + 1) = (i < k) := by apply propext; omega
    refine ⟨ka', kl', kc', fun j v hv => ?_, by simpa only [e] using g1, g2, g3⟩
    have hj : j < 8 := by have := (List.getElem?_eq_some_iff.1 hv).1; simp [kidVals] at this; omega
    rw [List.getElem?_set_ne (by omega)]
    exact c0 j v hv
/-- Rows of other types lie in other blocks. -/
theorem ownsRow_apart {w : World} {base base' e e' size size' n n' cap cap' g g' : Nat} {xs ys : List Value} (h : w.ownsRow base e size (.slice (some ⟨g, 0, none⟩) n cap) n xs) (h' : w.ownsRow base' e' size' (.slice (some ⟨g', 0, none⟩) n' cap') n' ys) (hne : e ≠ e') : g ≠ g' := by
  rintro rfl
  rcases h.2 with ⟨a, _⟩ | ⟨g1, cap1, cur1, a, _, b, _⟩
  · cases a
  · rcases h'.2 with ⟨a', _⟩ | ⟨g2, cap2, cur2, a', _, b', _⟩
    · cases a'
    · cases a; cases a'
      rw [b] at b'
      cases b'
      exact hne rfl
theorem ownsRow_shape {w : World} {base e size n : Nat} {v : Value} {xs : List Value} (h : w.ownsRow base e size v n xs) : ∃ a c, v = .slice a n c ∧ (0 < n → ∃ g, a = some ⟨g, 0, none⟩) ∧ ∀ g, a = some ⟨g, 0, none⟩ → base ≤ g ∧ g < w.heap.size := by
  rcases h.2 with ⟨a, h2⟩ | ⟨g, cap, cur, a, hb, hg, _⟩
  · subst h2; exact ⟨none, 0, a, fun h => by omega, fun g h => by cases h⟩
  · exact ⟨_, cap, a, fun _ => ⟨g, rfl⟩, fun g' h => by cases h; exact ⟨hb, (Array.getElem?_eq_some_iff.1 hg).1⟩⟩
end Go.Dav
