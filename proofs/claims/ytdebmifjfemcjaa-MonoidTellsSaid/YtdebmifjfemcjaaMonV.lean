/-
  Layer 13: what is told of a reduction, in plain.
-/
import Derived.Test.YtdebmifjfemcjaaValD
import Derived.Test.YtdebmifjfemcjaaMonRed
namespace Go.Dav
set_option linter.unusedVariables false
set_option linter.unusedSimpArgs false
open Go Go.RowKit
theorem Blk.fiveV {W : World} {p : Nat} {x0 x1 x2 x3 x4 : Value} {t : TypeId} (h : Blk W p [x0, x1, x2, x3, x4] t) (y0 y1 y2 y3 y4 : Value) :
    Blk (((((W.setCell ⟨p, 0, none⟩ y0).setCell ⟨p, 1, none⟩ y1).setCell ⟨p, 2, none⟩ y2).setCell ⟨p, 3, none⟩ y3).setCell ⟨p, 4, none⟩ y4) p [y0, y1, y2, y3, y4] t := ((((h.set 0 y0).set 1 y1).set 2 y2).set 3 y3).set 4 y4
theorem Only.fiveV (W : World) (p : Nat) (y0 y1 y2 y3 y4 : Value) : Only p W (((((W.setCell ⟨p, 0, none⟩ y0).setCell ⟨p, 1, none⟩ y1).setCell ⟨p, 2, none⟩ y2).setCell ⟨p, 3, none⟩ y3).setCell ⟨p, 4, none⟩ y4) :=
  (((((Only.refl p W).set 0 y0).set 1 y1).set 2 y2).set 3 y3).set 4 y4
def noStr : ByteArray := ⟨#[]⟩
def leafV (d : Nat) (k n : Int) : ValN (d + 1) := (⟨k, n, noStr, [], []⟩ : ValF (ValN d))
def endV (d : Nat) (n x : Int) : ValN (d + 1) := if 0 < n then leafV d 3 x else leafV d 1 0
def statKeys : List ByteArray := [⟨#[99, 111, 117, 110, 116]⟩, ⟨#[109, 97, 120]⟩, ⟨#[109, 105, 110]⟩, ⟨#[110, 117, 109, 98, 101, 114, 115]⟩, ⟨#[115, 117, 109]⟩]
def statsV (r : Red) : ValN 2 := (⟨6, 0, noStr, [leafV 0 3 r.c, endV 0 r.n r.m, endV 0 r.n r.l, leafV 0 3 r.n, leafV 0 3 (sg r.s)], statKeys⟩ : ValF (ValN 1))
/-- What is told of a reduction, by a kind. -/
def tellV (k : Nat) (r : Red) : ValN 2 :=
  if k = 1 then leafV 1 3 r.c else if k = 2 then leafV 1 3 (sg r.s) else if k = 3 then endV 1 r.n r.l else if k = 4 then endV 1 r.n r.m else statsV r
theorem leaf_at (W : World) (d : Nat) {k n : Int} (hk : I64' k) (hn : I64' n) : ValAt W (d + 1) (.agg #[.int .i64 k, .int .i64 n, .string ⟨#[]⟩, .slice none 0 0, .slice none 0 0]) (leafV d k n) :=
  ⟨none, 0, 0, none, 0, 0, rfl, hk, hn, by show noStr.size ≤ _; decide, rfl, Nat.le_refl _, by unfold maxLen; omega, by omega, fun _ => rfl, fun i y hy => by simp [leafV, ValN.to] at hy, StrsAt.nil_⟩
theorem leaf_good (d : Nat) {k n : Int} (h : k = 3 ∨ (k = 1 ∧ n = 0)) : aloneB (leafV d k n).to = true := by
  rcases h with rfl | ⟨rfl, rfl⟩
  · unfold aloneB; simp [leafV, ValN.to, keysTo, strEmpty, noStr]
  · unfold aloneB; simp [leafV, ValN.to, keysTo, strEmpty, noStr]
theorem leaf_within (d L : Nat) (m : Int) {k n : Int} (h : k = 3 ∨ (k = 1 ∧ n = 0)) (hm : 1 ≤ m) : withinV (d + 1) (leafV d k n) L m = 1 := by
  rw [withinV_yes (fun hh => ?_)]
  · rfl
  · rcases hh with hh | hh | hh
    · omega
    · rw [leaf_good d h] at hh; cases hh
    · have : (leafV d k n).to.kind = k := rfl
      omega
theorem end_leaf (d : Nat) (n x : Int) : ∃ k y, endV d n x = leafV d k y ∧ (k = 3 ∨ (k = 1 ∧ y = 0)) := by
  unfold endV; split
  · exact ⟨3, x, rfl, .inl rfl⟩
  · exact ⟨1, 0, rfl, .inr ⟨rfl, rfl⟩⟩
set_option maxRecDepth 100000 in
theorem stat_keys : keysTo statKeys 5 = true := by decide +kernel
theorem stats_alone (r : Red) : aloneB (statsV r).to = true := by
  have h := stat_keys
  unfold aloneB
  rw [show (statsV r).to.keys = statKeys from rfl, show statKeys.length = 5 from rfl, h, Bool.true_and, show (statsV r).to.kind = 6 from rfl]
  simp [show (statsV r).to.n = 0 from rfl, show (statsV r).to.s = noStr from rfl, show (statsV r).to.kids.length = 5 from rfl, strEmpty, noStr]
theorem stats_right (r : Red) : rightV 2 (statsV r) = true := by
  obtain ⟨k1, y1, e1, h1⟩ := end_leaf 0 r.n r.m
  obtain ⟨k2, y2, e2, h2⟩ := end_leaf 0 r.n r.l
  unfold rightV
  rw [withinV_yes (fun hh => by
    rcases hh with hh | hh | hh
    · omega
    · rw [stats_alone] at hh; cases hh
    · exact absurd hh.2 (by decide))]
  have e : (statsV r).to.kids = [leafV 0 3 r.c, leafV 0 k1 y1, leafV 0 k2 y2, leafV 0 3 r.n, leafV 0 3 (sg r.s)] := by
    show [leafV 0 3 r.c, endV 0 r.n r.m, endV 0 r.n r.l, leafV 0 3 r.n, leafV 0 3 (sg r.s)] = _
    rw [e1, e2]
  rw [e]
  have f3 := fun n m hm => leaf_within 0 7 m (k := 3) (n := n) (.inl rfl) hm
  simp only [withinL, f3 _ (256 - ((1 : Nat) : Int)) (by omega), f3 _ (256 - ((1 + 1 + 1 + 1 : Nat) : Int)) (by omega), f3 _ (256 - ((1 + 1 + 1 + 1 + 1 : Nat) : Int)) (by omega), leaf_within 0 7 (256 - ((1 + 1 : Nat) : Int)) h1 (by omega), leaf_within 0 7 (256 - ((1 + 1 + 1 : Nat) : Int)) h2 (by omega), if_false, Nat.one_ne_zero]
  decide
theorem tell_right (k : Nat) (r : Red) : rightV 2 (tellV k r) = true := by
  have hl : ∀ k n, (k = 3 ∨ (k = 1 ∧ n = 0)) → rightV 2 (leafV 1 k n) = true := fun k n h => by
    unfold rightV; rw [leaf_within 1 8 256 h (by omega)]; decide
  have he : ∀ n x, rightV 2 (endV 1 n x) = true := fun n x => by
    obtain ⟨k, y, e, h⟩ := end_leaf 1 n x
    rw [e]; exact hl _ _ h
  unfold tellV
  split
  · exact hl _ _ (.inl rfl)
  · split
    · exact hl _ _ (.inl rfl)
    · split
      · exact he _ _
      · split
        · exact he _ _
        · exact stats_right r
theorem oneL_refl {K : Type} {f : K → K → Bool} (k : Int) : ∀ (l : List K) (ks : List ByteArray), (∀ y ∈ l, f y y = true) → oneL f k l l ks ks = true
  | [], _, _ => rfl
  | y :: ys, ks, h => by
    rw [oneL_cons, h y (by simp), oneL_refl k ys ks.tail fun z hz => h z (by simp [hz])]
    simp
theorem oneV_refl : ∀ (d : Nat) (x : ValN d), goodV d x = true → oneV d d x x = true
  | 0, _, h => by unfold goodV at h; cases h
  | d + 1, x, h => by
    rw [oneV_eq, oneL_refl _ _ _ fun y hy => oneV_refl d y (by
      obtain ⟨i, hi⟩ := List.getElem?_of_mem hy
      exact (good_alone h).2 i y hi)]
    simp
theorem tell_same (k : Nat) (r : Red) : sameV 2 2 (tellV k r) (tellV k r) = true := by
  unfold sameV
  rw [tell_right, oneV_refl 2 _ (withinV_good 2 _ 8 256 (by have h := tell_right k r; unfold rightV at h; rw [decide_eq_true_eq] at h; omega))]
  rfl
def five (k n : Int) : List Value := [.int .i64 k, .int .i64 n, .string ⟨#[]⟩, .slice none 0 0, .slice none 0 0]
/-- A slice in a block of its own. -/
def SlNew (B n : Nat) (cs : List Value) (t : TypeId) (v : Value) (W : World) : Prop := ∃ g, v = .slice (some ⟨g, 0, none⟩) n n ∧ B ≤ g ∧ Blk W g cs t
theorem SlNew.later {B n : Nat} {cs : List Value} {t : TypeId} : ∀ v W W', SlNew B n cs t v W → Below W.heap.size W W' → SlNew B n cs t v W' := fun _ _ _ ⟨g, h1, h2, h3⟩ hb => ⟨g, h1, h2, h3.ext hb⟩
theorem stats_at {W : World} {g q : Nat} {r : Red} {x y : Int × Int} {t s : TypeId} {cg cq : Nat} (hx : endV 0 r.n r.l = leafV 0 x.1 x.2) (hy : endV 0 r.n r.m = leafV 0 y.1 y.2) (h1 : I64' r.c) (h2 : I64' r.n) (h3 : I64' (sg r.s)) (hx1 : I64' x.1) (hx2 : I64' x.2) (hy1 : I64' y.1) (hy2 : I64' y.2)
    (hg : ∀ i v, (five 3 r.c ++ (five y.1 y.2 ++ (five x.1 x.2 ++ (five 3 r.n ++ five 3 (sg r.s)))))[i]? = some v → W.cell? ⟨g, i, none⟩ = some v) (hgl : g < W.heap.size) (hcg : 5 ≤ cg ∧ cg ≤ maxLen) (hq : Blk W q [.string ⟨#[99, 111, 117, 110, 116]⟩, .string ⟨#[109, 97, 120]⟩, .string ⟨#[109, 105, 110]⟩, .string ⟨#[110, 117, 109, 98, 101, 114, 115]⟩, .string ⟨#[115, 117, 109]⟩] s) (hcq : 5 ≤ cq ∧ cq ≤ maxLen) :
    ValAt W 2 (.agg #[.int .i64 6, .int .i64 0, .string ⟨#[]⟩, .slice (some ⟨g, 0, none⟩) 5 cg, .slice (some ⟨q, 0, none⟩) 5 cq]) (statsV r) := by
  refine ⟨some ⟨g, 0, none⟩, 5, cg, some ⟨q, 0, none⟩, 5, cq, rfl, by show I64' 6; unfold I64'; omega, by show I64' 0; unfold I64'; omega, by show noStr.size ≤ _; decide, rfl, hcg.1, hcg.2, by omega, (fun h => by cases h), fun i z hz => ?_, rfl, hcq.1, hcq.2, by omega, fun k z hz => ?_, (fun h => by cases h), fun z hz => ?_⟩
  · have hz' : [leafV 0 3 r.c, leafV 0 y.1 y.2, leafV 0 x.1 x.2, leafV 0 3 r.n, leafV 0 3 (sg r.s)][i]? = some z := by
      rw [← hx, ← hy]; exact hz
    have hi : i < 5 := by have := (List.getElem?_eq_some_iff.1 hz').1; simpa using this
    rcases (by omega : i = 0 ∨ i = 1 ∨ i = 2 ∨ i = 3 ∨ i = 4) with rfl | rfl | rfl | rfl | rfl
    · cases hz'; exact ⟨g, 0, _, _, _, _, _, rfl, hgl, hg 0 _ rfl, hg 1 _ rfl, hg 2 _ rfl, hg 3 _ rfl, hg 4 _ rfl, leaf_at W 0 (by unfold I64'; omega) h1⟩
    · cases hz'; exact ⟨g, 0, _, _, _, _, _, rfl, hgl, hg 5 _ rfl, hg 6 _ rfl, hg 7 _ rfl, hg 8 _ rfl, hg 9 _ rfl, leaf_at W 0 hy1 hy2⟩
    · cases hz'; exact ⟨g, 0, _, _, _, _, _, rfl, hgl, hg 10 _ rfl, hg 11 _ rfl, hg 12 _ rfl, hg 13 _ rfl, hg 14 _ rfl, leaf_at W 0 hx1 hx2⟩
    · cases hz'; exact ⟨g, 0, _, _, _, _, _, rfl, hgl, hg 15 _ rfl, hg 16 _ rfl, hg 17 _ rfl, hg 18 _ rfl, hg 19 _ rfl, leaf_at W 0 (by unfold I64'; omega) h2⟩
    · cases hz'; exact ⟨g, 0, _, _, _, _, _, rfl, hgl, hg 20 _ rfl, hg 21 _ rfl, hg 22 _ rfl, hg 23 _ rfl, hg 24 _ rfl, leaf_at W 0 (by unfold I64'; omega) h3⟩
  · refine ⟨q, 0, rfl, hq.lt, ?_⟩
    rw [Nat.zero_add, hq.cells]
    have hz' : statKeys[k]? = some z := hz
    have hk : k < 5 := by have := (List.getElem?_eq_some_iff.1 hz').1; simpa [statKeys] using this
    rcases (by omega : k = 0 ∨ k = 1 ∨ k = 2 ∨ k = 3 ∨ k = 4) with rfl | rfl | rfl | rfl | rfl
    all_goals (cases hz'; rfl)
  · have hz' : z ∈ statKeys := hz
    simp only [statKeys, List.mem_cons, List.not_mem_nil, or_false] at hz'
    rcases hz' with rfl | rfl | rfl | rfl | rfl
    all_goals decide
end Go.Dav
