/-
  Layer 4's answer for an object of pairs, walked.
-/
import Derived.Test.YtmcmknndhppljaaDoorQMkA
import Derived.Test.YtmcmknndhppljaaDoorQAppG
import Derived.Test.YtmcmknndhppljaaDoorQPartsO
import Derived.Test.YtmcmknndhppljaaDoorQLstA
namespace Go.Dav
set_option linter.unusedVariables false
set_option linter.unusedSimpArgs false
open Go Go.RowKit
def kidsF (m : List PairE) : List Value := m.flatMap PairE.vcells
def keysF (m : List PairE) : List Value := m.map fun e => .string e.key
theorem kidsF_len (m : List PairE) : (kidsF m).length = m.length * 5 := by
  unfold kidsF
  induction m with
  | nil => rfl
  | cons x m ih => rw [List.flatMap_cons, List.length_append, ih, List.length_cons]; simp [PairE.vcells]; omega
theorem keysF_len (m : List PairE) : (keysF m).length = m.length := by simp [keysF]
theorem kidsF_one (m : List PairE) : ∀ u ∈ kidsF m, u.oneCell' = true := fun u hu => by
  obtain ⟨e, _, hu⟩ := List.mem_flatMap.1 hu
  simp [PairE.vcells] at hu
  rcases hu with rfl | rfl | rfl | rfl | rfl <;> rfl
theorem keysF_one (m : List PairE) : ∀ u ∈ keysF m, u.oneCell' = true := fun u hu => by
  obtain ⟨e, _, rfl⟩ := List.mem_map.1 hu
  rfl
theorem FlatAt.part {W : World} {a : Option Addr} {xs ys : List Value} (h : FlatAt W a (xs ++ ys)) : FlatAt W a xs := fun j u hu => h j u (by rw [List.getElem?_append_left (List.getElem?_eq_some_iff.1 hu).1]; exact hu)
theorem FlatAt.tail {W : World} {b o : Nat} {xs ys : List Value} {k : Nat} (h : FlatAt W (some ⟨b, o, none⟩) (xs ++ ys)) (hk : xs.length = k) : FlatAt W (some ⟨b, o + k, none⟩) ys := fun j u hu => by
  obtain ⟨b', o', h1, h2, h3⟩ := h (k + j) u (by rw [List.getElem?_append_right (by omega), show k + j - xs.length = j by omega]; exact hu)
  cases h1
  exact ⟨b, o + k, rfl, h2, by rw [Nat.add_assoc]; exact h3⟩
/-- While the answer's object grows. -/
structure RObAt (W : World) (z b5 tV : Nat) (m : List PairE) (k : Nat) (kk : Option Addr) (kc : Nat) (qk : Option Addr) (qc : Nat) : Prop where
  zero : Blk W z zeroL tV
  box : Blk W b5 [.int .i64 6, .int .i64 0, .string ⟨#[]⟩, .slice kk k kc, .slice qk k qc] tV
  kids : FlatAt W kk (kidsF m)
  keys : FlatAt W qk (keysF m)
  knil : kk = none → kc = 0
  kle : k ≤ kc ∧ kc ≤ maxLen
  qnil : qk = none → qc = 0
  qle : k ≤ qc ∧ qc ≤ maxLen
theorem RObAt.ext {W W' : World} {z b5 tV : Nat} {m : List PairE} {k : Nat} {kk : Option Addr} {kc : Nat} {qk : Option Addr} {qc : Nat} (h : RObAt W z b5 tV m k kk kc qk qc) (hb : Below W.heap.size W W') : RObAt W' z b5 tV m k kk kc qk qc :=
  ⟨h.zero.ext hb, h.box.ext hb, h.kids.ext hb, h.keys.ext hb, h.knil, h.kle, h.qnil, h.qle⟩
/-- The object that the rows make, wherever they lie. -/
theorem robjVal {d : Nat} {f : PairE → ValN d} {w W : World} {n : Nat} {m : List PairE} {kk : Option Addr} {kc : Nat} {qk : Option Addr} {qc : Nat} (hki : FlatAt W kk (kidsF m)) (hke : FlatAt W qk (keysF m)) (hn : m.length = n) (hn2 : n ≤ 1000000) (hkn : kk = none → kc = 0) (hkl : n ≤ kc ∧ kc ≤ maxLen) (hqn : qk = none → qc = 0) (hql : n ≤ qc ∧ qc ≤ maxLen) (hb : Below w.heap.size w W)
    (hf : ∀ e ∈ m, ValAt w d (.agg #[.int .i64 e.k, .int .i64 e.n, .string e.s, .slice e.a1 e.l1 e.c1, .slice e.a2 e.l2 e.c2]) (f e)) (hk : ∀ e ∈ m, e.key.size ≤ 17592186044416) :
    ValAt W (d + 1) (.agg #[.int .i64 6, .int .i64 0, .string ⟨#[]⟩, .slice kk n kc, .slice qk n qc]) (⟨6, 0, noStr, m.map f, m.map PairE.key⟩ : ValF (ValN d)) := by
  refine ⟨kk, n, kc, qk, n, qc, rfl, (by constructor <;> simp [ValN.to]), (by constructor <;> simp [ValN.to]), (by show noStr.size ≤ _; unfold noStr; decide), by show (m.map f).length = n; simpa using hn, hkl.1, hkl.2, by omega, hkn, fun i y hy => ?_, ⟨by show (m.map PairE.key).length = n; simpa using hn, hql.1, hql.2, by omega, fun k s hs => ?_, hqn, fun s hs => ?_⟩⟩
  · have hy : (m.map f)[i]? = some y := hy
    rw [List.getElem?_map, Option.map_eq_some_iff] at hy
    obtain ⟨e, he, rfl⟩ := hy
    obtain ⟨g, o, rfl, hg, c0⟩ := hki (i * 5 + 0) (.int .i64 e.k) (by unfold kidsF; rw [vflat_get (by omega) m i he]; rfl)
    have cc : ∀ j u, j < 5 → e.vcells[j]? = some u → W.cell? ⟨g, o + (i * 5 + j), none⟩ = some u := fun j u hj hu => by
      obtain ⟨g', o', hg', _, h3⟩ := hki (i * 5 + j) u (by unfold kidsF; rw [vflat_get hj m i he]; exact hu)
      cases hg'
      exact h3
    refine ⟨g, o, _, _, _, _, _, rfl, hg, ?_, ?_, ?_, ?_, ?_, ValAt.ext hb d (hf e (List.mem_of_getElem? he))⟩
    · exact cc 0 _ (by omega) rfl
    · exact cc 1 _ (by omega) rfl
    · exact cc 2 _ (by omega) rfl
    · exact cc 3 _ (by omega) rfl
    · exact cc 4 _ (by omega) rfl
  · have hs : (m.map PairE.key)[k]? = some s := hs
    rw [List.getElem?_map, Option.map_eq_some_iff] at hs
    obtain ⟨e, he, rfl⟩ := hs
    obtain ⟨g, o, rfl, hg, c0⟩ := hke k (.string e.key) (by unfold keysF; rw [List.getElem?_map, he]; rfl)
    exact ⟨g, o, rfl, hg, c0⟩
  · obtain ⟨e, he, rfl⟩ := List.mem_map.1 hs
    exact hk e he
end Go.Dav
