/-
  Layer 4: List, walked: the program's.
-/
import Derived.Test.YtmcmknndhppljaaDoorVbM
namespace Go.Dav
set_option linter.unusedVariables false
set_option linter.unusedSimpArgs false
open Go Go.RowKit
def flatW (m : List PairE) : List Value := m.flatMap PairE.vcells
theorem flatW_len (m : List PairE) : (flatW m).length = m.length * 5 := by
  unfold flatW
  induction m with
  | nil => rfl
  | cons x l ih => rw [List.flatMap_cons, List.length_append, ih, List.length_cons]; simp [PairE.vcells]; omega
theorem flatW_one (m : List PairE) : ∀ u ∈ flatW m, u.oneCell' = true := fun u hu => by
  obtain ⟨e, _, hu⟩ := List.mem_flatMap.1 hu
  simp [PairE.vcells] at hu
  rcases hu with rfl | rfl | rfl | rfl | rfl <;> rfl
/-- The value of its cells. -/
def PairE.agg (e : PairE) : Value := .agg #[.int .i64 e.k, .int .i64 e.n, .string e.s, .slice e.a1 e.l1 e.c1, .slice e.a2 e.l2 e.c2]
/-- The kids that cells are. -/
theorem kidsAt_flat {d : Nat} {f : PairE → ValN d} {w W : World} {a : Option Addr} {n c : Nat} {m : List PairE} (hat : FlatAt W a (flatW m)) (hl : m.length = n) (hnc : n ≤ c) (hn : n ≤ 1048576) (hb : Below w.heap.size w W) (hf : ∀ e ∈ m, ValAt w d e.agg (f e)) : KidsAt W a n c (m.map f) := by
  refine ⟨by simpa using hl, hnc, by omega, fun i y hy => ?_⟩
  rw [List.getElem?_map, Option.map_eq_some_iff] at hy
  obtain ⟨e, he, rfl⟩ := hy
  obtain ⟨g, o, rfl, hg, c0⟩ := hat (i * 5 + 0) (.int .i64 e.k) (by unfold flatW; rw [vflat_get (by omega) m i he]; rfl)
  have cc : ∀ j u, j < 5 → e.vcells[j]? = some u → W.cell? ⟨g, o + i * 5 + j, none⟩ = some u := fun j u hj hu => by
    obtain ⟨g', o', hg', _, h3⟩ := hat (i * 5 + j) u (by unfold flatW; rw [vflat_get hj m i he]; exact hu)
    cases hg'
    rw [Nat.add_assoc]
    exact h3
  exact ⟨g, o, _, _, _, _, _, rfl, hg, cc 0 _ (by omega) rfl, cc 1 _ (by omega) rfl, cc 2 _ (by omega) rfl, cc 3 _ (by omega) rfl, cc 4 _ (by omega) rfl, ValAt.ext hb d (hf e (List.mem_of_getElem? he))⟩
/-- The list that a row makes. -/
def listOf (d : Nat) (l : List (ValN d)) : ValN (d + 1) := (⟨5, 0, noStr, l, []⟩ : ValF (ValN d))
theorem list_at {d : Nat} {W : World} {a : Option Addr} {n c : Nat} {l : List (ValN d)} (h : KidsAt W a n c l) (hc : c ≤ maxLen) (hn : a = none → c = 0) :
    ValAt W (d + 1) (.agg #[.int .i64 5, .int .i64 0, .string ⟨#[]⟩, .slice a n c, .slice none 0 0]) (listOf d l) :=
  ⟨a, n, c, none, 0, 0, rfl, (by constructor <;> simp [listOf, ValN.to]), (by constructor <;> simp [listOf, ValN.to]), (by show noStr.size ≤ _; unfold noStr; decide), h.hlen, h.hcap, hc, h.hfew, hn, h.hkid, StrsAt.nil_⟩
theorem flat_own {base e n c : Nat} {a : Option Addr} {xs : List Value} {W : World} (h : W.ownsRow base e 5 (.slice a n c) n xs) : n ≤ c ∧ c ≤ maxLen ∧ (a = none → c = 0) ∧ FlatAt W a xs := by
  obtain ⟨h1, h2, h3, h4⟩ := own_lies h
  refine ⟨h1, h2, h3, fun j u hj => ?_⟩
  obtain ⟨g, h5, h6, h7⟩ := h4 j u hj
  exact ⟨g, 0, h5, h6, by rw [Nat.zero_add]; exact h7⟩
end Go.Dav
namespace Go.Proofs.YtmcmknndhppljaaDoor
set_option linter.unusedVariables false
set_option linter.unusedSimpArgs false
open Go.RowKit Go.Dav
attribute [local go_sem] Gives ite_val ite_val_true

set_option maxRecDepth 8000 in
set_option maxHeartbeats 4000000 in
theorem Tryd_vList (d : Nat) (f : PairE → ValN d) (a : Option Addr) (n c : Nat) (m : List PairE) (w : World) (hl : m.length = n) (hat : FlatAt w a (flatW m)) (hnil : a = none → c = 0) (hnc : n ≤ c) (hn : n ≤ 1000000) (hf : ∀ e ∈ m, ValAt w d e.agg (f e)) (hN : GlobAt w 0 [.int .i64 0, .int .i64 0] 143) :
    Calls Tryd.prog 26 #[.slice a n c] w fun e w' => (∃ v, e = .returned (wholeV (rightV (d + 1) (listOf d (m.map f))) v) ∧ ValAt w' (d + 1) v (listOf d (m.map f))) ∧ Below w.heap.size w w' := by
  obtain ⟨r, hr⟩ : ∃ r, rightV (d + 1) (listOf d (m.map f)) = r := ⟨_, rfl⟩
  rw [hr]
  obtain ⟨W0, hW0⟩ : ∃ W0, w.alloc (.cells #[.int .i64 0, .int .i64 0, .string ⟨#[]⟩, .slice none 0 0, .slice none 0 0] 39) = W0 := ⟨_, rfl⟩
  have b0 : Below w.heap.size w W0 := by rw [← hW0]; exact (by repeat (first | (with_reducible exact Below.refl _ _) | (with_reducible exact Below.refl _ _) | (with_reducible refine Below.setCell ?_ (by first | omega | (simp; done) | (simp; omega)) _) | (with_reducible refine Below.alloc ?_ (by first | omega | (simp; done) | (simp; omega)) _) | (with_reducible refine Below.drew ?_) | (with_reducible refine below_drewN ?_ _)))
  have hz : Blk W0 w.heap.size [.int .i64 0, .int .i64 0, .string ⟨#[]⟩, .slice none 0 0, .slice none 0 0] 39 := by rw [← hW0]; exact Blk.new _ _ _
  have HC := Lib.hid (Tryd_cloneValues a n c (flatW m) W0 (by rw [flatW_len, hl]) (flatW_one m) (hat.ext b0) hnil hnc hn)
  have HWH := Lib.hid (fun (W : World) kk kc (hb : Below w.heap.size w W) (ho : W.ownsRow W0.heap.size 39 5 (.slice kk n kc) n (flatW m)) => by
    obtain ⟨h1, h2, h3, h4⟩ := flat_own ho
    have hv := list_at (kidsAt_flat h4 hl h1 (by omega) hb hf) h2 h3
    have q := Tryd_whole (d + 1) (listOf d (m.map f)) 5 0 ⟨#[]⟩ kk n kc none 0 0 W hv (hN.ext hb)
    rw [hr] at q
    exact q)
  have HVV := Lib.hid (fun (W : World) kk kc (hb : Below w.heap.size w W) (ho : W.ownsRow W0.heap.size 39 5 (.slice kk n kc) n (flatW m)) => by
    obtain ⟨h1, h2, h3, h4⟩ := flat_own ho
    exact list_at (kidsAt_flat h4 hl h1 (by omega) hb hf) h2 h3)
  have HGW := Lib.hid (show w.heap.size < W0.heap.size from by rw [← hW0]; simp)
  have BEL := Lib.hid b0
  have HZ := Lib.hid hz
  clear hr hl hat hnil hnc hn hf hN b0 hz
  go_enter Tryd.func26, Tryd.ntmps26
  go_wp2_with fail
  try rw [hW0]
  clear hW0
  refine HC.out.mono ?_; rintro e w1 ⟨v, rfl, ho, hb1⟩
  obtain ⟨kk, kc, rfl⟩ := own_sliceW ho
  have B1 := Lib.hid (BEL.out.trans (hb1.mono BEL.out.size))
  have Z1 := Lib.hid (HZ.out.ext hb1)
  have HO := Lib.hid ho
  clear ho hb1 HC HZ
  go_wp2_with fail
  refine (HWH.out _ kk kc B1.out HO.out).mono ?_; rintro e w2 ⟨rfl, hb2⟩
  have B2 := Lib.hid (B1.out.trans (hb2.mono B1.out.size))
  have Z2 := Lib.hid (Z1.out.ext hb2)
  have HO2 := Lib.hid (ownsRow_below HO.out hb2)
  have q2 := Z2.out.cells
  have m2 := Z2.out.marks
  have l2 := Z2.out.lt
  clear hb2 HWH Z1 HO
  cases r with
  | true =>
    rw [show ∀ v, wholeV true v = .tuple #[v, .int .i64 0] from fun v => rfl]
    go_wp2
    have c4 := (Z2.out.fiveV (.int .i64 5) (.int .i64 0) (.string ⟨#[]⟩) (.slice kk n kc) (.slice none 0 0)).cells
    refine bodyPost_ret (v := .tuple #[.agg #[.int .i64 5, .int .i64 0, .string ⟨#[]⟩, .slice kk n kc, .slice none 0 0], .int .i64 0]) (by simp [results, Tryd.results26, go_sem, c4]) rfl ⟨⟨.agg #[.int .i64 5, .int .i64 0, .string ⟨#[]⟩, .slice kk n kc, .slice none 0 0], rfl, ?_⟩, ?_⟩
    · exact HVV.out _ kk kc (below_only B2.out (Only.fiveV _ _ _ _ _ _ _) B2.out.size (Nat.le_refl _)) (ownsRow_onlyS HO2.out (OnlyS.fiveS _ _ _ _ _ _ _) fun b hb e => by have := (HO2.out.lt b hb).1; have := HGW.out; omega)
    · exact below_only B2.out (Only.fiveV _ _ _ _ _ _ _) B2.out.size (Nat.le_refl _)
  | false =>
    rw [show ∀ v, wholeV false v = .tuple #[.agg #[.int .i64 0, .int .i64 0, .string ⟨#[]⟩, .slice none 0 0, .slice none 0 0], .int .i64 140] from fun v => rfl]
    go_wp2
    have c4 := (Z2.out.fiveV (.int .i64 0) (.int .i64 0) (.string ⟨#[]⟩) (.slice none 0 0) (.slice none 0 0)).cells
    refine bodyPost_ret (v := .tuple #[.agg zeroL.toArray, .int .i64 140]) (by simp [results, Tryd.results26, go_sem, c4, zeroL]) rfl ⟨⟨.agg #[.int .i64 5, .int .i64 0, .string ⟨#[]⟩, .slice kk n kc, .slice none 0 0], rfl, ?_⟩, ?_⟩
    · exact HVV.out _ kk kc (below_only B2.out (Only.fiveV _ _ _ _ _ _ _) B2.out.size (Nat.le_refl _)) (ownsRow_onlyS HO2.out (OnlyS.fiveS _ _ _ _ _ _ _) fun b hb e => by have := (HO2.out.lt b hb).1; have := HGW.out; omega)
    · exact below_only B2.out (Only.fiveV _ _ _ _ _ _ _) B2.out.size (Nat.le_refl _)
end Go.Proofs.YtmcmknndhppljaaDoor
