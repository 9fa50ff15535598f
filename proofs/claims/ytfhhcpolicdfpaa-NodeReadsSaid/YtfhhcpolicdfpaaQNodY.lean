/-
  Layer 14: copies of slices of items and of kids; a copy of the first bytes; walked.
-/
import Derived.Test.YtfhhcpolicdfpaaQLawNA
namespace Go.Dav
set_option linter.unusedVariables false
set_option linter.unusedSimpArgs false
open Go Go.RowKit
theorem items_cells {W : World} {S : Nat → Prop} {a : Option Addr} {n c : Nat} {l : List ItemD} (h : ItemsS W S a n c l) : ∃ cs, ItemCells W S cs l ∧ (∀ u ∈ cs, u.oneCell' = true) ∧ ∀ j u, cs[j]? = some u → ∃ b o, a = some ⟨b, o, none⟩ ∧ W.cell? ⟨b, o + j, none⟩ = some u := by
  have key : ∀ m, m ≤ l.length → ∃ cs, ItemCells W S cs (l.take m) ∧ (∀ u ∈ cs, u.oneCell' = true) ∧ ∀ j u, cs[j]? = some u → ∃ b o, a = some ⟨b, o, none⟩ ∧ W.cell? ⟨b, o + j, none⟩ = some u := by
    intro m
    induction m with
    | zero => intro _; exact ⟨[], by simpa using ItemCells.nil, fun u hu => by simp at hu, fun j u hu => by simp at hu⟩
    | succ m ih =>
      intro hm
      obtain ⟨cs, h1, h2, h3⟩ := ih (by omega)
      obtain ⟨b, o, ka, kl, kc, va, vl, vc, e, hb, hs, c0, c1, c2, c3, g1, g2, g3⟩ := h.hat m l[m] (List.getElem?_eq_getElem hm)
      have hlen : cs.length = m * 4 := by have := h1.1; rw [List.length_take] at this; omega
      refine ⟨cs ++ [.slice ka kl kc, .slice va vl vc, .bool l[m].int, .int .i64 l[m].n], ?_, ?_, ?_⟩
      · rw [List.take_add_one, List.getElem?_eq_getElem hm]; exact h1.snoc g1 g2 g3
      · intro u hu
        rcases List.mem_append.1 hu with hu | hu
        · exact h2 u hu
        · simp at hu; rcases hu with rfl | rfl | rfl | rfl <;> rfl
      · intro j u hu
        by_cases hj : j < cs.length
        · rw [List.getElem?_append_left hj] at hu; exact h3 j u hu
        · rw [List.getElem?_append_right (by omega)] at hu
          refine ⟨b, o, e, ?_⟩
          obtain ⟨d, hd⟩ : ∃ d, j = m * 4 + d := ⟨j - m * 4, by omega⟩
          subst hd
          rw [show m * 4 + d - cs.length = d by omega] at hu
          rw [← Nat.add_assoc]
          match d, hu with
          | 0, hu => cases hu; exact c0
          | 1, hu => cases hu; exact c1
          | 2, hu => cases hu; exact c2
          | 3, hu => cases hu; exact c3
          | d + 4, hu => simp at hu
  obtain ⟨cs, h1, h2, h3⟩ := key l.length (Nat.le_refl _)
  exact ⟨cs, by simpa using h1, h2, h3⟩
theorem kids_cells {W : World} {S : Nat → Prop} {a : Option Addr} {n c : Nat} {l : List KidD} (h : KidsS W S a n c l) : ∃ cs, KidCells W S cs l ∧ (∀ u ∈ cs, u.oneCell' = true) ∧ ∀ j u, cs[j]? = some u → ∃ b o, a = some ⟨b, o, none⟩ ∧ W.cell? ⟨b, o + j, none⟩ = some u := by
  have key : ∀ m, m ≤ l.length → ∃ cs, KidCells W S cs (l.take m) ∧ (∀ u ∈ cs, u.oneCell' = true) ∧ ∀ j u, cs[j]? = some u → ∃ b o, a = some ⟨b, o, none⟩ ∧ W.cell? ⟨b, o + j, none⟩ = some u := by
    intro m
    induction m with
    | zero => intro _; exact ⟨[], by simpa using KidCells.nil, fun u hu => by simp at hu, fun j u hu => by simp at hu⟩
    | succ m ih =>
      intro hm
      obtain ⟨cs, h1, h2, h3⟩ := ih (by omega)
      obtain ⟨b, o, ka, kl, kc, e, hb, hs, c0, c1, c2, c3, c4, c5, c6, c7, g1, g2, g3⟩ := h.hat m l[m] (List.getElem?_eq_getElem hm)
      have hlen : cs.length = m * 8 := by have := h1.1; rw [List.length_take] at this; omega
      refine ⟨cs ++ (Value.slice ka kl kc :: kidVals l[m]), ?_, ?_, ?_⟩
      · rw [List.take_add_one, List.getElem?_eq_getElem hm]; exact h1.snoc g1 g2 g3
      · intro u hu
        rcases List.mem_append.1 hu with hu | hu
        · exact h2 u hu
        · simp [kidVals] at hu; rcases hu with rfl | rfl | rfl | rfl | rfl | rfl | rfl | rfl <;> rfl
      · intro j u hu
        by_cases hj : j < cs.length
        · rw [List.getElem?_append_left hj] at hu; exact h3 j u hu
        · rw [List.getElem?_append_right (by omega)] at hu
          refine ⟨b, o, e, ?_⟩
          obtain ⟨d, hd⟩ : ∃ d, j = m * 8 + d := ⟨j - m * 8, by omega⟩
          subst hd
          rw [show m * 8 + d - cs.length = d by omega] at hu
          rw [← Nat.add_assoc]
          match d, hu with
          | 0, hu => cases hu; exact c0
          | 1, hu => cases hu; exact c1
          | 2, hu => cases hu; exact c2
          | 3, hu => cases hu; exact c3
          | 4, hu => cases hu; exact c4
          | 5, hu => cases hu; exact c5
          | 6, hu => cases hu; exact c6
          | 7, hu => cases hu; exact c7
          | d + 8, hu => simp [kidVals] at hu
  obtain ⟨cs, h1, h2, h3⟩ := key l.length (Nat.le_refl _)
  exact ⟨cs, by simpa using h1, h2, h3⟩
/-- A row of items of the call's own, whose bytes lie in S. -/
def GivesItemRow (t : TypeId) (S : Nat → Prop) (w : World) (l : List ItemD) (e : Ending) (w' : World) : Prop :=
  ∃ v cs, e = .returned v ∧ w'.ownsRow w.heap.size t 4 v l.length cs ∧ ItemCells w' S cs l ∧ Below w.heap.size w w'
def GivesKidRow (t : TypeId) (S : Nat → Prop) (w : World) (l : List KidD) (e : Ending) (w' : World) : Prop :=
  ∃ v cs, e = .returned v ∧ w'.ownsRow w.heap.size t 8 v l.length cs ∧ KidCells w' S cs l ∧ Below w.heap.size w w'
end Go.Dav
namespace Go.Proofs.Ytfhhcpolicdfpaa
set_option linter.unusedVariables false
set_option linter.unusedSimpArgs false
open Go.RowKit Go.Dav
attribute [local go_sem] Gives ite_val ite_val_true

theorem Try_eqNilI (w : World) (a : Option Addr) (n c : Nat) : (binOp .eql 25 (.slice a n c) (.slice none 0 0)).run Try.prog w = .ok (.bool a.isNone) w := Lib.run_eql_slice_nil w _ _ a n c 0 0 Try.underlying25
theorem Try_eqNilK (w : World) (a : Option Addr) (n c : Nat) : (binOp .eql 26 (.slice a n c) (.slice none 0 0)).run Try.prog w = .ok (.bool a.isNone) w := Lib.run_eql_slice_nil w _ _ a n c 0 0 Try.underlying26
set_option maxRecDepth 8000 in
set_option maxHeartbeats 4000000 in
theorem Try_cloneItems (S : Nat → Prop) (a : Option Addr) (n c : Nat) (l : List ItemD) (w : World) (h : ItemsS w S a n c l) (hm : n ≤ 1000) :
    Calls Try.prog 41 #[.slice a n c] w (GivesItemRow 56 S w l) := by
  cases a with
  | none =>
    have h0 := h.hnil rfl
    have h1 := h.hcap
    have h2 := h.hlen
    obtain rfl : n = 0 := by omega
    subst h0
    have hx0 : l = [] := List.length_eq_zero_iff.1 h2
    subst hx0
    clear h h1 h2
    have knil := @Try_eqNilI
    go_enter Try.func41, Try.ntmps41
    go_wp2
    go_ret
    exact ⟨_, [], rfl, World.ownsRow_nil _ _ _ _, ItemCells.nil, (by repeat (first | (with_reducible exact Below.refl _ _) | (with_reducible exact Below.refl _ _) | (with_reducible refine Below.setCell ?_ (by first | omega | (simp; done) | (simp; omega)) _) | (with_reducible refine Below.alloc ?_ (by first | omega | (simp; done) | (simp; omega)) _) | (with_reducible refine Below.drew ?_) | (with_reducible refine below_drewN ?_ _)))⟩
  | some ad =>
    obtain ⟨cs, hc, h1, hat⟩ := items_cells h
    have hln := h.hlen
    have HC := Lib.hid hc
    have H1 := Lib.hid h1
    have HL := Lib.hid hln
    have hsrc : ∀ j u, cs[j]? = some u → (w.alloc (.cells #[] 56)).cell? (ad.add j) = some u := fun j u hu => by
      obtain ⟨b, o, e, hcell⟩ := hat j u hu
      cases e
      rw [Addr.add_mid, (Below.heap_alloc w _ b (World.block_lt_of_cell? _ _ hcell) |> fun hb => World.cell?_of_block (a := ⟨b, o + j, none⟩) hb)]
      exact hcell
    have HSRC := Lib.hid hsrc
    obtain ⟨i0, hi0, hz0, hz1, hz2⟩ := info_parts Try_infoItem
    have hbe : Below w.heap.size w (w.alloc (.cells #[] 56)) := (Below.refl _ _).alloc (Nat.le_refl _) _
    have hown := World.ownsRow_made (base := w.heap.size) (e := 56) (size := 4) w #[] 0 (Nat.le_refl _) (by unfold maxLen; omega) (by simp)
    have HOW := Lib.hid hown
    have hcl := hc.1
    have hn7 : n ≤ 1000 := hm
    clear hc h1 hln hat hsrc hown h
    have knil := @Try_eqNilI
    go_enter Try.func41, Try.ntmps41
    go_wp2_with (at_builtin; refine wpList_append_own _ rfl (.tmp 5) (.tmp 6) 25 rfl w.heap.size 56 i0 _ 4 64 Try.underlying25 hi0 hz0 hz1 hz2 rfl (by decide) _ 0 [] rfl HOW.out ad n c cs rfl (by rw [hcl, HL.out]) HSRC.out H1.out (by unfold maxLen; omega) (by omega) (by simp) ?_; intro v' w6 hown6 hgrow _)
    rw [Nat.zero_add, List.nil_append] at hown6
    have hbel : Below w.heap.size w w6 := hbe.grown hgrow (by simp) (fun k hk => (HOW.out.lt k hk).1)
    have HO6 := Lib.hid hown6
    have HB6 := Lib.hid hbel
    clear hown6 hgrow hbel hi0 hz0 hz1 hz2
    go_wp2
    go_ret
    exact ⟨_, cs, rfl, by rw [HL.out]; exact HO6.out, HC.out.same HB6.out.size (fun b h1 h2 => HB6.out.block b h2), HB6.out⟩
set_option maxRecDepth 8000 in
set_option maxHeartbeats 4000000 in
theorem Try_cloneKids (S : Nat → Prop) (a : Option Addr) (n c : Nat) (l : List KidD) (w : World) (h : KidsS w S a n c l) (hm : n ≤ 1000) :
    Calls Try.prog 42 #[.slice a n c] w (GivesKidRow 58 S w l) := by
  cases a with
  | none =>
    have h0 := h.hnil rfl
    have h1 := h.hcap
    have h2 := h.hlen
    obtain rfl : n = 0 := by omega
    subst h0
    have hx0 : l = [] := List.length_eq_zero_iff.1 h2
    subst hx0
    clear h h1 h2
    have knil := @Try_eqNilK
    go_enter Try.func42, Try.ntmps42
    go_wp2
    go_ret
    exact ⟨_, [], rfl, World.ownsRow_nil _ _ _ _, KidCells.nil, (by repeat (first | (with_reducible exact Below.refl _ _) | (with_reducible exact Below.refl _ _) | (with_reducible refine Below.setCell ?_ (by first | omega | (simp; done) | (simp; omega)) _) | (with_reducible refine Below.alloc ?_ (by first | omega | (simp; done) | (simp; omega)) _) | (with_reducible refine Below.drew ?_) | (with_reducible refine below_drewN ?_ _)))⟩
  | some ad =>
    obtain ⟨cs, hc, h1, hat⟩ := kids_cells h
    have hln := h.hlen
    have HC := Lib.hid hc
    have H1 := Lib.hid h1
    have HL := Lib.hid hln
    have hsrc : ∀ j u, cs[j]? = some u → (w.alloc (.cells #[] 58)).cell? (ad.add j) = some u := fun j u hu => by
      obtain ⟨b, o, e, hcell⟩ := hat j u hu
      cases e
      rw [Addr.add_mid, (Below.heap_alloc w _ b (World.block_lt_of_cell? _ _ hcell) |> fun hb => World.cell?_of_block (a := ⟨b, o + j, none⟩) hb)]
      exact hcell
    have HSRC := Lib.hid hsrc
    obtain ⟨i0, hi0, hz0, hz1, hz2⟩ := info_parts Try_infoKid
    have hbe : Below w.heap.size w (w.alloc (.cells #[] 58)) := (Below.refl _ _).alloc (Nat.le_refl _) _
    have hown := World.ownsRow_made (base := w.heap.size) (e := 58) (size := 8) w #[] 0 (Nat.le_refl _) (by unfold maxLen; omega) (by simp)
    have HOW := Lib.hid hown
    have hcl := hc.1
    have hn7 : n ≤ 1000 := hm
    clear hc h1 hln hat hsrc hown h
    have knil := @Try_eqNilK
    go_enter Try.func42, Try.ntmps42
    go_wp2_with (at_builtin; refine wpList_append_own _ rfl (.tmp 5) (.tmp 6) 26 rfl w.heap.size 58 i0 _ 8 80 Try.underlying26 hi0 hz0 hz1 hz2 rfl (by decide) _ 0 [] rfl HOW.out ad n c cs rfl (by rw [hcl, HL.out]) HSRC.out H1.out (by unfold maxLen; omega) (by omega) (by simp) ?_; intro v' w6 hown6 hgrow _)
    rw [Nat.zero_add, List.nil_append] at hown6
    have hbel : Below w.heap.size w w6 := hbe.grown hgrow (by simp) (fun k hk => (HOW.out.lt k hk).1)
    have HO6 := Lib.hid hown6
    have HB6 := Lib.hid hbel
    clear hown6 hgrow hbel hi0 hz0 hz1 hz2
    go_wp2
    go_ret
    exact ⟨_, cs, rfl, by rw [HL.out]; exact HO6.out, HC.out.same HB6.out.size (fun b h1 h2 => HB6.out.block b h2), HB6.out⟩

/-- The first 121 bytes, in new memory. -/
theorem Try_few14 (xa : Option Addr) (xn xc : Nat) (X : List UInt8) (w : World) (hx : BytesAt w xa xn xc X) :
    Calls Try.prog 40 #[.slice xa xn xc] w (GivesBytes w (X.take 121)) := by
  have hcap := hx.hcap
  have hmax := hx.hmax
  unfold maxLen at hmax
  have hlen := hx.hlen
  have HX := Lib.hid hx
  have HLEN := Lib.hid hlen
  clear hx hlen
  by_cases h : xn ≤ 121
  · have hi1 : (xn : Int) ≤ 121 := by omega
    have hi2 : (xn : Int) ≤ (xc : Int) := by omega
    go_enter Try.func40, Try.ntmps40
    go_wp2_with fail
    (with_reducible refine (Try_Clone xa xn xc (X.take xn) _ w (HX.out.s.takeC (by omega))).mono ?_); rintro e w2 ⟨ba, bn, bc, rfl, hB, hb2⟩
    have HB := Lib.hid hB
    have HB2 := Lib.hid hb2
    clear hB hb2
    go_wp2
    go_ret
    exact ⟨ba, bn, bc, rfl, (by have h := HB.out; rw [List.take_of_length_le (by rw [HLEN.out]; omega)] at h ⊢; exact h), HB2.out⟩
  · have hi1 : ¬ (xn : Int) ≤ 121 := by omega
    have hi2 : (121 : Int) ≤ (xc : Int) := by omega
    have hi3 : (121 : Int) < (xn : Int) := by omega
    go_enter Try.func40, Try.ntmps40
    go_wp2_with fail
    (with_reducible refine (Try_Clone xa 121 xc (X.take 121) _ w (HX.out.s.takeC (by omega))).mono ?_); rintro e w2 ⟨ba, bn, bc, rfl, hB, hb2⟩
    have HB := Lib.hid hB
    have HB2 := Lib.hid hb2
    clear hB hb2
    go_wp2
    go_ret
    exact ⟨ba, bn, bc, rfl, HB.out, HB2.out⟩
end Go.Proofs.Ytfhhcpolicdfpaa
