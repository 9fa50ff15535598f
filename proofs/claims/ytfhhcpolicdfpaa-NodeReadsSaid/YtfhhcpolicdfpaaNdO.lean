/-
  Layer 14: slices.BinarySearchFunc over parts; Place, walked.
-/
import Derived.Test.YtfhhcpolicdfpaaNdJ
namespace Go.Dav
set_option linter.unusedVariables false
set_option linter.unusedSimpArgs false
open Go Go.RowKit
/-- How many parts, from the first on, are ahead of a key. -/
def lowN (L : List PartD) (key : List UInt8) : Nat := (L.takeWhile fun x => aheadB (pKey x) key).length
theorem lowN_le (L : List PartD) (key : List UInt8) : lowN L key ≤ L.length := by
  unfold lowN; exact (List.takeWhile_prefix _).length_le
theorem low_gt : ∀ {L : List PartD} {key : List UInt8} {h : Nat}, h < L.length → (∀ i x, i ≤ h → L[i]? = some x → aheadB (pKey x) key = true) → h < lowN L key
  | [], _, _, hl, _ => by simp at hl
  | y :: L, key, 0, _, ha => by
    have := ha 0 y (Nat.le_refl _) rfl
    unfold lowN; rw [List.takeWhile_cons, if_pos this]; simp
  | y :: L, key, h + 1, hl, ha => by
    have h0 := ha 0 y (by omega) rfl
    have ih := low_gt (L := L) (key := key) (h := h) (by simpa using hl) fun i x hi hx => ha (i + 1) x (by omega) (by simpa using hx)
    unfold lowN at ih ⊢
    rw [List.takeWhile_cons, if_pos h0]
    simp; omega
theorem low_le : ∀ {L : List PartD} {key : List UInt8} {h : Nat} {x : PartD}, L[h]? = some x → aheadB (pKey x) key = false → lowN L key ≤ h
  | [], _, _, _, hx, _ => by simp at hx
  | y :: L, key, 0, x, hx, ha => by
    obtain rfl : y = x := by simpa using hx
    unfold lowN; rw [List.takeWhile_cons, ha]; simp
  | y :: L, key, h + 1, x, hx, ha => by
    have ih := low_le (L := L) (key := key) (h := h) (by simpa using hx) ha
    unfold lowN at ih ⊢
    rw [List.takeWhile_cons]
    split <;> simp <;> omega
/-- Does the part at a place bear the key? -/
def isAt (L : List PartD) (i : Nat) (key : List UInt8) : Bool := (((L[i]?).map fun x => decide (pKey x = key)).getD false)
def risesP (L : List PartD) (key : List UInt8) : Prop := ∀ (a b : Nat) (x y : PartD), a ≤ b → L[a]? = some x → L[b]? = some y → aheadB (pKey y) key = true → aheadB (pKey x) key = true
theorem ahead_trans : ∀ {a b c : List UInt8}, aheadB a b = true → aheadB b c = true → aheadB a c = true
  | [], b, c, h1, h2 => by
    cases b with
    | nil => simp [aheadB] at h1
    | cons y b =>
      cases c with
      | nil => simp [aheadB] at h2
      | cons z c => simp [aheadB]
  | x :: a, [], c, h1, h2 => by simp [aheadB] at h1
  | x :: a, y :: b, [], h1, h2 => by simp [aheadB] at h2
  | x :: a, y :: b, z :: c, h1, h2 => by
    unfold aheadB at h1 h2 ⊢
    by_cases e1 : x = y
    · rw [if_pos e1] at h1
      by_cases e2 : y = z
      · rw [if_pos e2] at h2; rw [if_pos (e1.trans e2)]; exact ahead_trans h1 h2
      · rw [if_neg e2] at h2; rw [if_neg (by rw [e1]; exact e2), e1]; exact h2
    · rw [if_neg e1] at h1
      have l1 : x.toNat < y.toNat := by simpa using h1
      by_cases e2 : y = z
      · rw [if_neg (by rw [← e2]; exact e1), ← e2]; exact h1
      · rw [if_neg e2] at h2
        have l2 : y.toNat < z.toNat := by simpa using h2
        have l3 : x.toNat < z.toNat := by omega
        have e3 : x ≠ z := fun e => by rw [e] at l3; omega
        rw [if_neg e3]; simpa using l3
theorem steps_at {L : List PartD} {i : Nat} (h : stepsTo L L.length = true) (hi : i < L.length) : stepB L i = true := by
  unfold stepsTo at h
  exact List.all_eq_true.1 h i (List.mem_range.2 hi)
theorem steps_ahead {L : List PartD} (h : stepsTo L L.length = true) : ∀ (d a : Nat) {x y : PartD}, L[a]? = some x → L[a + d + 1]? = some y → aheadB (pKey x) (pKey y) = true
  | 0, a, x, y, hx, hy => by
    have hl := (List.getElem?_eq_some_iff.1 hy).1
    have hs := steps_at h hl
    unfold stepB at hs
    simp only [Bool.and_eq_true] at hs
    have hb := hs.2.1
    rwa [show a + 0 + 1 = a + 1 by omega, behind_at hx (by simpa using hy)] at hb
  | d + 1, a, x, y, hx, hy => by
    have hl := (List.getElem?_eq_some_iff.1 hy).1
    obtain ⟨z, hz⟩ : ∃ z, L[a + d + 1]? = some z := ⟨_, List.getElem?_eq_getElem (by omega)⟩
    have h1 := steps_ahead h d a hx hz
    have h2 := steps_ahead h 0 (a + d + 1) hz (by simpa [Nat.add_assoc] using hy)
    exact ahead_trans h1 h2
theorem rises_of {L : List PartD} (h : stepsTo L L.length = true) (key : List UInt8) : risesP L key := by
  intro a b x y hab hx hy hk
  by_cases e : a = b
  · subst e; rw [hx] at hy; cases hy; exact hk
  · have := steps_ahead h (b - a - 1) a hx (by rw [show a + (b - a - 1) + 1 = b by omega]; exact hy)
    exact ahead_trans this hk
/-- Where a key stands, and whether it does. -/
def placeN (n : NodeD) (key : List UInt8) : Int × Bool :=
  if nodeOk n then
    (if n.leaf || isAt (partsOf n) (lowN (partsOf n) key) key then (lowN (partsOf n) key : Int) else max ((lowN (partsOf n) key : Int) - 1) 0, isAt (partsOf n) (lowN (partsOf n) key) key)
  else (0, false)
end Go.Dav
namespace Go.Proofs.Ytfhhcpolicdfpaa
set_option linter.unusedVariables false
set_option linter.unusedSimpArgs false
open Go.RowKit Go.Dav
attribute [local go_sem] Gives ite_val ite_val_true

set_option maxRecDepth 8000 in
set_option maxHeartbeats 4000000 in
theorem Try_against {S : Nat → Prop} {u : Value} {x : PartD} (a : Option Addr) (n c : Nat) (key : List UInt8) (w : World) (h : TryPartU w S u x) (hk : BytesAt w a n c key) :
    Calls Try.prog 51 #[.agg #[.slice a n c], .iface (TryTy x) u, .agg #[]] w fun e w' => e = .returned (.int .i64 (Lib.compareBytes (pKey x) key)) ∧ Below w.heap.size w w' := by
  obtain ⟨xa, xn, xc, hku, hkb⟩ := Try_key_of h
  have hmn := fun W => Try_meth_name x u W
  have hen := fun args W => Try_en_name x args W
  have HU := Lib.hid h
  have HKU := Lib.hid hku
  have HKB := Lib.hid hkb
  have HK := Lib.hid hk
  have hb0 : Below w.heap.size w ((w.alloc (.cells #[.slice a n c] 89)).alloc (.cells #[] 86)) := (by repeat (first | (with_reducible exact Below.refl _ _) | (with_reducible exact Below.refl _ _) | (with_reducible refine Below.setCell ?_ (by first | omega | (simp; done) | (simp; omega)) _) | (with_reducible refine Below.alloc ?_ (by first | omega | (simp; done) | (simp; omega)) _) | (with_reducible refine Below.drew ?_) | (with_reducible refine below_drewN ?_ _)))
  have HB0 := Lib.hid hb0
  clear h hku hkb hk hb0
  go_enter Try.func51, Try.ntmps51
  go_wp2_with fail
  refine' wp_region_seq [.inl _, .inl _, .inl _, .inl _, .inl _, .inl _] (by kernel_rfl) (by kernel_rfl) ?main1
  case main1 =>
    refine wpParts_det (by rfl) (fun W hE hN => ?_) ?_
    · go_simp; refine ⟨Below.refl _ _, ?_⟩; rfl
    simp only [Act.put, List.setIfInBounds_toArray, List.set_cons_zero, List.set_cons_succ]
    refine wpParts_det (by rfl) (fun W hE hN => ?_) ?_
    · go_simp; refine ⟨Below.refl _ _, ?_⟩; refine (Try_name (HU.out.ext (ext_trans HB0.out hE)) HKU.out).mono ?_; rintro e w' ⟨rfl, hb⟩; refine ⟨?_, hb⟩; rfl
    simp only [Act.put, List.setIfInBounds_toArray, List.set_cons_zero, List.set_cons_succ]
    refine wpParts_det (by rfl) (fun W hE hN => ?_) ?_
    · go_simp; refine ⟨Below.refl _ _, ?_⟩; rfl
    simp only [Act.put, List.setIfInBounds_toArray, List.set_cons_zero, List.set_cons_succ]
    refine wpParts_det (by rfl) (fun W hE hN => ?_) ?_
    · have hc := fun b o h => hE.cell (p := ⟨b, o, none⟩) h
      go_simp; refine ⟨Below.refl _ _, ?_⟩; rfl
    simp only [Act.put, List.setIfInBounds_toArray, List.set_cons_zero, List.set_cons_succ]
    refine wpParts_det (by rfl) (fun W hE hN => ?_) ?_
    · go_simp; refine ⟨Below.refl _ _, ?_⟩; refine (Try_Compare xa a xn xc n c _ _ W (HKB.out.ext (ext_trans HB0.out hE)).at_ (HK.out.ext (ext_trans HB0.out hE))).mono ?_; rintro e w' ⟨rfl, hb⟩; refine ⟨?_, hb⟩; rfl
    simp only [Act.put, List.setIfInBounds_toArray, List.set_cons_zero, List.set_cons_succ]
    refine wpParts_det (by rfl) (fun W hE hN => ?_) ?_
    · go_simp; refine ⟨Below.refl _ _, ?_⟩; rfl
    simp only [Act.put, List.setIfInBounds_toArray, List.set_cons_zero, List.set_cons_succ]
    refine wpParts_end fun W1 hE1 hG1 => ?_
    have hcW1 := fun b o h => hE1.cell (p := ⟨b, o, none⟩) h
    have hfW1 := fun b o h => hE1.frozen (p := ⟨b, o, none⟩) h
    have h := ext_trans HB0.out hE1
    go_wp2
    go_ret
    exact ⟨rfl, h⟩

def TryBinRel (w : World) (L : List PartD) (key : List UInt8) (iv jv : Value) (wr : World) : Prop :=
  ∃ i j : Nat, iv = .int .i64 i ∧ jv = .int .i64 j ∧ i ≤ lowN L key ∧ lowN L key ≤ j ∧ j ≤ L.length ∧ Below w.heap.size w wr
set_option maxRecDepth 8000 in
set_option maxHeartbeats 4000000 in
theorem Try_search {S T : Nat → Prop} (pa ka : Option Addr) (pn pc kn kc : Nat) (L : List PartD) (key : List UInt8) (w : World) (hP : TryPartsS w S T pa pn pc L) (hk : BytesAt w ka kn kc key) (h6 : pn ≤ 100) (hr : risesP L key) :
    Calls Try.prog 50 #[.slice pa pn pc, .agg #[], .func (.func 51) #[.agg #[.slice ka kn kc]] #[]] w fun e w' => e = .returned (.tuple #[.int .i64 (lowN L key : Nat), .bool (isAt L (lowN L key) key)]) ∧ Below w.heap.size w w' := by
  have hl := hP.hlen
  have HP := Lib.hid hP
  have HK := Lib.hid hk
  have HL := Lib.hid hl
  have HR := Lib.hid hr
  have h6' : (pn : Int) ≤ 100 := by omega
  have hen2 : ∀ args W, (callFunc 51 args).run Try.prog W = .ok (.enter 51 args) W := fun args W => by kernel_rfl
  have hb0 : Below w.heap.size w (w.alloc (.cells #[] 86)) := (by repeat (first | (with_reducible exact Below.refl _ _) | (with_reducible exact Below.refl _ _) | (with_reducible refine Below.setCell ?_ (by first | omega | (simp; done) | (simp; omega)) _) | (with_reducible refine Below.alloc ?_ (by first | omega | (simp; done) | (simp; omega)) _) | (with_reducible refine Below.drew ?_) | (with_reducible refine below_drewN ?_ _)))
  have HB0 := Lib.hid hb0
  have HQ := Lib.hid (Blk.new w [] 86)
  clear hP hk hl hr hb0
  go_enter Try.func50, Try.ntmps50
  go_wp2_with fail
  go_loopw [9, 10] (fun iv jv wr => TryBinRel (w.alloc (.cells #[] 86)) L key iv jv wr) (fun iv jv _ => (intOf jv).toNat - (intOf iv).toNat)
  case atStart => exact ⟨0, pn, rfl, rfl, Nat.zero_le _, by have := lowN_le L key; have := HL.out; omega, by have := HL.out; omega, Below.refl _ _⟩
  case round =>
    obtain ⟨i, j, rfl, rfl, hi, hj, hjl, hbel⟩ := hrel
    have HI := Lib.hid hi
    have HJ := Lib.hid hj
    have HJL := Lib.hid hjl
    have HB := Lib.hid (ext_trans HB0.out hbel)
    have hbel0 := Lib.hid hbel
    have hj100 : (j : Int) ≤ 100 := by have := HL.out; omega
    have hpn : L.length = pn := HL.out
    by_cases hij : i < j
    · obtain ⟨h, hh⟩ : ∃ h, (i + j) / 2 = h := ⟨_, rfl⟩
      have hih : i ≤ h := by omega
      have hhj : h < j := by omega
      have e1 : ((i : Int) + (j : Int)) / 2 = (h : Int) := by omega
      obtain ⟨x, hx⟩ : ∃ x, L[h]? = some x := ⟨_, List.getElem?_eq_getElem (by omega)⟩
      obtain ⟨b, o, u, rfl, hb, _, hcell, hu⟩ := (HP.out.ext HB.out).hat h x hx
      have hlt : (i : Int) < (j : Int) := by omega
      have hhp : (h : Int) < (pn : Int) := by omega
      have HHJ := Lib.hid hhj
      have HIH := Lib.hid hih
      have HX := Lib.hid hx
      have HU := Lib.hid hu
      clear hih hhj hx hu hi hj hjl hbel hij hpn hh
      go_wp2_with fail
      obtain ⟨c, hc⟩ : ∃ c, Lib.compareBytes (pKey x) key = c := ⟨_, rfl⟩
      have HC := Lib.hid hc
      have hca := (compare_ahead (pKey x) key).1
      rw [hc] at hca
      have HCA := Lib.hid hca
      have hne : ¬ (h : Int) < 0 := by omega
      clear hc hca
      refine' wp_region_seq [.inl _, .inl _, .inl _, .inl _, .inl _, .inl _, .inl _, .inl _] (by kernel_rfl) (by kernel_rfl) ?main2
      case main2 =>
        refine wpParts_det (by rfl) (fun W hE hN => ?_) ?_
        · go_simp; refine ⟨Below.refl _ _, ?_⟩; rfl
        simp only [Act.put, List.setIfInBounds_toArray, List.set_cons_zero, List.set_cons_succ]
        refine wpParts_det (by rfl) (fun W hE hN => ?_) ?_
        · go_simp; refine ⟨Below.refl _ _, ?_⟩; rfl
        simp only [Act.put, List.setIfInBounds_toArray, List.set_cons_zero, List.set_cons_succ]
        refine wpParts_det (by rfl) (fun W hE hN => ?_) ?_
        · go_simp; refine ⟨Below.refl _ _, ?_⟩; rfl
        simp only [Act.put, List.setIfInBounds_toArray, List.set_cons_zero, List.set_cons_succ]
        refine wpParts_det (by rfl) (fun W hE hN => ?_) ?_
        · go_simp; refine ⟨Below.refl _ _, ?_⟩; rfl
        simp only [Act.put, List.setIfInBounds_toArray, List.set_cons_zero, List.set_cons_succ]
        refine wpParts_det (by rfl) (fun W hE hN => ?_) ?_
        · have hc := fun b o h => hE.cell (p := ⟨b, o, none⟩) h
          go_simp; refine ⟨Below.refl _ _, ?_⟩; rfl
        simp only [Act.put, List.setIfInBounds_toArray, List.set_cons_zero, List.set_cons_succ]
        refine wpParts_det (by rfl) (fun W hE hN => ?_) ?_
        · have hc := fun b o h => hE.cell (p := ⟨b, o, none⟩) h
          go_simp; refine ⟨Below.refl _ _, ?_⟩; rfl
        simp only [Act.put, List.setIfInBounds_toArray, List.set_cons_zero, List.set_cons_succ]
        refine wpParts_det (by rfl) (fun W hE hN => ?_) ?_
        · go_simp; refine ⟨Below.refl _ _, ?_⟩; refine (Try_against ka kn kc key W (HU.out.ext hE) (HK.out.ext (ext_trans HB.out hE))).mono ?_; rw [HC.out]; rintro e w' ⟨rfl, hb⟩; refine ⟨?_, hb⟩; rfl
        simp only [Act.put, List.setIfInBounds_toArray, List.set_cons_zero, List.set_cons_succ]
        refine wpParts_det (by rfl) (fun W hE hN => ?_) ?_
        · go_simp; refine ⟨Below.refl _ _, ?_⟩; rfl
        simp only [Act.put, List.setIfInBounds_toArray, List.set_cons_zero, List.set_cons_succ]
        refine wpParts_end fun W1 hE1 hG1 => ?_
        have hcW1 := fun b o h => hE1.cell (p := ⟨b, o, none⟩) h
        have hfW1 := fun b o h => hE1.frozen (p := ⟨b, o, none⟩) h
        have HW1 := Lib.hid (ext_trans hbel0.out hE1)
        by_cases hc0 : c < 0
        · have HG := Lib.hid (low_gt (L := L) (key := key) (h := h) (by have := HHJ.out; have := HJL.out; omega) fun i y hi hy => HR.out i h y x hi hy HX.out (HCA.out.1 hc0))
          go_wp2_with fail
          go_roundw
          case rel => exact ⟨h + 1, j, by go_num, rfl, HG.out, HJ.out, HJL.out, HW1.out⟩
          case measure => have := HIH.out; simp [intOf]; omega
        · have HG := Lib.hid (low_le (key := key) HX.out (by
            cases hq : aheadB (pKey x) key with
            | false => rfl
            | true => exact absurd (HCA.out.2 hq) hc0))
          go_wp2_with fail
          go_roundw
          case rel => exact ⟨i, h, rfl, rfl, HI.out, HG.out, by have := HHJ.out; have := HJL.out; omega, HW1.out⟩
          case measure => have := HIH.out; have := HHJ.out; simp [intOf]; omega
    · have hlow : i = lowN L key := by omega
      have hjj : j = i := by omega
      subst hjj
      have HLOW := Lib.hid hlow
      have hij' : ¬ (j : Int) < (j : Int) := by omega
      by_cases hjp : j < pn
      · obtain ⟨x, hx⟩ : ∃ x, L[j]? = some x := ⟨_, List.getElem?_eq_getElem (by omega)⟩
        obtain ⟨b, o, u, rfl, hb, _, hcell, hu⟩ := (HP.out.ext HB.out).hat j x hx
        have hhp : (j : Int) < (pn : Int) := by omega
        have hdd : decide ((j : Int) < (pn : Int)) = true := by simp; omega
        have hddn : decide (j < pn) = true := by simp; omega
        have HV := Lib.hid (show isAt L (lowN L key) key = decide (pKey x = key) by unfold isAt; rw [← hlow, hx]; rfl)
        obtain ⟨c, hc⟩ : ∃ c, Lib.compareBytes (pKey x) key = c := ⟨_, rfl⟩
        have HC := Lib.hid hc
        have hca := (compare_ahead (pKey x) key).2.1
        rw [hc] at hca
        have HCA := Lib.hid hca
        have HU := Lib.hid hu
        have hne : ¬ (j : Int) < 0 := by omega
        clear hc hca hx hu hi hj hjl hbel hij hpn hlow
        go_wp2_with fail
        refine' wp_region_seq [.inl _, .inl _, .inl _, .inl _, .inl _, .inl _, .inl _, .inl _, .inl _, .inl _, .inl _, .inl _, .inl _, .inl _, .inl _, .inl _] (by kernel_rfl) (by kernel_rfl) ?main3
        case main3 =>
          refine wpParts_det (by rfl) (fun W hE hN => ?_) ?_
          · go_simp; refine ⟨Below.refl _ _, ?_⟩; rfl
          simp only [Act.put, List.setIfInBounds_toArray, List.set_cons_zero, List.set_cons_succ]
          refine wpParts_det (by rfl) (fun W hE hN => ?_) ?_
          · go_simp; refine ⟨Below.refl _ _, ?_⟩; rfl
          simp only [Act.put, List.setIfInBounds_toArray, List.set_cons_zero, List.set_cons_succ]
          refine wpParts_det (by rfl) (fun W hE hN => ?_) ?_
          · go_simp; refine ⟨Below.refl _ _, ?_⟩; rfl
          simp only [Act.put, List.setIfInBounds_toArray, List.set_cons_zero, List.set_cons_succ]
          refine wpParts_det (by rfl) (fun W hE hN => ?_) ?_
          · go_simp; refine ⟨Below.refl _ _, ?_⟩; rfl
          simp only [Act.put, List.setIfInBounds_toArray, List.set_cons_zero, List.set_cons_succ]
          refine wpParts_det (by rfl) (fun W hE hN => ?_) ?_
          · go_simp; refine ⟨Below.refl _ _, ?_⟩; rfl
          simp only [Act.put, List.setIfInBounds_toArray, List.set_cons_zero, List.set_cons_succ]
          refine wpParts_det (by rfl) (fun W hE hN => ?_) ?_
          · go_simp; refine ⟨Below.refl _ _, ?_⟩; rfl
          simp only [Act.put, List.setIfInBounds_toArray, List.set_cons_zero, List.set_cons_succ]
          refine wpParts_det (by rfl) (fun W hE hN => ?_) ?_
          · go_simp; refine ⟨Below.refl _ _, ?_⟩; rfl
          simp only [Act.put, List.setIfInBounds_toArray, List.set_cons_zero, List.set_cons_succ]
          refine wpParts_det (by rfl) (fun W hE hN => ?_) ?_
          · go_simp; refine ⟨Below.refl _ _, ?_⟩; rfl
          simp only [Act.put, List.setIfInBounds_toArray, List.set_cons_zero, List.set_cons_succ]
          refine wpParts_det (by rfl) (fun W hE hN => ?_) ?_
          · go_simp; refine ⟨Below.refl _ _, ?_⟩; rfl
          simp only [Act.put, List.setIfInBounds_toArray, List.set_cons_zero, List.set_cons_succ]
          refine wpParts_det (by rfl) (fun W hE hN => ?_) ?_
          · have hc := fun b o h => hE.cell (p := ⟨b, o, none⟩) h
            go_simp; refine ⟨Below.refl _ _, ?_⟩; rfl
          simp only [Act.put, List.setIfInBounds_toArray, List.set_cons_zero, List.set_cons_succ]
          refine wpParts_det (by rfl) (fun W hE hN => ?_) ?_
          · have hc := fun b o h => hE.cell (p := ⟨b, o, none⟩) h
            go_simp; refine ⟨Below.refl _ _, ?_⟩; rfl
          simp only [Act.put, List.setIfInBounds_toArray, List.set_cons_zero, List.set_cons_succ]
          refine wpParts_det (by rfl) (fun W hE hN => ?_) ?_
          · go_simp; refine ⟨Below.refl _ _, ?_⟩; refine (Try_against ka kn kc key W (HU.out.ext hE) (HK.out.ext (ext_trans HB.out hE))).mono ?_; rw [HC.out]; rintro e w' ⟨rfl, hb⟩; refine ⟨?_, hb⟩; rfl
          simp only [Act.put, List.setIfInBounds_toArray, List.set_cons_zero, List.set_cons_succ]
          refine wpParts_det (by rfl) (fun W hE hN => ?_) ?_
          · go_simp; refine ⟨Below.refl _ _, ?_⟩; rfl
          simp only [Act.put, List.setIfInBounds_toArray, List.set_cons_zero, List.set_cons_succ]
          refine wpParts_det (by rfl) (fun W hE hN => ?_) ?_
          · go_simp; refine ⟨Below.refl _ _, ?_⟩; rfl
          simp only [Act.put, List.setIfInBounds_toArray, List.set_cons_zero, List.set_cons_succ]
          refine wpParts_det (by rfl) (fun W hE hN => ?_) ?_
          · go_simp; refine ⟨Below.refl _ _, ?_⟩; rfl
          simp only [Act.put, List.setIfInBounds_toArray, List.set_cons_zero, List.set_cons_succ]
          refine wpParts_det (by rfl) (fun W hE hN => ?_) ?_
          · go_simp; refine ⟨Below.refl _ _, ?_⟩; rfl
          simp only [Act.put, List.setIfInBounds_toArray, List.set_cons_zero, List.set_cons_succ]
          refine wpParts_end fun W1 hE1 hG1 => ?_
          have hcW1 := fun b o h => hE1.cell (p := ⟨b, o, none⟩) h
          have hfW1 := fun b o h => hE1.frozen (p := ⟨b, o, none⟩) h
          have HW1 := Lib.hid (ext_trans HB.out hE1)
          go_wp2
          go_ret2
          refine ⟨?_, HW1.out⟩
          rw [HV.out, ← HLOW.out]
          have h := HCA.out
          rw [Bool.eq_iff_iff.2 (show decide (pKey x = key) = true ↔ (c == 0) = true by simp [h])]
          rfl
      · have HV := Lib.hid (show isAt L (lowN L key) key = false by unfold isAt; rw [← hlow, List.getElem?_eq_none (by omega)]; rfl)
        have hhp : ¬ (j : Int) < (pn : Int) := by omega
        have hdd : decide ((j : Int) < (pn : Int)) = false := by simp; omega
        have hddn : decide (j < pn) = false := by simp; omega
        clear hi hj hjl hbel hij hpn hlow hjp
        go_wp2_with fail
        refine' wp_region_seq [.inl _, .inl _, .inl _, .inl _, .inl _, .inl undef, .inl undef, .inl undef, .inl undef, .inl undef, .inl undef, .inl undef, .inl undef, .inl _, .inl _, .inl _] (by kernel_rfl) (by kernel_rfl) ?main4
        case main4 =>
          refine wpParts_det (by rfl) (fun W hE hN => ?_) ?_
          · go_simp; refine ⟨Below.refl _ _, ?_⟩; rfl
          simp only [Act.put, List.setIfInBounds_toArray, List.set_cons_zero, List.set_cons_succ]
          refine wpParts_det (by rfl) (fun W hE hN => ?_) ?_
          · go_simp; refine ⟨Below.refl _ _, ?_⟩; rfl
          simp only [Act.put, List.setIfInBounds_toArray, List.set_cons_zero, List.set_cons_succ]
          refine wpParts_det (by rfl) (fun W hE hN => ?_) ?_
          · go_simp; refine ⟨Below.refl _ _, ?_⟩; rfl
          simp only [Act.put, List.setIfInBounds_toArray, List.set_cons_zero, List.set_cons_succ]
          refine wpParts_det (by rfl) (fun W hE hN => ?_) ?_
          · go_simp; refine ⟨Below.refl _ _, ?_⟩; rfl
          simp only [Act.put, List.setIfInBounds_toArray, List.set_cons_zero, List.set_cons_succ]
          refine wpParts_det (by rfl) (fun W hE hN => ?_) ?_
          · go_simp; refine ⟨Below.refl _ _, ?_⟩; rfl
          simp only [Act.put, List.setIfInBounds_toArray, List.set_cons_zero, List.set_cons_succ]
          refine wpParts_skip ?_ ?_
          · rfl
          simp only [Act.put, List.setIfInBounds_toArray, List.set_cons_zero, List.set_cons_succ]
          refine wpParts_skip ?_ ?_
          · rfl
          simp only [Act.put, List.setIfInBounds_toArray, List.set_cons_zero, List.set_cons_succ]
          refine wpParts_skip ?_ ?_
          · rfl
          simp only [Act.put, List.setIfInBounds_toArray, List.set_cons_zero, List.set_cons_succ]
          refine wpParts_skip ?_ ?_
          · rfl
          simp only [Act.put, List.setIfInBounds_toArray, List.set_cons_zero, List.set_cons_succ]
          refine wpParts_skip ?_ ?_
          · rfl
          simp only [Act.put, List.setIfInBounds_toArray, List.set_cons_zero, List.set_cons_succ]
          refine wpParts_skip ?_ ?_
          · rfl
          simp only [Act.put, List.setIfInBounds_toArray, List.set_cons_zero, List.set_cons_succ]
          refine wpParts_skip ?_ ?_
          · rfl
          simp only [Act.put, List.setIfInBounds_toArray, List.set_cons_zero, List.set_cons_succ]
          refine wpParts_skip ?_ ?_
          · rfl
          simp only [Act.put, List.setIfInBounds_toArray, List.set_cons_zero, List.set_cons_succ]
          refine wpParts_det (by rfl) (fun W hE hN => ?_) ?_
          · go_simp; refine ⟨Below.refl _ _, ?_⟩; rfl
          simp only [Act.put, List.setIfInBounds_toArray, List.set_cons_zero, List.set_cons_succ]
          refine wpParts_det (by rfl) (fun W hE hN => ?_) ?_
          · go_simp; refine ⟨Below.refl _ _, ?_⟩; rfl
          simp only [Act.put, List.setIfInBounds_toArray, List.set_cons_zero, List.set_cons_succ]
          refine wpParts_det (by rfl) (fun W hE hN => ?_) ?_
          · go_simp; refine ⟨Below.refl _ _, ?_⟩; rfl
          simp only [Act.put, List.setIfInBounds_toArray, List.set_cons_zero, List.set_cons_succ]
          refine wpParts_end fun W1 hE1 hG1 => ?_
          have hcW1 := fun b o h => hE1.cell (p := ⟨b, o, none⟩) h
          have hfW1 := fun b o h => hE1.frozen (p := ⟨b, o, none⟩) h
          have HW1 := Lib.hid (ext_trans HB.out hE1)
          go_wp2
          go_ret2
          refine ⟨?_, HW1.out⟩
          rw [HV.out, ← HLOW.out]
          rfl

set_option maxRecDepth 8000 in
set_option maxHeartbeats 8000000 in
theorem Try_Place (N : NodeD) (ia ka qa : Option Addr) (il ic kl kc qn qc : Nat) (S : Nat → Prop) (key : List UInt8) (w : World) (hN : NodeS w S ia il ic ka kl kc N) (hk : BytesAt w qa qn qc key) :
    Calls Try.prog 23 #[.agg #[.bool N.leaf, .slice ia il ic, .slice ka kl kc], .slice qa qn qc] w fun e w' => e = .returned (.tuple #[.int .i64 (placeN N key).1, .bool (placeN N key).2]) ∧ Below w.heap.size w w' := by
  have hb0 : Below w.heap.size w (w.alloc (.cells #[.bool N.leaf, .slice ia il ic, .slice ka kl kc] 28)) := (by repeat (first | (with_reducible exact Below.refl _ _) | (with_reducible exact Below.refl _ _) | (with_reducible refine Below.setCell ?_ (by first | omega | (simp; done) | (simp; omega)) _) | (with_reducible refine Below.alloc ?_ (by first | omega | (simp; done) | (simp; omega)) _) | (with_reducible refine Below.drew ?_) | (with_reducible refine below_drewN ?_ _)))
  have hN0 := hN.ext hb0
  have hq0 : Blk (w.alloc (.cells #[.bool N.leaf, .slice ia il ic, .slice ka kl kc] 28)) w.heap.size [.bool N.leaf, .slice ia il ic, .slice ka kl kc] 28 := Blk.new w [.bool N.leaf, .slice ia il ic, .slice ka kl kc] 28
  have hc := Try_nCheck N ia ka il ic kl kc S _ hN0
  obtain ⟨f, hf⟩ : ∃ f, N.leaf = f := ⟨_, rfl⟩
  have HF := Lib.hid hf
  have HN0 := Lib.hid hN0
  have HB0 := Lib.hid hb0
  have HC := Lib.hid hc
  have HQ0 := Lib.hid hq0
  have HK := Lib.hid (hk.ext hb0)
  rw [hf] at HN0 HB0 HC HQ0 HK ⊢
  clear hb0 hN hN0 hq0 hc hf hk
  go_enter Try.func23, Try.ntmps23
  go_wp2_with fail
  (with_reducible refine HC.out.mono ?_); rintro e w1 ⟨rfl, hb1⟩
  have HB1 := Lib.hid (HB0.out.trans (hb1.mono HB0.out.size))
  have Q1 := Lib.hid (HQ0.out.ext hb1)
  have HN1 := Lib.hid (HN0.out.ext hb1)
  have HK1 := Lib.hid (HK.out.ext hb1)
  have c1 := Q1.out.cells
  have l1 := Q1.out.lt
  cases hok : nodeOk N with
  | false =>
    have e0 := nodeE_240 hok
    have HOK := Lib.hid hok
    clear hok
    go_wp2
    go_ret2
    exact ⟨by unfold placeN; rw [HOK.out]; rfl, HB1.out⟩
  | true =>
    have e0 := nodeE_0 hok
    have HOK := Lib.hid hok
    clear hok
    have hp := Try_parts N ia ka il ic kl kc S w1 HN1.out (shape_few (nodeOk_check HOK.out).1).2.2
    rw [HF.out] at hp
    have HP := Lib.hid hp
    clear hp hb1
    go_wp2_with fail
    (with_reducible refine HP.out.mono ?_); rintro e w2 ⟨pa, pn, pc, rfl, hPS, hb2⟩
    have HPS := Lib.hid hPS
    have HPL := Lib.hid hPS.hlen
    have HB2 := Lib.hid (HB1.out.trans (hb2.mono HB1.out.size))
    have Q2 := Lib.hid (Q1.out.ext hb2)
    have HK2 := Lib.hid (HK1.out.ext hb2)
    have hse := Try_search pa qa pn pc qn qc (partsOf N) key w2 hPS HK2.out (by have := hPS.hlen; have := (shape_few (nodeOk_check HOK.out).1).2.2; omega) (rises_of (nodeOk_check HOK.out).2.2.1 key)
    obtain ⟨m, hm⟩ : ∃ m, lowN (partsOf N) key = m := ⟨_, rfl⟩
    obtain ⟨q, hq⟩ : ∃ q, isAt (partsOf N) m key = q := ⟨_, rfl⟩
    rw [hm, hq] at hse
    have HM := Lib.hid (show m ≤ 6 by rw [← hm]; have := lowN_le (partsOf N) key; have := (shape_few (nodeOk_check HOK.out).1).2.2; omega)
    have HV := Lib.hid (show placeN N key = (if N.leaf || q then (m : Int) else max ((m : Int) - 1) 0, q) by unfold placeN; rw [if_pos HOK.out, hm, hq])
    have HSE := Lib.hid hse
    clear c1 hPS hb2 hse hm hq
    go_wp2_with fail
    (with_reducible refine HSE.out.mono ?_); rintro e w3 ⟨rfl, hb3⟩
    have HB3 := Lib.hid (HB2.out.trans (hb3.mono HB2.out.size))
    have Q3 := Lib.hid (Q2.out.ext hb3)
    have c3 := Q3.out.cells
    have l3 := Q3.out.lt
    clear hb3
    have m6 : (m : Int) ≤ 6 := by have := HM.out; omega
    cases f with
    | true =>
      go_wp2
      go_ret2
      exact ⟨by rw [HV.out, HF.out]; rfl, HB3.out⟩
    | false =>
      cases q with
      | true =>
        go_wp2
        go_ret2
        exact ⟨by rw [HV.out, HF.out]; rfl, HB3.out⟩
      | false =>
        by_cases h0 : m = 0
        · have HV0 := Lib.hid (show placeN N key = (0, false) by rw [HV.out, HF.out, h0]; rfl)
          have hmm : max ((m : Int) - 1) 0 = 0 := by omega
          have hmz : (m : Int) - 1 < 0 := by omega
          clear h0
          go_wp2
          all_goals
            go_ret2
            exact ⟨by rw [HV0.out]; first | rfl | simp | (simp; omega), HB3.out⟩
        · have HV0 := Lib.hid (show placeN N key = ((m : Int) - 1, false) by rw [HV.out, HF.out]; simp; omega)
          have hmm : max ((m : Int) - 1) 0 = (m : Int) - 1 := by omega
          have hmz : ¬ (m : Int) - 1 < 0 := by omega
          clear h0
          go_wp2
          all_goals
            go_ret2
            exact ⟨by rw [HV0.out]; first | rfl | simp | (simp; omega), HB3.out⟩
end Go.Proofs.Ytfhhcpolicdfpaa
