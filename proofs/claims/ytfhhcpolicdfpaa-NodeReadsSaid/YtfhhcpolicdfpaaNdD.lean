/-
  Layer 14: Check, walked.
-/
import Derived.Test.YtfhhcpolicdfpaaNdC
import Derived.Outline
namespace Go.Dav
set_option linter.unusedVariables false
set_option linter.unusedSimpArgs false
open Go Go.RowKit
theorem stepB_bad1 {L : List PartD} {k : Nat} {x : PartD} (h : L[k]? = some x) (hx : pOk x = false) : stepB L k = false := by
  unfold stepB; rw [h]; simp [hx]
theorem stepB_bad2 {L : List PartD} {k : Nat} (h : behindB L k = false) : stepB L k = false := by
  unfold stepB; simp [h]
theorem stepB_bad3 {L : List PartD} {k : Nat} (h : ¬ rowsTo L (k + 1) ≤ 1073741824) : stepB L k = false := by
  unfold stepB; simp [h]
theorem stepB_ok {L : List PartD} {k : Nat} {x : PartD} (h : L[k]? = some x) (hx : pOk x = true) (h2 : behindB L k = true) (h3 : rowsTo L (k + 1) ≤ 1073741824) : stepB L k = true := by
  unfold stepB; rw [h]; simp [hx, h2, h3]
theorem behind_at {L : List PartD} {k : Nat} {x y : PartD} (hy : L[k]? = some y) (hx : L[k + 1]? = some x) : behindB L (k + 1) = aheadB (pKey y) (pKey x) := by
  unfold behindB; rw [Nat.add_sub_cancel, hy, hx]; simp
theorem pOk_less {x : PartD} (h : ¬ 1 ≤ (pKey x).length) : pOk x = false := by unfold pOk; simp [h]
theorem pOk_more {x : PartD} (h : ¬ (pKey x).length ≤ 120) : pOk x = false := by unfold pOk; simp [h]
theorem pOk_may {x : PartD} (h : pMay x = false) : pOk x = false := by unfold pOk; simp [h]
theorem pOk_mk {x : PartD} (h1 : 1 ≤ (pKey x).length) (h2 : (pKey x).length ≤ 120) (h3 : pMay x = true) : pOk x = true := by unfold pOk; simp [h1, h2, h3]
theorem pMay_c {x : PartD} (h : pMay x = true) : 0 ≤ (pRed x).c ∧ (pRed x).c ≤ 1073741824 := by
  cases x with
  | inl x => unfold pRed rowRed; dsimp only; split <;> simp
  | inr x =>
    unfold pMay at h
    simp only [Bool.and_eq_true, decide_eq_true_eq] at h
    have := Red.ok_spec h.2.2.2
    unfold pRed; dsimp only; omega
end Go.Dav
namespace Go.Proofs.Ytfhhcpolicdfpaa
set_option linter.unusedVariables false
set_option linter.unusedSimpArgs false
open Go.RowKit Go.Dav
attribute [local go_sem] Gives ite_val ite_val_true

theorem Try_fld_red (c n h l x y : Int) (W : World) : (Instr.field 47 (.agg #[.int .i64 c, .int .i64 n, .int .i64 h, .int .u64 l, .int .i64 x, .int .i64 y]) 0).run Try.prog W = .ok (.int .i64 c) W := by kernel_rfl
def TryCheckRel (w1 : World) (L : List PartD) (ix cv : Value) (wr : World) : Prop :=
  ∃ k : Nat, k ≤ L.length ∧ ix = .int .i64 k ∧ cv = .int .i64 (rowsTo L k) ∧ 0 ≤ rowsTo L k ∧ rowsTo L k ≤ 1073741824 ∧ stepsTo L k = true ∧ Below w1.heap.size w1 wr

set_option maxRecDepth 8000 in
set_option maxHeartbeats 8000000 in
theorem Try_nCheck_long (N : NodeD) (ia ka : Option Addr) (il ic kl kc : Nat) (S : Nat → Prop) (w : World) (hN : NodeS w S ia il ic ka kl kc N) (hs : shapeB N = true) :
    Calls Try.prog 27 #[.agg #[.bool N.leaf, .slice ia il ic, .slice ka kl kc]] w fun e w' => e = .returned (.int .i64 (nodeE N)) ∧ Below w.heap.size w w' := by
  have hw : Below w.heap.size w (w.alloc (.cells #[.bool N.leaf, .slice ia il ic, .slice ka kl kc] 28)) := (by repeat (first | (with_reducible exact Below.refl _ _) | (with_reducible exact Below.refl _ _) | (with_reducible refine Below.setCell ?_ (by first | omega | (simp; done) | (simp; omega)) _) | (with_reducible refine Below.alloc ?_ (by first | omega | (simp; done) | (simp; omega)) _) | (with_reducible refine Below.drew ?_) | (with_reducible refine below_drewN ?_ _)))
  have hparts := Try_parts N ia ka il ic kl kc S _ (hN.ext hw) (shape_few hs).2.2
  have hL6 := (shape_few hs).2.2
  have e1 := hN.items.hlen
  have e2 := hN.kids.hlen
  have i6 : (il : Int) ≤ 6 := by have := (shape_few hs).1; omega
  have k6 : (kl : Int) ≤ 6 := by have := (shape_few hs).2.1; omega
  have hsh : (N.leaf = true → kl = 0) ∧ (N.leaf = false → il = 0) := by
    unfold shapeB at hs
    simp only [Bool.and_eq_true] at hs
    refine ⟨fun h => ?_, fun h => ?_⟩
    · have := hs.2.2; rw [if_pos h, decide_eq_true_eq] at this; omega
    · have := hs.2.2; rw [h, if_neg Bool.false_ne_true, decide_eq_true_eq] at this; omega
  have HP := Lib.hid hparts
  have HS := Lib.hid hs
  have HSH := Lib.hid hsh
  have HL6 := Lib.hid hL6
  have HCE := Lib.hid (show checkB N = (decide (leastOf N ≤ (partsOf N).length) && stepsTo (partsOf N) (partsOf N).length) by unfold checkB; rw [hs, Bool.true_and])
  obtain ⟨L, hL⟩ : ∃ L, partsOf N = L := ⟨_, rfl⟩
  obtain ⟨m, hm⟩ : ∃ m, leastOf N = m := ⟨_, rfl⟩
  obtain ⟨f, hf⟩ : ∃ f, N.leaf = f := ⟨_, rfl⟩
  have hm2 : m ≤ 2 := by rw [← hm]; unfold leastOf; split <;> omega
  rw [hf]
  rw [hf] at HP HSH
  rw [hL, hm] at HCE
  rw [hL] at HL6
  have HL := Lib.hid hL
  have HM := Lib.hid hm
  clear hparts hs hsh hN e1 e2 hL6 hL hm hw hf
  have i7 : decide (6 < (il : Int)) = false := by simp; omega
  have k7 : decide (6 < (kl : Int)) = false := by simp; omega
  cases f with
  | true =>
    have k0 : kl = 0 := HSH.out.1 rfl
    subst k0
    go_enter Try.func27, Try.ntmps27
    go_wp2_with fail
    (with_reducible refine HP.out.mono ?_); rintro e w1 ⟨pa, pn, pc, rfl, hPS, hb1⟩
    rw [HL.out] at hPS
    rw [HM.out]
    have hpl := hPS.hlen
    have h6 : (pn : Int) ≤ 6 := by have := HL6.out; omega
    have hpc := hPS.hcap
    have hs1 : w.heap.size + 1 ≤ w1.heap.size := by have := hb1.size; simpa using this
    have HPS := Lib.hid hPS
    have HB1 := Lib.hid hb1
    have HPL := Lib.hid hpl
    clear hPS hb1 hpl
    by_cases hlm : pn < m
    · have hv : nodeE N = 240 := nodeE_bad (by rw [HCE.out, HPL.out]; simp; omega)
      have HV := Lib.hid hv
      have hlm' : (pn : Int) < (m : Int) := by omega
      clear hv
      go_wp2
      go_ret
      exact ⟨by rw [HV.out]; rfl, by have hb := HB1.out; exact (by repeat (first | (with_reducible exact Below.refl _ _) | (with_reducible exact Below.refl _ _) | (with_reducible refine Below.setCell ?_ (by first | omega | (simp; done) | (simp; omega)) _) | (with_reducible refine Below.alloc ?_ (by first | omega | (simp; done) | (simp; omega)) _) | (with_reducible refine Below.drew ?_) | (with_reducible refine below_drewN ?_ _) | (with_reducible refine Below.trans ?_ (hb.mono (by first | omega | (simp; done) | (simp; omega))))))⟩
    have hlm' : ¬ (pn : Int) < (m : Int) := by omega
    have HCE2 := Lib.hid (show checkB N = stepsTo L L.length by rw [HCE.out, HPL.out]; simp; omega)
    go_wp2_with fail
    clear hlm hlm' hm2
    go_loopw [51, 5] (fun ix cv wr => TryCheckRel w1 L ix cv wr) (fun ix _ _ => pn - (intOf ix).toNat)
    case atStart => exact ⟨0, Nat.zero_le _, rfl, by rw [rowsTo_zero], by rw [rowsTo_zero]; omega, by rw [rowsTo_zero]; omega, rfl, Below.refl _ _⟩
    case round =>
      obtain ⟨k, hk, rfl, rfl, hr0, hr1, hst, hbel⟩ := hrel
      have HB := Lib.hid hbel
      have HST := Lib.hid hst
      have hbs := hbel.size
      clear hst hbel
      by_cases hlt : k < pn
      · have hkL : k < L.length := by have := HPL.out; omega
        obtain ⟨x, hx⟩ : ∃ x, L[k]? = some x := ⟨_, List.getElem?_eq_getElem hkL⟩
        obtain ⟨b, o, u, rfl, hb, _, hcell, hu⟩ := (HPS.out.ext HB.out).hat k x hx
        obtain ⟨xa, xn, xc, hku, hkb⟩ := Try_key_of hu
        have hxl := hkb.at_.hlen
        have hmn := fun W => Try_meth_name x u W
        have hmm := fun W => Try_meth_may x u W
        have hmr := fun W => Try_meth_red x u W
        have hen := fun args W => Try_en_name x args W
        have hem := fun args W => Try_en_may x args W
        have her := fun args W => Try_en_red x args W
        have hlt' : (k : Int) < (pn : Int) := by omega
        have HKL := Lib.hid hkL
        have HX := Lib.hid hx
        have HU := Lib.hid hu
        have HKU := Lib.hid hku
        have HXL := Lib.hid hxl
        have HKB := Lib.hid hkb
        have HBAD := Lib.hid (fun h : stepB L k = false => (nodeE_bad (N := N) (by rw [HCE2.out]; exact steps_bad hkL h)))
        have hxf := hkb.at_.hfew
        have hxf' : (xn : Int) ≤ 140737488355328 := by omega
        clear hkL hx hu hku hxl hkb hlt hk hxf
        go_wp2_with fail
        (with_reducible refine (Try_name HU.out HKU.out).mono ?_); rintro e w2 ⟨rfl, hb2⟩
        have hs2 := hb2.size
        have HB2 := Lib.hid (HB.out.trans (hb2.mono (by omega)))
        have HU2 := Lib.hid (HU.out.ext hb2)
        have q1 := after hb2
        have hcell2 := (q1.1 b (o + k) hb).trans hcell
        clear q1
        by_cases g1 : 1 ≤ xn
        rotate_left
        · have HV := Lib.hid (HBAD.out (stepB_bad1 HX.out (pOk_less (by rw [HXL.out]; exact g1))))
          have g1' : (xn : Int) < 1 := by omega
          go_wp2
          go_ret
          exact ⟨by rw [HV.out]; rfl, by have hb := HB1.out; have hb2 := HB2.out; exact (by repeat (first | (with_reducible exact Below.refl _ _) | (with_reducible exact Below.refl _ _) | (with_reducible refine Below.setCell ?_ (by first | omega | (simp; done) | (simp; omega)) _) | (with_reducible refine Below.alloc ?_ (by first | omega | (simp; done) | (simp; omega)) _) | (with_reducible refine Below.drew ?_) | (with_reducible refine below_drewN ?_ _) | (with_reducible refine Below.trans ?_ (hb.mono (by first | omega | (simp; done) | (simp; omega)))) | (with_reducible refine Below.trans ?_ (hb2.mono (by first | omega | (simp; done) | (simp; omega))))))⟩
        by_cases g2 : xn ≤ 120
        rotate_left
        · have HV := Lib.hid (HBAD.out (stepB_bad1 HX.out (pOk_more (by rw [HXL.out]; exact g2))))
          have g2' : 120 < (xn : Int) := by omega
          have g1' : ¬ (xn : Int) < 1 := by omega
          go_wp2
          go_ret
          exact ⟨by rw [HV.out]; rfl, by have hb := HB1.out; have hb2 := HB2.out; exact (by repeat (first | (with_reducible exact Below.refl _ _) | (with_reducible exact Below.refl _ _) | (with_reducible refine Below.setCell ?_ (by first | omega | (simp; done) | (simp; omega)) _) | (with_reducible refine Below.alloc ?_ (by first | omega | (simp; done) | (simp; omega)) _) | (with_reducible refine Below.drew ?_) | (with_reducible refine below_drewN ?_ _) | (with_reducible refine Below.trans ?_ (hb.mono (by first | omega | (simp; done) | (simp; omega)))) | (with_reducible refine Below.trans ?_ (hb2.mono (by first | omega | (simp; done) | (simp; omega))))))⟩
        have g1' : decide ((xn : Int) < 1) = false := by simp; omega
        have g2' : decide (120 < (xn : Int)) = false := by simp; omega
        have HG1 := Lib.hid g1
        have HG2 := Lib.hid g2
        clear g1 g2
        go_wp2_with fail
        (with_reducible refine (Try_may HU2.out).mono ?_); rintro e w3 ⟨rfl, hb3⟩
        have hs3 := hb3.size
        have HB3 := Lib.hid (HB2.out.trans (hb3.mono (by omega)))
        have HU3 := Lib.hid (HU2.out.ext hb3)
        obtain ⟨q, hq⟩ : ∃ q, pMay x = q := ⟨_, rfl⟩
        rw [hq]
        have HQ := Lib.hid hq
        clear hq
        cases q with
        | false =>
          have HV := Lib.hid (HBAD.out (stepB_bad1 HX.out (pOk_may HQ.out)))
          go_wp2
          go_ret
          exact ⟨by rw [HV.out]; rfl, by have hb := HB1.out; have hb2 := HB3.out; exact (by repeat (first | (with_reducible exact Below.refl _ _) | (with_reducible exact Below.refl _ _) | (with_reducible refine Below.setCell ?_ (by first | omega | (simp; done) | (simp; omega)) _) | (with_reducible refine Below.alloc ?_ (by first | omega | (simp; done) | (simp; omega)) _) | (with_reducible refine Below.drew ?_) | (with_reducible refine below_drewN ?_ _) | (with_reducible refine Below.trans ?_ (hb.mono (by first | omega | (simp; done) | (simp; omega)))) | (with_reducible refine Below.trans ?_ (hb2.mono (by first | omega | (simp; done) | (simp; omega))))))⟩
        | true =>
          have HPO := Lib.hid (pOk_mk (by rw [HXL.out]; exact HG1.out) (by rw [HXL.out]; exact HG2.out) HQ.out)
          obtain ⟨r, hr⟩ : ∃ r, pRed x = r := ⟨_, rfl⟩
          have hrc := pMay_c HQ.out
          rw [hr] at hrc
          obtain ⟨hrc0, hrc1⟩ := hrc
          have HR := Lib.hid hr
          clear hr
          obtain ⟨s, hs⟩ : ∃ s, rowsTo L k = s := ⟨_, rfl⟩
          rw [hs] at hr0 hr1 ⊢
          have HS1 := Lib.hid hs
          have HSU := Lib.hid (show rowsTo L (k + 1) = s + r.c by rw [rowsTo_succ HX.out, HS1.out, HR.out])
          clear hs
          by_cases hk0 : k = 0
          · have HBH := Lib.hid (show behindB L k = true by unfold behindB; simp [hk0])
            have g3 : ¬ 0 < k := by omega
            have g4 : decide (0 < (k : Int)) = false := by simp; omega
            clear hk0
            go_wp2_with fail
            have hred := Try_red HU3.out
            rw [HR.out] at hred
            unfold redV at hred
            have HRE := Lib.hid hred
            clear hred
            (with_reducible refine HRE.out.mono ?_); rintro e w5 ⟨rfl, hb5⟩
            have hs5 := hb5.size
            have hfld := fun (c n h l x y : Int) (W : World) => Try_fld_red c n h l x y W
            have HB5 := Lib.hid (HB3.out.trans (hb5.mono (by omega)))
            by_cases g6 : s + r.c ≤ 1073741824
            · have HST2 := Lib.hid (show stepsTo L (k + 1) = true by rw [stepsTo_succ, HST.out, Bool.true_and]; exact stepB_ok HX.out HPO.out HBH.out (by rw [HSU.out]; exact g6))
              have g5 : ¬ 1073741824 < s + r.c := by omega
              have g7 : 0 ≤ s + r.c := by omega
              have HG6 := Lib.hid g6
              have HG7 := Lib.hid g7
              go_wp2_with fail
              go_roundw
              case rel => exact ⟨k + 1, HKL.out, by go_num, by rw [HSU.out], by rw [HSU.out]; exact HG7.out, by rw [HSU.out]; exact HG6.out, HST2.out, HB5.out⟩
              case measure => simp [intOf]; omega
            · have HV := Lib.hid (HBAD.out (stepB_bad3 (by rw [HSU.out]; exact g6)))
              have g5 : 1073741824 < s + r.c := by omega
              go_wp2
              go_ret
              exact ⟨by rw [HV.out]; rfl, by have hb := HB1.out; have hb2 := HB5.out; exact (by repeat (first | (with_reducible exact Below.refl _ _) | (with_reducible exact Below.refl _ _) | (with_reducible refine Below.setCell ?_ (by first | omega | (simp; done) | (simp; omega)) _) | (with_reducible refine Below.alloc ?_ (by first | omega | (simp; done) | (simp; omega)) _) | (with_reducible refine Below.drew ?_) | (with_reducible refine below_drewN ?_ _) | (with_reducible refine Below.trans ?_ (hb.mono (by first | omega | (simp; done) | (simp; omega)))) | (with_reducible refine Below.trans ?_ (hb2.mono (by first | omega | (simp; done) | (simp; omega))))))⟩
          · obtain ⟨j, hj⟩ : ∃ j, k = j + 1 := ⟨k - 1, by omega⟩
            obtain ⟨y, hy⟩ : ∃ y, L[j]? = some y := ⟨_, List.getElem?_eq_getElem (by have := HKL.out; omega)⟩
            obtain ⟨b2, o2, u2', heq, _, _, hcy, huy⟩ := (HPS.out.ext HB3.out).hat j y hy
            cases heq
            obtain ⟨ya, yn, yc, hkuy, hkby⟩ := Try_key_of huy
            obtain ⟨xa', xn', xc', hkux, hkbx⟩ := Try_key_of HU3.out
            have hcast := HKU.out.symm.trans hkux
            cases hcast
            have hmy := fun W => Try_meth_name y u2' W
            have hey := fun args W => Try_en_name y args W
            have hkj : (k : Int) - 1 = (j : Int) := by omega
            have g3 : 0 < k := by omega
            have g4 : decide (0 < (k : Int)) = true := by simp; omega
            have g8 : (j : Int) < (pn : Int) := by omega
            have HBX := Lib.hid hkbx
            have HBY := Lib.hid hkby
            have HUY := Lib.hid huy
            have HKY := Lib.hid hkuy
            have HBA := Lib.hid (show behindB L k = aheadB (pKey y) (pKey x) by
              have h1 := HX.out
              rw [hj] at h1 ⊢
              exact behind_at hy h1)
            clear hy hkuy hkux hkbx hkby huy hj hk0
            go_wp2_with fail
            (with_reducible refine (Try_name HUY.out HKY.out).mono ?_); rintro e w4 ⟨rfl, hb4⟩
            have hs4 := hb4.size
            have HB4 := Lib.hid (HB3.out.trans (hb4.mono (by omega)))
            have HU4 := Lib.hid (HU3.out.ext hb4)
            have hcmp := Try_Compare ya xa yn yc xn xc _ _ _ (HBY.out.ext hb4).at_ (HBX.out.ext hb4).at_
            obtain ⟨c, hc⟩ : ∃ c, Lib.compareBytes (pKey y) (pKey x) = c := ⟨_, rfl⟩
            rw [hc] at hcmp
            have HCM := Lib.hid hcmp
            have HC := Lib.hid hc
            clear hcmp hc
            go_wp2_with fail
            (with_reducible refine HCM.out.mono ?_); rintro e w6 ⟨rfl, hb6⟩
            have hs6 := hb6.size
            have HB6 := Lib.hid (HB4.out.trans (hb6.mono (by omega)))
            have HU6 := Lib.hid (HU4.out.ext hb6)
            have hca := (compare_ahead (pKey y) (pKey x)).1
            rw [HC.out] at hca
            by_cases hc0 : 0 ≤ c
            · have HBH := Lib.hid (show behindB L k = false by
                rw [HBA.out]
                cases hq : aheadB (pKey y) (pKey x) with
                | false => rfl
                | true => have := hca.2 hq; omega)
              have HV := Lib.hid (HBAD.out (stepB_bad2 HBH.out))
              clear hca
              go_wp2
              go_ret
              exact ⟨by rw [HV.out]; rfl, by have hb := HB1.out; have hb2 := HB6.out; exact (by repeat (first | (with_reducible exact Below.refl _ _) | (with_reducible exact Below.refl _ _) | (with_reducible refine Below.setCell ?_ (by first | omega | (simp; done) | (simp; omega)) _) | (with_reducible refine Below.alloc ?_ (by first | omega | (simp; done) | (simp; omega)) _) | (with_reducible refine Below.drew ?_) | (with_reducible refine below_drewN ?_ _) | (with_reducible refine Below.trans ?_ (hb.mono (by first | omega | (simp; done) | (simp; omega)))) | (with_reducible refine Below.trans ?_ (hb2.mono (by first | omega | (simp; done) | (simp; omega))))))⟩
            · have HBH := Lib.hid (show behindB L k = true by rw [HBA.out]; exact hca.1 (by omega))
              clear hca
              go_wp2_with fail
              have hred := Try_red HU6.out
              rw [HR.out] at hred
              unfold redV at hred
              have HRE := Lib.hid hred
              clear hred
              (with_reducible refine HRE.out.mono ?_); rintro e w5 ⟨rfl, hb5⟩
              have hs5 := hb5.size
              have hfld := fun (c n h l x y : Int) (W : World) => Try_fld_red c n h l x y W
              have HB5 := Lib.hid (HB6.out.trans (hb5.mono (by omega)))
              by_cases g6 : s + r.c ≤ 1073741824
              · have HST2 := Lib.hid (show stepsTo L (k + 1) = true by rw [stepsTo_succ, HST.out, Bool.true_and]; exact stepB_ok HX.out HPO.out HBH.out (by rw [HSU.out]; exact g6))
                have g5 : ¬ 1073741824 < s + r.c := by omega
                have g7 : 0 ≤ s + r.c := by omega
                have HG6 := Lib.hid g6
                have HG7 := Lib.hid g7
                go_wp2_with fail
                go_roundw
                case rel => exact ⟨k + 1, HKL.out, by go_num, by rw [HSU.out], by rw [HSU.out]; exact HG7.out, by rw [HSU.out]; exact HG6.out, HST2.out, HB5.out⟩
                case measure => simp [intOf]; omega
              · have HV := Lib.hid (HBAD.out (stepB_bad3 (by rw [HSU.out]; exact g6)))
                have g5 : 1073741824 < s + r.c := by omega
                go_wp2
                go_ret
                exact ⟨by rw [HV.out]; rfl, by have hb := HB1.out; have hb2 := HB5.out; exact (by repeat (first | (with_reducible exact Below.refl _ _) | (with_reducible exact Below.refl _ _) | (with_reducible refine Below.setCell ?_ (by first | omega | (simp; done) | (simp; omega)) _) | (with_reducible refine Below.alloc ?_ (by first | omega | (simp; done) | (simp; omega)) _) | (with_reducible refine Below.drew ?_) | (with_reducible refine below_drewN ?_ _) | (with_reducible refine Below.trans ?_ (hb.mono (by first | omega | (simp; done) | (simp; omega)))) | (with_reducible refine Below.trans ?_ (hb2.mono (by first | omega | (simp; done) | (simp; omega))))))⟩
      · have hv : nodeE N = 0 := nodeE_good (by
          have := HPL.out
          have e : k = L.length := by omega
          rw [HCE2.out, ← e]; exact HST.out)
        have HV := Lib.hid hv
        have hlt' : ¬ (k : Int) < (pn : Int) := by omega
        clear hv hk hlt
        go_wp2
        go_ret
        exact ⟨by rw [HV.out]; rfl, by have hb := HB1.out; have hb2 := HB.out; exact (by repeat (first | (with_reducible exact Below.refl _ _) | (with_reducible exact Below.refl _ _) | (with_reducible refine Below.setCell ?_ (by first | omega | (simp; done) | (simp; omega)) _) | (with_reducible refine Below.alloc ?_ (by first | omega | (simp; done) | (simp; omega)) _) | (with_reducible refine Below.drew ?_) | (with_reducible refine below_drewN ?_ _) | (with_reducible refine Below.trans ?_ (hb.mono (by first | omega | (simp; done) | (simp; omega)))) | (with_reducible refine Below.trans ?_ (hb2.mono (by first | omega | (simp; done) | (simp; omega))))))⟩
  | false =>
    have k0 : il = 0 := HSH.out.2 rfl
    subst k0
    go_enter Try.func27, Try.ntmps27
    go_wp2_with fail
    (with_reducible refine HP.out.mono ?_); rintro e w1 ⟨pa, pn, pc, rfl, hPS, hb1⟩
    rw [HL.out] at hPS
    rw [HM.out]
    have hpl := hPS.hlen
    have h6 : (pn : Int) ≤ 6 := by have := HL6.out; omega
    have hpc := hPS.hcap
    have hs1 : w.heap.size + 1 ≤ w1.heap.size := by have := hb1.size; simpa using this
    have HPS := Lib.hid hPS
    have HB1 := Lib.hid hb1
    have HPL := Lib.hid hpl
    clear hPS hb1 hpl
    by_cases hlm : pn < m
    · have hv : nodeE N = 240 := nodeE_bad (by rw [HCE.out, HPL.out]; simp; omega)
      have HV := Lib.hid hv
      have hlm' : (pn : Int) < (m : Int) := by omega
      clear hv
      go_wp2
      go_ret
      exact ⟨by rw [HV.out]; rfl, by have hb := HB1.out; exact (by repeat (first | (with_reducible exact Below.refl _ _) | (with_reducible exact Below.refl _ _) | (with_reducible refine Below.setCell ?_ (by first | omega | (simp; done) | (simp; omega)) _) | (with_reducible refine Below.alloc ?_ (by first | omega | (simp; done) | (simp; omega)) _) | (with_reducible refine Below.drew ?_) | (with_reducible refine below_drewN ?_ _) | (with_reducible refine Below.trans ?_ (hb.mono (by first | omega | (simp; done) | (simp; omega))))))⟩
    have hlm' : ¬ (pn : Int) < (m : Int) := by omega
    have HCE2 := Lib.hid (show checkB N = stepsTo L L.length by rw [HCE.out, HPL.out]; simp; omega)
    go_wp2_with fail
    clear hlm hlm' hm2
    go_loopw [51, 5] (fun ix cv wr => TryCheckRel w1 L ix cv wr) (fun ix _ _ => pn - (intOf ix).toNat)
    case atStart => exact ⟨0, Nat.zero_le _, rfl, by rw [rowsTo_zero], by rw [rowsTo_zero]; omega, by rw [rowsTo_zero]; omega, rfl, Below.refl _ _⟩
    case round =>
      obtain ⟨k, hk, rfl, rfl, hr0, hr1, hst, hbel⟩ := hrel
      have HB := Lib.hid hbel
      have HST := Lib.hid hst
      have hbs := hbel.size
      clear hst hbel
      by_cases hlt : k < pn
      · have hkL : k < L.length := by have := HPL.out; omega
        obtain ⟨x, hx⟩ : ∃ x, L[k]? = some x := ⟨_, List.getElem?_eq_getElem hkL⟩
        obtain ⟨b, o, u, rfl, hb, _, hcell, hu⟩ := (HPS.out.ext HB.out).hat k x hx
        obtain ⟨xa, xn, xc, hku, hkb⟩ := Try_key_of hu
        have hxl := hkb.at_.hlen
        have hmn := fun W => Try_meth_name x u W
        have hmm := fun W => Try_meth_may x u W
        have hmr := fun W => Try_meth_red x u W
        have hen := fun args W => Try_en_name x args W
        have hem := fun args W => Try_en_may x args W
        have her := fun args W => Try_en_red x args W
        have hlt' : (k : Int) < (pn : Int) := by omega
        have HKL := Lib.hid hkL
        have HX := Lib.hid hx
        have HU := Lib.hid hu
        have HKU := Lib.hid hku
        have HXL := Lib.hid hxl
        have HKB := Lib.hid hkb
        have HBAD := Lib.hid (fun h : stepB L k = false => (nodeE_bad (N := N) (by rw [HCE2.out]; exact steps_bad hkL h)))
        have hxf := hkb.at_.hfew
        have hxf' : (xn : Int) ≤ 140737488355328 := by omega
        clear hkL hx hu hku hxl hkb hlt hk hxf
        go_wp2_with fail
        (with_reducible refine (Try_name HU.out HKU.out).mono ?_); rintro e w2 ⟨rfl, hb2⟩
        have hs2 := hb2.size
        have HB2 := Lib.hid (HB.out.trans (hb2.mono (by omega)))
        have HU2 := Lib.hid (HU.out.ext hb2)
        have q1 := after hb2
        have hcell2 := (q1.1 b (o + k) hb).trans hcell
        clear q1
        by_cases g1 : 1 ≤ xn
        rotate_left
        · have HV := Lib.hid (HBAD.out (stepB_bad1 HX.out (pOk_less (by rw [HXL.out]; exact g1))))
          have g1' : (xn : Int) < 1 := by omega
          go_wp2
          go_ret
          exact ⟨by rw [HV.out]; rfl, by have hb := HB1.out; have hb2 := HB2.out; exact (by repeat (first | (with_reducible exact Below.refl _ _) | (with_reducible exact Below.refl _ _) | (with_reducible refine Below.setCell ?_ (by first | omega | (simp; done) | (simp; omega)) _) | (with_reducible refine Below.alloc ?_ (by first | omega | (simp; done) | (simp; omega)) _) | (with_reducible refine Below.drew ?_) | (with_reducible refine below_drewN ?_ _) | (with_reducible refine Below.trans ?_ (hb.mono (by first | omega | (simp; done) | (simp; omega)))) | (with_reducible refine Below.trans ?_ (hb2.mono (by first | omega | (simp; done) | (simp; omega))))))⟩
        by_cases g2 : xn ≤ 120
        rotate_left
        · have HV := Lib.hid (HBAD.out (stepB_bad1 HX.out (pOk_more (by rw [HXL.out]; exact g2))))
          have g2' : 120 < (xn : Int) := by omega
          have g1' : ¬ (xn : Int) < 1 := by omega
          go_wp2
          go_ret
          exact ⟨by rw [HV.out]; rfl, by have hb := HB1.out; have hb2 := HB2.out; exact (by repeat (first | (with_reducible exact Below.refl _ _) | (with_reducible exact Below.refl _ _) | (with_reducible refine Below.setCell ?_ (by first | omega | (simp; done) | (simp; omega)) _) | (with_reducible refine Below.alloc ?_ (by first | omega | (simp; done) | (simp; omega)) _) | (with_reducible refine Below.drew ?_) | (with_reducible refine below_drewN ?_ _) | (with_reducible refine Below.trans ?_ (hb.mono (by first | omega | (simp; done) | (simp; omega)))) | (with_reducible refine Below.trans ?_ (hb2.mono (by first | omega | (simp; done) | (simp; omega))))))⟩
        have g1' : decide ((xn : Int) < 1) = false := by simp; omega
        have g2' : decide (120 < (xn : Int)) = false := by simp; omega
        have HG1 := Lib.hid g1
        have HG2 := Lib.hid g2
        clear g1 g2
        go_wp2_with fail
        (with_reducible refine (Try_may HU2.out).mono ?_); rintro e w3 ⟨rfl, hb3⟩
        have hs3 := hb3.size
        have HB3 := Lib.hid (HB2.out.trans (hb3.mono (by omega)))
        have HU3 := Lib.hid (HU2.out.ext hb3)
        obtain ⟨q, hq⟩ : ∃ q, pMay x = q := ⟨_, rfl⟩
        rw [hq]
        have HQ := Lib.hid hq
        clear hq
        cases q with
        | false =>
          have HV := Lib.hid (HBAD.out (stepB_bad1 HX.out (pOk_may HQ.out)))
          go_wp2
          go_ret
          exact ⟨by rw [HV.out]; rfl, by have hb := HB1.out; have hb2 := HB3.out; exact (by repeat (first | (with_reducible exact Below.refl _ _) | (with_reducible exact Below.refl _ _) | (with_reducible refine Below.setCell ?_ (by first | omega | (simp; done) | (simp; omega)) _) | (with_reducible refine Below.alloc ?_ (by first | omega | (simp; done) | (simp; omega)) _) | (with_reducible refine Below.drew ?_) | (with_reducible refine below_drewN ?_ _) | (with_reducible refine Below.trans ?_ (hb.mono (by first | omega | (simp; done) | (simp; omega)))) | (with_reducible refine Below.trans ?_ (hb2.mono (by first | omega | (simp; done) | (simp; omega))))))⟩
        | true =>
          have HPO := Lib.hid (pOk_mk (by rw [HXL.out]; exact HG1.out) (by rw [HXL.out]; exact HG2.out) HQ.out)
          obtain ⟨r, hr⟩ : ∃ r, pRed x = r := ⟨_, rfl⟩
          have hrc := pMay_c HQ.out
          rw [hr] at hrc
          obtain ⟨hrc0, hrc1⟩ := hrc
          have HR := Lib.hid hr
          clear hr
          obtain ⟨s, hs⟩ : ∃ s, rowsTo L k = s := ⟨_, rfl⟩
          rw [hs] at hr0 hr1 ⊢
          have HS1 := Lib.hid hs
          have HSU := Lib.hid (show rowsTo L (k + 1) = s + r.c by rw [rowsTo_succ HX.out, HS1.out, HR.out])
          clear hs
          by_cases hk0 : k = 0
          · have HBH := Lib.hid (show behindB L k = true by unfold behindB; simp [hk0])
            have g3 : ¬ 0 < k := by omega
            have g4 : decide (0 < (k : Int)) = false := by simp; omega
            clear hk0
            go_wp2_with fail
            have hred := Try_red HU3.out
            rw [HR.out] at hred
            unfold redV at hred
            have HRE := Lib.hid hred
            clear hred
            (with_reducible refine HRE.out.mono ?_); rintro e w5 ⟨rfl, hb5⟩
            have hs5 := hb5.size
            have hfld := fun (c n h l x y : Int) (W : World) => Try_fld_red c n h l x y W
            have HB5 := Lib.hid (HB3.out.trans (hb5.mono (by omega)))
            by_cases g6 : s + r.c ≤ 1073741824
            · have HST2 := Lib.hid (show stepsTo L (k + 1) = true by rw [stepsTo_succ, HST.out, Bool.true_and]; exact stepB_ok HX.out HPO.out HBH.out (by rw [HSU.out]; exact g6))
              have g5 : ¬ 1073741824 < s + r.c := by omega
              have g7 : 0 ≤ s + r.c := by omega
              have HG6 := Lib.hid g6
              have HG7 := Lib.hid g7
              go_wp2_with fail
              go_roundw
              case rel => exact ⟨k + 1, HKL.out, by go_num, by rw [HSU.out], by rw [HSU.out]; exact HG7.out, by rw [HSU.out]; exact HG6.out, HST2.out, HB5.out⟩
              case measure => simp [intOf]; omega
            · have HV := Lib.hid (HBAD.out (stepB_bad3 (by rw [HSU.out]; exact g6)))
              have g5 : 1073741824 < s + r.c := by omega
              go_wp2
              go_ret
              exact ⟨by rw [HV.out]; rfl, by have hb := HB1.out; have hb2 := HB5.out; exact (by repeat (first | (with_reducible exact Below.refl _ _) | (with_reducible exact Below.refl _ _) | (with_reducible refine Below.setCell ?_ (by first | omega | (simp; done) | (simp; omega)) _) | (with_reducible refine Below.alloc ?_ (by first | omega | (simp; done) | (simp; omega)) _) | (with_reducible refine Below.drew ?_) | (with_reducible refine below_drewN ?_ _) | (with_reducible refine Below.trans ?_ (hb.mono (by first | omega | (simp; done) | (simp; omega)))) | (with_reducible refine Below.trans ?_ (hb2.mono (by first | omega | (simp; done) | (simp; omega))))))⟩
          · obtain ⟨j, hj⟩ : ∃ j, k = j + 1 := ⟨k - 1, by omega⟩
            obtain ⟨y, hy⟩ : ∃ y, L[j]? = some y := ⟨_, List.getElem?_eq_getElem (by have := HKL.out; omega)⟩
            obtain ⟨b2, o2, u2', heq, _, _, hcy, huy⟩ := (HPS.out.ext HB3.out).hat j y hy
            cases heq
            obtain ⟨ya, yn, yc, hkuy, hkby⟩ := Try_key_of huy
            obtain ⟨xa', xn', xc', hkux, hkbx⟩ := Try_key_of HU3.out
            have hcast := HKU.out.symm.trans hkux
            cases hcast
            have hmy := fun W => Try_meth_name y u2' W
            have hey := fun args W => Try_en_name y args W
            have hkj : (k : Int) - 1 = (j : Int) := by omega
            have g3 : 0 < k := by omega
            have g4 : decide (0 < (k : Int)) = true := by simp; omega
            have g8 : (j : Int) < (pn : Int) := by omega
            have HBX := Lib.hid hkbx
            have HBY := Lib.hid hkby
            have HUY := Lib.hid huy
            have HKY := Lib.hid hkuy
            have HBA := Lib.hid (show behindB L k = aheadB (pKey y) (pKey x) by
              have h1 := HX.out
              rw [hj] at h1 ⊢
              exact behind_at hy h1)
            clear hy hkuy hkux hkbx hkby huy hj hk0
            go_wp2_with fail
            (with_reducible refine (Try_name HUY.out HKY.out).mono ?_); rintro e w4 ⟨rfl, hb4⟩
            have hs4 := hb4.size
            have HB4 := Lib.hid (HB3.out.trans (hb4.mono (by omega)))
            have HU4 := Lib.hid (HU3.out.ext hb4)
            have hcmp := Try_Compare ya xa yn yc xn xc _ _ _ (HBY.out.ext hb4).at_ (HBX.out.ext hb4).at_
            obtain ⟨c, hc⟩ : ∃ c, Lib.compareBytes (pKey y) (pKey x) = c := ⟨_, rfl⟩
            rw [hc] at hcmp
            have HCM := Lib.hid hcmp
            have HC := Lib.hid hc
            clear hcmp hc
            go_wp2_with fail
            (with_reducible refine HCM.out.mono ?_); rintro e w6 ⟨rfl, hb6⟩
            have hs6 := hb6.size
            have HB6 := Lib.hid (HB4.out.trans (hb6.mono (by omega)))
            have HU6 := Lib.hid (HU4.out.ext hb6)
            have hca := (compare_ahead (pKey y) (pKey x)).1
            rw [HC.out] at hca
            by_cases hc0 : 0 ≤ c
            · have HBH := Lib.hid (show behindB L k = false by
                rw [HBA.out]
                cases hq : aheadB (pKey y) (pKey x) with
                | false => rfl
                | true => have := hca.2 hq; omega)
              have HV := Lib.hid (HBAD.out (stepB_bad2 HBH.out))
              clear hca
              go_wp2
              go_ret
              exact ⟨by rw [HV.out]; rfl, by have hb := HB1.out; have hb2 := HB6.out; exact (by repeat (first | (with_reducible exact Below.refl _ _) | (with_reducible exact Below.refl _ _) | (with_reducible refine Below.setCell ?_ (by first | omega | (simp; done) | (simp; omega)) _) | (with_reducible refine Below.alloc ?_ (by first | omega | (simp; done) | (simp; omega)) _) | (with_reducible refine Below.drew ?_) | (with_reducible refine below_drewN ?_ _) | (with_reducible refine Below.trans ?_ (hb.mono (by first | omega | (simp; done) | (simp; omega)))) | (with_reducible refine Below.trans ?_ (hb2.mono (by first | omega | (simp; done) | (simp; omega))))))⟩
            · have HBH := Lib.hid (show behindB L k = true by rw [HBA.out]; exact hca.1 (by omega))
              clear hca
              go_wp2_with fail
              have hred := Try_red HU6.out
              rw [HR.out] at hred
              unfold redV at hred
              have HRE := Lib.hid hred
              clear hred
              (with_reducible refine HRE.out.mono ?_); rintro e w5 ⟨rfl, hb5⟩
              have hs5 := hb5.size
              have hfld := fun (c n h l x y : Int) (W : World) => Try_fld_red c n h l x y W
              have HB5 := Lib.hid (HB6.out.trans (hb5.mono (by omega)))
              by_cases g6 : s + r.c ≤ 1073741824
              · have HST2 := Lib.hid (show stepsTo L (k + 1) = true by rw [stepsTo_succ, HST.out, Bool.true_and]; exact stepB_ok HX.out HPO.out HBH.out (by rw [HSU.out]; exact g6))
                have g5 : ¬ 1073741824 < s + r.c := by omega
                have g7 : 0 ≤ s + r.c := by omega
                have HG6 := Lib.hid g6
                have HG7 := Lib.hid g7
                go_wp2_with fail
                go_roundw
                case rel => exact ⟨k + 1, HKL.out, by go_num, by rw [HSU.out], by rw [HSU.out]; exact HG7.out, by rw [HSU.out]; exact HG6.out, HST2.out, HB5.out⟩
                case measure => simp [intOf]; omega
              · have HV := Lib.hid (HBAD.out (stepB_bad3 (by rw [HSU.out]; exact g6)))
                have g5 : 1073741824 < s + r.c := by omega
                go_wp2
                go_ret
                exact ⟨by rw [HV.out]; rfl, by have hb := HB1.out; have hb2 := HB5.out; exact (by repeat (first | (with_reducible exact Below.refl _ _) | (with_reducible exact Below.refl _ _) | (with_reducible refine Below.setCell ?_ (by first | omega | (simp; done) | (simp; omega)) _) | (with_reducible refine Below.alloc ?_ (by first | omega | (simp; done) | (simp; omega)) _) | (with_reducible refine Below.drew ?_) | (with_reducible refine below_drewN ?_ _) | (with_reducible refine Below.trans ?_ (hb.mono (by first | omega | (simp; done) | (simp; omega)))) | (with_reducible refine Below.trans ?_ (hb2.mono (by first | omega | (simp; done) | (simp; omega))))))⟩
      · have hv : nodeE N = 0 := nodeE_good (by
          have := HPL.out
          have e : k = L.length := by omega
          rw [HCE2.out, ← e]; exact HST.out)
        have HV := Lib.hid hv
        have hlt' : ¬ (k : Int) < (pn : Int) := by omega
        clear hv hk hlt
        go_wp2
        go_ret
        exact ⟨by rw [HV.out]; rfl, by have hb := HB1.out; have hb2 := HB.out; exact (by repeat (first | (with_reducible exact Below.refl _ _) | (with_reducible exact Below.refl _ _) | (with_reducible refine Below.setCell ?_ (by first | omega | (simp; done) | (simp; omega)) _) | (with_reducible refine Below.alloc ?_ (by first | omega | (simp; done) | (simp; omega)) _) | (with_reducible refine Below.drew ?_) | (with_reducible refine below_drewN ?_ _) | (with_reducible refine Below.trans ?_ (hb.mono (by first | omega | (simp; done) | (simp; omega)))) | (with_reducible refine Below.trans ?_ (hb2.mono (by first | omega | (simp; done) | (simp; omega))))))⟩

set_option maxRecDepth 8000 in
set_option maxHeartbeats 8000000 in
theorem Try_nCheck_bad (f : Bool) (ia ka : Option Addr) (il ic kl kc : Nat) (w : World) (hi : il ≤ 140737488355328) (hk : kl ≤ 140737488355328) (hs : (decide (il ≤ 6) && (decide (kl ≤ 6) && (if f then decide (kl = 0) else decide (il = 0)))) = false) :
    Calls Try.prog 27 #[.agg #[.bool f, .slice ia il ic, .slice ka kl kc]] w fun e w' => e = .returned (.int .i64 240) ∧ Below w.heap.size w w' := by
  have b1 : (il : Int) ≤ 140737488355328 := by omega
  have b2 : (kl : Int) ≤ 140737488355328 := by omega
  have HS := Lib.hid hs
  clear hs hi hk
  by_cases h1 : il ≤ 6
  · have i7 : decide (6 < (il : Int)) = false := by simp; omega
    by_cases h2 : kl ≤ 6
    · have k7 : decide (6 < (kl : Int)) = false := by simp; omega
      cases f with
      | true =>
        have h3 : decide (0 < kl) = true := by
          have := HS.out
          rw [decide_eq_true h1, decide_eq_true h2, Bool.true_and, Bool.true_and, if_pos rfl, decide_eq_false_iff_not] at this
          rw [decide_eq_true_eq]; omega
        have h4 : decide (0 < (kl : Int)) = true := by rw [decide_eq_true_eq] at h3 ⊢; omega
        clear h1 h2
        go_enter Try.func27, Try.ntmps27
        go_wp2
        go_ret
        exact ⟨rfl, (by repeat (first | (with_reducible exact Below.refl _ _) | (with_reducible exact Below.refl _ _) | (with_reducible refine Below.setCell ?_ (by first | omega | (simp; done) | (simp; omega)) _) | (with_reducible refine Below.alloc ?_ (by first | omega | (simp; done) | (simp; omega)) _) | (with_reducible refine Below.drew ?_) | (with_reducible refine below_drewN ?_ _)))⟩
      | false =>
        have h3 : decide (0 < il) = true := by
          have := HS.out
          rw [decide_eq_true h1, decide_eq_true h2, Bool.true_and, Bool.true_and, if_neg Bool.false_ne_true, decide_eq_false_iff_not] at this
          rw [decide_eq_true_eq]; omega
        have h4 : decide (0 < (il : Int)) = true := by rw [decide_eq_true_eq] at h3 ⊢; omega
        clear h1 h2
        go_enter Try.func27, Try.ntmps27
        go_wp2
        go_ret
        exact ⟨rfl, (by repeat (first | (with_reducible exact Below.refl _ _) | (with_reducible exact Below.refl _ _) | (with_reducible refine Below.setCell ?_ (by first | omega | (simp; done) | (simp; omega)) _) | (with_reducible refine Below.alloc ?_ (by first | omega | (simp; done) | (simp; omega)) _) | (with_reducible refine Below.drew ?_) | (with_reducible refine below_drewN ?_ _)))⟩
    · have k7 : decide (6 < (kl : Int)) = true := by simp; omega
      clear h1 h2
      go_enter Try.func27, Try.ntmps27
      go_wp2
      go_ret
      exact ⟨rfl, (by repeat (first | (with_reducible exact Below.refl _ _) | (with_reducible exact Below.refl _ _) | (with_reducible refine Below.setCell ?_ (by first | omega | (simp; done) | (simp; omega)) _) | (with_reducible refine Below.alloc ?_ (by first | omega | (simp; done) | (simp; omega)) _) | (with_reducible refine Below.drew ?_) | (with_reducible refine below_drewN ?_ _)))⟩
  · have i7 : decide (6 < (il : Int)) = true := by simp; omega
    clear h1
    go_enter Try.func27, Try.ntmps27
    go_wp2
    go_ret
    exact ⟨rfl, (by repeat (first | (with_reducible exact Below.refl _ _) | (with_reducible exact Below.refl _ _) | (with_reducible refine Below.setCell ?_ (by first | omega | (simp; done) | (simp; omega)) _) | (with_reducible refine Below.alloc ?_ (by first | omega | (simp; done) | (simp; omega)) _) | (with_reducible refine Below.drew ?_) | (with_reducible refine below_drewN ?_ _)))⟩
theorem Try_nCheck (N : NodeD) (ia ka : Option Addr) (il ic kl kc : Nat) (S : Nat → Prop) (w : World) (hN : NodeS w S ia il ic ka kl kc N) :
    Calls Try.prog 27 #[.agg #[.bool N.leaf, .slice ia il ic, .slice ka kl kc]] w fun e w' => e = .returned (.int .i64 (nodeE N)) ∧ Below w.heap.size w w' := by
  cases hs : shapeB N with
  | true => exact Try_nCheck_long N ia ka il ic kl kc S w hN hs
  | false =>
    have hv : nodeE N = 240 := nodeE_bad (by unfold checkB; rw [hs]; rfl)
    rw [hv]
    exact Try_nCheck_bad N.leaf ia ka il ic kl kc w hN.items.hfew hN.kids.hfew (by rw [← hN.items.hlen, ← hN.kids.hlen]; exact hs)
end Go.Proofs.Ytfhhcpolicdfpaa
