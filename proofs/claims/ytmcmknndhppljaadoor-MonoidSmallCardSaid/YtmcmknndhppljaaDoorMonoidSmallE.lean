/-
  The reference of layer 4: within, Right, walked.
  The reference of layer 4: one, Same, walked.
  Layer 13: what is told of a reduction, in plain.
  The reference of layer 13: One and Both, walked.
  Layer 13: the reference's in, Fits, Names, Tell, walked.
  Layer 13: the reference's Tell of all, walked.
  Layer 13: what the program tells: count, end, stats, walked.
-/
import Derived.Test.YtmcmknndhppljaaDoorMonoidSmallD
import Derived.Test.YtmcmknndhppljaaDoorMonoidSmallA
import Derived.Test.YtmcmknndhppljaaDoorMonoidSmallB
import Derived.Deep.DeepCutAuto
import Derived.Deep.RegionWith
namespace Go.Dav
set_option linter.unusedVariables false
set_option linter.unusedSimpArgs false
open Go Go.RowKit
theorem withinL_le {K : Type} {f : K → Nat → Int → Nat} {L : Nat} (hf : ∀ y m, (f y L m : Int) ≤ max m 0) {m : Int} : ∀ (l : List K) (n : Nat), (n : Int) ≤ m → ((withinL f L m l n : Nat) : Int) ≤ m
  | [], n, h => h
  | y :: ys, n, h => by
    unfold withinL
    split
    · omega
    · exact withinL_le hf ys _ (by have := hf y (m - n); omega)
theorem withinV_le : ∀ (d : Nat) (x : ValN d) (L : Nat) (m : Int), (withinV d x L m : Int) ≤ max m 0
  | 0, _, _, _ => by unfold withinV; omega
  | d + 1, x, L, m => by
    unfold withinV
    split
    · omega
    · rename_i h
      have := withinL_le (f := withinV d) (L := L - 1) (m := m) (fun y m => withinV_le d y (L - 1) m) x.to.kids 1 (by omega)
      omega
theorem withinL_drop {K : Type} {f : K → Nat → Int → Nat} {L : Nat} {m : Int} {l : List K} {i : Nat} {y : K} {n : Nat} (h : l[i]? = some y) : withinL f L m (l.drop i) n = if f y L (m - n) = 0 then 0 else withinL f L m (l.drop (i + 1)) (n + f y L (m - n)) := by
  have hl := (List.getElem?_eq_some_iff.1 h).1
  have e : l.drop i = y :: l.drop (i + 1) := by
    rw [List.drop_eq_getElem_cons hl]
    have := (List.getElem?_eq_some_iff.1 h).2
    rw [this]
  rw [e]; rfl
theorem withinV_no {d : Nat} {x : ValN (d + 1)} {L : Nat} {m : Int} (h : m < 1 ∨ aloneB x.to = false ∨ (5 ≤ x.to.kind ∧ L = 0)) : withinV (d + 1) x L m = 0 := by
  unfold withinV; exact if_pos h
theorem withinV_yes {d : Nat} {x : ValN (d + 1)} {L : Nat} {m : Int} (h : ¬ (m < 1 ∨ aloneB x.to = false ∨ (5 ≤ x.to.kind ∧ L = 0))) : withinV (d + 1) x L m = withinL (withinV d) (L - 1) m x.to.kids 1 := by
  unfold withinV; exact if_neg h
/-- A value with kids is a list or an object. -/
theorem alone_kids {K : Type} {x : ValF K} (h : aloneB x = true) (hk : x.kids.length ≠ 0) : 5 ≤ x.kind := by
  unfold aloneB at h
  rw [Bool.and_eq_true] at h
  have h2 := h.2
  by_cases k5 : x.kind = 5
  · omega
  by_cases k6 : x.kind = 6
  · omega
  exfalso
  rw [if_neg k5, if_neg k6, decide_eq_false hk] at h2
  repeat' split at h2
  all_goals simp at h2
end Go.Dav
namespace Go.Proofs.YtmcmknndhppljaaDoor
set_option linter.unusedVariables false
set_option linter.unusedSimpArgs false
open Go.RowKit Go.Dav
attribute [local go_sem] Gives ite_val ite_val_true

set_option maxRecDepth 8000 in
set_option maxHeartbeats 8000000 in
theorem Tryd_rWithin : ∀ (d : Nat) (x : ValN d) (v : Value) (L : Nat) (m : Int) (w : World), ValAt w d v x → L ≤ 100 → -1000 ≤ m → m ≤ 1000 →
    Calls Tryd.prog 59 #[v, .int .i64 (L : Int), .int .i64 m] w fun e w' => e = .returned (.int .i64 ((withinV d x L m : Nat) : Int)) ∧ Below w.heap.size w w'
  | 0, _, _, _, _, _, h, _, _, _ => h.elim
  | d + 1, x, v, L, m, w, hx, hL, hm0, hm1 => by
    obtain ⟨ka, kl, kc, qa, ql, qc, h⟩ := hx
    have IH := Lib.hid (Tryd_rWithin d)
    obtain ⟨r, hr⟩ : ∃ r, withinV (d + 1) x L m = r := ⟨_, rfl⟩
    rw [hr]
    have HNO := Lib.hid (fun h => (withinV_no (x := x) (L := L) (m := m) h).symm.trans hr)
    have HYES := Lib.hid (fun h => (withinV_yes (x := x) (L := L) (m := m) h).symm.trans hr)
    obtain ⟨xf, hxf⟩ : ∃ xf, x.to = xf := ⟨_, rfl⟩
    rw [hxf] at h HNO HYES
    clear hxf
    have hv := h.val
    have hkl := h.hlen
    have hkf := h.hfew
    subst hv
    obtain ⟨kind, hkd⟩ : ∃ k, xf.kind = k := ⟨_, rfl⟩
    obtain ⟨n, hn⟩ : ∃ k, xf.n = k := ⟨_, rfl⟩
    obtain ⟨s, hs⟩ : ∃ k, xf.s = k := ⟨_, rfl⟩
    rw [hkd, hn, hs]
    obtain ⟨W0, hW0⟩ : ∃ W0, w.alloc (.cells #[.int .i64 kind, .int .i64 n, .string s, .slice ka kl kc, .slice qa ql qc] 39) = W0 := ⟨_, rfl⟩
    have bel0 : Below w.heap.size w W0 := by rw [← hW0]; exact (by repeat (first | (with_reducible exact Below.refl _ _) | (with_reducible exact Below.refl _ _) | (with_reducible refine Below.setCell ?_ (by first | omega | (simp; done) | (simp; omega)) _) | (with_reducible refine Below.alloc ?_ (by first | omega | (simp; done) | (simp; omega)) _) | (with_reducible refine Below.drew ?_) | (with_reducible refine below_drewN ?_ _)))
    have HB0 := Lib.hid (show Blk W0 w.heap.size [.int .i64 kind, .int .i64 n, .string s, .slice ka kl kc, .slice qa ql qc] 39 by rw [← hW0]; exact Blk.new _ _ _)
    have HX := Lib.hid (h.ext bel0 fun _ _ => ValAt.ext bel0 d)
    have BEL0 := Lib.hid bel0
    have HW0 := Lib.hid hW0
    have HKD := Lib.hid (And.intro hkd (And.intro hn hs))
    have HKL := Lib.hid hkl
    clear hr h hkl bel0 hW0 hkd hn hs
    by_cases hm : m < 1
    · have e : r = 0 := (HNO.out (.inl hm)).symm
      clear HNO HYES
      subst e
      go_enter Tryd.func59, Tryd.ntmps59
      go_wp2
      go_ret
      exact ⟨rfl, (by repeat (first | (with_reducible exact Below.refl _ _) | (with_reducible exact Below.refl _ _) | (with_reducible refine Below.setCell ?_ (by first | omega | (simp; done) | (simp; omega)) _) | (with_reducible refine Below.alloc ?_ (by first | omega | (simp; done) | (simp; omega)) _) | (with_reducible refine Below.drew ?_) | (with_reducible refine below_drewN ?_ _)))⟩
    · go_enter Tryd.func59, Tryd.ntmps59
      go_wp2_with fail
      rw [HW0.out]
      have hA := Tryd_rAlone (ValAt W0 d) xf _ ka qa kl kc ql qc W0 HX.out
      rw [HKD.out.1, HKD.out.2.1, HKD.out.2.2] at hA
      refine hA.mono ?_; rintro e w1 ⟨rfl, hb1⟩
      have HB1 := Lib.hid (HB0.out.ext hb1)
      have HX1 := Lib.hid (HX.out.ext hb1 fun _ _ => ValAt.ext hb1 d)
      have BEL1 := Lib.hid (BEL0.out.trans (hb1.mono BEL0.out.size))
      have q1 := HB1.out.cells
      have l1 := HB1.out.lt
      clear hA hb1 HB0 HX BEL0 HW0
      cases hal : aloneB xf with
      | false =>
        have e : r = 0 := (HNO.out (.inr (.inl hal))).symm
        clear HNO HYES hal
        subst e
        go_wp2
        go_ret
        exact ⟨rfl, by have h := BEL1.out; exact (by repeat (first | (with_reducible exact Below.refl _ _) | (with_reducible exact Below.refl _ _) | (with_reducible refine Below.setCell ?_ (by first | omega | (simp; done) | (simp; omega)) _) | (with_reducible refine Below.alloc ?_ (by first | omega | (simp; done) | (simp; omega)) _) | (with_reducible refine Below.drew ?_) | (with_reducible refine below_drewN ?_ _) | (with_reducible refine Below.trans ?_ (h.mono (by first | omega | (simp; done) | (simp; omega))))))⟩
      | true =>
        have HAL := Lib.hid hal
        clear hal
        by_cases h5 : 5 ≤ kind
        · by_cases hL0 : L = 0
          · have e : r = 0 := (HNO.out (.inr (.inr ⟨by rw [HKD.out.1]; exact h5, hL0⟩))).symm
            clear HNO HYES
            subst e hL0
            go_wp2
            go_ret
            exact ⟨rfl, by have h := BEL1.out; exact (by repeat (first | (with_reducible exact Below.refl _ _) | (with_reducible exact Below.refl _ _) | (with_reducible refine Below.setCell ?_ (by first | omega | (simp; done) | (simp; omega)) _) | (with_reducible refine Below.alloc ?_ (by first | omega | (simp; done) | (simp; omega)) _) | (with_reducible refine Below.drew ?_) | (with_reducible refine below_drewN ?_ _) | (with_reducible refine Below.trans ?_ (h.mono (by first | omega | (simp; done) | (simp; omega))))))⟩
          · have HR2 := Lib.hid (show withinL (withinV d) (L - 1) m xf.kids 1 = r from HYES.out fun h => by rcases h with h | h | h; (omega); (rw [HAL.out] at h; cases h); (exact hL0 h.2))
            have d0 : ((L : Int) == 0) = false := by simp [hL0]
            have hL1 : 0 < kl → 1 ≤ L := fun _ => by omega
            clear hL0
            go_wp2_with fail
            go_loopw [7, 8] (fun nx ix wr => ∃ i n' : Nat, i ≤ kl ∧ ix = .int .i64 (i : Int) ∧ nx = .int .i64 (n' : Int) ∧ 1 ≤ n' ∧ (n' : Int) ≤ m ∧ withinL (withinV d) (L - 1) m (xf.kids.drop i) n' = r ∧ Below w1.heap.size w1 wr) (fun _ ix _ => kl - (intOf ix).toNat)
            case atStart => exact ⟨0, 1, Nat.zero_le _, by go_num, by go_num, by omega, by omega, HR2.out, Below.refl _ _⟩
            case round =>
              obtain ⟨i, n', hi, rfl, rfl, hn1, hnm, hdr, hbr⟩ := hrel
              have HBr := Lib.hid (HB1.out.ext hbr)
              have HXr := Lib.hid (HX1.out.ext hbr fun _ _ => ValAt.ext hbr d)
              have BELr := Lib.hid hbr
              have HDR := Lib.hid hdr
              have q1 := HBr.out.cells
              have l1 := HBr.out.lt
              clear hdr hbr
              by_cases hlt : i < kl
              · obtain ⟨L', hL'⟩ : ∃ L', L - 1 = L' := ⟨_, rfl⟩
                have e1 : (L : Int) - 1 = (L' : Int) := by have := hL1 (by omega); omega
                have HLL := Lib.hid hL'
                obtain ⟨y, hy⟩ : ∃ y, xf.kids[i]? = some y := ⟨_, List.getElem?_eq_getElem (by have := HKL.out; omega)⟩
                obtain ⟨b, o, u0, u1, u2, u3, u4, rfl, hb, c0, c1, c2, c3, c4, hv⟩ := HXr.out.hkid i y hy
                have hst := withinL_drop (f := withinV d) (L := L') (m := m) (n := n') hy
                have hwl := withinV_le d y L' (m - n')
                have hdr := HDR.out
                rw [hL', hst] at hdr
                obtain ⟨k, hk⟩ : ∃ k, withinV d y L' (m - n') = k := ⟨_, rfl⟩
                rw [hk] at hdr hwl
                have g1 : (i : Int) < (kl : Int) := by omega
                have g3 : IntKind.i64.wrap (L' : Int) = (L' : Int) := IntWalk.i64_in _ (by omega)
                have g4 : IntKind.i64.wrap (m - (n' : Int)) = m - (n' : Int) := IntWalk.i64_in _ (by omega)
                have HV := Lib.hid hv
                have HLT := Lib.hid hlt
                have HD2 := Lib.hid hdr
                have HK := Lib.hid hk
                clear hy hst hv hlt hi hL1 hdr hk hL'
                go_wp2_with fail
                refine (IH.out y _ L' (m - (n' : Int)) wr HV.out (by omega) (by omega) (by omega)).mono ?_; rintro e w2 ⟨rfl, hb2⟩
                rw [HK.out]
                have BEL2 := Lib.hid (BELr.out.trans (hb2.mono BELr.out.size))
                clear hb2 g3 g4
                by_cases hk0 : k = 0
                · have e : r = 0 := by have h := HD2.out; rw [if_pos hk0] at h; exact h.symm
                  subst e hk0
                  have BEL := Lib.hid (BEL1.out.trans (BEL2.out.mono BEL1.out.size))
                  clear HR2 HNO HYES HDR HD2 q1 l1
                  go_wp2
                  go_ret
                  exact ⟨rfl, by have h := BEL.out; exact (by repeat (first | (with_reducible exact Below.refl _ _) | (with_reducible exact Below.refl _ _) | (with_reducible refine Below.setCell ?_ (by first | omega | (simp; done) | (simp; omega)) _) | (with_reducible refine Below.alloc ?_ (by first | omega | (simp; done) | (simp; omega)) _) | (with_reducible refine Below.drew ?_) | (with_reducible refine below_drewN ?_ _) | (with_reducible refine Below.trans ?_ (h.mono (by first | omega | (simp; done) | (simp; omega))))))⟩
                · have d1 : ((k : Int) == 0) = false := by simp [hk0]
                  have HD3 := Lib.hid (show withinL (withinV d) L' m (xf.kids.drop (i + 1)) (n' + k) = r by have h := HD2.out; rw [if_neg hk0] at h; exact h)
                  have g5 : IntKind.i64.wrap ((n' : Int) + (k : Int)) = (n' : Int) + (k : Int) := IntWalk.i64_in _ (by omega)
                  go_wp2_with fail
                  go_roundw
                  case rel => exact ⟨i + 1, n' + k, HLT.out, by go_num, by go_num, by omega, by omega, by rw [HLL.out]; exact HD3.out, BEL2.out⟩
                  case measure => have := HLT.out; simp [intOf]; omega
              · have g1 : ¬ (i : Int) < (kl : Int) := by omega
                obtain rfl : i = kl := by omega
                have e : r = n' := by
                  have h := HDR.out
                  rw [← HKL.out, List.drop_length] at h
                  exact h.symm
                subst e
                have BEL := Lib.hid (BEL1.out.trans (BELr.out.mono BEL1.out.size))
                clear HR2 HNO HYES HDR hlt hi
                go_wp2
                go_ret
                exact ⟨rfl, by have h := BEL.out; exact (by repeat (first | (with_reducible exact Below.refl _ _) | (with_reducible exact Below.refl _ _) | (with_reducible refine Below.setCell ?_ (by first | omega | (simp; done) | (simp; omega)) _) | (with_reducible refine Below.alloc ?_ (by first | omega | (simp; done) | (simp; omega)) _) | (with_reducible refine Below.drew ?_) | (with_reducible refine below_drewN ?_ _) | (with_reducible refine Below.trans ?_ (h.mono (by first | omega | (simp; done) | (simp; omega))))))⟩
        · have HR2 := Lib.hid (show withinL (withinV d) (L - 1) m xf.kids 1 = r from HYES.out fun h => by rcases h with h | h | h; (omega); (rw [HAL.out] at h; cases h); (rw [HKD.out.1] at h; exact h5 h.1))
          have hk0 : kl = 0 := by
            by_cases hk : kl = 0
            · exact hk
            · exact absurd (alone_kids HAL.out (by rw [HKL.out]; exact hk)) (by rw [HKD.out.1]; exact h5)
          have hL1 : 0 < kl → 1 ≤ L := fun h => by omega
          clear hk0
          go_wp2_with fail
          go_loopw [7, 8] (fun nx ix wr => ∃ i n' : Nat, i ≤ kl ∧ ix = .int .i64 (i : Int) ∧ nx = .int .i64 (n' : Int) ∧ 1 ≤ n' ∧ (n' : Int) ≤ m ∧ withinL (withinV d) (L - 1) m (xf.kids.drop i) n' = r ∧ Below w1.heap.size w1 wr) (fun _ ix _ => kl - (intOf ix).toNat)
          case atStart => exact ⟨0, 1, Nat.zero_le _, by go_num, by go_num, by omega, by omega, HR2.out, Below.refl _ _⟩
          case round =>
            obtain ⟨i, n', hi, rfl, rfl, hn1, hnm, hdr, hbr⟩ := hrel
            have HBr := Lib.hid (HB1.out.ext hbr)
            have HXr := Lib.hid (HX1.out.ext hbr fun _ _ => ValAt.ext hbr d)
            have BELr := Lib.hid hbr
            have HDR := Lib.hid hdr
            have q1 := HBr.out.cells
            have l1 := HBr.out.lt
            clear hdr hbr
            by_cases hlt : i < kl
            · obtain ⟨L', hL'⟩ : ∃ L', L - 1 = L' := ⟨_, rfl⟩
              have e1 : (L : Int) - 1 = (L' : Int) := by have := hL1 (by omega); omega
              have HLL := Lib.hid hL'
              obtain ⟨y, hy⟩ : ∃ y, xf.kids[i]? = some y := ⟨_, List.getElem?_eq_getElem (by have := HKL.out; omega)⟩
              obtain ⟨b, o, u0, u1, u2, u3, u4, rfl, hb, c0, c1, c2, c3, c4, hv⟩ := HXr.out.hkid i y hy
              have hst := withinL_drop (f := withinV d) (L := L') (m := m) (n := n') hy
              have hwl := withinV_le d y L' (m - n')
              have hdr := HDR.out
              rw [hL', hst] at hdr
              obtain ⟨k, hk⟩ : ∃ k, withinV d y L' (m - n') = k := ⟨_, rfl⟩
              rw [hk] at hdr hwl
              have g1 : (i : Int) < (kl : Int) := by omega
              have g3 : IntKind.i64.wrap (L' : Int) = (L' : Int) := IntWalk.i64_in _ (by omega)
              have g4 : IntKind.i64.wrap (m - (n' : Int)) = m - (n' : Int) := IntWalk.i64_in _ (by omega)
              have HV := Lib.hid hv
              have HLT := Lib.hid hlt
              have HD2 := Lib.hid hdr
              have HK := Lib.hid hk
              clear hy hst hv hlt hi hL1 hdr hk hL'
              go_wp2_with fail
              refine (IH.out y _ L' (m - (n' : Int)) wr HV.out (by omega) (by omega) (by omega)).mono ?_; rintro e w2 ⟨rfl, hb2⟩
              rw [HK.out]
              have BEL2 := Lib.hid (BELr.out.trans (hb2.mono BELr.out.size))
              clear hb2 g3 g4
              by_cases hk0 : k = 0
              · have e : r = 0 := by have h := HD2.out; rw [if_pos hk0] at h; exact h.symm
                subst e hk0
                have BEL := Lib.hid (BEL1.out.trans (BEL2.out.mono BEL1.out.size))
                clear HR2 HNO HYES HDR HD2 q1 l1
                go_wp2
                go_ret
                exact ⟨rfl, by have h := BEL.out; exact (by repeat (first | (with_reducible exact Below.refl _ _) | (with_reducible exact Below.refl _ _) | (with_reducible refine Below.setCell ?_ (by first | omega | (simp; done) | (simp; omega)) _) | (with_reducible refine Below.alloc ?_ (by first | omega | (simp; done) | (simp; omega)) _) | (with_reducible refine Below.drew ?_) | (with_reducible refine below_drewN ?_ _) | (with_reducible refine Below.trans ?_ (h.mono (by first | omega | (simp; done) | (simp; omega))))))⟩
              · have d1 : ((k : Int) == 0) = false := by simp [hk0]
                have HD3 := Lib.hid (show withinL (withinV d) L' m (xf.kids.drop (i + 1)) (n' + k) = r by have h := HD2.out; rw [if_neg hk0] at h; exact h)
                have g5 : IntKind.i64.wrap ((n' : Int) + (k : Int)) = (n' : Int) + (k : Int) := IntWalk.i64_in _ (by omega)
                go_wp2_with fail
                go_roundw
                case rel => exact ⟨i + 1, n' + k, HLT.out, by go_num, by go_num, by omega, by omega, by rw [HLL.out]; exact HD3.out, BEL2.out⟩
                case measure => have := HLT.out; simp [intOf]; omega
            · have g1 : ¬ (i : Int) < (kl : Int) := by omega
              obtain rfl : i = kl := by omega
              have e : r = n' := by
                have h := HDR.out
                rw [← HKL.out, List.drop_length] at h
                exact h.symm
              subst e
              have BEL := Lib.hid (BEL1.out.trans (BELr.out.mono BEL1.out.size))
              clear HR2 HNO HYES HDR hlt hi
              go_wp2
              go_ret
              exact ⟨rfl, by have h := BEL.out; exact (by repeat (first | (with_reducible exact Below.refl _ _) | (with_reducible exact Below.refl _ _) | (with_reducible refine Below.setCell ?_ (by first | omega | (simp; done) | (simp; omega)) _) | (with_reducible refine Below.alloc ?_ (by first | omega | (simp; done) | (simp; omega)) _) | (with_reducible refine Below.drew ?_) | (with_reducible refine below_drewN ?_ _) | (with_reducible refine Below.trans ?_ (h.mono (by first | omega | (simp; done) | (simp; omega))))))⟩

theorem Tryd_rRight (d : Nat) (x : ValN d) (v : Value) (w : World) (h : ValAt w d v x) :
    Calls Tryd.prog 27 #[v] w fun e w' => e = .returned (.bool (rightV d x)) ∧ Below w.heap.size w w' := by
  have HX := Lib.hid h
  obtain ⟨d', rfl⟩ : ∃ d', d = d' + 1 := by
    cases d with
    | zero => exact h.elim
    | succ d => exact ⟨d, rfl⟩
  obtain ⟨ka, kl, kc, qa, ql, qc, hi⟩ := h
  have hv := hi.val
  clear hi
  subst hv
  obtain ⟨c, hc⟩ : ∃ c, w.alloc (.cells #[.int .i64 x.to.kind, .int .i64 x.to.n, .string x.to.s, .slice ka kl kc, .slice qa ql qc] 39) = c := ⟨_, rfl⟩
  have hb : Below w.heap.size w c := by rw [← hc]; exact (by repeat (first | (with_reducible exact Below.refl _ _) | (with_reducible exact Below.refl _ _) | (with_reducible refine Below.setCell ?_ (by first | omega | (simp; done) | (simp; omega)) _) | (with_reducible refine Below.alloc ?_ (by first | omega | (simp; done) | (simp; omega)) _) | (with_reducible refine Below.drew ?_) | (with_reducible refine below_drewN ?_ _)))
  have HC := Lib.hid hc
  have HB := Lib.hid hb
  have hX2 := Lib.hid (ValAt.ext hb _ HX.out)
  obtain ⟨r, hr⟩ : ∃ r, withinV (d' + 1) x 8 256 = r := ⟨_, rfl⟩
  have HRR := Lib.hid hr
  have HQ := Lib.hid (show rightV (d' + 1) x = decide (0 < r) by unfold rightV; rw [hr])
  clear hc hb hr HX
  rw [HQ.out]
  clear HQ
  go_enter Tryd.func27, Tryd.ntmps27
  go_wp2_with fail
  rw [HC.out]
  have hA := Tryd_rWithin (d' + 1) x _ 8 256 c hX2.out (by omega) (by omega) (by omega)
  rw [HRR.out] at hA
  refine hA.mono ?_; rintro e w2 ⟨rfl, hb2⟩
  have BEL := Lib.hid (HB.out.trans (hb2.mono HB.out.size))
  clear hb2
  go_wp2
  go_ret
  exact ⟨by simp, BEL.out⟩
end Go.Proofs.YtmcmknndhppljaaDoor

namespace Go.Dav
set_option linter.unusedVariables false
set_option linter.unusedSimpArgs false
open Go Go.RowKit
theorem headD_drop {α : Type} (l : List α) (i : Nat) (d : α) : (l.drop i).headD d = l.getD i d := by
  rw [List.headD_eq_head?_getD, List.head?_drop]; rfl
theorem oneL_cons {K J : Type} (f : K → J → Bool) (k : Int) (x : K) (xs : List K) (y : J) (ys : List J) (ks js : List ByteArray) : oneL f k (x :: xs) (y :: ys) ks js = (((!decide (k = 6)) || (ks.headD default).toList == (js.headD default).toList) && (f x y && oneL f k xs ys ks.tail js.tail)) := rfl
theorem oneL_drop {K J : Type} {f : K → J → Bool} {k : Int} {xs : List K} {ys : List J} {ks js : List ByteArray} {i : Nat} {x : K} {y : J} (hx : xs[i]? = some x) (hy : ys[i]? = some y) :
    oneL f k (xs.drop i) (ys.drop i) (ks.drop i) (js.drop i) = (((!decide (k = 6)) || (ks.getD i default).toList == (js.getD i default).toList) && (f x y && oneL f k (xs.drop (i + 1)) (ys.drop (i + 1)) (ks.drop (i + 1)) (js.drop (i + 1)))) := by
  have hl := (List.getElem?_eq_some_iff.1 hx).1
  have hm := (List.getElem?_eq_some_iff.1 hy).1
  have e : xs.drop i = x :: xs.drop (i + 1) := by rw [List.drop_eq_getElem_cons hl, (List.getElem?_eq_some_iff.1 hx).2]
  have e2 : ys.drop i = y :: ys.drop (i + 1) := by rw [List.drop_eq_getElem_cons hm, (List.getElem?_eq_some_iff.1 hy).2]
  rw [e, e2, oneL_cons, headD_drop, headD_drop, List.tail_drop, List.tail_drop]
theorem withinL_good {K : Type} {f : K → Nat → Int → Nat} {g : K → Bool} {L : Nat} {m : Int} (hfg : ∀ y m, f y L m ≠ 0 → g y = true) : ∀ (l : List K) (n : Nat), withinL f L m l n ≠ 0 → l.all g = true
  | [], _, _ => rfl
  | y :: ys, n, h => by
    unfold withinL at h
    by_cases h0 : f y L (m - n) = 0
    · rw [if_pos h0] at h; exact absurd rfl h
    · rw [if_neg h0] at h
      rw [List.all_cons, hfg y _ h0, withinL_good hfg ys _ h]; rfl
theorem withinV_good : ∀ (d : Nat) (x : ValN d) (L : Nat) (m : Int), withinV d x L m ≠ 0 → goodV d x = true
  | 0, _, _, _, h => by unfold withinV at h; exact absurd rfl h
  | d + 1, x, L, m, h => by
    unfold withinV at h
    split at h
    · exact absurd rfl h
    · rename_i hc
      unfold goodV
      have h1 : aloneB x.to = true := by
        cases ha : aloneB x.to with
        | true => rfl
        | false => exact absurd (.inr (.inl ha)) hc
      rw [h1, Bool.true_and]
      exact withinL_good (fun y m => withinV_good d y (L - 1) m) _ _ h
theorem good_alone {d : Nat} {x : ValN (d + 1)} (h : goodV (d + 1) x = true) : aloneB x.to = true ∧ ∀ (i : Nat) (y : ValN d), x.to.kids[i]? = some y → goodV d y = true := by
  unfold goodV at h
  rw [Bool.and_eq_true] at h
  exact ⟨h.1, fun i y hy => List.all_eq_true.1 h.2 y (List.mem_of_getElem? hy)⟩
theorem alone_keys {K : Type} {x : ValF K} (h : aloneB x = true) (h6 : x.kind = 6) : x.keys.length = x.kids.length := by
  unfold aloneB at h
  rw [Bool.and_eq_true, h6] at h
  have h2 := h.2
  simp at h2
  omega
theorem oneV_eq {d e : Nat} (x : ValN (d + 1)) (y : ValN (e + 1)) : oneV (d + 1) (e + 1) x y = (decide (x.to.kind = y.to.kind) && (decide (x.to.n = y.to.n) && (x.to.s.toList == y.to.s.toList && (decide (x.to.kids.length = y.to.kids.length) && oneL (oneV d e) x.to.kind x.to.kids y.to.kids x.to.keys y.to.keys)))) := by
  conv => lhs; unfold oneV
end Go.Dav
namespace Go.Proofs.YtmcmknndhppljaaDoor
set_option linter.unusedVariables false
set_option linter.unusedSimpArgs false
open Go.RowKit Go.Dav
attribute [local go_sem] Gives ite_val ite_val_true

set_option maxRecDepth 8000 in
set_option maxHeartbeats 16000000 in
theorem Tryd_rOne : ∀ (d e : Nat) (x : ValN d) (y : ValN e) (v u : Value) (w : World), ValAt w d v x → ValAt w e u y → goodV d x = true → goodV e y = true →
    Calls Tryd.prog 53 #[v, u] w fun e' w' => e' = .returned (.bool (oneV d e x y)) ∧ Below w.heap.size w w'
  | 0, _, _, _, _, _, _, h, _, _, _ => h.elim
  | _ + 1, 0, _, _, _, _, _, _, h, _, _ => h.elim
  | d + 1, e + 1, x, y, v, u, w, hx, hy, hgx, hgy => by
    obtain ⟨ka, kl, kc, qa, ql, qc, h⟩ := hx
    obtain ⟨ma, ml, mc, ra, rl, rc, g⟩ := hy
    have IH := Lib.hid (Tryd_rOne d e)
    have HGX := Lib.hid (good_alone hgx)
    have HGY := Lib.hid (good_alone hgy)
    obtain ⟨r, hr⟩ : ∃ r, oneV (d + 1) (e + 1) x y = r := ⟨_, rfl⟩
    rw [hr]
    rw [oneV_eq] at hr
    obtain ⟨xf, hxf⟩ : ∃ xf, x.to = xf := ⟨_, rfl⟩
    obtain ⟨yf, hyf⟩ : ∃ yf, y.to = yf := ⟨_, rfl⟩
    rw [hxf] at h HGX hr
    rw [hyf] at g HGY hr
    clear hxf hyf hgx hgy
    have hv := h.val
    have hu := g.val
    have hkl := h.hlen
    have hml := g.hlen
    have hkf := h.hfew
    have hmf := g.hfew
    subst hv hu
    obtain ⟨kind, hkd⟩ : ∃ k, xf.kind = k := ⟨_, rfl⟩
    obtain ⟨n, hn⟩ : ∃ k, xf.n = k := ⟨_, rfl⟩
    obtain ⟨s, hs⟩ : ∃ k, xf.s = k := ⟨_, rfl⟩
    obtain ⟨kind', hkd'⟩ : ∃ k, yf.kind = k := ⟨_, rfl⟩
    obtain ⟨n', hn'⟩ : ∃ k, yf.n = k := ⟨_, rfl⟩
    obtain ⟨s', hs'⟩ : ∃ k, yf.s = k := ⟨_, rfl⟩
    rw [hkd, hn, hs, hkd', hn', hs']
    rw [hkd, hn, hs, hkd', hn', hs', hkl, hml] at hr
    obtain ⟨W0, hW0⟩ : ∃ W0, (w.alloc (.cells #[.int .i64 kind, .int .i64 n, .string s, .slice ka kl kc, .slice qa ql qc] 39)).alloc (.cells #[.int .i64 kind', .int .i64 n', .string s', .slice ma ml mc, .slice ra rl rc] 39) = W0 := ⟨_, rfl⟩
    have bel0 : Below w.heap.size w W0 := by rw [← hW0]; exact (by repeat (first | (with_reducible exact Below.refl _ _) | (with_reducible exact Below.refl _ _) | (with_reducible refine Below.setCell ?_ (by first | omega | (simp; done) | (simp; omega)) _) | (with_reducible refine Below.alloc ?_ (by first | omega | (simp; done) | (simp; omega)) _) | (with_reducible refine Below.drew ?_) | (with_reducible refine below_drewN ?_ _)))
    have HB0 := Lib.hid (show Blk W0 w.heap.size [.int .i64 kind, .int .i64 n, .string s, .slice ka kl kc, .slice qa ql qc] 39 by rw [← hW0]; exact (Blk.new _ _ _).alloc _)
    have HC0 := Lib.hid (show Blk W0 (w.heap.size + 1) [.int .i64 kind', .int .i64 n', .string s', .slice ma ml mc, .slice ra rl rc] 39 by rw [← hW0]; exact Blk.new' _ _ _ (by simp))
    have HX := Lib.hid (h.ext bel0 fun _ _ => ValAt.ext bel0 d)
    have HY := Lib.hid (g.ext bel0 fun _ _ => ValAt.ext bel0 e)
    have BEL0 := Lib.hid bel0
    have HKL := Lib.hid hkl
    have HML := Lib.hid hml
    have HK6 := Lib.hid (fun h6 => alone_keys HGX.out.1 (hkd.trans h6))
    have HJ6 := Lib.hid (fun h6 => alone_keys HGY.out.1 (hkd'.trans h6))
    have HR := Lib.hid hr
    have HW0 := Lib.hid hW0
    clear hr h g bel0 hkd hn hs hkd' hn' hs' hW0
    by_cases e1 : kind = kind'
    · subst e1
      by_cases e2 : n = n'
      · subst e2
        cases e3 : (s.toList == s'.toList) with
        | true =>
          by_cases e4 : kl = ml
          · subst e4
            have hr := HR.out
            rw [e3, decide_eq_true rfl, decide_eq_true rfl, decide_eq_true rfl] at hr
            simp only [Bool.true_and] at hr
            have HR2 := Lib.hid hr
            have d3 : (s.toList != s'.toList) = false := by rw [bne, e3]; rfl
            clear hr HR hkl hml
            go_enter Tryd.func53, Tryd.ntmps53
            go_wp2_with fail
            rw [HW0.out]
            go_loopw [5] (fun ix wr => ∃ i : Nat, i ≤ kl ∧ ix = .int .i64 (i : Int) ∧ oneL (oneV d e) kind (xf.kids.drop i) (yf.kids.drop i) (xf.keys.drop i) (yf.keys.drop i) = r ∧ Below W0.heap.size W0 wr) (fun ix _ => kl - (intOf ix).toNat)
            case atStart => exact ⟨0, Nat.zero_le _, by go_num, by simpa using HR2.out, Below.refl _ _⟩
            case round =>
              obtain ⟨i, hi, rfl, hor, hbr⟩ := hrel
              have HBr := Lib.hid (HB0.out.ext hbr)
              have HCr := Lib.hid (HC0.out.ext hbr)
              have HXr := Lib.hid (HX.out.ext hbr fun _ _ => ValAt.ext hbr d)
              have HYr := Lib.hid (HY.out.ext hbr fun _ _ => ValAt.ext hbr e)
              have BELr := Lib.hid hbr
              have HOR := Lib.hid hor
              have q1 := HBr.out.cells
              have l1 := HBr.out.lt
              have q2 := HCr.out.cells
              have l2 := HCr.out.lt
              clear hor hbr
              by_cases hlt : i < kl
              · obtain ⟨x1, hx1⟩ : ∃ y, xf.kids[i]? = some y := ⟨_, List.getElem?_eq_getElem (by have := HKL.out; omega)⟩
                obtain ⟨y1, hy1⟩ : ∃ y, yf.kids[i]? = some y := ⟨_, List.getElem?_eq_getElem (by have := HML.out; omega)⟩
                obtain ⟨b, o, u0, u1, u2, u3, u4, rfl, hb, c0, c1, c2, c3, c4, hv1⟩ := HXr.out.hkid i x1 hx1
                obtain ⟨b', o', t0, t1, t2, t3, t4, rfl, hb', k0, k1, k2, k3, k4, hv2⟩ := HYr.out.hkid i y1 hy1
                have hst := oneL_drop (f := oneV d e) (k := kind) (ks := xf.keys) (js := yf.keys) hx1 hy1
                have hor := HOR.out
                rw [hst] at hor
                obtain ⟨q, hq⟩ : ∃ q, oneV d e x1 y1 = q := ⟨_, rfl⟩
                rw [hq] at hor
                have HV1 := Lib.hid hv1
                have HV2 := Lib.hid hv2
                have HLT := Lib.hid hlt
                have HQ := Lib.hid hq
                have HG1 := Lib.hid (HGX.out.2 i x1 hx1)
                have HG2 := Lib.hid (HGY.out.2 i y1 hy1)
                have g1 : (i : Int) < (kl : Int) := by omega
                have CALL := Lib.hid (show ∀ W, Below wr.heap.size wr W → Calls Tryd.prog 53 #[.agg #[u0, u1, u2, u3, u4], .agg #[t0, t1, t2, t3, t4]] W fun e' w' => e' = .returned (.bool q) ∧ Below W.heap.size W w' from fun W hW => by
                  have h := IH.out x1 y1 _ _ W (ValAt.ext hW d HV1.out) (ValAt.ext hW e HV2.out) HG1.out HG2.out
                  rw [HQ.out] at h
                  exact h)
                clear hx1 hy1 hst hv1 hv2 hlt hi hq
                by_cases h6 : kind = 6
                · subst h6
                  obtain ⟨z1, hz1⟩ : ∃ z, xf.keys[i]? = some z := ⟨_, List.getElem?_eq_getElem (by have := HK6.out rfl; have := HKL.out; have := HLT.out; omega)⟩
                  obtain ⟨z2, hz2⟩ : ∃ z, yf.keys[i]? = some z := ⟨_, List.getElem?_eq_getElem (by have := HJ6.out rfl; have := HML.out; have := HLT.out; omega)⟩
                  obtain ⟨b1, o1, rfl, hb1, hz1c⟩ := HXr.out.keys.hat i z1 hz1
                  obtain ⟨b2, o2, rfl, hb2, hz2c⟩ := HYr.out.keys.hat i z2 hz2
                  have g2 : (i : Int) < (ql : Int) := by have h1 := HXr.out.keys.hlen; have h2 := HK6.out rfl; have := HKL.out; have := HLT.out; omega
                  have g3 : (i : Int) < (rl : Int) := by have h1 := HYr.out.keys.hlen; have h2 := HJ6.out rfl; have := HML.out; have := HLT.out; omega
                  rw [show xf.keys.getD i default = z1 by rw [List.getD, hz1]; rfl, show yf.keys.getD i default = z2 by rw [List.getD, hz2]; rfl] at hor
                  clear hz1 hz2
                  cases hzz : (z1.toList == z2.toList) with
                  | false =>
                    have e5 : r = false := by rw [← hor, hzz]; rfl
                    have d5 : (z1.toList != z2.toList) = true := by rw [bne, hzz]; rfl
                    clear hor HOR HR2
                    subst e5
                    go_wp2_with fail
                    refine' wp_region_seq [(Sum.inl _ : Piece), (Sum.inl _ : Piece), (Sum.inl _ : Piece), (Sum.inl _ : Piece), (Sum.inl _ : Piece), (Sum.inl _ : Piece), (Sum.inl _ : Piece), (Sum.inl _ : Piece), (Sum.inl _ : Piece), (Sum.inl _ : Piece), (Sum.inl _ : Piece), (Sum.inl _ : Piece), (Sum.inl _ : Piece), (Sum.inl _ : Piece), (Sum.inl _ : Piece), (Sum.inl _ : Piece), (Sum.inl _ : Piece), (Sum.inl undef : Piece), (Sum.inl undef : Piece), (Sum.inl undef : Piece), (Sum.inl undef : Piece), (Sum.inl undef : Piece), (Sum.inl undef : Piece), (Sum.inl undef : Piece), (Sum.inl undef : Piece), (Sum.inl undef : Piece), (Sum.inl undef : Piece), (Sum.inl undef : Piece), (Sum.inl undef : Piece), (Sum.inl _ : Piece)] (by kernel_rfl) (by kernel_rfl) ?main1
                    case main1 =>
                      refine wpParts_det (by rfl) (fun W hE hN => ?_) ?_
                      · go_simp; refine ⟨Below.refl _ _, ?_⟩; rfl
                      simp only [Act.put, List.setIfInBounds_toArray, List.set_cons_zero, List.set_cons_succ]
                      refine wpParts_det (by rfl) (fun W hE hN => ?_) ?_
                      · have hc := fun b o h => hE.cell (p := ⟨b, o, none⟩) h
                        go_simp; refine ⟨Below.refl _ _, ?_⟩; rfl
                      simp only [Act.put, List.setIfInBounds_toArray, List.set_cons_zero, List.set_cons_succ]
                      refine wpParts_det (by rfl) (fun W hE hN => ?_) ?_
                      · go_simp; refine ⟨Below.refl _ _, ?_⟩; rfl
                      simp only [Act.put, List.setIfInBounds_toArray, List.set_cons_zero, List.set_cons_succ]
                      refine wpParts_det (by rfl) (fun W hE hN => ?_) ?_
                      · go_simp; refine ⟨Below.refl _ _, ?_⟩; rfl
                      simp only [Act.put, List.setIfInBounds_toArray, List.set_cons_zero, List.set_cons_succ]
                      refine wpParts_det (by rfl) (fun W hE hN => ?_) ?_
                      · go_simp; refine ⟨Below.refl _ _, ?_⟩; rfl
                      simp only [Act.put, List.setIfInBounds_toArray, List.set_cons_zero, List.set_cons_succ]
                      refine wpParts_det (by rfl) (fun W hE hN => ?_) ?_
                      · have hc := fun b o h => hE.cell (p := ⟨b, o, none⟩) h
                        go_simp; refine ⟨Below.refl _ _, ?_⟩; rfl
                      simp only [Act.put, List.setIfInBounds_toArray, List.set_cons_zero, List.set_cons_succ]
                      refine wpParts_det (by rfl) (fun W hE hN => ?_) ?_
                      · go_simp; refine ⟨Below.refl _ _, ?_⟩; rfl
                      simp only [Act.put, List.setIfInBounds_toArray, List.set_cons_zero, List.set_cons_succ]
                      refine wpParts_det (by rfl) (fun W hE hN => ?_) ?_
                      · go_simp; refine ⟨Below.refl _ _, ?_⟩; rfl
                      simp only [Act.put, List.setIfInBounds_toArray, List.set_cons_zero, List.set_cons_succ]
                      refine wpParts_det (by rfl) (fun W hE hN => ?_) ?_
                      · have hc := fun b o h => hE.cell (p := ⟨b, o, none⟩) h
                        go_simp; refine ⟨Below.refl _ _, ?_⟩; rfl
                      simp only [Act.put, List.setIfInBounds_toArray, List.set_cons_zero, List.set_cons_succ]
                      refine wpParts_det (by rfl) (fun W hE hN => ?_) ?_
                      · go_simp; refine ⟨Below.refl _ _, ?_⟩; rfl
                      simp only [Act.put, List.setIfInBounds_toArray, List.set_cons_zero, List.set_cons_succ]
                      refine wpParts_det (by rfl) (fun W hE hN => ?_) ?_
                      · have hc := fun b o h => hE.cell (p := ⟨b, o, none⟩) h
                        go_simp; refine ⟨Below.refl _ _, ?_⟩; rfl
                      simp only [Act.put, List.setIfInBounds_toArray, List.set_cons_zero, List.set_cons_succ]
                      refine wpParts_det (by rfl) (fun W hE hN => ?_) ?_
                      · go_simp; refine ⟨Below.refl _ _, ?_⟩; rfl
                      simp only [Act.put, List.setIfInBounds_toArray, List.set_cons_zero, List.set_cons_succ]
                      refine wpParts_det (by rfl) (fun W hE hN => ?_) ?_
                      · go_simp; refine ⟨Below.refl _ _, ?_⟩; rfl
                      simp only [Act.put, List.setIfInBounds_toArray, List.set_cons_zero, List.set_cons_succ]
                      refine wpParts_det (by rfl) (fun W hE hN => ?_) ?_
                      · have hc := fun b o h => hE.cell (p := ⟨b, o, none⟩) h
                        go_simp; refine ⟨Below.refl _ _, ?_⟩; rfl
                      simp only [Act.put, List.setIfInBounds_toArray, List.set_cons_zero, List.set_cons_succ]
                      refine wpParts_det (by rfl) (fun W hE hN => ?_) ?_
                      · go_simp; refine ⟨Below.refl _ _, ?_⟩; rfl
                      simp only [Act.put, List.setIfInBounds_toArray, List.set_cons_zero, List.set_cons_succ]
                      refine wpParts_det (by rfl) (fun W hE hN => ?_) ?_
                      · go_simp; refine ⟨Below.refl _ _, ?_⟩; rfl
                      simp only [Act.put, List.setIfInBounds_toArray, List.set_cons_zero, List.set_cons_succ]
                      refine wpParts_det (by rfl) (fun W hE hN => ?_) ?_
                      · go_simp; refine ⟨Below.refl _ _, ?_⟩; rfl
                      simp only [Act.put, List.setIfInBounds_toArray, List.set_cons_zero, List.set_cons_succ]
                      refine wpParts_skip ?_ ?_
                      · rfl
                      simp only [Act.put, List.setIfInBounds_toArray, List.set_cons_zero, List.set_cons_succ]
                      refine wpParts_skip ?_ ?_
                      · rfl
                      simp only [Act.put, List.setIfInBounds_toArray, List.set_cons_zero, List.set_cons_succ]
                      refine wpParts_skip ?_ ?_
                      · rfl
                      simp only [Act.put, List.setIfInBounds_toArray, List.set_cons_zero, List.set_cons_succ]
                      refine wpParts_skip ?_ ?_
                      · rfl
                      simp only [Act.put, List.setIfInBounds_toArray, List.set_cons_zero, List.set_cons_succ]
                      refine wpParts_skip ?_ ?_
                      · rfl
                      simp only [Act.put, List.setIfInBounds_toArray, List.set_cons_zero, List.set_cons_succ]
                      refine wpParts_skip ?_ ?_
                      · rfl
                      simp only [Act.put, List.setIfInBounds_toArray, List.set_cons_zero, List.set_cons_succ]
                      refine wpParts_skip ?_ ?_
                      · rfl
                      simp only [Act.put, List.setIfInBounds_toArray, List.set_cons_zero, List.set_cons_succ]
                      refine wpParts_skip ?_ ?_
                      · rfl
                      simp only [Act.put, List.setIfInBounds_toArray, List.set_cons_zero, List.set_cons_succ]
                      refine wpParts_skip ?_ ?_
                      · rfl
                      simp only [Act.put, List.setIfInBounds_toArray, List.set_cons_zero, List.set_cons_succ]
                      refine wpParts_skip ?_ ?_
                      · rfl
                      simp only [Act.put, List.setIfInBounds_toArray, List.set_cons_zero, List.set_cons_succ]
                      refine wpParts_skip ?_ ?_
                      · rfl
                      simp only [Act.put, List.setIfInBounds_toArray, List.set_cons_zero, List.set_cons_succ]
                      refine wpParts_skip ?_ ?_
                      · rfl
                      simp only [Act.put, List.setIfInBounds_toArray, List.set_cons_zero, List.set_cons_succ]
                      refine wpParts_det (by rfl) (fun W hE hN => ?_) ?_
                      · go_simp; refine ⟨Below.refl _ _, ?_⟩; rfl
                      simp only [Act.put, List.setIfInBounds_toArray, List.set_cons_zero, List.set_cons_succ]
                      refine wpParts_end fun W2 hE2 hG2 => ?_
                      have hcW2 := fun b o h => hE2.cell (p := ⟨b, o, none⟩) h
                      have hfW2 := fun b o h => hE2.frozen (p := ⟨b, o, none⟩) h
                      have BEL := Lib.hid (BEL0.out.trans ((BELr.out.trans (hE2.mono BELr.out.size)).mono BEL0.out.size))
                      clear hE2 hcW2 hfW2 q1 l1 q2 l2
                      go_wp2
                      go_ret
                      exact ⟨rfl, BEL.out⟩
                  | true =>
                    have d5 : (z1.toList != z2.toList) = false := by rw [bne, hzz]; rfl
                    rw [hzz, Bool.or_true, Bool.true_and] at hor
                    have HO := Lib.hid hor
                    clear hor
                    go_wp2_with fail
                    refine' wp_region_seq [(Sum.inl _ : Piece), (Sum.inl _ : Piece), (Sum.inl _ : Piece), (Sum.inl _ : Piece), (Sum.inl _ : Piece), (Sum.inl _ : Piece), (Sum.inl _ : Piece), (Sum.inl _ : Piece), (Sum.inl _ : Piece), (Sum.inl _ : Piece), (Sum.inl _ : Piece), (Sum.inl _ : Piece), (Sum.inl _ : Piece), (Sum.inl _ : Piece), (Sum.inl _ : Piece), (Sum.inl _ : Piece), (Sum.inl _ : Piece), (Sum.inl _ : Piece), (Sum.inl _ : Piece), (Sum.inl _ : Piece), (Sum.inl _ : Piece), (Sum.inl _ : Piece), (Sum.inl _ : Piece), (Sum.inl _ : Piece), (Sum.inl _ : Piece), (Sum.inl _ : Piece), (Sum.inl _ : Piece), (Sum.inl _ : Piece), (Sum.inl _ : Piece), (Sum.inl _ : Piece)] (by kernel_rfl) (by kernel_rfl) ?main2
                    case main2 =>
                      refine wpParts_det (by rfl) (fun W hE hN => ?_) ?_
                      · go_simp; refine ⟨Below.refl _ _, ?_⟩; rfl
                      simp only [Act.put, List.setIfInBounds_toArray, List.set_cons_zero, List.set_cons_succ]
                      refine wpParts_det (by rfl) (fun W hE hN => ?_) ?_
                      · have hc := fun b o h => hE.cell (p := ⟨b, o, none⟩) h
                        go_simp; refine ⟨Below.refl _ _, ?_⟩; rfl
                      simp only [Act.put, List.setIfInBounds_toArray, List.set_cons_zero, List.set_cons_succ]
                      refine wpParts_det (by rfl) (fun W hE hN => ?_) ?_
                      · go_simp; refine ⟨Below.refl _ _, ?_⟩; rfl
                      simp only [Act.put, List.setIfInBounds_toArray, List.set_cons_zero, List.set_cons_succ]
                      refine wpParts_det (by rfl) (fun W hE hN => ?_) ?_
                      · go_simp; refine ⟨Below.refl _ _, ?_⟩; rfl
                      simp only [Act.put, List.setIfInBounds_toArray, List.set_cons_zero, List.set_cons_succ]
                      refine wpParts_det (by rfl) (fun W hE hN => ?_) ?_
                      · go_simp; refine ⟨Below.refl _ _, ?_⟩; rfl
                      simp only [Act.put, List.setIfInBounds_toArray, List.set_cons_zero, List.set_cons_succ]
                      refine wpParts_det (by rfl) (fun W hE hN => ?_) ?_
                      · have hc := fun b o h => hE.cell (p := ⟨b, o, none⟩) h
                        go_simp; refine ⟨Below.refl _ _, ?_⟩; rfl
                      simp only [Act.put, List.setIfInBounds_toArray, List.set_cons_zero, List.set_cons_succ]
                      refine wpParts_det (by rfl) (fun W hE hN => ?_) ?_
                      · go_simp; refine ⟨Below.refl _ _, ?_⟩; rfl
                      simp only [Act.put, List.setIfInBounds_toArray, List.set_cons_zero, List.set_cons_succ]
                      refine wpParts_det (by rfl) (fun W hE hN => ?_) ?_
                      · go_simp; refine ⟨Below.refl _ _, ?_⟩; rfl
                      simp only [Act.put, List.setIfInBounds_toArray, List.set_cons_zero, List.set_cons_succ]
                      refine wpParts_det (by rfl) (fun W hE hN => ?_) ?_
                      · have hc := fun b o h => hE.cell (p := ⟨b, o, none⟩) h
                        go_simp; refine ⟨Below.refl _ _, ?_⟩; rfl
                      simp only [Act.put, List.setIfInBounds_toArray, List.set_cons_zero, List.set_cons_succ]
                      refine wpParts_det (by rfl) (fun W hE hN => ?_) ?_
                      · go_simp; refine ⟨Below.refl _ _, ?_⟩; rfl
                      simp only [Act.put, List.setIfInBounds_toArray, List.set_cons_zero, List.set_cons_succ]
                      refine wpParts_det (by rfl) (fun W hE hN => ?_) ?_
                      · have hc := fun b o h => hE.cell (p := ⟨b, o, none⟩) h
                        go_simp; refine ⟨Below.refl _ _, ?_⟩; rfl
                      simp only [Act.put, List.setIfInBounds_toArray, List.set_cons_zero, List.set_cons_succ]
                      refine wpParts_det (by rfl) (fun W hE hN => ?_) ?_
                      · go_simp; refine ⟨Below.refl _ _, ?_⟩; rfl
                      simp only [Act.put, List.setIfInBounds_toArray, List.set_cons_zero, List.set_cons_succ]
                      refine wpParts_det (by rfl) (fun W hE hN => ?_) ?_
                      · go_simp; refine ⟨Below.refl _ _, ?_⟩; rfl
                      simp only [Act.put, List.setIfInBounds_toArray, List.set_cons_zero, List.set_cons_succ]
                      refine wpParts_det (by rfl) (fun W hE hN => ?_) ?_
                      · have hc := fun b o h => hE.cell (p := ⟨b, o, none⟩) h
                        go_simp; refine ⟨Below.refl _ _, ?_⟩; rfl
                      simp only [Act.put, List.setIfInBounds_toArray, List.set_cons_zero, List.set_cons_succ]
                      refine wpParts_det (by rfl) (fun W hE hN => ?_) ?_
                      · go_simp; refine ⟨Below.refl _ _, ?_⟩; rfl
                      simp only [Act.put, List.setIfInBounds_toArray, List.set_cons_zero, List.set_cons_succ]
                      refine wpParts_det (by rfl) (fun W hE hN => ?_) ?_
                      · go_simp; refine ⟨Below.refl _ _, ?_⟩; rfl
                      simp only [Act.put, List.setIfInBounds_toArray, List.set_cons_zero, List.set_cons_succ]
                      refine wpParts_det (by rfl) (fun W hE hN => ?_) ?_
                      · go_simp; refine ⟨Below.refl _ _, ?_⟩; rfl
                      simp only [Act.put, List.setIfInBounds_toArray, List.set_cons_zero, List.set_cons_succ]
                      refine wpParts_det (by rfl) (fun W hE hN => ?_) ?_
                      · go_simp; refine ⟨Below.refl _ _, ?_⟩; rfl
                      simp only [Act.put, List.setIfInBounds_toArray, List.set_cons_zero, List.set_cons_succ]
                      refine wpParts_det (by rfl) (fun W hE hN => ?_) ?_
                      · have hc := fun b o h => hE.cell (p := ⟨b, o, none⟩) h
                        go_simp; refine ⟨Below.refl _ _, ?_⟩; rfl
                      simp only [Act.put, List.setIfInBounds_toArray, List.set_cons_zero, List.set_cons_succ]
                      refine wpParts_det (by rfl) (fun W hE hN => ?_) ?_
                      · go_simp; refine ⟨Below.refl _ _, ?_⟩; rfl
                      simp only [Act.put, List.setIfInBounds_toArray, List.set_cons_zero, List.set_cons_succ]
                      refine wpParts_det (by rfl) (fun W hE hN => ?_) ?_
                      · go_simp; refine ⟨Below.refl _ _, ?_⟩; rfl
                      simp only [Act.put, List.setIfInBounds_toArray, List.set_cons_zero, List.set_cons_succ]
                      refine wpParts_det (by rfl) (fun W hE hN => ?_) ?_
                      · have hc := fun b o h => hE.cell (p := ⟨b, o, none⟩) h
                        go_simp; refine ⟨Below.refl _ _, ?_⟩; rfl
                      simp only [Act.put, List.setIfInBounds_toArray, List.set_cons_zero, List.set_cons_succ]
                      refine wpParts_det (by rfl) (fun W hE hN => ?_) ?_
                      · go_simp; refine ⟨Below.refl _ _, ?_⟩; rfl
                      simp only [Act.put, List.setIfInBounds_toArray, List.set_cons_zero, List.set_cons_succ]
                      refine wpParts_det (by rfl) (fun W hE hN => ?_) ?_
                      · have hc := fun b o h => hE.cell (p := ⟨b, o, none⟩) h
                        go_simp; refine ⟨Below.refl _ _, ?_⟩; rfl
                      simp only [Act.put, List.setIfInBounds_toArray, List.set_cons_zero, List.set_cons_succ]
                      refine wpParts_det (by rfl) (fun W hE hN => ?_) ?_
                      · go_simp; refine ⟨Below.refl _ _, ?_⟩; rfl
                      simp only [Act.put, List.setIfInBounds_toArray, List.set_cons_zero, List.set_cons_succ]
                      refine wpParts_det (by rfl) (fun W hE hN => ?_) ?_
                      · go_simp; refine ⟨Below.refl _ _, ?_⟩; rfl
                      simp only [Act.put, List.setIfInBounds_toArray, List.set_cons_zero, List.set_cons_succ]
                      refine wpParts_det (by rfl) (fun W hE hN => ?_) ?_
                      · have hc := fun b o h => hE.cell (p := ⟨b, o, none⟩) h
                        go_simp; refine ⟨Below.refl _ _, ?_⟩; rfl
                      simp only [Act.put, List.setIfInBounds_toArray, List.set_cons_zero, List.set_cons_succ]
                      refine wpParts_det (by rfl) (fun W hE hN => ?_) ?_
                      · go_simp; refine ⟨Below.refl _ _, ?_⟩; refine (CALL.out W hE).mono ?_; rintro e w' ⟨rfl, hb⟩; refine ⟨?_, hb⟩; rfl
                      simp only [Act.put, List.setIfInBounds_toArray, List.set_cons_zero, List.set_cons_succ]
                      refine wpParts_det (by rfl) (fun W hE hN => ?_) ?_
                      · go_simp; refine ⟨Below.refl _ _, ?_⟩; rfl
                      simp only [Act.put, List.setIfInBounds_toArray, List.set_cons_zero, List.set_cons_succ]
                      refine wpParts_det (by rfl) (fun W hE hN => ?_) ?_
                      · go_simp; refine ⟨Below.refl _ _, ?_⟩; rfl
                      simp only [Act.put, List.setIfInBounds_toArray, List.set_cons_zero, List.set_cons_succ]
                      refine wpParts_end fun W2 hE2 hG2 => ?_
                      have hcW2 := fun b o h => hE2.cell (p := ⟨b, o, none⟩) h
                      have hfW2 := fun b o h => hE2.frozen (p := ⟨b, o, none⟩) h
                      have BELw := Lib.hid (BELr.out.trans (hE2.mono BELr.out.size))
                      clear hE2 hcW2 hfW2 q1 l1 q2 l2 CALL
                      cases q with
                      | true =>
                        have HO2 := Lib.hid (show oneL (oneV d e) _ (xf.kids.drop (i + 1)) (yf.kids.drop (i + 1)) (xf.keys.drop (i + 1)) (yf.keys.drop (i + 1)) = r by have h := HO.out; rw [Bool.true_and] at h; exact h)
                        go_wp2_with fail
                        go_roundw
                        case rel => exact ⟨i + 1, HLT.out, by go_num, HO2.out, BELw.out⟩
                        case measure => have := HLT.out; simp [intOf]; omega
                      | false =>
                        have e7 : r = false := by rw [← HO.out, Bool.false_and]
                        have BEL := Lib.hid (BEL0.out.trans (BELw.out.mono BEL0.out.size))
                        clear HO HOR HR2
                        subst e7
                        go_wp2
                        go_ret
                        exact ⟨rfl, BEL.out⟩
                · have d6 : (kind == 6) = false := by simp [h6]
                  rw [decide_eq_false h6, Bool.not_false, Bool.true_or, Bool.true_and] at hor
                  have HO := Lib.hid hor
                  clear hor h6
                  go_wp2_with fail
                  refine' wp_region_seq [(Sum.inl _ : Piece), (Sum.inl _ : Piece), (Sum.inl _ : Piece), (Sum.inl _ : Piece), (Sum.inl undef : Piece), (Sum.inl undef : Piece), (Sum.inl undef : Piece), (Sum.inl undef : Piece), (Sum.inl undef : Piece), (Sum.inl undef : Piece), (Sum.inl undef : Piece), (Sum.inl undef : Piece), (Sum.inl undef : Piece), (Sum.inl undef : Piece), (Sum.inl undef : Piece), (Sum.inl _ : Piece), (Sum.inl _ : Piece), (Sum.inl _ : Piece), (Sum.inl _ : Piece), (Sum.inl _ : Piece), (Sum.inl _ : Piece), (Sum.inl _ : Piece), (Sum.inl _ : Piece), (Sum.inl _ : Piece), (Sum.inl _ : Piece), (Sum.inl _ : Piece), (Sum.inl _ : Piece), (Sum.inl _ : Piece), (Sum.inl _ : Piece), (Sum.inl _ : Piece)] (by kernel_rfl) (by kernel_rfl) ?main3
                  case main3 =>
                    refine wpParts_det (by rfl) (fun W hE hN => ?_) ?_
                    · go_simp; refine ⟨Below.refl _ _, ?_⟩; rfl
                    simp only [Act.put, List.setIfInBounds_toArray, List.set_cons_zero, List.set_cons_succ]
                    refine wpParts_det (by rfl) (fun W hE hN => ?_) ?_
                    · have hc := fun b o h => hE.cell (p := ⟨b, o, none⟩) h
                      go_simp; refine ⟨Below.refl _ _, ?_⟩; rfl
                    simp only [Act.put, List.setIfInBounds_toArray, List.set_cons_zero, List.set_cons_succ]
                    refine wpParts_det (by rfl) (fun W hE hN => ?_) ?_
                    · go_simp; refine ⟨Below.refl _ _, ?_⟩; rfl
                    simp only [Act.put, List.setIfInBounds_toArray, List.set_cons_zero, List.set_cons_succ]
                    refine wpParts_det (by rfl) (fun W hE hN => ?_) ?_
                    · go_simp; refine ⟨Below.refl _ _, ?_⟩; rfl
                    simp only [Act.put, List.setIfInBounds_toArray, List.set_cons_zero, List.set_cons_succ]
                    refine wpParts_skip ?_ ?_
                    · rfl
                    simp only [Act.put, List.setIfInBounds_toArray, List.set_cons_zero, List.set_cons_succ]
                    refine wpParts_skip ?_ ?_
                    · rfl
                    simp only [Act.put, List.setIfInBounds_toArray, List.set_cons_zero, List.set_cons_succ]
                    refine wpParts_skip ?_ ?_
                    · rfl
                    simp only [Act.put, List.setIfInBounds_toArray, List.set_cons_zero, List.set_cons_succ]
                    refine wpParts_skip ?_ ?_
                    · rfl
                    simp only [Act.put, List.setIfInBounds_toArray, List.set_cons_zero, List.set_cons_succ]
                    refine wpParts_skip ?_ ?_
                    · rfl
                    simp only [Act.put, List.setIfInBounds_toArray, List.set_cons_zero, List.set_cons_succ]
                    refine wpParts_skip ?_ ?_
                    · rfl
                    simp only [Act.put, List.setIfInBounds_toArray, List.set_cons_zero, List.set_cons_succ]
                    refine wpParts_skip ?_ ?_
                    · rfl
                    simp only [Act.put, List.setIfInBounds_toArray, List.set_cons_zero, List.set_cons_succ]
                    refine wpParts_skip ?_ ?_
                    · rfl
                    simp only [Act.put, List.setIfInBounds_toArray, List.set_cons_zero, List.set_cons_succ]
                    refine wpParts_skip ?_ ?_
                    · rfl
                    simp only [Act.put, List.setIfInBounds_toArray, List.set_cons_zero, List.set_cons_succ]
                    refine wpParts_skip ?_ ?_
                    · rfl
                    simp only [Act.put, List.setIfInBounds_toArray, List.set_cons_zero, List.set_cons_succ]
                    refine wpParts_skip ?_ ?_
                    · rfl
                    simp only [Act.put, List.setIfInBounds_toArray, List.set_cons_zero, List.set_cons_succ]
                    refine wpParts_det (by rfl) (fun W hE hN => ?_) ?_
                    · go_simp; refine ⟨Below.refl _ _, ?_⟩; rfl
                    simp only [Act.put, List.setIfInBounds_toArray, List.set_cons_zero, List.set_cons_succ]
                    refine wpParts_det (by rfl) (fun W hE hN => ?_) ?_
                    · go_simp; refine ⟨Below.refl _ _, ?_⟩; rfl
                    simp only [Act.put, List.setIfInBounds_toArray, List.set_cons_zero, List.set_cons_succ]
                    refine wpParts_det (by rfl) (fun W hE hN => ?_) ?_
                    · go_simp; refine ⟨Below.refl _ _, ?_⟩; rfl
                    simp only [Act.put, List.setIfInBounds_toArray, List.set_cons_zero, List.set_cons_succ]
                    refine wpParts_det (by rfl) (fun W hE hN => ?_) ?_
                    · have hc := fun b o h => hE.cell (p := ⟨b, o, none⟩) h
                      go_simp; refine ⟨Below.refl _ _, ?_⟩; rfl
                    simp only [Act.put, List.setIfInBounds_toArray, List.set_cons_zero, List.set_cons_succ]
                    refine wpParts_det (by rfl) (fun W hE hN => ?_) ?_
                    · go_simp; refine ⟨Below.refl _ _, ?_⟩; rfl
                    simp only [Act.put, List.setIfInBounds_toArray, List.set_cons_zero, List.set_cons_succ]
                    refine wpParts_det (by rfl) (fun W hE hN => ?_) ?_
                    · go_simp; refine ⟨Below.refl _ _, ?_⟩; rfl
                    simp only [Act.put, List.setIfInBounds_toArray, List.set_cons_zero, List.set_cons_succ]
                    refine wpParts_det (by rfl) (fun W hE hN => ?_) ?_
                    · have hc := fun b o h => hE.cell (p := ⟨b, o, none⟩) h
                      go_simp; refine ⟨Below.refl _ _, ?_⟩; rfl
                    simp only [Act.put, List.setIfInBounds_toArray, List.set_cons_zero, List.set_cons_succ]
                    refine wpParts_det (by rfl) (fun W hE hN => ?_) ?_
                    · go_simp; refine ⟨Below.refl _ _, ?_⟩; rfl
                    simp only [Act.put, List.setIfInBounds_toArray, List.set_cons_zero, List.set_cons_succ]
                    refine wpParts_det (by rfl) (fun W hE hN => ?_) ?_
                    · have hc := fun b o h => hE.cell (p := ⟨b, o, none⟩) h
                      go_simp; refine ⟨Below.refl _ _, ?_⟩; rfl
                    simp only [Act.put, List.setIfInBounds_toArray, List.set_cons_zero, List.set_cons_succ]
                    refine wpParts_det (by rfl) (fun W hE hN => ?_) ?_
                    · go_simp; refine ⟨Below.refl _ _, ?_⟩; rfl
                    simp only [Act.put, List.setIfInBounds_toArray, List.set_cons_zero, List.set_cons_succ]
                    refine wpParts_det (by rfl) (fun W hE hN => ?_) ?_
                    · go_simp; refine ⟨Below.refl _ _, ?_⟩; rfl
                    simp only [Act.put, List.setIfInBounds_toArray, List.set_cons_zero, List.set_cons_succ]
                    refine wpParts_det (by rfl) (fun W hE hN => ?_) ?_
                    · have hc := fun b o h => hE.cell (p := ⟨b, o, none⟩) h
                      go_simp; refine ⟨Below.refl _ _, ?_⟩; rfl
                    simp only [Act.put, List.setIfInBounds_toArray, List.set_cons_zero, List.set_cons_succ]
                    refine wpParts_det (by rfl) (fun W hE hN => ?_) ?_
                    · go_simp; refine ⟨Below.refl _ _, ?_⟩; refine (CALL.out W hE).mono ?_; rintro e w' ⟨rfl, hb⟩; refine ⟨?_, hb⟩; rfl
                    simp only [Act.put, List.setIfInBounds_toArray, List.set_cons_zero, List.set_cons_succ]
                    refine wpParts_det (by rfl) (fun W hE hN => ?_) ?_
                    · go_simp; refine ⟨Below.refl _ _, ?_⟩; rfl
                    simp only [Act.put, List.setIfInBounds_toArray, List.set_cons_zero, List.set_cons_succ]
                    refine wpParts_det (by rfl) (fun W hE hN => ?_) ?_
                    · go_simp; refine ⟨Below.refl _ _, ?_⟩; rfl
                    simp only [Act.put, List.setIfInBounds_toArray, List.set_cons_zero, List.set_cons_succ]
                    refine wpParts_end fun W2 hE2 hG2 => ?_
                    have hcW2 := fun b o h => hE2.cell (p := ⟨b, o, none⟩) h
                    have hfW2 := fun b o h => hE2.frozen (p := ⟨b, o, none⟩) h
                    have BELw := Lib.hid (BELr.out.trans (hE2.mono BELr.out.size))
                    clear hE2 hcW2 hfW2 q1 l1 q2 l2 CALL
                    cases q with
                    | true =>
                      have HO2 := Lib.hid (show oneL (oneV d e) _ (xf.kids.drop (i + 1)) (yf.kids.drop (i + 1)) (xf.keys.drop (i + 1)) (yf.keys.drop (i + 1)) = r by have h := HO.out; rw [Bool.true_and] at h; exact h)
                      go_wp2_with fail
                      go_roundw
                      case rel => exact ⟨i + 1, HLT.out, by go_num, HO2.out, BELw.out⟩
                      case measure => have := HLT.out; simp [intOf]; omega
                    | false =>
                      have e7 : r = false := by rw [← HO.out, Bool.false_and]
                      have BEL := Lib.hid (BEL0.out.trans (BELw.out.mono BEL0.out.size))
                      clear HO HOR HR2
                      subst e7
                      go_wp2
                      go_ret
                      exact ⟨rfl, BEL.out⟩
              · have g1 : ¬ (i : Int) < (kl : Int) := by omega
                have e5 : r = true := by
                  have h := HOR.out
                  rw [List.drop_eq_nil_of_le (by have := HKL.out; omega)] at h
                  exact h.symm
                have BEL := Lib.hid (BEL0.out.trans (BELr.out.mono BEL0.out.size))
                clear HOR HR2 hlt hi
                subst e5
                go_wp2
                go_ret
                exact ⟨rfl, by have h := BEL.out; exact (by repeat (first | (with_reducible exact Below.refl _ _) | (with_reducible exact Below.refl _ _) | (with_reducible refine Below.setCell ?_ (by first | omega | (simp; done) | (simp; omega)) _) | (with_reducible refine Below.alloc ?_ (by first | omega | (simp; done) | (simp; omega)) _) | (with_reducible refine Below.drew ?_) | (with_reducible refine below_drewN ?_ _) | (with_reducible refine Below.trans ?_ (h.mono (by first | omega | (simp; done) | (simp; omega))))))⟩
          · have d4 : ((kl : Int) != (ml : Int)) = true := by simp; omega
            have e : r = false := by rw [← HR.out, decide_eq_false e4]; simp
            have d3 : (s.toList != s'.toList) = false := by rw [bne, e3]; rfl
            clear HR e4 hkl hml
            subst e
            go_enter Tryd.func53, Tryd.ntmps53
            go_wp2
            go_ret
            exact ⟨rfl, (by repeat (first | (with_reducible exact Below.refl _ _) | (with_reducible exact Below.refl _ _) | (with_reducible refine Below.setCell ?_ (by first | omega | (simp; done) | (simp; omega)) _) | (with_reducible refine Below.alloc ?_ (by first | omega | (simp; done) | (simp; omega)) _) | (with_reducible refine Below.drew ?_) | (with_reducible refine below_drewN ?_ _)))⟩
        | false =>
          have d3 : (s.toList != s'.toList) = true := by rw [bne, e3]; rfl
          have e : r = false := by rw [← HR.out, e3]; simp
          clear HR hkl hml
          subst e
          go_enter Tryd.func53, Tryd.ntmps53
          go_wp2
          go_ret
          exact ⟨rfl, (by repeat (first | (with_reducible exact Below.refl _ _) | (with_reducible exact Below.refl _ _) | (with_reducible refine Below.setCell ?_ (by first | omega | (simp; done) | (simp; omega)) _) | (with_reducible refine Below.alloc ?_ (by first | omega | (simp; done) | (simp; omega)) _) | (with_reducible refine Below.drew ?_) | (with_reducible refine below_drewN ?_ _)))⟩
      · have d2 : (n != n') = true := by simp [e2]
        have e : r = false := by rw [← HR.out, decide_eq_false e2]; simp
        clear HR e2 hkl hml
        subst e
        go_enter Tryd.func53, Tryd.ntmps53
        go_wp2
        go_ret
        exact ⟨rfl, (by repeat (first | (with_reducible exact Below.refl _ _) | (with_reducible exact Below.refl _ _) | (with_reducible refine Below.setCell ?_ (by first | omega | (simp; done) | (simp; omega)) _) | (with_reducible refine Below.alloc ?_ (by first | omega | (simp; done) | (simp; omega)) _) | (with_reducible refine Below.drew ?_) | (with_reducible refine below_drewN ?_ _)))⟩
    · have d1 : (kind != kind') = true := by simp [e1]
      have e : r = false := by rw [← HR.out, decide_eq_false e1]; rfl
      clear HR e1 hkl hml
      subst e
      go_enter Tryd.func53, Tryd.ntmps53
      go_wp2
      go_ret
      exact ⟨rfl, (by repeat (first | (with_reducible exact Below.refl _ _) | (with_reducible exact Below.refl _ _) | (with_reducible refine Below.setCell ?_ (by first | omega | (simp; done) | (simp; omega)) _) | (with_reducible refine Below.alloc ?_ (by first | omega | (simp; done) | (simp; omega)) _) | (with_reducible refine Below.drew ?_) | (with_reducible refine below_drewN ?_ _)))⟩
end Go.Proofs.YtmcmknndhppljaaDoor

namespace Go.Dav
set_option linter.unusedVariables false
set_option linter.unusedSimpArgs false
open Go Go.RowKit
theorem Blk.fiveV {W : World} {p : Nat} {x0 x1 x2 x3 x4 : Value} {t : TypeId} (h : Blk W p [x0, x1, x2, x3, x4] t) (y0 y1 y2 y3 y4 : Value) :
    Blk (((((W.setCell ⟨p, 0, none⟩ y0).setCell ⟨p, 1, none⟩ y1).setCell ⟨p, 2, none⟩ y2).setCell ⟨p, 3, none⟩ y3).setCell ⟨p, 4, none⟩ y4) p [y0, y1, y2, y3, y4] t := ((((h.set 0 y0).set 1 y1).set 2 y2).set 3 y3).set 4 y4
theorem Only.fiveV (W : World) (p : Nat) (y0 y1 y2 y3 y4 : Value) : Only p W (((((W.setCell ⟨p, 0, none⟩ y0).setCell ⟨p, 1, none⟩ y1).setCell ⟨p, 2, none⟩ y2).setCell ⟨p, 3, none⟩ y3).setCell ⟨p, 4, none⟩ y4) :=
  (((((Only.refl p W).set 0 y0).set 1 y1).set 2 y2).set 3 y3).set 4 y4
def noStr : ByteArray := ⟨#[]⟩
def leafV (d : Nat) (k n : Int) : ValN (d + 1) := (⟨k, n, noStr, [], []⟩ : ValF (ValN d))
def endV (d : Nat) (n x : Int) : ValN (d + 1) := if 0 < n then leafV d 3 x else leafV d 1 0
def statKeys : List ByteArray := [⟨#[99, 111, 117, 110, 116]⟩, ⟨#[109, 97, 120]⟩, ⟨#[109, 105, 110]⟩, ⟨#[110, 117, 109, 98, 101, 114, 115]⟩, ⟨#[115, 117, 109]⟩]
def statsV (r : Red) : ValN 2 := (⟨6, 0, noStr, [leafV 0 3 r.c, endV 0 r.n r.m, endV 0 r.n r.l, leafV 0 3 r.n, leafV 0 3 (sg r.s)], statKeys⟩ : ValF (ValN 1))
/-- What is told of a reduction, by a kind. -/
def tellV (k : Nat) (r : Red) : ValN 2 :=
  if k = 1 then leafV 1 3 r.c else if k = 2 then leafV 1 3 (sg r.s) else if k = 3 then endV 1 r.n r.l else if k = 4 then endV 1 r.n r.m else statsV r
theorem leaf_at (W : World) (d : Nat) {k n : Int} (hk : I64' k) (hn : I64' n) : ValAt W (d + 1) (.agg #[.int .i64 k, .int .i64 n, .string ⟨#[]⟩, .slice none 0 0, .slice none 0 0]) (leafV d k n) :=
  ⟨none, 0, 0, none, 0, 0, rfl, hk, hn, by show noStr.size ≤ _; decide, rfl, Nat.le_refl _, by unfold maxLen; omega, by omega, fun _ => rfl, fun i y hy => by simp [leafV, ValN.to] at hy, StrsAt.nil_⟩
theorem leaf_good (d : Nat) {k n : Int} (h : k = 3 ∨ (k = 1 ∧ n = 0)) : aloneB (leafV d k n).to = true := by
  rcases h with rfl | ⟨rfl, rfl⟩
  · unfold aloneB; simp [leafV, ValN.to, keysTo, strEmpty, noStr]
  · unfold aloneB; simp [leafV, ValN.to, keysTo, strEmpty, noStr]
theorem leaf_within (d L : Nat) (m : Int) {k n : Int} (h : k = 3 ∨ (k = 1 ∧ n = 0)) (hm : 1 ≤ m) : withinV (d + 1) (leafV d k n) L m = 1 := by
  rw [withinV_yes (fun hh => ?_)]
  · rfl
  · rcases hh with hh | hh | hh
    · omega
    · rw [leaf_good d h] at hh; cases hh
    · have : (leafV d k n).to.kind = k := rfl
      omega
theorem end_leaf (d : Nat) (n x : Int) : ∃ k y, endV d n x = leafV d k y ∧ (k = 3 ∨ (k = 1 ∧ y = 0)) := by
  unfold endV; split
  · exact ⟨3, x, rfl, .inl rfl⟩
  · exact ⟨1, 0, rfl, .inr ⟨rfl, rfl⟩⟩
set_option maxRecDepth 100000 in
theorem stat_keys : keysTo statKeys 5 = true := by decide +kernel
theorem stats_alone (r : Red) : aloneB (statsV r).to = true := by
  have h := stat_keys
  unfold aloneB
  rw [show (statsV r).to.keys = statKeys from rfl, show statKeys.length = 5 from rfl, h, Bool.true_and, show (statsV r).to.kind = 6 from rfl]
  simp [show (statsV r).to.n = 0 from rfl, show (statsV r).to.s = noStr from rfl, show (statsV r).to.kids.length = 5 from rfl, strEmpty, noStr]
theorem stats_right (r : Red) : rightV 2 (statsV r) = true := by
  obtain ⟨k1, y1, e1, h1⟩ := end_leaf 0 r.n r.m
  obtain ⟨k2, y2, e2, h2⟩ := end_leaf 0 r.n r.l
  unfold rightV
  rw [withinV_yes (fun hh => by
    rcases hh with hh | hh | hh
    · omega
    · rw [stats_alone] at hh; cases hh
    · exact absurd hh.2 (by decide))]
  have e : (statsV r).to.kids = [leafV 0 3 r.c, leafV 0 k1 y1, leafV 0 k2 y2, leafV 0 3 r.n, leafV 0 3 (sg r.s)] := by
    show [leafV 0 3 r.c, endV 0 r.n r.m, endV 0 r.n r.l, leafV 0 3 r.n, leafV 0 3 (sg r.s)] = _
    rw [e1, e2]
  rw [e]
  have f3 := fun n m hm => leaf_within 0 7 m (k := 3) (n := n) (.inl rfl) hm
  simp only [withinL, f3 _ (256 - ((1 : Nat) : Int)) (by omega), f3 _ (256 - ((1 + 1 + 1 + 1 : Nat) : Int)) (by omega), f3 _ (256 - ((1 + 1 + 1 + 1 + 1 : Nat) : Int)) (by omega), leaf_within 0 7 (256 - ((1 + 1 : Nat) : Int)) h1 (by omega), leaf_within 0 7 (256 - ((1 + 1 + 1 : Nat) : Int)) h2 (by omega), if_false, Nat.one_ne_zero]
  decide
theorem tell_right (k : Nat) (r : Red) : rightV 2 (tellV k r) = true := by
  have hl : ∀ k n, (k = 3 ∨ (k = 1 ∧ n = 0)) → rightV 2 (leafV 1 k n) = true := fun k n h => by
    unfold rightV; rw [leaf_within 1 8 256 h (by omega)]; decide
  have he : ∀ n x, rightV 2 (endV 1 n x) = true := fun n x => by
    obtain ⟨k, y, e, h⟩ := end_leaf 1 n x
    rw [e]; exact hl _ _ h
  unfold tellV
  split
  · exact hl _ _ (.inl rfl)
  · split
    · exact hl _ _ (.inl rfl)
    · split
      · exact he _ _
      · split
        · exact he _ _
        · exact stats_right r
theorem oneL_refl {K : Type} {f : K → K → Bool} (k : Int) : ∀ (l : List K) (ks : List ByteArray), (∀ y ∈ l, f y y = true) → oneL f k l l ks ks = true
  | [], _, _ => rfl
  | y :: ys, ks, h => by
    rw [oneL_cons, h y (by simp), oneL_refl k ys ks.tail fun z hz => h z (by simp [hz])]
    simp
theorem oneV_refl : ∀ (d : Nat) (x : ValN d), goodV d x = true → oneV d d x x = true
  | 0, _, h => by unfold goodV at h; cases h
  | d + 1, x, h => by
    rw [oneV_eq, oneL_refl _ _ _ fun y hy => oneV_refl d y (by
      obtain ⟨i, hi⟩ := List.getElem?_of_mem hy
      exact (good_alone h).2 i y hi)]
    simp
theorem tell_same (k : Nat) (r : Red) : sameV 2 2 (tellV k r) (tellV k r) = true := by
  unfold sameV
  rw [tell_right, oneV_refl 2 _ (withinV_good 2 _ 8 256 (by have h := tell_right k r; unfold rightV at h; rw [decide_eq_true_eq] at h; omega))]
  rfl
def five (k n : Int) : List Value := [.int .i64 k, .int .i64 n, .string ⟨#[]⟩, .slice none 0 0, .slice none 0 0]
/-- A slice in a block of its own. -/
def SlNew (B n : Nat) (cs : List Value) (t : TypeId) (v : Value) (W : World) : Prop := ∃ g, v = .slice (some ⟨g, 0, none⟩) n n ∧ B ≤ g ∧ Blk W g cs t
theorem SlNew.later {B n : Nat} {cs : List Value} {t : TypeId} : ∀ v W W', SlNew B n cs t v W → Below W.heap.size W W' → SlNew B n cs t v W' := fun _ _ _ ⟨g, h1, h2, h3⟩ hb => ⟨g, h1, h2, h3.ext hb⟩
theorem stats_at {W : World} {g q : Nat} {r : Red} {x y : Int × Int} {t s : TypeId} {cg cq : Nat} (hx : endV 0 r.n r.l = leafV 0 x.1 x.2) (hy : endV 0 r.n r.m = leafV 0 y.1 y.2) (h1 : I64' r.c) (h2 : I64' r.n) (h3 : I64' (sg r.s)) (hx1 : I64' x.1) (hx2 : I64' x.2) (hy1 : I64' y.1) (hy2 : I64' y.2)
    (hg : ∀ i v, (five 3 r.c ++ (five y.1 y.2 ++ (five x.1 x.2 ++ (five 3 r.n ++ five 3 (sg r.s)))))[i]? = some v → W.cell? ⟨g, i, none⟩ = some v) (hgl : g < W.heap.size) (hcg : 5 ≤ cg ∧ cg ≤ maxLen) (hq : Blk W q [.string ⟨#[99, 111, 117, 110, 116]⟩, .string ⟨#[109, 97, 120]⟩, .string ⟨#[109, 105, 110]⟩, .string ⟨#[110, 117, 109, 98, 101, 114, 115]⟩, .string ⟨#[115, 117, 109]⟩] s) (hcq : 5 ≤ cq ∧ cq ≤ maxLen) :
    ValAt W 2 (.agg #[.int .i64 6, .int .i64 0, .string ⟨#[]⟩, .slice (some ⟨g, 0, none⟩) 5 cg, .slice (some ⟨q, 0, none⟩) 5 cq]) (statsV r) := by
  refine ⟨some ⟨g, 0, none⟩, 5, cg, some ⟨q, 0, none⟩, 5, cq, rfl, by show I64' 6; unfold I64'; omega, by show I64' 0; unfold I64'; omega, by show noStr.size ≤ _; decide, rfl, hcg.1, hcg.2, by omega, (fun h => by cases h), fun i z hz => ?_, rfl, hcq.1, hcq.2, by omega, fun k z hz => ?_, (fun h => by cases h), fun z hz => ?_⟩
  · have hz' : [leafV 0 3 r.c, leafV 0 y.1 y.2, leafV 0 x.1 x.2, leafV 0 3 r.n, leafV 0 3 (sg r.s)][i]? = some z := by
      rw [← hx, ← hy]; exact hz
    have hi : i < 5 := by have := (List.getElem?_eq_some_iff.1 hz').1; simpa using this
    rcases (by omega : i = 0 ∨ i = 1 ∨ i = 2 ∨ i = 3 ∨ i = 4) with rfl | rfl | rfl | rfl | rfl
    · cases hz'; exact ⟨g, 0, _, _, _, _, _, rfl, hgl, hg 0 _ rfl, hg 1 _ rfl, hg 2 _ rfl, hg 3 _ rfl, hg 4 _ rfl, leaf_at W 0 (by unfold I64'; omega) h1⟩
    · cases hz'; exact ⟨g, 0, _, _, _, _, _, rfl, hgl, hg 5 _ rfl, hg 6 _ rfl, hg 7 _ rfl, hg 8 _ rfl, hg 9 _ rfl, leaf_at W 0 hy1 hy2⟩
    · cases hz'; exact ⟨g, 0, _, _, _, _, _, rfl, hgl, hg 10 _ rfl, hg 11 _ rfl, hg 12 _ rfl, hg 13 _ rfl, hg 14 _ rfl, leaf_at W 0 hx1 hx2⟩
    · cases hz'; exact ⟨g, 0, _, _, _, _, _, rfl, hgl, hg 15 _ rfl, hg 16 _ rfl, hg 17 _ rfl, hg 18 _ rfl, hg 19 _ rfl, leaf_at W 0 (by unfold I64'; omega) h2⟩
    · cases hz'; exact ⟨g, 0, _, _, _, _, _, rfl, hgl, hg 20 _ rfl, hg 21 _ rfl, hg 22 _ rfl, hg 23 _ rfl, hg 24 _ rfl, leaf_at W 0 (by unfold I64'; omega) h3⟩
  · refine ⟨q, 0, rfl, hq.lt, ?_⟩
    rw [Nat.zero_add, hq.cells]
    have hz' : statKeys[k]? = some z := hz
    have hk : k < 5 := by have := (List.getElem?_eq_some_iff.1 hz').1; simpa [statKeys] using this
    rcases (by omega : k = 0 ∨ k = 1 ∨ k = 2 ∨ k = 3 ∨ k = 4) with rfl | rfl | rfl | rfl | rfl
    all_goals (cases hz'; rfl)
  · have hz' : z ∈ statKeys := hz
    simp only [statKeys, List.mem_cons, List.not_mem_nil, or_false] at hz'
    rcases hz' with rfl | rfl | rfl | rfl | rfl
    all_goals decide
end Go.Dav

namespace Go.Proofs.YtmcmknndhppljaaDoor
set_option linter.unusedVariables false
set_option linter.unusedSimpArgs false
open Go.RowKit Go.Dav
attribute [local go_sem] Gives ite_val ite_val_true

end Go.Proofs.YtmcmknndhppljaaDoor

namespace Go.Dav
set_option linter.unusedVariables false
set_option linter.unusedSimpArgs false
open Go Go.RowKit
theorem I64.v {n : Int} (h : I64 n) : I64' n := h
theorem rfits_key (s : Int) : ((decide (hi s = 0) && decide (lo s < 9223372036854775808)) || (decide (hi s = -1) && decide (9223372036854775808 ≤ lo s))) = fitsB s := by
  unfold fitsB sg
  have h1 := lo_bd s
  have h2 := hi_bd s
  rw [Bool.eq_iff_iff]
  simp only [Bool.or_eq_true, Bool.and_eq_true, decide_eq_true_eq]
  omega
/-- A told value, or nothing. -/
def ToldTo (d : Nat) (x : ValN d) (err : Value) (e : Ending) (w' : World) : Prop := ∃ v, e = .returned (.tuple #[v, err]) ∧ ValAt w' d v x
end Go.Dav
namespace Go.Proofs.YtmcmknndhppljaaDoor
set_option linter.unusedVariables false
set_option linter.unusedSimpArgs false
open Go.RowKit Go.Dav
attribute [local go_sem] Gives ite_val ite_val_true

/-- Where Tell keeps what it is about. -/
structure TrydTellW (w : World) (r : Red) (x y : Int × Int) (W : World) : Prop where
  b3 : Blk W w.heap.size [.int .i64 r.c, .int .i64 r.n, .int .i64 (hi r.s), .int .u64 (lo r.s), .int .i64 r.l, .int .i64 r.m] 30
  b4 : Blk W (w.heap.size + 1) [.int .i64 0, .int .i64 0, .string ⟨#[]⟩, .slice none 0 0, .slice none 0 0] 39
  b6 : Blk W (w.heap.size + 1 + 1) [.int .i64 x.1, .int .i64 x.2, .string ⟨#[]⟩, .slice none 0 0, .slice none 0 0] 39
  b7 : Blk W (w.heap.size + 1 + 1 + 1) [.int .i64 y.1, .int .i64 y.2, .string ⟨#[]⟩, .slice none 0 0, .slice none 0 0] 39
  bel : Below w.heap.size w W
theorem TrydTellW.ext {w : World} {r : Red} {x y : Int × Int} {W W' : World} (h : TrydTellW w r x y W) (hb : Below W.heap.size W W') : TrydTellW w r x y W' :=
  ⟨h.b3.ext hb, h.b4.ext hb, h.b6.ext hb, h.b7.ext hb, h.bel.trans (hb.mono h.bel.size)⟩
theorem TrydTellW.set6 {w : World} {r : Red} {x y : Int × Int} {W : World} (h : TrydTellW w r x y W) (x' : Int × Int) : TrydTellW w r x' y (((((W.setCell ⟨w.heap.size + 1 + 1, 0, none⟩ (.int .i64 x'.1)).setCell ⟨w.heap.size + 1 + 1, 1, none⟩ (.int .i64 x'.2)).setCell ⟨w.heap.size + 1 + 1, 2, none⟩ (.string ⟨#[]⟩)).setCell ⟨w.heap.size + 1 + 1, 3, none⟩ (.slice none 0 0)).setCell ⟨w.heap.size + 1 + 1, 4, none⟩ (.slice none 0 0)) := by
  have o := Only.fiveV W (w.heap.size + 1 + 1) (.int .i64 x'.1) (.int .i64 x'.2) (.string ⟨#[]⟩) (.slice none 0 0) (.slice none 0 0)
  exact ⟨h.b3.only o (by omega), h.b4.only o (by omega), h.b6.fiveV _ _ _ _ _, h.b7.only o (by omega), below_only h.bel o h.bel.size (by omega)⟩
theorem TrydTellW.set7 {w : World} {r : Red} {x y : Int × Int} {W : World} (h : TrydTellW w r x y W) (x' : Int × Int) : TrydTellW w r x x' (((((W.setCell ⟨w.heap.size + 1 + 1 + 1, 0, none⟩ (.int .i64 x'.1)).setCell ⟨w.heap.size + 1 + 1 + 1, 1, none⟩ (.int .i64 x'.2)).setCell ⟨w.heap.size + 1 + 1 + 1, 2, none⟩ (.string ⟨#[]⟩)).setCell ⟨w.heap.size + 1 + 1 + 1, 3, none⟩ (.slice none 0 0)).setCell ⟨w.heap.size + 1 + 1 + 1, 4, none⟩ (.slice none 0 0)) := by
  have o := Only.fiveV W (w.heap.size + 1 + 1 + 1) (.int .i64 x'.1) (.int .i64 x'.2) (.string ⟨#[]⟩) (.slice none 0 0) (.slice none 0 0)
  exact ⟨h.b3.only o (by omega), h.b4.only o (by omega), h.b6.only o (by omega), h.b7.fiveV _ _ _ _ _, below_only h.bel o h.bel.size (by omega)⟩

end Go.Proofs.YtmcmknndhppljaaDoor

namespace Go.Proofs.YtmcmknndhppljaaDoor
set_option linter.unusedVariables false
set_option linter.unusedSimpArgs false
open Go.RowKit Go.Dav
attribute [local go_sem] Gives ite_val ite_val_true

/-- What stands at the end. -/
theorem Tryd_statsEnd (w W5 : World) (g : Nat) (r : Red) (x y : Int × Int) (h : TrydTellW w r x y W5) (hx : endV 0 r.n r.l = leafV 0 x.1 x.2) (hy : endV 0 r.n r.m = leafV 0 y.1 y.2) (h1 : I64' r.c) (h2 : I64' r.n) (h3 : I64' (sg r.s)) (hx1 : I64' x.1) (hx2 : I64' x.2) (hy1 : I64' y.1) (hy2 : I64' y.2)
    (hg : Blk W5 g (five 3 r.c ++ (five y.1 y.2 ++ (five x.1 x.2 ++ (five 3 r.n ++ five 3 (sg r.s))))) 39) (hgs : w.heap.size + 1 + 1 + 1 < g) (V : World)
    (hV : (((((W5.setCell ⟨w.heap.size + 1, 0, none⟩ (.int .i64 6)).setCell ⟨w.heap.size + 1, 1, none⟩ (.int .i64 0)).setCell ⟨w.heap.size + 1, 2, none⟩ (.string ⟨#[]⟩)).setCell ⟨w.heap.size + 1, 3, none⟩ (.slice (some ⟨g, 0, none⟩) 5 5)).setCell ⟨w.heap.size + 1, 4, none⟩ (.slice (some ⟨W5.heap.size, 0, none⟩) 5 5)).alloc (.cells #[.string ⟨#[99, 111, 117, 110, 116]⟩, .string ⟨#[109, 97, 120]⟩, .string ⟨#[109, 105, 110]⟩, .string ⟨#[110, 117, 109, 98, 101, 114, 115]⟩, .string ⟨#[115, 117, 109]⟩] 9) = V) :
    ValAt V 2 (.agg #[.int .i64 6, .int .i64 0, .string ⟨#[]⟩, .slice (some ⟨g, 0, none⟩) 5 5, .slice (some ⟨W5.heap.size, 0, none⟩) 5 5]) (statsV r) ∧ Below w.heap.size w V ∧ (∀ i, V.cell? ⟨w.heap.size + 1, i, none⟩ = [Value.int .i64 6, .int .i64 0, .string ⟨#[]⟩, .slice (some ⟨g, 0, none⟩) 5 5, .slice (some ⟨W5.heap.size, 0, none⟩) 5 5][i]?) := by
  have o := Only.fiveV W5 (w.heap.size + 1) (.int .i64 6) (.int .i64 0) (.string ⟨#[]⟩) (.slice (some ⟨g, 0, none⟩) 5 5) (.slice (some ⟨W5.heap.size, 0, none⟩) 5 5)
  have b4 := h.b4.fiveV (.int .i64 6) (.int .i64 0) (.string ⟨#[]⟩) (.slice (some ⟨g, 0, none⟩) 5 5) (.slice (some ⟨W5.heap.size, 0, none⟩) 5 5)
  obtain ⟨U, hU⟩ : ∃ U, (((((W5.setCell ⟨w.heap.size + 1, 0, none⟩ (.int .i64 6)).setCell ⟨w.heap.size + 1, 1, none⟩ (.int .i64 0)).setCell ⟨w.heap.size + 1, 2, none⟩ (.string ⟨#[]⟩)).setCell ⟨w.heap.size + 1, 3, none⟩ (.slice (some ⟨g, 0, none⟩) 5 5)).setCell ⟨w.heap.size + 1, 4, none⟩ (.slice (some ⟨W5.heap.size, 0, none⟩) 5 5)) = U := ⟨_, rfl⟩
  have hsz : U.heap.size = W5.heap.size := by rw [← hU]; simp
  rw [hU] at o b4 hV
  have hg2 := (hg.only o (by omega)).alloc (.cells #[.string ⟨#[99, 111, 117, 110, 116]⟩, .string ⟨#[109, 97, 120]⟩, .string ⟨#[109, 105, 110]⟩, .string ⟨#[110, 117, 109, 98, 101, 114, 115]⟩, .string ⟨#[115, 117, 109]⟩] 9)
  have b5 := b4.alloc (.cells #[.string ⟨#[99, 111, 117, 110, 116]⟩, .string ⟨#[109, 97, 120]⟩, .string ⟨#[109, 105, 110]⟩, .string ⟨#[110, 117, 109, 98, 101, 114, 115]⟩, .string ⟨#[115, 117, 109]⟩] 9)
  have hk := Blk.new' U [.string ⟨#[99, 111, 117, 110, 116]⟩, .string ⟨#[109, 97, 120]⟩, .string ⟨#[109, 105, 110]⟩, .string ⟨#[110, 117, 109, 98, 101, 114, 115]⟩, .string ⟨#[115, 117, 109]⟩] 9 hsz
  have hbel := (below_only h.bel o h.bel.size (by omega)).alloc (by have := h.bel.size; omega) (.cells #[.string ⟨#[99, 111, 117, 110, 116]⟩, .string ⟨#[109, 97, 120]⟩, .string ⟨#[109, 105, 110]⟩, .string ⟨#[110, 117, 109, 98, 101, 114, 115]⟩, .string ⟨#[115, 117, 109]⟩] 9)
  rw [show U.alloc (.cells #[.string ⟨#[99, 111, 117, 110, 116]⟩, .string ⟨#[109, 97, 120]⟩, .string ⟨#[109, 105, 110]⟩, .string ⟨#[110, 117, 109, 98, 101, 114, 115]⟩, .string ⟨#[115, 117, 109]⟩] 9) = V from hV] at hg2 b5 hk hbel
  exact ⟨stats_at (t := 0) hx hy h1 h2 h3 hx1 hx2 hy1 hy2 (fun i v hv => hg2.cell i hv) hg2.lt ⟨Nat.le_refl _, by unfold maxLen; omega⟩ hk ⟨Nat.le_refl _, by unfold maxLen; omega⟩, hbel, b5.cells⟩

end Go.Proofs.YtmcmknndhppljaaDoor

namespace Go.Proofs.YtmcmknndhppljaaDoor
set_option linter.unusedVariables false
set_option linter.unusedSimpArgs false
open Go.RowKit Go.Dav
attribute [local go_sem] Gives ite_val ite_val_true

/-- What a number tells, or its lack. -/
def TrydEndB (n x : Int) : Int × Int := if 0 < n then (3, x) else (1, 0)
theorem Tryd_count (c n s l m : Int) (w : World) :
    Calls Tryd.prog 85 #[.agg #[.int .i64 c, .int .i64 n, .int .i64 (hi s), .int .u64 (lo s), .int .i64 l, .int .i64 m]] w fun e w' =>
      e = .returned (.tuple #[.agg #[.int .i64 3, .int .i64 c, .string ⟨#[]⟩, .slice none 0 0, .slice none 0 0], .int .i64 0]) ∧ Below w.heap.size w w' := by
  go_enter Tryd.func85, Tryd.ntmps85
  go_wp2_with fail
  refine (Tryd_in _ _).mono ?_; rintro e w1 ⟨rfl, hb1⟩; obtain ⟨hc1, hf1, hs1⟩ := after hb1
  simp at hs1
  have lt_w1_0_0 : w.heap.size < w1.heap.size := by omega
  have lt_w1_0_1 : w.heap.size < w1.heap.size + 1 := by omega
  have lt_w1_1_0 : w.heap.size + 1 < w1.heap.size := by omega
  have lt_w1_1_1 : w.heap.size + 1 < w1.heap.size + 1 := by omega
  go_wp2_with fail
  refine bodyPost_ret (v := .tuple #[.agg #[.int .i64 3, .int .i64 c, .string ⟨#[]⟩, .slice none 0 0, .slice none 0 0], .int .i64 0]) (by simp [results, Tryd.results85, go_sem, *]) rfl ⟨rfl, ?_⟩
  exact (by repeat (first | (with_reducible exact Below.refl _ _) | (with_reducible exact Below.refl _ _) | (with_reducible refine Below.setCell ?_ (by first | omega | (simp; done) | (simp; omega)) _) | (with_reducible refine Below.alloc ?_ (by first | omega | (simp; done) | (simp; omega)) _) | (with_reducible refine Below.drew ?_) | (with_reducible refine below_drewN ?_ _) | (with_reducible refine Below.trans ?_ (hb1.mono (by first | omega | (simp; done) | (simp; omega))))))

theorem Tryd_end (c n s l m x : Int) (w : World) (hn : 0 ≤ n) :
    Calls Tryd.prog 88 #[.agg #[.int .i64 c, .int .i64 n, .int .i64 (hi s), .int .u64 (lo s), .int .i64 l, .int .i64 m], .int .i64 x] w fun e w' =>
      e = .returned (.tuple #[.agg #[.int .i64 (TrydEndB n x).1, .int .i64 (TrydEndB n x).2, .string ⟨#[]⟩, .slice none 0 0, .slice none 0 0], .int .i64 0]) ∧ Below w.heap.size w w' := by
  by_cases h0 : n = 0
  · have e : TrydEndB n x = (1, 0) := by unfold TrydEndB; rw [if_neg (by omega)]
    rw [e]
    have hz : (n == 0) = true := by simp [h0]
    clear e h0
    go_enter Tryd.func88, Tryd.ntmps88
    go_wp2_with fail
    refine bodyPost_ret (v := .tuple #[.agg #[.int .i64 1, .int .i64 0, .string ⟨#[]⟩, .slice none 0 0, .slice none 0 0], .int .i64 0]) (by simp [results, Tryd.results88, go_sem, *]) rfl ⟨rfl, ?_⟩
    exact (by repeat (first | (with_reducible exact Below.refl _ _) | (with_reducible exact Below.refl _ _) | (with_reducible refine Below.setCell ?_ (by first | omega | (simp; done) | (simp; omega)) _) | (with_reducible refine Below.alloc ?_ (by first | omega | (simp; done) | (simp; omega)) _) | (with_reducible refine Below.drew ?_) | (with_reducible refine below_drewN ?_ _)))
  · have e : TrydEndB n x = (3, x) := by unfold TrydEndB; rw [if_pos (by omega)]
    rw [e]
    have hz : (n == 0) = false := by simp [h0]
    clear e
    go_enter Tryd.func88, Tryd.ntmps88
    go_wp2_with fail
    refine (Tryd_in _ _).mono ?_; rintro e w1 ⟨rfl, hb1⟩; obtain ⟨hc1, hf1, hs1⟩ := after hb1
    simp at hs1
    have lt_w1_0_0 : w.heap.size < w1.heap.size := by omega
    have lt_w1_0_1 : w.heap.size < w1.heap.size + 1 := by omega
    have lt_w1_1_0 : w.heap.size + 1 < w1.heap.size := by omega
    have lt_w1_1_1 : w.heap.size + 1 < w1.heap.size + 1 := by omega
    go_wp2_with fail
    refine bodyPost_ret (v := .tuple #[.agg #[.int .i64 3, .int .i64 x, .string ⟨#[]⟩, .slice none 0 0, .slice none 0 0], .int .i64 0]) (by simp [results, Tryd.results88, go_sem, *]) rfl ⟨rfl, ?_⟩
    exact (by repeat (first | (with_reducible exact Below.refl _ _) | (with_reducible exact Below.refl _ _) | (with_reducible refine Below.setCell ?_ (by first | omega | (simp; done) | (simp; omega)) _) | (with_reducible refine Below.alloc ?_ (by first | omega | (simp; done) | (simp; omega)) _) | (with_reducible refine Below.drew ?_) | (with_reducible refine below_drewN ?_ _) | (with_reducible refine Below.trans ?_ (hb1.mono (by first | omega | (simp; done) | (simp; omega))))))

theorem Tryd_simple1 (c n s l m : Int) (w : World) (hn : 0 ≤ n) :
    Calls Tryd.prog 87 #[.agg #[.int .i64 c, .int .i64 n, .int .i64 (hi s), .int .u64 (lo s), .int .i64 l, .int .i64 m]] w fun e w' =>
      e = .returned (.tuple #[.agg #[.int .i64 (TrydEndB n l).1, .int .i64 (TrydEndB n l).2, .string ⟨#[]⟩, .slice none 0 0, .slice none 0 0], .int .i64 0]) ∧ Below w.heap.size w w' := by
  obtain ⟨q, hq⟩ : ∃ q, TrydEndB n l = q := ⟨_, rfl⟩
  have HQ := Lib.hid hq
  rw [hq]
  clear hq
  go_enter Tryd.func87, Tryd.ntmps87
  go_wp2_with fail
  refine (Tryd_end _ _ _ _ _ _ _ hn).mono ?_; rintro e w1 ⟨rfl, hb1⟩; obtain ⟨hc1, hf1, hs1⟩ := after hb1
  rw [HQ.out]
  simp at hs1
  have lt_w1_0_0 : w.heap.size < w1.heap.size := by omega
  have lt_w1_0_1 : w.heap.size < w1.heap.size + 1 := by omega
  have lt_w1_1_0 : w.heap.size + 1 < w1.heap.size := by omega
  have lt_w1_1_1 : w.heap.size + 1 < w1.heap.size + 1 := by omega
  go_wp2_with fail
  refine bodyPost_ret (v := .tuple #[.agg #[.int .i64 q.1, .int .i64 q.2, .string ⟨#[]⟩, .slice none 0 0, .slice none 0 0], .int .i64 0]) (by simp [results, Tryd.results87, go_sem, *]) rfl ⟨rfl, ?_⟩
  exact (by repeat (first | (with_reducible exact Below.refl _ _) | (with_reducible exact Below.refl _ _) | (with_reducible refine Below.setCell ?_ (by first | omega | (simp; done) | (simp; omega)) _) | (with_reducible refine Below.alloc ?_ (by first | omega | (simp; done) | (simp; omega)) _) | (with_reducible refine Below.drew ?_) | (with_reducible refine below_drewN ?_ _) | (with_reducible refine Below.trans ?_ (hb1.mono (by first | omega | (simp; done) | (simp; omega))))))

theorem Tryd_simple2 (c n s l m : Int) (w : World) (hn : 0 ≤ n) :
    Calls Tryd.prog 89 #[.agg #[.int .i64 c, .int .i64 n, .int .i64 (hi s), .int .u64 (lo s), .int .i64 l, .int .i64 m]] w fun e w' =>
      e = .returned (.tuple #[.agg #[.int .i64 (TrydEndB n m).1, .int .i64 (TrydEndB n m).2, .string ⟨#[]⟩, .slice none 0 0, .slice none 0 0], .int .i64 0]) ∧ Below w.heap.size w w' := by
  obtain ⟨q, hq⟩ : ∃ q, TrydEndB n m = q := ⟨_, rfl⟩
  have HQ := Lib.hid hq
  rw [hq]
  clear hq
  go_enter Tryd.func89, Tryd.ntmps89
  go_wp2_with fail
  refine (Tryd_end _ _ _ _ _ _ _ hn).mono ?_; rintro e w1 ⟨rfl, hb1⟩; obtain ⟨hc1, hf1, hs1⟩ := after hb1
  rw [HQ.out]
  simp at hs1
  have lt_w1_0_0 : w.heap.size < w1.heap.size := by omega
  have lt_w1_0_1 : w.heap.size < w1.heap.size + 1 := by omega
  have lt_w1_1_0 : w.heap.size + 1 < w1.heap.size := by omega
  have lt_w1_1_1 : w.heap.size + 1 < w1.heap.size + 1 := by omega
  go_wp2_with fail
  refine bodyPost_ret (v := .tuple #[.agg #[.int .i64 q.1, .int .i64 q.2, .string ⟨#[]⟩, .slice none 0 0, .slice none 0 0], .int .i64 0]) (by simp [results, Tryd.results89, go_sem, *]) rfl ⟨rfl, ?_⟩
  exact (by repeat (first | (with_reducible exact Below.refl _ _) | (with_reducible exact Below.refl _ _) | (with_reducible refine Below.setCell ?_ (by first | omega | (simp; done) | (simp; omega)) _) | (with_reducible refine Below.alloc ?_ (by first | omega | (simp; done) | (simp; omega)) _) | (with_reducible refine Below.drew ?_) | (with_reducible refine below_drewN ?_ _) | (with_reducible refine Below.trans ?_ (hb1.mono (by first | omega | (simp; done) | (simp; omega))))))
end Go.Proofs.YtmcmknndhppljaaDoor
