/-
  The reference of layer 4: within, Right, walked.
-/
import Derived.Test.YtdebmifjfemcjaaValB
namespace Go.Dav
set_option linter.unusedVariables false
set_option linter.unusedSimpArgs false
open Go Go.RowKit
theorem withinL_le {K : Type} {f : K → Nat → Int → Nat} {L : Nat} (hf : ∀ y m, (f y L m : Int) ≤ max m 0) {m : Int} : ∀ (l : List K) (n : Nat), (n : Int) ≤ m → ((withinL f L m l n : Nat) : Int) ≤ m
  | [], n, h => h
  | y :: ys, n, h => by
    unfold withinL
    split
    · omega
    · exact withinL_le hf ys _ (by have := hf y (m - n); omega)
theorem withinV_le : ∀ (d : Nat) (x : ValN d) (L : Nat) (m : Int), (withinV d x L m : Int) ≤ max m 0
  | 0, _, _, _ => by unfold withinV; omega
  | d + 1, x, L, m => by
    unfold withinV
    split
    · omega
    · rename_i h
      have := withinL_le (f := withinV d) (L := L - 1) (m := m) (fun y m => withinV_le d y (L - 1) m) x.to.kids 1 (by omega)
      omega
theorem withinL_drop {K : Type} {f : K → Nat → Int → Nat} {L : Nat} {m : Int} {l : List K} {i : Nat} {y : K} {n : Nat} (h : l[i]? = some y) : withinL f L m (l.drop i) n = if f y L (m - n) = 0 then 0 else withinL f L m (l.drop (i + 1)) (n + f y L (m - n)) := by
  have hl := (List.getElem?_eq_some_iff.1 h).1
  have e : l.drop i = y :: l.drop (i + 1) := by
    rw [List.drop_eq_getElem_cons hl]
    have := (List.getElem?_eq_some_iff.1 h).2
    rw [this]
  rw [e]; rfl
theorem withinV_no {d : Nat} {x : ValN (d + 1)} {L : Nat} {m : Int} (h : m < 1 ∨ aloneB x.to = false ∨ (5 ≤ x.to.kind ∧ L = 0)) : withinV (d + 1) x L m = 0 := by
  unfold withinV; exact if_pos h
theorem withinV_yes {d : Nat} {x : ValN (d + 1)} {L : Nat} {m : Int} (h : ¬ (m < 1 ∨ aloneB x.to = false ∨ (5 ≤ x.to.kind ∧ L = 0))) : withinV (d + 1) x L m = withinL (withinV d) (L - 1) m x.to.kids 1 := by
  unfold withinV; exact if_neg h
/-- A value with kids is a list or an object. -/
theorem alone_kids {K : Type} {x : ValF K} (h : aloneB x = true) (hk : x.kids.length ≠ 0) : 5 ≤ x.kind := by
  unfold aloneB at h
  rw [Bool.and_eq_true] at h
  have h2 := h.2
  by_cases k5 : x.kind = 5
  · omega
  by_cases k6 : x.kind = 6
  · omega
  exfalso
  rw [if_neg k5, if_neg k6, decide_eq_false hk] at h2
  repeat' split at h2
  all_goals simp at h2
end Go.Dav
namespace Go.Proofs.Ytdebmifjfemcjaa
set_option linter.unusedVariables false
set_option linter.unusedSimpArgs false
open Go.RowKit Go.Dav
attribute [local go_sem] Gives ite_val ite_val_true

set_option maxRecDepth 8000 in
set_option maxHeartbeats 8000000 in
theorem Try_rWithin : ∀ (d : Nat) (x : ValN d) (v : Value) (L : Nat) (m : Int) (w : World), ValAt w d v x → L ≤ 100 → -1000 ≤ m → m ≤ 1000 →
    Calls Try.prog 45 #[v, .int .i64 (L : Int), .int .i64 m] w fun e w' => e = .returned (.int .i64 ((withinV d x L m : Nat) : Int)) ∧ Below w.heap.size w w'
  | 0, _, _, _, _, _, h, _, _, _ => h.elim
  | d + 1, x, v, L, m, w, hx, hL, hm0, hm1 => by
    obtain ⟨ka, kl, kc, qa, ql, qc, h⟩ := hx
    have IH := Lib.hid (Try_rWithin d)
    obtain ⟨r, hr⟩ : ∃ r, withinV (d + 1) x L m = r := ⟨_, rfl⟩
    rw [hr]
    have HNO := Lib.hid (fun h => (withinV_no (x := x) (L := L) (m := m) h).symm.trans hr)
    have HYES := Lib.hid (fun h => (withinV_yes (x := x) (L := L) (m := m) h).symm.trans hr)
    obtain ⟨xf, hxf⟩ : ∃ xf, x.to = xf := ⟨_, rfl⟩
    rw [hxf] at h HNO HYES
    clear hxf
    have hv := h.val
    have hkl := h.hlen
    have hkf := h.hfew
    subst hv
    obtain ⟨kind, hkd⟩ : ∃ k, xf.kind = k := ⟨_, rfl⟩
    obtain ⟨n, hn⟩ : ∃ k, xf.n = k := ⟨_, rfl⟩
    obtain ⟨s, hs⟩ : ∃ k, xf.s = k := ⟨_, rfl⟩
    rw [hkd, hn, hs]
    obtain ⟨W0, hW0⟩ : ∃ W0, w.alloc (.cells #[.int .i64 kind, .int .i64 n, .string s, .slice ka kl kc, .slice qa ql qc] 51) = W0 := ⟨_, rfl⟩
    have bel0 : Below w.heap.size w W0 := by rw [← hW0]; exact (by repeat (first | (with_reducible exact Below.refl _ _) | (with_reducible exact Below.refl _ _) | (with_reducible refine Below.setCell ?_ (by first | omega | (simp; done) | (simp; omega)) _) | (with_reducible refine Below.alloc ?_ (by first | omega | (simp; done) | (simp; omega)) _) | (with_reducible refine Below.drew ?_) | (with_reducible refine below_drewN ?_ _)))
    have HB0 := Lib.hid (show Blk W0 w.heap.size [.int .i64 kind, .int .i64 n, .string s, .slice ka kl kc, .slice qa ql qc] 51 by rw [← hW0]; exact Blk.new _ _ _)
    have HX := Lib.hid (h.ext bel0 fun _ _ => ValAt.ext bel0 d)
    have BEL0 := Lib.hid bel0
    have HW0 := Lib.hid hW0
    have HKD := Lib.hid (And.intro hkd (And.intro hn hs))
    have HKL := Lib.hid hkl
    clear hr h hkl bel0 hW0 hkd hn hs
    by_cases hm : m < 1
    · have e : r = 0 := (HNO.out (.inl hm)).symm
      clear HNO HYES
      subst e
      go_enter Try.func45, Try.ntmps45
      go_wp2
      go_ret
      exact ⟨rfl, (by repeat (first | (with_reducible exact Below.refl _ _) | (with_reducible exact Below.refl _ _) | (with_reducible refine Below.setCell ?_ (by first | omega | (simp; done) | (simp; omega)) _) | (with_reducible refine Below.alloc ?_ (by first | omega | (simp; done) | (simp; omega)) _) | (with_reducible refine Below.drew ?_) | (with_reducible refine below_drewN ?_ _)))⟩
    · go_enter Try.func45, Try.ntmps45
      go_wp2_with fail
      rw [HW0.out]
      have hA := Try_rAlone (ValAt W0 d) xf _ ka qa kl kc ql qc W0 HX.out
      rw [HKD.out.1, HKD.out.2.1, HKD.out.2.2] at hA
      refine hA.mono ?_; rintro e w1 ⟨rfl, hb1⟩
      have HB1 := Lib.hid (HB0.out.ext hb1)
      have HX1 := Lib.hid (HX.out.ext hb1 fun _ _ => ValAt.ext hb1 d)
      have BEL1 := Lib.hid (BEL0.out.trans (hb1.mono BEL0.out.size))
      have q1 := HB1.out.cells
      have l1 := HB1.out.lt
      clear hA hb1 HB0 HX BEL0 HW0
      cases hal : aloneB xf with
      | false =>
        have e : r = 0 := (HNO.out (.inr (.inl hal))).symm
        clear HNO HYES hal
        subst e
        go_wp2
        go_ret
        exact ⟨rfl, by have h := BEL1.out; exact (by repeat (first | (with_reducible exact Below.refl _ _) | (with_reducible exact Below.refl _ _) | (with_reducible refine Below.setCell ?_ (by first | omega | (simp; done) | (simp; omega)) _) | (with_reducible refine Below.alloc ?_ (by first | omega | (simp; done) | (simp; omega)) _) | (with_reducible refine Below.drew ?_) | (with_reducible refine below_drewN ?_ _) | (with_reducible refine Below.trans ?_ (h.mono (by first | omega | (simp; done) | (simp; omega))))))⟩
      | true =>
        have HAL := Lib.hid hal
        clear hal
        by_cases h5 : 5 ≤ kind
        · by_cases hL0 : L = 0
          · have e : r = 0 := (HNO.out (.inr (.inr ⟨by rw [HKD.out.1]; exact h5, hL0⟩))).symm
            clear HNO HYES
            subst e hL0
            go_wp2
            go_ret
            exact ⟨rfl, by have h := BEL1.out; exact (by repeat (first | (with_reducible exact Below.refl _ _) | (with_reducible exact Below.refl _ _) | (with_reducible refine Below.setCell ?_ (by first | omega | (simp; done) | (simp; omega)) _) | (with_reducible refine Below.alloc ?_ (by first | omega | (simp; done) | (simp; omega)) _) | (with_reducible refine Below.drew ?_) | (with_reducible refine below_drewN ?_ _) | (with_reducible refine Below.trans ?_ (h.mono (by first | omega | (simp; done) | (simp; omega))))))⟩
          · have HR2 := Lib.hid (show withinL (withinV d) (L - 1) m xf.kids 1 = r from HYES.out fun h => by rcases h with h | h | h; (omega); (rw [HAL.out] at h; cases h); (exact hL0 h.2))
            have d0 : ((L : Int) == 0) = false := by simp [hL0]
            have hL1 : 0 < kl → 1 ≤ L := fun _ => by omega
            clear hL0
            go_wp2_with fail
            go_loopw [7, 8] (fun nx ix wr => ∃ i n' : Nat, i ≤ kl ∧ ix = .int .i64 (i : Int) ∧ nx = .int .i64 (n' : Int) ∧ 1 ≤ n' ∧ (n' : Int) ≤ m ∧ withinL (withinV d) (L - 1) m (xf.kids.drop i) n' = r ∧ Below w1.heap.size w1 wr) (fun _ ix _ => kl - (intOf ix).toNat)
            case atStart => exact ⟨0, 1, Nat.zero_le _, by go_num, by go_num, by omega, by omega, HR2.out, Below.refl _ _⟩
            case round =>
              obtain ⟨i, n', hi, rfl, rfl, hn1, hnm, hdr, hbr⟩ := hrel
              have HBr := Lib.hid (HB1.out.ext hbr)
              have HXr := Lib.hid (HX1.out.ext hbr fun _ _ => ValAt.ext hbr d)
              have BELr := Lib.hid hbr
              have HDR := Lib.hid hdr
              have q1 := HBr.out.cells
              have l1 := HBr.out.lt
              clear hdr hbr
              by_cases hlt : i < kl
              · obtain ⟨L', hL'⟩ : ∃ L', L - 1 = L' := ⟨_, rfl⟩
                have e1 : (L : Int) - 1 = (L' : Int) := by have := hL1 (by omega); omega
                have HLL := Lib.hid hL'
                obtain ⟨y, hy⟩ : ∃ y, xf.kids[i]? = some y := ⟨_, List.getElem?_eq_getElem (by have := HKL.out; omega)⟩
                obtain ⟨b, o, u0, u1, u2, u3, u4, rfl, hb, c0, c1, c2, c3, c4, hv⟩ := HXr.out.hkid i y hy
                have hst := withinL_drop (f := withinV d) (L := L') (m := m) (n := n') hy
                have hwl := withinV_le d y L' (m - n')
                have hdr := HDR.out
                rw [hL', hst] at hdr
                obtain ⟨k, hk⟩ : ∃ k, withinV d y L' (m - n') = k := ⟨_, rfl⟩
                rw [hk] at hdr hwl
                have g1 : (i : Int) < (kl : Int) := by omega
                have g3 : IntKind.i64.wrap (L' : Int) = (L' : Int) := IntWalk.i64_in _ (by omega)
                have g4 : IntKind.i64.wrap (m - (n' : Int)) = m - (n' : Int) := IntWalk.i64_in _ (by omega)
                have HV := Lib.hid hv
                have HLT := Lib.hid hlt
                have HD2 := Lib.hid hdr
                have HK := Lib.hid hk
                clear hy hst hv hlt hi hL1 hdr hk hL'
                go_wp2_with fail
                refine (IH.out y _ L' (m - (n' : Int)) wr HV.out (by omega) (by omega) (by omega)).mono ?_; rintro e w2 ⟨rfl, hb2⟩
                rw [HK.out]
                have BEL2 := Lib.hid (BELr.out.trans (hb2.mono BELr.out.size))
                clear hb2 g3 g4
                by_cases hk0 : k = 0
                · have e : r = 0 := by have h := HD2.out; rw [if_pos hk0] at h; exact h.symm
                  subst e hk0
                  have BEL := Lib.hid (BEL1.out.trans (BEL2.out.mono BEL1.out.size))
                  clear HR2 HNO HYES HDR HD2 q1 l1
                  go_wp2
                  go_ret
                  exact ⟨rfl, by have h := BEL.out; exact (by repeat (first | (with_reducible exact Below.refl _ _) | (with_reducible exact Below.refl _ _) | (with_reducible refine Below.setCell ?_ (by first | omega | (simp; done) | (simp; omega)) _) | (with_reducible refine Below.alloc ?_ (by first | omega | (simp; done) | (simp; omega)) _) | (with_reducible refine Below.drew ?_) | (with_reducible refine below_drewN ?_ _) | (with_reducible refine Below.trans ?_ (h.mono (by first | omega | (simp; done) | (simp; omega))))))⟩
                · have d1 : ((k : Int) == 0) = false := by simp [hk0]
                  have HD3 := Lib.hid (show withinL (withinV d) L' m (xf.kids.drop (i + 1)) (n' + k) = r by have h := HD2.out; rw [if_neg hk0] at h; exact h)
                  have g5 : IntKind.i64.wrap ((n' : Int) + (k : Int)) = (n' : Int) + (k : Int) := IntWalk.i64_in _ (by omega)
                  go_wp2_with fail
                  go_roundw
                  case rel => exact ⟨i + 1, n' + k, HLT.out, by go_num, by go_num, by omega, by omega, by rw [HLL.out]; exact HD3.out, BEL2.out⟩
                  case measure => have := HLT.out; simp [intOf]; omega
              · have g1 : ¬ (i : Int) < (kl : Int) := by omega
                obtain rfl : i = kl := by omega
                have e : r = n' := by
                  have h := HDR.out
                  rw [← HKL.out, List.drop_length] at h
                  exact h.symm
                subst e
                have BEL := Lib.hid (BEL1.out.trans (BELr.out.mono BEL1.out.size))
                clear HR2 HNO HYES HDR hlt hi
                go_wp2
                go_ret
                exact ⟨rfl, by have h := BEL.out; exact (by repeat (first | (with_reducible exact Below.refl _ _) | (with_reducible exact Below.refl _ _) | (with_reducible refine Below.setCell ?_ (by first | omega | (simp; done) | (simp; omega)) _) | (with_reducible refine Below.alloc ?_ (by first | omega | (simp; done) | (simp; omega)) _) | (with_reducible refine Below.drew ?_) | (with_reducible refine below_drewN ?_ _) | (with_reducible refine Below.trans ?_ (h.mono (by first | omega | (simp; done) | (simp; omega))))))⟩
        · have HR2 := Lib.hid (show withinL (withinV d) (L - 1) m xf.kids 1 = r from HYES.out fun h => by rcases h with h | h | h; (omega); (rw [HAL.out] at h; cases h); (rw [HKD.out.1] at h; exact h5 h.1))
          have hk0 : kl = 0 := by
            by_cases hk : kl = 0
            · exact hk
            · exact absurd (alone_kids HAL.out (by rw [HKL.out]; exact hk)) (by rw [HKD.out.1]; exact h5)
          have hL1 : 0 < kl → 1 ≤ L := fun h => by omega
          clear hk0
          go_wp2_with fail
          go_loopw [7, 8] (fun nx ix wr => ∃ i n' : Nat, i ≤ kl ∧ ix = .int .i64 (i : Int) ∧ nx = .int .i64 (n' : Int) ∧ 1 ≤ n' ∧ (n' : Int) ≤ m ∧ withinL (withinV d) (L - 1) m (xf.kids.drop i) n' = r ∧ Below w1.heap.size w1 wr) (fun _ ix _ => kl - (intOf ix).toNat)
          case atStart => exact ⟨0, 1, Nat.zero_le _, by go_num, by go_num, by omega, by omega, HR2.out, Below.refl _ _⟩
          case round =>
            obtain ⟨i, n', hi, rfl, rfl, hn1, hnm, hdr, hbr⟩ := hrel
            have HBr := Lib.hid (HB1.out.ext hbr)
            have HXr := Lib.hid (HX1.out.ext hbr fun _ _ => ValAt.ext hbr d)
            have BELr := Lib.hid hbr
            have HDR := Lib.hid hdr
            have q1 := HBr.out.cells
            have l1 := HBr.out.lt
            clear hdr hbr
            by_cases hlt : i < kl
            · obtain ⟨L', hL'⟩ : ∃ L', L - 1 = L' := ⟨_, rfl⟩
              have e1 : (L : Int) - 1 = (L' : Int) := by have := hL1 (by omega); omega
              have HLL := Lib.hid hL'
              obtain ⟨y, hy⟩ : ∃ y, xf.kids[i]? = some y := ⟨_, List.getElem?_eq_getElem (by have := HKL.out; omega)⟩
              obtain ⟨b, o, u0, u1, u2, u3, u4, rfl, hb, c0, c1, c2, c3, c4, hv⟩ := HXr.out.hkid i y hy
              have hst := withinL_drop (f := withinV d) (L := L') (m := m) (n := n') hy
              have hwl := withinV_le d y L' (m - n')
              have hdr := HDR.out
              rw [hL', hst] at hdr
              obtain ⟨k, hk⟩ : ∃ k, withinV d y L' (m - n') = k := ⟨_, rfl⟩
              rw [hk] at hdr hwl
              have g1 : (i : Int) < (kl : Int) := by omega
              have g3 : IntKind.i64.wrap (L' : Int) = (L' : Int) := IntWalk.i64_in _ (by omega)
              have g4 : IntKind.i64.wrap (m - (n' : Int)) = m - (n' : Int) := IntWalk.i64_in _ (by omega)
              have HV := Lib.hid hv
              have HLT := Lib.hid hlt
              have HD2 := Lib.hid hdr
              have HK := Lib.hid hk
              clear hy hst hv hlt hi hL1 hdr hk hL'
              go_wp2_with fail
              refine (IH.out y _ L' (m - (n' : Int)) wr HV.out (by omega) (by omega) (by omega)).mono ?_; rintro e w2 ⟨rfl, hb2⟩
              rw [HK.out]
              have BEL2 := Lib.hid (BELr.out.trans (hb2.mono BELr.out.size))
              clear hb2 g3 g4
              by_cases hk0 : k = 0
              · have e : r = 0 := by have h := HD2.out; rw [if_pos hk0] at h; exact h.symm
                subst e hk0
                have BEL := Lib.hid (BEL1.out.trans (BEL2.out.mono BEL1.out.size))
                clear HR2 HNO HYES HDR HD2 q1 l1
                go_wp2
                go_ret
                exact ⟨rfl, by have h := BEL.out; exact (by repeat (first | (with_reducible exact Below.refl _ _) | (with_reducible exact Below.refl _ _) | (with_reducible refine Below.setCell ?_ (by first | omega | (simp; done) | (simp; omega)) _) | (with_reducible refine Below.alloc ?_ (by first | omega | (simp; done) | (simp; omega)) _) | (with_reducible refine Below.drew ?_) | (with_reducible refine below_drewN ?_ _) | (with_reducible refine Below.trans ?_ (h.mono (by first | omega | (simp; done) | (simp; omega))))))⟩
              · have d1 : ((k : Int) == 0) = false := by simp [hk0]
                have HD3 := Lib.hid (show withinL (withinV d) L' m (xf.kids.drop (i + 1)) (n' + k) = r by have h := HD2.out; rw [if_neg hk0] at h; exact h)
                have g5 : IntKind.i64.wrap ((n' : Int) + (k : Int)) = (n' : Int) + (k : Int) := IntWalk.i64_in _ (by omega)
                go_wp2_with fail
                go_roundw
                case rel => exact ⟨i + 1, n' + k, HLT.out, by go_num, by go_num, by omega, by omega, by rw [HLL.out]; exact HD3.out, BEL2.out⟩
                case measure => have := HLT.out; simp [intOf]; omega
            · have g1 : ¬ (i : Int) < (kl : Int) := by omega
              obtain rfl : i = kl := by omega
              have e : r = n' := by
                have h := HDR.out
                rw [← HKL.out, List.drop_length] at h
                exact h.symm
              subst e
              have BEL := Lib.hid (BEL1.out.trans (BELr.out.mono BEL1.out.size))
              clear HR2 HNO HYES HDR hlt hi
              go_wp2
              go_ret
              exact ⟨rfl, by have h := BEL.out; exact (by repeat (first | (with_reducible exact Below.refl _ _) | (with_reducible exact Below.refl _ _) | (with_reducible refine Below.setCell ?_ (by first | omega | (simp; done) | (simp; omega)) _) | (with_reducible refine Below.alloc ?_ (by first | omega | (simp; done) | (simp; omega)) _) | (with_reducible refine Below.drew ?_) | (with_reducible refine below_drewN ?_ _) | (with_reducible refine Below.trans ?_ (h.mono (by first | omega | (simp; done) | (simp; omega))))))⟩

theorem Try_rRight (d : Nat) (x : ValN d) (v : Value) (w : World) (h : ValAt w d v x) :
    Calls Try.prog 39 #[v] w fun e w' => e = .returned (.bool (rightV d x)) ∧ Below w.heap.size w w' := by
  have HX := Lib.hid h
  obtain ⟨d', rfl⟩ : ∃ d', d = d' + 1 := by
    cases d with
    | zero => exact h.elim
    | succ d => exact ⟨d, rfl⟩
  obtain ⟨ka, kl, kc, qa, ql, qc, hi⟩ := h
  have hv := hi.val
  clear hi
  subst hv
  obtain ⟨c, hc⟩ : ∃ c, w.alloc (.cells #[.int .i64 x.to.kind, .int .i64 x.to.n, .string x.to.s, .slice ka kl kc, .slice qa ql qc] 51) = c := ⟨_, rfl⟩
  have hb : Below w.heap.size w c := by rw [← hc]; exact (by repeat (first | (with_reducible exact Below.refl _ _) | (with_reducible exact Below.refl _ _) | (with_reducible refine Below.setCell ?_ (by first | omega | (simp; done) | (simp; omega)) _) | (with_reducible refine Below.alloc ?_ (by first | omega | (simp; done) | (simp; omega)) _) | (with_reducible refine Below.drew ?_) | (with_reducible refine below_drewN ?_ _)))
  have HC := Lib.hid hc
  have HB := Lib.hid hb
  have hX2 := Lib.hid (ValAt.ext hb _ HX.out)
  obtain ⟨r, hr⟩ : ∃ r, withinV (d' + 1) x 8 256 = r := ⟨_, rfl⟩
  have HRR := Lib.hid hr
  have HQ := Lib.hid (show rightV (d' + 1) x = decide (0 < r) by unfold rightV; rw [hr])
  clear hc hb hr HX
  rw [HQ.out]
  clear HQ
  go_enter Try.func39, Try.ntmps39
  go_wp2_with fail
  rw [HC.out]
  have hA := Try_rWithin (d' + 1) x _ 8 256 c hX2.out (by omega) (by omega) (by omega)
  rw [HRR.out] at hA
  refine hA.mono ?_; rintro e w2 ⟨rfl, hb2⟩
  have BEL := Lib.hid (HB.out.trans (hb2.mono HB.out.size))
  clear hb2
  go_wp2
  go_ret
  exact ⟨by simp, BEL.out⟩
end Go.Proofs.Ytdebmifjfemcjaa
