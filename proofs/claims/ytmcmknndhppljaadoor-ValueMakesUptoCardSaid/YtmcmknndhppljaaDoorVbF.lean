/-
  The reference of layer 4: Zero, alone, walked.
  The reference of layer 4: within, Right, walked.
-/
import Derived.Test.YtmcmknndhppljaaDoorVbC
import Derived.Laws.EntriesVeiled
import Derived.BigQuiet
namespace Go.Proofs.YtmcmknndhppljaaDoor
set_option linter.unusedVariables false
set_option linter.unusedSimpArgs false
open Go.RowKit Go.Dav
attribute [local go_sem] Gives ite_val ite_val_true

theorem Tryd_rZero {K : Type} (R : Value → K → Prop) (x : ValF K) (v : Value) (ka qa : Option Addr) (kl kc ql qc : Nat) (w : World) (h : ValIs w R v x ka kl kc qa ql qc) :
    Calls Tryd.prog 21 #[v] w fun e w' => e = .returned (.bool (zeroF x)) ∧ Below w.heap.size w w' := by
  obtain ⟨kind, n, s, kids, keys⟩ := x
  have hv := h.val
  have hkl := h.hlen
  have hql := h.keys.hlen
  dsimp only at hv hkl hql
  subst hv
  obtain ⟨r, hr⟩ : ∃ r, zeroF (⟨kind, n, s, kids, keys⟩ : ValF K) = r := ⟨_, rfl⟩
  rw [hr]
  unfold zeroF strEmpty at hr
  dsimp only at hr
  rw [hkl, hql] at hr
  have HR := Lib.hid hr
  clear hr h hkl hql
  go_enter Tryd.func21, Tryd.ntmps21
  go_wp2
  all_goals
    go_ret
    refine ⟨?_, (by repeat (first | (with_reducible exact Below.refl _ _) | (with_reducible exact Below.refl _ _) | (with_reducible refine Below.setCell ?_ (by first | omega | (simp; done) | (simp; omega)) _) | (with_reducible refine Below.alloc ?_ (by first | omega | (simp; done) | (simp; omega)) _) | (with_reducible refine Below.drew ?_) | (with_reducible refine below_drewN ?_ _)))⟩
    rw [← HR.out]
    simp [*] <;> (rw [Bool.eq_iff_iff]; simp)

set_option maxRecDepth 8000 in
set_option maxHeartbeats 8000000 in
theorem Tryd_rAlone {K : Type} (R : Value → K → Prop) (x : ValF K) (v : Value) (ka qa : Option Addr) (kl kc ql qc : Nat) (w : World) (h : ValIs w R v x ka kl kc qa ql qc) :
    Calls Tryd.prog 78 #[v] w fun e w' => e = .returned (.bool (aloneB x)) ∧ Below w.heap.size w w' := by
  obtain ⟨kind, n, s, kids, keys⟩ := x
  have hv := h.val
  have hkl := h.hlen
  have hK := h.keys
  have hs := h.hs
  have hql := hK.hlen
  dsimp only at hv hkl hql hK hs
  subst hv
  have hkf := h.hfew
  have hqf := hK.hfew
  obtain ⟨r, hr⟩ : ∃ r, aloneB (⟨kind, n, s, kids, keys⟩ : ValF K) = r := ⟨_, rfl⟩
  rw [hr]
  unfold aloneB strEmpty at hr
  dsimp only at hr
  rw [hkl, hql] at hr
  have HR := Lib.hid hr
  obtain ⟨W0, hW0⟩ : ∃ W0, w.alloc (.cells #[.int .i64 kind, .int .i64 n, .string s, .slice ka kl kc, .slice qa ql qc] 39) = W0 := ⟨_, rfl⟩
  have bel0 : Below w.heap.size w W0 := by rw [← hW0]; exact (by repeat (first | (with_reducible exact Below.refl _ _) | (with_reducible exact Below.refl _ _) | (with_reducible refine Below.setCell ?_ (by first | omega | (simp; done) | (simp; omega)) _) | (with_reducible refine Below.alloc ?_ (by first | omega | (simp; done) | (simp; omega)) _) | (with_reducible refine Below.drew ?_) | (with_reducible refine below_drewN ?_ _)))
  have HB0 := Lib.hid (show Blk W0 w.heap.size [.int .i64 kind, .int .i64 n, .string s, .slice ka kl kc, .slice qa ql qc] 39 by rw [← hW0]; exact Blk.new _ _ _)
  have HKS := Lib.hid (hK.ext bel0)
  have BEL0 := Lib.hid bel0
  have HW0 := Lib.hid hW0
  have HQL := Lib.hid hql
  have HS := Lib.hid hs
  clear hr h hkl hql hK bel0 hW0 hs
  go_enter Tryd.func78, Tryd.ntmps78
  go_wp2_with fail
  rw [HW0.out]
  go_loopw [3] (fun ix wr => ∃ i : Nat, i ≤ ql ∧ ix = .int .i64 (i : Int) ∧ keysTo keys i = true ∧ Below W0.heap.size W0 wr) (fun ix _ => ql - (intOf ix).toNat)
  case atStart => exact ⟨0, Nat.zero_le _, by go_num, rfl, Below.refl _ _⟩
  case round =>
    obtain ⟨i, hi, rfl, hkt, hbr⟩ := hrel
    have HBr := Lib.hid (HB0.out.ext hbr)
    have HBL := Lib.hid hbr
    have HKT := Lib.hid hkt
    have q1 := HBr.out.cells
    have l1 := HBr.out.lt
    clear hbr hkt
    by_cases hlt : i < ql
    · have g1 : (i : Int) < (ql : Int) := by omega
      obtain ⟨u, hu⟩ : ∃ u, keys[i]? = some u := ⟨_, List.getElem?_eq_getElem (by have := HQL.out; omega)⟩
      obtain ⟨b, o, rfl, hb, hcell⟩ := (HKS.out.ext HBL.out).hat i u hu
      have hsz := HKS.out.hsz u (List.mem_of_getElem? hu)
      have hgd : keys.getD i default = u := by rw [List.getD, hu]; rfl
      have hsucc := keysTo_succ keys i
      rw [hgd, HKT.out, Bool.true_and] at hsucc
      have HSU := Lib.hid hsucc
      have HSZ := Lib.hid hsz
      have HLT := Lib.hid hlt
      clear hgd hsucc hsz hlt hi
      cases hvu : validB u.data.toList with
      | false =>
        have HV := Lib.hid hvu
        clear hvu hu
        go_wp2_with fail
        refine' wp_region_seq [(Sum.inl _ : Piece), (Sum.inl _ : Piece), (Sum.inl _ : Piece), (Sum.inl _ : Piece), (Sum.inl _ : Piece), (Sum.inl _ : Piece), (Sum.inl _ : Piece), (Sum.inl _ : Piece), (Sum.inl undef : Piece), (Sum.inl undef : Piece), (Sum.inl undef : Piece), (Sum.inl undef : Piece), (Sum.inl undef : Piece), (Sum.inl undef : Piece), (Sum.inl undef : Piece), (Sum.inl undef : Piece), (Sum.inl undef : Piece), (Sum.inl undef : Piece), (Sum.inl undef : Piece), (Sum.inl undef : Piece), (Sum.inl undef : Piece), (Sum.inl undef : Piece), (Sum.inl undef : Piece), (Sum.inl undef : Piece), (Sum.inl _ : Piece)] (by kernel_rfl) (by kernel_rfl) ?main1
        case main1 =>
          refine wpParts_det (by rfl) (fun W hE hN => ?_) ?_
          · go_simp; refine ⟨Below.refl _ _, ?_⟩; rfl
          simp only [Act.put, List.setIfInBounds_toArray, List.set_cons_zero, List.set_cons_succ]
          refine wpParts_det (by rfl) (fun W hE hN => ?_) ?_
          · have hc := fun b o h => hE.cell (p := ⟨b, o, none⟩) h
            go_simp; refine ⟨Below.refl _ _, ?_⟩; rfl
          simp only [Act.put, List.setIfInBounds_toArray, List.set_cons_zero, List.set_cons_succ]
          refine wpParts_det (by rfl) (fun W hE hN => ?_) ?_
          · go_simp; refine ⟨Below.refl _ _, ?_⟩; rfl
          simp only [Act.put, List.setIfInBounds_toArray, List.set_cons_zero, List.set_cons_succ]
          refine wpParts_det (by rfl) (fun W hE hN => ?_) ?_
          · go_simp; refine ⟨Below.refl _ _, ?_⟩; rfl
          simp only [Act.put, List.setIfInBounds_toArray, List.set_cons_zero, List.set_cons_succ]
          refine wpParts_det (by rfl) (fun W hE hN => ?_) ?_
          · have hc := fun b o h => hE.cell (p := ⟨b, o, none⟩) h
            go_simp; refine ⟨Below.refl _ _, ?_⟩; rfl
          simp only [Act.put, List.setIfInBounds_toArray, List.set_cons_zero, List.set_cons_succ]
          refine wpParts_det (by rfl) (fun W hE hN => ?_) ?_
          · go_simp; refine ⟨Below.refl _ _, ?_⟩; refine (Tryd_rValid u W HSZ.out).mono ?_; rintro e w' ⟨rfl, hb⟩; rw [HV.out]; refine ⟨?_, hb⟩; rfl
          simp only [Act.put, List.setIfInBounds_toArray, List.set_cons_zero, List.set_cons_succ]
          refine wpParts_det (by rfl) (fun W hE hN => ?_) ?_
          · go_simp; refine ⟨Below.refl _ _, ?_⟩; rfl
          simp only [Act.put, List.setIfInBounds_toArray, List.set_cons_zero, List.set_cons_succ]
          refine wpParts_det (by rfl) (fun W hE hN => ?_) ?_
          · go_simp; refine ⟨Below.refl _ _, ?_⟩; rfl
          simp only [Act.put, List.setIfInBounds_toArray, List.set_cons_zero, List.set_cons_succ]
          refine wpParts_skip ?_ ?_
          · rfl
          simp only [Act.put, List.setIfInBounds_toArray, List.set_cons_zero, List.set_cons_succ]
          refine wpParts_skip ?_ ?_
          · rfl
          simp only [Act.put, List.setIfInBounds_toArray, List.set_cons_zero, List.set_cons_succ]
          refine wpParts_skip ?_ ?_
          · rfl
          simp only [Act.put, List.setIfInBounds_toArray, List.set_cons_zero, List.set_cons_succ]
          refine wpParts_skip ?_ ?_
          · rfl
          simp only [Act.put, List.setIfInBounds_toArray, List.set_cons_zero, List.set_cons_succ]
          refine wpParts_skip ?_ ?_
          · rfl
          simp only [Act.put, List.setIfInBounds_toArray, List.set_cons_zero, List.set_cons_succ]
          refine wpParts_skip ?_ ?_
          · rfl
          simp only [Act.put, List.setIfInBounds_toArray, List.set_cons_zero, List.set_cons_succ]
          refine wpParts_skip ?_ ?_
          · rfl
          simp only [Act.put, List.setIfInBounds_toArray, List.set_cons_zero, List.set_cons_succ]
          refine wpParts_skip ?_ ?_
          · rfl
          simp only [Act.put, List.setIfInBounds_toArray, List.set_cons_zero, List.set_cons_succ]
          refine wpParts_skip ?_ ?_
          · rfl
          simp only [Act.put, List.setIfInBounds_toArray, List.set_cons_zero, List.set_cons_succ]
          refine wpParts_skip ?_ ?_
          · rfl
          simp only [Act.put, List.setIfInBounds_toArray, List.set_cons_zero, List.set_cons_succ]
          refine wpParts_skip ?_ ?_
          · rfl
          simp only [Act.put, List.setIfInBounds_toArray, List.set_cons_zero, List.set_cons_succ]
          refine wpParts_skip ?_ ?_
          · rfl
          simp only [Act.put, List.setIfInBounds_toArray, List.set_cons_zero, List.set_cons_succ]
          refine wpParts_skip ?_ ?_
          · rfl
          simp only [Act.put, List.setIfInBounds_toArray, List.set_cons_zero, List.set_cons_succ]
          refine wpParts_skip ?_ ?_
          · rfl
          simp only [Act.put, List.setIfInBounds_toArray, List.set_cons_zero, List.set_cons_succ]
          refine wpParts_skip ?_ ?_
          · rfl
          simp only [Act.put, List.setIfInBounds_toArray, List.set_cons_zero, List.set_cons_succ]
          refine wpParts_skip ?_ ?_
          · rfl
          simp only [Act.put, List.setIfInBounds_toArray, List.set_cons_zero, List.set_cons_succ]
          refine wpParts_det (by rfl) (fun W hE hN => ?_) ?_
          · go_simp; refine ⟨Below.refl _ _, ?_⟩; rfl
          simp only [Act.put, List.setIfInBounds_toArray, List.set_cons_zero, List.set_cons_succ]
          refine wpParts_end fun W2 hE2 hG2 => ?_
          have hcW2 := fun b o h => hE2.cell (p := ⟨b, o, none⟩) h
          have hfW2 := fun b o h => hE2.frozen (p := ⟨b, o, none⟩) h
          have e : r = false := by
            rw [← HR.out]
            have h1 : keysTo keys ql = false := by
              cases hkq : keysTo keys ql with
              | false => rfl
              | true =>
                have h2 := keysTo_mono hkq (show i + 1 ≤ ql from HLT.out)
                rw [HSU.out, HV.out] at h2
                cases h2
            rw [h1, Bool.false_and]
          subst e
          have BEL := Lib.hid (BEL0.out.trans ((HBL.out.trans (hE2.mono HBL.out.size)).mono BEL0.out.size))
          clear hE2 hcW2 hfW2 q1 l1
          go_wp2
          go_ret
          exact ⟨rfl, BEL.out⟩
      | true =>
        have HV := Lib.hid hvu
        clear hvu
        cases i with
        | zero =>
          have hk1 := Lib.hid (show keysTo keys 1 = true by rw [HSU.out, HV.out]; rfl)
          rw [Nat.add_zero] at hcell
          have g0 : 0 < ql := HLT.out
          clear hu
          go_wp2_with fail
          refine' wp_region_seq [(Sum.inl _ : Piece), (Sum.inl _ : Piece), (Sum.inl _ : Piece), (Sum.inl _ : Piece), (Sum.inl _ : Piece), (Sum.inl _ : Piece), (Sum.inl _ : Piece), (Sum.inl _ : Piece), (Sum.inl _ : Piece), (Sum.inl _ : Piece), (Sum.inl _ : Piece), (Sum.inl undef : Piece), (Sum.inl undef : Piece), (Sum.inl undef : Piece), (Sum.inl undef : Piece), (Sum.inl undef : Piece), (Sum.inl undef : Piece), (Sum.inl undef : Piece), (Sum.inl undef : Piece), (Sum.inl undef : Piece), (Sum.inl undef : Piece), (Sum.inl undef : Piece), (Sum.inl undef : Piece), (Sum.inl _ : Piece), (Sum.inl _ : Piece)] (by kernel_rfl) (by kernel_rfl) ?main2
          case main2 =>
            refine wpParts_det (by rfl) (fun W hE hN => ?_) ?_
            · go_simp; refine ⟨Below.refl _ _, ?_⟩; rfl
            simp only [Act.put, List.setIfInBounds_toArray, List.set_cons_zero, List.set_cons_succ]
            refine wpParts_det (by rfl) (fun W hE hN => ?_) ?_
            · have hc := fun b o h => hE.cell (p := ⟨b, o, none⟩) h
              go_simp; refine ⟨Below.refl _ _, ?_⟩; rfl
            simp only [Act.put, List.setIfInBounds_toArray, List.set_cons_zero, List.set_cons_succ]
            refine wpParts_det (by rfl) (fun W hE hN => ?_) ?_
            · go_simp; refine ⟨Below.refl _ _, ?_⟩; rfl
            simp only [Act.put, List.setIfInBounds_toArray, List.set_cons_zero, List.set_cons_succ]
            refine wpParts_det (by rfl) (fun W hE hN => ?_) ?_
            · go_simp; refine ⟨Below.refl _ _, ?_⟩; rfl
            simp only [Act.put, List.setIfInBounds_toArray, List.set_cons_zero, List.set_cons_succ]
            refine wpParts_det (by rfl) (fun W hE hN => ?_) ?_
            · have hc := fun b o h => hE.cell (p := ⟨b, o, none⟩) h
              go_simp; refine ⟨Below.refl _ _, ?_⟩; rfl
            simp only [Act.put, List.setIfInBounds_toArray, List.set_cons_zero, List.set_cons_succ]
            refine wpParts_det (by rfl) (fun W hE hN => ?_) ?_
            · go_simp; refine ⟨Below.refl _ _, ?_⟩; refine (Tryd_rValid u W HSZ.out).mono ?_; rintro e w' ⟨rfl, hb⟩; rw [HV.out]; refine ⟨?_, hb⟩; rfl
            simp only [Act.put, List.setIfInBounds_toArray, List.set_cons_zero, List.set_cons_succ]
            refine wpParts_det (by rfl) (fun W hE hN => ?_) ?_
            · go_simp; refine ⟨Below.refl _ _, ?_⟩; rfl
            simp only [Act.put, List.setIfInBounds_toArray, List.set_cons_zero, List.set_cons_succ]
            refine wpParts_det (by rfl) (fun W hE hN => ?_) ?_
            · go_simp; refine ⟨Below.refl _ _, ?_⟩; rfl
            simp only [Act.put, List.setIfInBounds_toArray, List.set_cons_zero, List.set_cons_succ]
            refine wpParts_det (by rfl) (fun W hE hN => ?_) ?_
            · go_simp; refine ⟨Below.refl _ _, ?_⟩; rfl
            simp only [Act.put, List.setIfInBounds_toArray, List.set_cons_zero, List.set_cons_succ]
            refine wpParts_det (by rfl) (fun W hE hN => ?_) ?_
            · go_simp; refine ⟨Below.refl _ _, ?_⟩; rfl
            simp only [Act.put, List.setIfInBounds_toArray, List.set_cons_zero, List.set_cons_succ]
            refine wpParts_det (by rfl) (fun W hE hN => ?_) ?_
            · go_simp; refine ⟨Below.refl _ _, ?_⟩; rfl
            simp only [Act.put, List.setIfInBounds_toArray, List.set_cons_zero, List.set_cons_succ]
            refine wpParts_skip ?_ ?_
            · rfl
            simp only [Act.put, List.setIfInBounds_toArray, List.set_cons_zero, List.set_cons_succ]
            refine wpParts_skip ?_ ?_
            · rfl
            simp only [Act.put, List.setIfInBounds_toArray, List.set_cons_zero, List.set_cons_succ]
            refine wpParts_skip ?_ ?_
            · rfl
            simp only [Act.put, List.setIfInBounds_toArray, List.set_cons_zero, List.set_cons_succ]
            refine wpParts_skip ?_ ?_
            · rfl
            simp only [Act.put, List.setIfInBounds_toArray, List.set_cons_zero, List.set_cons_succ]
            refine wpParts_skip ?_ ?_
            · rfl
            simp only [Act.put, List.setIfInBounds_toArray, List.set_cons_zero, List.set_cons_succ]
            refine wpParts_skip ?_ ?_
            · rfl
            simp only [Act.put, List.setIfInBounds_toArray, List.set_cons_zero, List.set_cons_succ]
            refine wpParts_skip ?_ ?_
            · rfl
            simp only [Act.put, List.setIfInBounds_toArray, List.set_cons_zero, List.set_cons_succ]
            refine wpParts_skip ?_ ?_
            · rfl
            simp only [Act.put, List.setIfInBounds_toArray, List.set_cons_zero, List.set_cons_succ]
            refine wpParts_skip ?_ ?_
            · rfl
            simp only [Act.put, List.setIfInBounds_toArray, List.set_cons_zero, List.set_cons_succ]
            refine wpParts_skip ?_ ?_
            · rfl
            simp only [Act.put, List.setIfInBounds_toArray, List.set_cons_zero, List.set_cons_succ]
            refine wpParts_skip ?_ ?_
            · rfl
            simp only [Act.put, List.setIfInBounds_toArray, List.set_cons_zero, List.set_cons_succ]
            refine wpParts_skip ?_ ?_
            · rfl
            simp only [Act.put, List.setIfInBounds_toArray, List.set_cons_zero, List.set_cons_succ]
            refine wpParts_det (by rfl) (fun W hE hN => ?_) ?_
            · go_simp; refine ⟨Below.refl _ _, ?_⟩; rfl
            simp only [Act.put, List.setIfInBounds_toArray, List.set_cons_zero, List.set_cons_succ]
            refine wpParts_det (by rfl) (fun W hE hN => ?_) ?_
            · go_simp; refine ⟨Below.refl _ _, ?_⟩; rfl
            simp only [Act.put, List.setIfInBounds_toArray, List.set_cons_zero, List.set_cons_succ]
            refine wpParts_end fun W2 hE2 hG2 => ?_
            have hcW2 := fun b o h => hE2.cell (p := ⟨b, o, none⟩) h
            have hfW2 := fun b o h => hE2.frozen (p := ⟨b, o, none⟩) h
            have BEL := Lib.hid (HBL.out.trans (hE2.mono HBL.out.size))
            clear hE2 hcW2 hfW2 q1 l1
            go_wp2_with fail
            go_roundw
            case rel => exact ⟨1, HLT.out, by go_num, hk1.out, BEL.out⟩
            case measure => have := HLT.out; simp [intOf]; omega
        | succ j =>
          obtain ⟨u', hu'⟩ : ∃ u, keys[j]? = some u := ⟨_, List.getElem?_eq_getElem (by have := HQL.out; have := HLT.out; omega)⟩
          obtain ⟨b', o', e', _, hcell'⟩ := (HKS.out.ext HBL.out).hat j u' hu'
          cases e'
          have hgd' : keys.getD j default = u' := by rw [List.getD, hu']; rfl
          have g2 : (j : Int) < (ql : Int) := by omega
          have u1 : IntKind.i64.wrap (j : Int) = (j : Int) := IntWalk.i64_in _ (by omega)
          obtain ⟨le, hle⟩ : ∃ le, Op.bytesLess u'.toList u.toList = le := ⟨_, rfl⟩
          have hsu := HSU.out
          rw [HV.out, Nat.add_sub_cancel, hgd', hle] at hsu
          simp only [Bool.true_and, Nat.add_eq_zero_iff, Nat.succ_ne_zero, and_false, decide_false, Bool.false_or] at hsu
          have HSU2 := Lib.hid hsu
          have HLE := Lib.hid hle
          clear hu hu' hgd' hsu
          cases le with
          | true =>
            go_wp2_with fail
            refine' wp_region_seq [(Sum.inl _ : Piece), (Sum.inl _ : Piece), (Sum.inl _ : Piece), (Sum.inl _ : Piece), (Sum.inl _ : Piece), (Sum.inl _ : Piece), (Sum.inl _ : Piece), (Sum.inl _ : Piece), (Sum.inl _ : Piece), (Sum.inl _ : Piece), (Sum.inl _ : Piece), (Sum.inl _ : Piece), (Sum.inl _ : Piece), (Sum.inl _ : Piece), (Sum.inl _ : Piece), (Sum.inl _ : Piece), (Sum.inl _ : Piece), (Sum.inl _ : Piece), (Sum.inl _ : Piece), (Sum.inl _ : Piece), (Sum.inl _ : Piece), (Sum.inl _ : Piece), (Sum.inl _ : Piece), (Sum.inl _ : Piece), (Sum.inl _ : Piece)] (by kernel_rfl) (by kernel_rfl) ?main3
            case main3 =>
              refine wpParts_det (by rfl) (fun W hE hN => ?_) ?_
              · go_simp; refine ⟨Below.refl _ _, ?_⟩; rfl
              simp only [Act.put, List.setIfInBounds_toArray, List.set_cons_zero, List.set_cons_succ]
              refine wpParts_det (by rfl) (fun W hE hN => ?_) ?_
              · have hc := fun b o h => hE.cell (p := ⟨b, o, none⟩) h
                go_simp; refine ⟨Below.refl _ _, ?_⟩; rfl
              simp only [Act.put, List.setIfInBounds_toArray, List.set_cons_zero, List.set_cons_succ]
              refine wpParts_det (by rfl) (fun W hE hN => ?_) ?_
              · go_simp; refine ⟨Below.refl _ _, ?_⟩; rfl
              simp only [Act.put, List.setIfInBounds_toArray, List.set_cons_zero, List.set_cons_succ]
              refine wpParts_det (by rfl) (fun W hE hN => ?_) ?_
              · go_simp; refine ⟨Below.refl _ _, ?_⟩; rfl
              simp only [Act.put, List.setIfInBounds_toArray, List.set_cons_zero, List.set_cons_succ]
              refine wpParts_det (by rfl) (fun W hE hN => ?_) ?_
              · have hc := fun b o h => hE.cell (p := ⟨b, o, none⟩) h
                go_simp; refine ⟨Below.refl _ _, ?_⟩; rfl
              simp only [Act.put, List.setIfInBounds_toArray, List.set_cons_zero, List.set_cons_succ]
              refine wpParts_det (by rfl) (fun W hE hN => ?_) ?_
              · go_simp; refine ⟨Below.refl _ _, ?_⟩; refine (Tryd_rValid u W HSZ.out).mono ?_; rintro e w' ⟨rfl, hb⟩; rw [HV.out]; refine ⟨?_, hb⟩; rfl
              simp only [Act.put, List.setIfInBounds_toArray, List.set_cons_zero, List.set_cons_succ]
              refine wpParts_det (by rfl) (fun W hE hN => ?_) ?_
              · go_simp; refine ⟨Below.refl _ _, ?_⟩; rfl
              simp only [Act.put, List.setIfInBounds_toArray, List.set_cons_zero, List.set_cons_succ]
              refine wpParts_det (by rfl) (fun W hE hN => ?_) ?_
              · go_simp; refine ⟨Below.refl _ _, ?_⟩; rfl
              simp only [Act.put, List.setIfInBounds_toArray, List.set_cons_zero, List.set_cons_succ]
              refine wpParts_det (by rfl) (fun W hE hN => ?_) ?_
              · go_simp; refine ⟨Below.refl _ _, ?_⟩; rfl
              simp only [Act.put, List.setIfInBounds_toArray, List.set_cons_zero, List.set_cons_succ]
              refine wpParts_det (by rfl) (fun W hE hN => ?_) ?_
              · go_simp; refine ⟨Below.refl _ _, ?_⟩; rfl
              simp only [Act.put, List.setIfInBounds_toArray, List.set_cons_zero, List.set_cons_succ]
              refine wpParts_det (by rfl) (fun W hE hN => ?_) ?_
              · go_simp; refine ⟨Below.refl _ _, ?_⟩; rfl
              simp only [Act.put, List.setIfInBounds_toArray, List.set_cons_zero, List.set_cons_succ]
              refine wpParts_det (by rfl) (fun W hE hN => ?_) ?_
              · go_simp; refine ⟨Below.refl _ _, ?_⟩; rfl
              simp only [Act.put, List.setIfInBounds_toArray, List.set_cons_zero, List.set_cons_succ]
              refine wpParts_det (by rfl) (fun W hE hN => ?_) ?_
              · have hc := fun b o h => hE.cell (p := ⟨b, o, none⟩) h
                go_simp; refine ⟨Below.refl _ _, ?_⟩; rfl
              simp only [Act.put, List.setIfInBounds_toArray, List.set_cons_zero, List.set_cons_succ]
              refine wpParts_det (by rfl) (fun W hE hN => ?_) ?_
              · go_simp; refine ⟨Below.refl _ _, ?_⟩; rfl
              simp only [Act.put, List.setIfInBounds_toArray, List.set_cons_zero, List.set_cons_succ]
              refine wpParts_det (by rfl) (fun W hE hN => ?_) ?_
              · go_simp; refine ⟨Below.refl _ _, ?_⟩; rfl
              simp only [Act.put, List.setIfInBounds_toArray, List.set_cons_zero, List.set_cons_succ]
              refine wpParts_det (by rfl) (fun W hE hN => ?_) ?_
              · go_simp; refine ⟨Below.refl _ _, ?_⟩; rfl
              simp only [Act.put, List.setIfInBounds_toArray, List.set_cons_zero, List.set_cons_succ]
              refine wpParts_det (by rfl) (fun W hE hN => ?_) ?_
              · have hc := fun b o h => hE.cell (p := ⟨b, o, none⟩) h
                go_simp; refine ⟨Below.refl _ _, ?_⟩; rfl
              simp only [Act.put, List.setIfInBounds_toArray, List.set_cons_zero, List.set_cons_succ]
              refine wpParts_det (by rfl) (fun W hE hN => ?_) ?_
              · go_simp; refine ⟨Below.refl _ _, ?_⟩; rfl
              simp only [Act.put, List.setIfInBounds_toArray, List.set_cons_zero, List.set_cons_succ]
              refine wpParts_det (by rfl) (fun W hE hN => ?_) ?_
              · have hc := fun b o h => hE.cell (p := ⟨b, o, none⟩) h
                go_simp; refine ⟨Below.refl _ _, ?_⟩; rfl
              simp only [Act.put, List.setIfInBounds_toArray, List.set_cons_zero, List.set_cons_succ]
              refine wpParts_det (by rfl) (fun W hE hN => ?_) ?_
              · go_simp; refine ⟨Below.refl _ _, ?_⟩; rfl
              simp only [Act.put, List.setIfInBounds_toArray, List.set_cons_zero, List.set_cons_succ]
              refine wpParts_det (by rfl) (fun W hE hN => ?_) ?_
              · go_simp; refine ⟨Below.refl _ _, ?_⟩; rfl
              simp only [Act.put, List.setIfInBounds_toArray, List.set_cons_zero, List.set_cons_succ]
              refine wpParts_det (by rfl) (fun W hE hN => ?_) ?_
              · have hc := fun b o h => hE.cell (p := ⟨b, o, none⟩) h
                go_simp; refine ⟨Below.refl _ _, ?_⟩; rfl
              simp only [Act.put, List.setIfInBounds_toArray, List.set_cons_zero, List.set_cons_succ]
              refine wpParts_det (by rfl) (fun W hE hN => ?_) ?_
              · go_simp; refine ⟨Below.refl _ _, ?_⟩; rfl
              simp only [Act.put, List.setIfInBounds_toArray, List.set_cons_zero, List.set_cons_succ]
              refine wpParts_det (by rfl) (fun W hE hN => ?_) ?_
              · go_simp; refine ⟨Below.refl _ _, ?_⟩; rfl
              simp only [Act.put, List.setIfInBounds_toArray, List.set_cons_zero, List.set_cons_succ]
              refine wpParts_det (by rfl) (fun W hE hN => ?_) ?_
              · go_simp; refine ⟨Below.refl _ _, ?_⟩; rfl
              simp only [Act.put, List.setIfInBounds_toArray, List.set_cons_zero, List.set_cons_succ]
              refine wpParts_end fun W2 hE2 hG2 => ?_
              have hcW2 := fun b o h => hE2.cell (p := ⟨b, o, none⟩) h
              have hfW2 := fun b o h => hE2.frozen (p := ⟨b, o, none⟩) h
              have BEL := Lib.hid (HBL.out.trans (hE2.mono HBL.out.size))
              clear hE2 hcW2 hfW2 q1 l1
              go_wp2_with fail
              go_roundw
              case rel => exact ⟨j + 1 + 1, HLT.out, by go_num, HSU2.out, BEL.out⟩
              case measure => have := HLT.out; simp [intOf]; omega
          | false =>
            go_wp2_with fail
            refine' wp_region_seq [(Sum.inl _ : Piece), (Sum.inl _ : Piece), (Sum.inl _ : Piece), (Sum.inl _ : Piece), (Sum.inl _ : Piece), (Sum.inl _ : Piece), (Sum.inl _ : Piece), (Sum.inl _ : Piece), (Sum.inl _ : Piece), (Sum.inl _ : Piece), (Sum.inl _ : Piece), (Sum.inl _ : Piece), (Sum.inl _ : Piece), (Sum.inl _ : Piece), (Sum.inl _ : Piece), (Sum.inl _ : Piece), (Sum.inl _ : Piece), (Sum.inl _ : Piece), (Sum.inl _ : Piece), (Sum.inl _ : Piece), (Sum.inl _ : Piece), (Sum.inl _ : Piece), (Sum.inl _ : Piece), (Sum.inl _ : Piece), (Sum.inl _ : Piece)] (by kernel_rfl) (by kernel_rfl) ?main4
            case main4 =>
              refine wpParts_det (by rfl) (fun W hE hN => ?_) ?_
              · go_simp; refine ⟨Below.refl _ _, ?_⟩; rfl
              simp only [Act.put, List.setIfInBounds_toArray, List.set_cons_zero, List.set_cons_succ]
              refine wpParts_det (by rfl) (fun W hE hN => ?_) ?_
              · have hc := fun b o h => hE.cell (p := ⟨b, o, none⟩) h
                go_simp; refine ⟨Below.refl _ _, ?_⟩; rfl
              simp only [Act.put, List.setIfInBounds_toArray, List.set_cons_zero, List.set_cons_succ]
              refine wpParts_det (by rfl) (fun W hE hN => ?_) ?_
              · go_simp; refine ⟨Below.refl _ _, ?_⟩; rfl
              simp only [Act.put, List.setIfInBounds_toArray, List.set_cons_zero, List.set_cons_succ]
              refine wpParts_det (by rfl) (fun W hE hN => ?_) ?_
              · go_simp; refine ⟨Below.refl _ _, ?_⟩; rfl
              simp only [Act.put, List.setIfInBounds_toArray, List.set_cons_zero, List.set_cons_succ]
              refine wpParts_det (by rfl) (fun W hE hN => ?_) ?_
              · have hc := fun b o h => hE.cell (p := ⟨b, o, none⟩) h
                go_simp; refine ⟨Below.refl _ _, ?_⟩; rfl
              simp only [Act.put, List.setIfInBounds_toArray, List.set_cons_zero, List.set_cons_succ]
              refine wpParts_det (by rfl) (fun W hE hN => ?_) ?_
              · go_simp; refine ⟨Below.refl _ _, ?_⟩; refine (Tryd_rValid u W HSZ.out).mono ?_; rintro e w' ⟨rfl, hb⟩; rw [HV.out]; refine ⟨?_, hb⟩; rfl
              simp only [Act.put, List.setIfInBounds_toArray, List.set_cons_zero, List.set_cons_succ]
              refine wpParts_det (by rfl) (fun W hE hN => ?_) ?_
              · go_simp; refine ⟨Below.refl _ _, ?_⟩; rfl
              simp only [Act.put, List.setIfInBounds_toArray, List.set_cons_zero, List.set_cons_succ]
              refine wpParts_det (by rfl) (fun W hE hN => ?_) ?_
              · go_simp; refine ⟨Below.refl _ _, ?_⟩; rfl
              simp only [Act.put, List.setIfInBounds_toArray, List.set_cons_zero, List.set_cons_succ]
              refine wpParts_det (by rfl) (fun W hE hN => ?_) ?_
              · go_simp; refine ⟨Below.refl _ _, ?_⟩; rfl
              simp only [Act.put, List.setIfInBounds_toArray, List.set_cons_zero, List.set_cons_succ]
              refine wpParts_det (by rfl) (fun W hE hN => ?_) ?_
              · go_simp; refine ⟨Below.refl _ _, ?_⟩; rfl
              simp only [Act.put, List.setIfInBounds_toArray, List.set_cons_zero, List.set_cons_succ]
              refine wpParts_det (by rfl) (fun W hE hN => ?_) ?_
              · go_simp; refine ⟨Below.refl _ _, ?_⟩; rfl
              simp only [Act.put, List.setIfInBounds_toArray, List.set_cons_zero, List.set_cons_succ]
              refine wpParts_det (by rfl) (fun W hE hN => ?_) ?_
              · go_simp; refine ⟨Below.refl _ _, ?_⟩; rfl
              simp only [Act.put, List.setIfInBounds_toArray, List.set_cons_zero, List.set_cons_succ]
              refine wpParts_det (by rfl) (fun W hE hN => ?_) ?_
              · have hc := fun b o h => hE.cell (p := ⟨b, o, none⟩) h
                go_simp; refine ⟨Below.refl _ _, ?_⟩; rfl
              simp only [Act.put, List.setIfInBounds_toArray, List.set_cons_zero, List.set_cons_succ]
              refine wpParts_det (by rfl) (fun W hE hN => ?_) ?_
              · go_simp; refine ⟨Below.refl _ _, ?_⟩; rfl
              simp only [Act.put, List.setIfInBounds_toArray, List.set_cons_zero, List.set_cons_succ]
              refine wpParts_det (by rfl) (fun W hE hN => ?_) ?_
              · go_simp; refine ⟨Below.refl _ _, ?_⟩; rfl
              simp only [Act.put, List.setIfInBounds_toArray, List.set_cons_zero, List.set_cons_succ]
              refine wpParts_det (by rfl) (fun W hE hN => ?_) ?_
              · go_simp; refine ⟨Below.refl _ _, ?_⟩; rfl
              simp only [Act.put, List.setIfInBounds_toArray, List.set_cons_zero, List.set_cons_succ]
              refine wpParts_det (by rfl) (fun W hE hN => ?_) ?_
              · have hc := fun b o h => hE.cell (p := ⟨b, o, none⟩) h
                go_simp; refine ⟨Below.refl _ _, ?_⟩; rfl
              simp only [Act.put, List.setIfInBounds_toArray, List.set_cons_zero, List.set_cons_succ]
              refine wpParts_det (by rfl) (fun W hE hN => ?_) ?_
              · go_simp; refine ⟨Below.refl _ _, ?_⟩; rfl
              simp only [Act.put, List.setIfInBounds_toArray, List.set_cons_zero, List.set_cons_succ]
              refine wpParts_det (by rfl) (fun W hE hN => ?_) ?_
              · have hc := fun b o h => hE.cell (p := ⟨b, o, none⟩) h
                go_simp; refine ⟨Below.refl _ _, ?_⟩; rfl
              simp only [Act.put, List.setIfInBounds_toArray, List.set_cons_zero, List.set_cons_succ]
              refine wpParts_det (by rfl) (fun W hE hN => ?_) ?_
              · go_simp; refine ⟨Below.refl _ _, ?_⟩; rfl
              simp only [Act.put, List.setIfInBounds_toArray, List.set_cons_zero, List.set_cons_succ]
              refine wpParts_det (by rfl) (fun W hE hN => ?_) ?_
              · go_simp; refine ⟨Below.refl _ _, ?_⟩; rfl
              simp only [Act.put, List.setIfInBounds_toArray, List.set_cons_zero, List.set_cons_succ]
              refine wpParts_det (by rfl) (fun W hE hN => ?_) ?_
              · have hc := fun b o h => hE.cell (p := ⟨b, o, none⟩) h
                go_simp; refine ⟨Below.refl _ _, ?_⟩; rfl
              simp only [Act.put, List.setIfInBounds_toArray, List.set_cons_zero, List.set_cons_succ]
              refine wpParts_det (by rfl) (fun W hE hN => ?_) ?_
              · go_simp; refine ⟨Below.refl _ _, ?_⟩; rfl
              simp only [Act.put, List.setIfInBounds_toArray, List.set_cons_zero, List.set_cons_succ]
              refine wpParts_det (by rfl) (fun W hE hN => ?_) ?_
              · go_simp; refine ⟨Below.refl _ _, ?_⟩; rfl
              simp only [Act.put, List.setIfInBounds_toArray, List.set_cons_zero, List.set_cons_succ]
              refine wpParts_det (by rfl) (fun W hE hN => ?_) ?_
              · go_simp; refine ⟨Below.refl _ _, ?_⟩; rfl
              simp only [Act.put, List.setIfInBounds_toArray, List.set_cons_zero, List.set_cons_succ]
              refine wpParts_end fun W2 hE2 hG2 => ?_
              have hcW2 := fun b o h => hE2.cell (p := ⟨b, o, none⟩) h
              have hfW2 := fun b o h => hE2.frozen (p := ⟨b, o, none⟩) h
              have e : r = false := by
                rw [← HR.out]
                have h1 : keysTo keys ql = false := by
                  cases hkq : keysTo keys ql with
                  | false => rfl
                  | true =>
                    have h2 := keysTo_mono hkq (show j + 1 + 1 ≤ ql from HLT.out)
                    rw [HSU2.out] at h2
                    cases h2
                rw [h1, Bool.false_and]
              subst e
              have BEL := Lib.hid (BEL0.out.trans ((HBL.out.trans (hE2.mono HBL.out.size)).mono BEL0.out.size))
              clear hE2 hcW2 hfW2 q1 l1
              go_wp2
              go_ret
              exact ⟨rfl, BEL.out⟩
    · have g1 : ¬ (i : Int) < (ql : Int) := by omega
      obtain rfl : i = ql := by omega
      have hr := HR.out
      rw [HKT.out, Bool.true_and] at hr
      have BEL := Lib.hid (BEL0.out.trans (HBL.out.mono BEL0.out.size))
      clear hlt hi
      by_cases k1 : kind = 1
      · subst k1
        have HR2 := Lib.hid hr
        clear hr HR
        go_wp2_with fail
        go_quiet (fail)
        go_wp2
        all_goals
          go_ret
          refine ⟨?_, by have h := BEL.out; exact (by repeat (first | (with_reducible exact Below.refl _ _) | (with_reducible exact Below.refl _ _) | (with_reducible refine Below.setCell ?_ (by first | omega | (simp; done) | (simp; omega)) _) | (with_reducible refine Below.alloc ?_ (by first | omega | (simp; done) | (simp; omega)) _) | (with_reducible refine Below.drew ?_) | (with_reducible refine below_drewN ?_ _) | (with_reducible refine Below.trans ?_ (h.mono (by first | omega | (simp; done) | (simp; omega))))))⟩
          rw [← HR2.out]
          simp [*] <;> (rw [Bool.eq_iff_iff]; simp) <;> omega
      · by_cases k2 : kind = 2
        · subst k2
          have HR2 := Lib.hid hr
          clear hr HR
          go_wp2_with fail
          go_quiet (fail)
          go_wp2
          all_goals
            go_ret
            refine ⟨?_, by have h := BEL.out; exact (by repeat (first | (with_reducible exact Below.refl _ _) | (with_reducible exact Below.refl _ _) | (with_reducible refine Below.setCell ?_ (by first | omega | (simp; done) | (simp; omega)) _) | (with_reducible refine Below.alloc ?_ (by first | omega | (simp; done) | (simp; omega)) _) | (with_reducible refine Below.drew ?_) | (with_reducible refine below_drewN ?_ _) | (with_reducible refine Below.trans ?_ (h.mono (by first | omega | (simp; done) | (simp; omega))))))⟩
            rw [← HR2.out]
            simp [*] <;> (rw [Bool.eq_iff_iff]; simp) <;> omega
        · by_cases k3 : kind = 3
          · subst k3
            have HR2 := Lib.hid hr
            clear hr HR
            go_wp2_with fail
            go_quiet (fail)
            go_wp2
            all_goals
              go_ret
              refine ⟨?_, by have h := BEL.out; exact (by repeat (first | (with_reducible exact Below.refl _ _) | (with_reducible exact Below.refl _ _) | (with_reducible refine Below.setCell ?_ (by first | omega | (simp; done) | (simp; omega)) _) | (with_reducible refine Below.alloc ?_ (by first | omega | (simp; done) | (simp; omega)) _) | (with_reducible refine Below.drew ?_) | (with_reducible refine below_drewN ?_ _) | (with_reducible refine Below.trans ?_ (h.mono (by first | omega | (simp; done) | (simp; omega))))))⟩
              rw [← HR2.out]
              simp [*] <;> (rw [Bool.eq_iff_iff]; simp) <;> omega
          · by_cases k4 : kind = 4
            · subst k4
              have HR2 := Lib.hid hr
              clear hr HR
              by_cases hn : n = 0
              · subst hn
                go_wp2_with fail
                go_quiet (fail)
                go_wp2_with fail
                refine (Tryd_rValid s _ HS.out).mono ?_; rintro e w2 ⟨rfl, hb2⟩
                have BEL2 := Lib.hid (BEL.out.trans ((show Below wr.heap.size wr w2 from (by repeat (first | (with_reducible exact Below.refl _ _) | (with_reducible exact Below.refl _ _) | (with_reducible refine Below.setCell ?_ (by first | omega | (simp; done) | (simp; omega)) _) | (with_reducible refine Below.alloc ?_ (by first | omega | (simp; done) | (simp; omega)) _) | (with_reducible refine Below.drew ?_) | (with_reducible refine below_drewN ?_ _) | (with_reducible refine Below.trans ?_ (hb2.mono (by first | omega | (simp; done) | (simp; omega))))))).mono BEL.out.size))
                obtain ⟨vs, hvs⟩ : ∃ vs, validB s.data.toList = vs := ⟨_, rfl⟩
                have HVS := Lib.hid hvs
                rw [hvs]
                clear hb2 hvs
                go_wp2
                all_goals
                  go_ret
                  refine ⟨?_, by have h := BEL2.out; exact (by repeat (first | (with_reducible exact Below.refl _ _) | (with_reducible exact Below.refl _ _) | (with_reducible refine Below.setCell ?_ (by first | omega | (simp; done) | (simp; omega)) _) | (with_reducible refine Below.alloc ?_ (by first | omega | (simp; done) | (simp; omega)) _) | (with_reducible refine Below.drew ?_) | (with_reducible refine below_drewN ?_ _) | (with_reducible refine Below.trans ?_ (h.mono (by first | omega | (simp; done) | (simp; omega))))))⟩
                  rw [← HR2.out]
                  simp [*, HVS.out] <;> (rw [Bool.eq_iff_iff]; simp) <;> omega
              · have hn0 : (n == 0) = false := by simp [hn]
                have e : r = false := by rw [← HR2.out]; simp [hn]
                clear HR2
                subst e
                go_wp2_with fail
                go_quiet (fail)
                go_wp2
                go_ret
                exact ⟨rfl, by have h := BEL.out; exact (by repeat (first | (with_reducible exact Below.refl _ _) | (with_reducible exact Below.refl _ _) | (with_reducible refine Below.setCell ?_ (by first | omega | (simp; done) | (simp; omega)) _) | (with_reducible refine Below.alloc ?_ (by first | omega | (simp; done) | (simp; omega)) _) | (with_reducible refine Below.drew ?_) | (with_reducible refine below_drewN ?_ _) | (with_reducible refine Below.trans ?_ (h.mono (by first | omega | (simp; done) | (simp; omega))))))⟩
            · by_cases k5 : kind = 5
              · subst k5
                have HR2 := Lib.hid hr
                clear hr HR
                go_wp2_with fail
                go_quiet (fail)
                go_wp2
                all_goals
                  go_ret
                  refine ⟨?_, by have h := BEL.out; exact (by repeat (first | (with_reducible exact Below.refl _ _) | (with_reducible exact Below.refl _ _) | (with_reducible refine Below.setCell ?_ (by first | omega | (simp; done) | (simp; omega)) _) | (with_reducible refine Below.alloc ?_ (by first | omega | (simp; done) | (simp; omega)) _) | (with_reducible refine Below.drew ?_) | (with_reducible refine below_drewN ?_ _) | (with_reducible refine Below.trans ?_ (h.mono (by first | omega | (simp; done) | (simp; omega))))))⟩
                  rw [← HR2.out]
                  simp [*] <;> (rw [Bool.eq_iff_iff]; simp) <;> omega
              · by_cases k6 : kind = 6
                · subst k6
                  have HR2 := Lib.hid hr
                  clear hr HR
                  go_wp2_with fail
                  go_quiet (fail)
                  go_wp2
                  all_goals
                    go_ret
                    refine ⟨?_, by have h := BEL.out; exact (by repeat (first | (with_reducible exact Below.refl _ _) | (with_reducible exact Below.refl _ _) | (with_reducible refine Below.setCell ?_ (by first | omega | (simp; done) | (simp; omega)) _) | (with_reducible refine Below.alloc ?_ (by first | omega | (simp; done) | (simp; omega)) _) | (with_reducible refine Below.drew ?_) | (with_reducible refine below_drewN ?_ _) | (with_reducible refine Below.trans ?_ (h.mono (by first | omega | (simp; done) | (simp; omega))))))⟩
                    rw [← HR2.out]
                    simp [*] <;> (rw [Bool.eq_iff_iff]; simp) <;> omega
                · have e : r = false := by rw [← hr, if_neg k1, if_neg k2, if_neg k3, if_neg k4, if_neg k5, if_neg k6]
                  have d1 : (kind == 1) = false := by simp [k1]
                  have d2 : (kind == 2) = false := by simp [k2]
                  have d3 : (kind == 3) = false := by simp [k3]
                  have d4 : (kind == 4) = false := by simp [k4]
                  have d5 : (kind == 5) = false := by simp [k5]
                  have d6 : (kind == 6) = false := by simp [k6]
                  clear hr HR k1 k2 k3 k4 k5 k6
                  subst e
                  go_wp2_with fail
                  go_quiet (fail)
                  go_wp2
                  go_ret
                  exact ⟨rfl, by have h := BEL.out; exact (by repeat (first | (with_reducible exact Below.refl _ _) | (with_reducible exact Below.refl _ _) | (with_reducible refine Below.setCell ?_ (by first | omega | (simp; done) | (simp; omega)) _) | (with_reducible refine Below.alloc ?_ (by first | omega | (simp; done) | (simp; omega)) _) | (with_reducible refine Below.drew ?_) | (with_reducible refine below_drewN ?_ _) | (with_reducible refine Below.trans ?_ (h.mono (by first | omega | (simp; done) | (simp; omega))))))⟩
end Go.Proofs.YtmcmknndhppljaaDoor

namespace Go.Dav
set_option linter.unusedVariables false
set_option linter.unusedSimpArgs false
open Go Go.RowKit
theorem withinL_le {K : Type} {f : K → Nat → Int → Nat} {L : Nat} (hf : ∀ y m, (f y L m : Int) ≤ max m 0) {m : Int} : ∀ (l : List K) (n : Nat), (n : Int) ≤ m → ((withinL f L m l n : Nat) : Int) ≤ m
  | [], n, h => h
  | y :: ys, n, h => by
    unfold withinL
    split
    · omega
    · exact withinL_le hf ys _ (by have := hf y (m - n); omega)
theorem withinV_le : ∀ (d : Nat) (x : ValN d) (L : Nat) (m : Int), (withinV d x L m : Int) ≤ max m 0
  | 0, _, _, _ => by unfold withinV; omega
  | d + 1, x, L, m => by
    unfold withinV
    split
    · omega
    · rename_i h
      have := withinL_le (f := withinV d) (L := L - 1) (m := m) (fun y m => withinV_le d y (L - 1) m) x.to.kids 1 (by omega)
      omega
theorem withinL_drop {K : Type} {f : K → Nat → Int → Nat} {L : Nat} {m : Int} {l : List K} {i : Nat} {y : K} {n : Nat} (h : l[i]? = some y) : withinL f L m (l.drop i) n = if f y L (m - n) = 0 then 0 else withinL f L m (l.drop (i + 1)) (n + f y L (m - n)) := by
  have hl := (List.getElem?_eq_some_iff.1 h).1
  have e : l.drop i = y :: l.drop (i + 1) := by
    rw [List.drop_eq_getElem_cons hl]
    have := (List.getElem?_eq_some_iff.1 h).2
    rw [this]
  rw [e]; rfl
theorem withinV_no {d : Nat} {x : ValN (d + 1)} {L : Nat} {m : Int} (h : m < 1 ∨ aloneB x.to = false ∨ (5 ≤ x.to.kind ∧ L = 0)) : withinV (d + 1) x L m = 0 := by
  unfold withinV; exact if_pos h
theorem withinV_yes {d : Nat} {x : ValN (d + 1)} {L : Nat} {m : Int} (h : ¬ (m < 1 ∨ aloneB x.to = false ∨ (5 ≤ x.to.kind ∧ L = 0))) : withinV (d + 1) x L m = withinL (withinV d) (L - 1) m x.to.kids 1 := by
  unfold withinV; exact if_neg h
/-- A value with kids is a list or an object. -/
theorem alone_kids {K : Type} {x : ValF K} (h : aloneB x = true) (hk : x.kids.length ≠ 0) : 5 ≤ x.kind := by
  unfold aloneB at h
  rw [Bool.and_eq_true] at h
  have h2 := h.2
  by_cases k5 : x.kind = 5
  · omega
  by_cases k6 : x.kind = 6
  · omega
  exfalso
  rw [if_neg k5, if_neg k6, decide_eq_false hk] at h2
  repeat' split at h2
  all_goals simp at h2
end Go.Dav
namespace Go.Proofs.YtmcmknndhppljaaDoor
set_option linter.unusedVariables false
set_option linter.unusedSimpArgs false
open Go.RowKit Go.Dav
attribute [local go_sem] Gives ite_val ite_val_true

set_option maxRecDepth 8000 in
set_option maxHeartbeats 8000000 in
theorem Tryd_rWithin : ∀ (d : Nat) (x : ValN d) (v : Value) (L : Nat) (m : Int) (w : World), ValAt w d v x → L ≤ 100 → -1000 ≤ m → m ≤ 1000 →
    Calls Tryd.prog 59 #[v, .int .i64 (L : Int), .int .i64 m] w fun e w' => e = .returned (.int .i64 ((withinV d x L m : Nat) : Int)) ∧ Below w.heap.size w w'
  | 0, _, _, _, _, _, h, _, _, _ => h.elim
  | d + 1, x, v, L, m, w, hx, hL, hm0, hm1 => by
    obtain ⟨ka, kl, kc, qa, ql, qc, h⟩ := hx
    have IH := Lib.hid (Tryd_rWithin d)
    obtain ⟨r, hr⟩ : ∃ r, withinV (d + 1) x L m = r := ⟨_, rfl⟩
    rw [hr]
    have HNO := Lib.hid (fun h => (withinV_no (x := x) (L := L) (m := m) h).symm.trans hr)
    have HYES := Lib.hid (fun h => (withinV_yes (x := x) (L := L) (m := m) h).symm.trans hr)
    obtain ⟨xf, hxf⟩ : ∃ xf, x.to = xf := ⟨_, rfl⟩
    rw [hxf] at h HNO HYES
    clear hxf
    have hv := h.val
    have hkl := h.hlen
    have hkf := h.hfew
    subst hv
    obtain ⟨kind, hkd⟩ : ∃ k, xf.kind = k := ⟨_, rfl⟩
    obtain ⟨n, hn⟩ : ∃ k, xf.n = k := ⟨_, rfl⟩
    obtain ⟨s, hs⟩ : ∃ k, xf.s = k := ⟨_, rfl⟩
    rw [hkd, hn, hs]
    obtain ⟨W0, hW0⟩ : ∃ W0, w.alloc (.cells #[.int .i64 kind, .int .i64 n, .string s, .slice ka kl kc, .slice qa ql qc] 39) = W0 := ⟨_, rfl⟩
    have bel0 : Below w.heap.size w W0 := by rw [← hW0]; exact (by repeat (first | (with_reducible exact Below.refl _ _) | (with_reducible exact Below.refl _ _) | (with_reducible refine Below.setCell ?_ (by first | omega | (simp; done) | (simp; omega)) _) | (with_reducible refine Below.alloc ?_ (by first | omega | (simp; done) | (simp; omega)) _) | (with_reducible refine Below.drew ?_) | (with_reducible refine below_drewN ?_ _)))
    have HB0 := Lib.hid (show Blk W0 w.heap.size [.int .i64 kind, .int .i64 n, .string s, .slice ka kl kc, .slice qa ql qc] 39 by rw [← hW0]; exact Blk.new _ _ _)
    have HX := Lib.hid (h.ext bel0 fun _ _ => ValAt.ext bel0 d)
    have BEL0 := Lib.hid bel0
    have HW0 := Lib.hid hW0
    have HKD := Lib.hid (And.intro hkd (And.intro hn hs))
    have HKL := Lib.hid hkl
    clear hr h hkl bel0 hW0 hkd hn hs
    by_cases hm : m < 1
    · have e : r = 0 := (HNO.out (.inl hm)).symm
      clear HNO HYES
      subst e
      go_enter Tryd.func59, Tryd.ntmps59
      go_wp2
      go_ret
      exact ⟨rfl, (by repeat (first | (with_reducible exact Below.refl _ _) | (with_reducible exact Below.refl _ _) | (with_reducible refine Below.setCell ?_ (by first | omega | (simp; done) | (simp; omega)) _) | (with_reducible refine Below.alloc ?_ (by first | omega | (simp; done) | (simp; omega)) _) | (with_reducible refine Below.drew ?_) | (with_reducible refine below_drewN ?_ _)))⟩
    · go_enter Tryd.func59, Tryd.ntmps59
      go_wp2_with fail
      rw [HW0.out]
      have hA := Tryd_rAlone (ValAt W0 d) xf _ ka qa kl kc ql qc W0 HX.out
      rw [HKD.out.1, HKD.out.2.1, HKD.out.2.2] at hA
      refine hA.mono ?_; rintro e w1 ⟨rfl, hb1⟩
      have HB1 := Lib.hid (HB0.out.ext hb1)
      have HX1 := Lib.hid (HX.out.ext hb1 fun _ _ => ValAt.ext hb1 d)
      have BEL1 := Lib.hid (BEL0.out.trans (hb1.mono BEL0.out.size))
      have q1 := HB1.out.cells
      have l1 := HB1.out.lt
      clear hA hb1 HB0 HX BEL0 HW0
      cases hal : aloneB xf with
      | false =>
        have e : r = 0 := (HNO.out (.inr (.inl hal))).symm
        clear HNO HYES hal
        subst e
        go_wp2
        go_ret
        exact ⟨rfl, by have h := BEL1.out; exact (by repeat (first | (with_reducible exact Below.refl _ _) | (with_reducible exact Below.refl _ _) | (with_reducible refine Below.setCell ?_ (by first | omega | (simp; done) | (simp; omega)) _) | (with_reducible refine Below.alloc ?_ (by first | omega | (simp; done) | (simp; omega)) _) | (with_reducible refine Below.drew ?_) | (with_reducible refine below_drewN ?_ _) | (with_reducible refine Below.trans ?_ (h.mono (by first | omega | (simp; done) | (simp; omega))))))⟩
      | true =>
        have HAL := Lib.hid hal
        clear hal
        by_cases h5 : 5 ≤ kind
        · by_cases hL0 : L = 0
          · have e : r = 0 := (HNO.out (.inr (.inr ⟨by rw [HKD.out.1]; exact h5, hL0⟩))).symm
            clear HNO HYES
            subst e hL0
            go_wp2
            go_ret
            exact ⟨rfl, by have h := BEL1.out; exact (by repeat (first | (with_reducible exact Below.refl _ _) | (with_reducible exact Below.refl _ _) | (with_reducible refine Below.setCell ?_ (by first | omega | (simp; done) | (simp; omega)) _) | (with_reducible refine Below.alloc ?_ (by first | omega | (simp; done) | (simp; omega)) _) | (with_reducible refine Below.drew ?_) | (with_reducible refine below_drewN ?_ _) | (with_reducible refine Below.trans ?_ (h.mono (by first | omega | (simp; done) | (simp; omega))))))⟩
          · have HR2 := Lib.hid (show withinL (withinV d) (L - 1) m xf.kids 1 = r from HYES.out fun h => by rcases h with h | h | h; (omega); (rw [HAL.out] at h; cases h); (exact hL0 h.2))
            have d0 : ((L : Int) == 0) = false := by simp [hL0]
            have hL1 : 0 < kl → 1 ≤ L := fun _ => by omega
            clear hL0
            go_wp2_with fail
            go_loopw [7, 8] (fun nx ix wr => ∃ i n' : Nat, i ≤ kl ∧ ix = .int .i64 (i : Int) ∧ nx = .int .i64 (n' : Int) ∧ 1 ≤ n' ∧ (n' : Int) ≤ m ∧ withinL (withinV d) (L - 1) m (xf.kids.drop i) n' = r ∧ Below w1.heap.size w1 wr) (fun _ ix _ => kl - (intOf ix).toNat)
            case atStart => exact ⟨0, 1, Nat.zero_le _, by go_num, by go_num, by omega, by omega, HR2.out, Below.refl _ _⟩
            case round =>
              obtain ⟨i, n', hi, rfl, rfl, hn1, hnm, hdr, hbr⟩ := hrel
              have HBr := Lib.hid (HB1.out.ext hbr)
              have HXr := Lib.hid (HX1.out.ext hbr fun _ _ => ValAt.ext hbr d)
              have BELr := Lib.hid hbr
              have HDR := Lib.hid hdr
              have q1 := HBr.out.cells
              have l1 := HBr.out.lt
              clear hdr hbr
              by_cases hlt : i < kl
              · obtain ⟨L', hL'⟩ : ∃ L', L - 1 = L' := ⟨_, rfl⟩
                have e1 : (L : Int) - 1 = (L' : Int) := by have := hL1 (by omega); omega
                have HLL := Lib.hid hL'
                obtain ⟨y, hy⟩ : ∃ y, xf.kids[i]? = some y := ⟨_, List.getElem?_eq_getElem (by have := HKL.out; omega)⟩
                obtain ⟨b, o, u0, u1, u2, u3, u4, rfl, hb, c0, c1, c2, c3, c4, hv⟩ := HXr.out.hkid i y hy
                have hst := withinL_drop (f := withinV d) (L := L') (m := m) (n := n') hy
                have hwl := withinV_le d y L' (m - n')
                have hdr := HDR.out
                rw [hL', hst] at hdr
                obtain ⟨k, hk⟩ : ∃ k, withinV d y L' (m - n') = k := ⟨_, rfl⟩
                rw [hk] at hdr hwl
                have g1 : (i : Int) < (kl : Int) := by omega
                have g3 : IntKind.i64.wrap (L' : Int) = (L' : Int) := IntWalk.i64_in _ (by omega)
                have g4 : IntKind.i64.wrap (m - (n' : Int)) = m - (n' : Int) := IntWalk.i64_in _ (by omega)
                have HV := Lib.hid hv
                have HLT := Lib.hid hlt
                have HD2 := Lib.hid hdr
                have HK := Lib.hid hk
                clear hy hst hv hlt hi hL1 hdr hk hL'
                go_wp2_with fail
                refine (IH.out y _ L' (m - (n' : Int)) wr HV.out (by omega) (by omega) (by omega)).mono ?_; rintro e w2 ⟨rfl, hb2⟩
                rw [HK.out]
                have BEL2 := Lib.hid (BELr.out.trans (hb2.mono BELr.out.size))
                clear hb2 g3 g4
                by_cases hk0 : k = 0
                · have e : r = 0 := by have h := HD2.out; rw [if_pos hk0] at h; exact h.symm
                  subst e hk0
                  have BEL := Lib.hid (BEL1.out.trans (BEL2.out.mono BEL1.out.size))
                  clear HR2 HNO HYES HDR HD2 q1 l1
                  go_wp2
                  go_ret
                  exact ⟨rfl, by have h := BEL.out; exact (by repeat (first | (with_reducible exact Below.refl _ _) | (with_reducible exact Below.refl _ _) | (with_reducible refine Below.setCell ?_ (by first | omega | (simp; done) | (simp; omega)) _) | (with_reducible refine Below.alloc ?_ (by first | omega | (simp; done) | (simp; omega)) _) | (with_reducible refine Below.drew ?_) | (with_reducible refine below_drewN ?_ _) | (with_reducible refine Below.trans ?_ (h.mono (by first | omega | (simp; done) | (simp; omega))))))⟩
                · have d1 : ((k : Int) == 0) = false := by simp [hk0]
                  have HD3 := Lib.hid (show withinL (withinV d) L' m (xf.kids.drop (i + 1)) (n' + k) = r by have h := HD2.out; rw [if_neg hk0] at h; exact h)
                  have g5 : IntKind.i64.wrap ((n' : Int) + (k : Int)) = (n' : Int) + (k : Int) := IntWalk.i64_in _ (by omega)
                  go_wp2_with fail
                  go_roundw
                  case rel => exact ⟨i + 1, n' + k, HLT.out, by go_num, by go_num, by omega, by omega, by rw [HLL.out]; exact HD3.out, BEL2.out⟩
                  case measure => have := HLT.out; simp [intOf]; omega
              · have g1 : ¬ (i : Int) < (kl : Int) := by omega
                obtain rfl : i = kl := by omega
                have e : r = n' := by
                  have h := HDR.out
                  rw [← HKL.out, List.drop_length] at h
                  exact h.symm
                subst e
                have BEL := Lib.hid (BEL1.out.trans (BELr.out.mono BEL1.out.size))
                clear HR2 HNO HYES HDR hlt hi
                go_wp2
                go_ret
                exact ⟨rfl, by have h := BEL.out; exact (by repeat (first | (with_reducible exact Below.refl _ _) | (with_reducible exact Below.refl _ _) | (with_reducible refine Below.setCell ?_ (by first | omega | (simp; done) | (simp; omega)) _) | (with_reducible refine Below.alloc ?_ (by first | omega | (simp; done) | (simp; omega)) _) | (with_reducible refine Below.drew ?_) | (with_reducible refine below_drewN ?_ _) | (with_reducible refine Below.trans ?_ (h.mono (by first | omega | (simp; done) | (simp; omega))))))⟩
        · have HR2 := Lib.hid (show withinL (withinV d) (L - 1) m xf.kids 1 = r from HYES.out fun h => by rcases h with h | h | h; (omega); (rw [HAL.out] at h; cases h); (rw [HKD.out.1] at h; exact h5 h.1))
          have hk0 : kl = 0 := by
            by_cases hk : kl = 0
            · exact hk
            · exact absurd (alone_kids HAL.out (by rw [HKL.out]; exact hk)) (by rw [HKD.out.1]; exact h5)
          have hL1 : 0 < kl → 1 ≤ L := fun h => by omega
          clear hk0
          go_wp2_with fail
          go_loopw [7, 8] (fun nx ix wr => ∃ i n' : Nat, i ≤ kl ∧ ix = .int .i64 (i : Int) ∧ nx = .int .i64 (n' : Int) ∧ 1 ≤ n' ∧ (n' : Int) ≤ m ∧ withinL (withinV d) (L - 1) m (xf.kids.drop i) n' = r ∧ Below w1.heap.size w1 wr) (fun _ ix _ => kl - (intOf ix).toNat)
          case atStart => exact ⟨0, 1, Nat.zero_le _, by go_num, by go_num, by omega, by omega, HR2.out, Below.refl _ _⟩
          case round =>
            obtain ⟨i, n', hi, rfl, rfl, hn1, hnm, hdr, hbr⟩ := hrel
            have HBr := Lib.hid (HB1.out.ext hbr)
            have HXr := Lib.hid (HX1.out.ext hbr fun _ _ => ValAt.ext hbr d)
            have BELr := Lib.hid hbr
            have HDR := Lib.hid hdr
            have q1 := HBr.out.cells
            have l1 := HBr.out.lt
            clear hdr hbr
            by_cases hlt : i < kl
            · obtain ⟨L', hL'⟩ : ∃ L', L - 1 = L' := ⟨_, rfl⟩
              have e1 : (L : Int) - 1 = (L' : Int) := by have := hL1 (by omega); omega
              have HLL := Lib.hid hL'
              obtain ⟨y, hy⟩ : ∃ y, xf.kids[i]? = some y := ⟨_, List.getElem?_eq_getElem (by have := HKL.out; omega)⟩
              obtain ⟨b, o, u0, u1, u2, u3, u4, rfl, hb, c0, c1, c2, c3, c4, hv⟩ := HXr.out.hkid i y hy
              have hst := withinL_drop (f := withinV d) (L := L') (m := m) (n := n') hy
              have hwl := withinV_le d y L' (m - n')
              have hdr := HDR.out
              rw [hL', hst] at hdr
              obtain ⟨k, hk⟩ : ∃ k, withinV d y L' (m - n') = k := ⟨_, rfl⟩
              rw [hk] at hdr hwl
              have g1 : (i : Int) < (kl : Int) := by omega
              have g3 : IntKind.i64.wrap (L' : Int) = (L' : Int) := IntWalk.i64_in _ (by omega)
              have g4 : IntKind.i64.wrap (m - (n' : Int)) = m - (n' : Int) := IntWalk.i64_in _ (by omega)
              have HV := Lib.hid hv
              have HLT := Lib.hid hlt
              have HD2 := Lib.hid hdr
              have HK := Lib.hid hk
              clear hy hst hv hlt hi hL1 hdr hk hL'
              go_wp2_with fail
              refine (IH.out y _ L' (m - (n' : Int)) wr HV.out (by omega) (by omega) (by omega)).mono ?_; rintro e w2 ⟨rfl, hb2⟩
              rw [HK.out]
              have BEL2 := Lib.hid (BELr.out.trans (hb2.mono BELr.out.size))
              clear hb2 g3 g4
              by_cases hk0 : k = 0
              · have e : r = 0 := by have h := HD2.out; rw [if_pos hk0] at h; exact h.symm
                subst e hk0
                have BEL := Lib.hid (BEL1.out.trans (BEL2.out.mono BEL1.out.size))
                clear HR2 HNO HYES HDR HD2 q1 l1
                go_wp2
                go_ret
                exact ⟨rfl, by have h := BEL.out; exact (by repeat (first | (with_reducible exact Below.refl _ _) | (with_reducible exact Below.refl _ _) | (with_reducible refine Below.setCell ?_ (by first | omega | (simp; done) | (simp; omega)) _) | (with_reducible refine Below.alloc ?_ (by first | omega | (simp; done) | (simp; omega)) _) | (with_reducible refine Below.drew ?_) | (with_reducible refine below_drewN ?_ _) | (with_reducible refine Below.trans ?_ (h.mono (by first | omega | (simp; done) | (simp; omega))))))⟩
              · have d1 : ((k : Int) == 0) = false := by simp [hk0]
                have HD3 := Lib.hid (show withinL (withinV d) L' m (xf.kids.drop (i + 1)) (n' + k) = r by have h := HD2.out; rw [if_neg hk0] at h; exact h)
                have g5 : IntKind.i64.wrap ((n' : Int) + (k : Int)) = (n' : Int) + (k : Int) := IntWalk.i64_in _ (by omega)
                go_wp2_with fail
                go_roundw
                case rel => exact ⟨i + 1, n' + k, HLT.out, by go_num, by go_num, by omega, by omega, by rw [HLL.out]; exact HD3.out, BEL2.out⟩
                case measure => have := HLT.out; simp [intOf]; omega
            · have g1 : ¬ (i : Int) < (kl : Int) := by omega
              obtain rfl : i = kl := by omega
              have e : r = n' := by
                have h := HDR.out
                rw [← HKL.out, List.drop_length] at h
                exact h.symm
              subst e
              have BEL := Lib.hid (BEL1.out.trans (BELr.out.mono BEL1.out.size))
              clear HR2 HNO HYES HDR hlt hi
              go_wp2
              go_ret
              exact ⟨rfl, by have h := BEL.out; exact (by repeat (first | (with_reducible exact Below.refl _ _) | (with_reducible exact Below.refl _ _) | (with_reducible refine Below.setCell ?_ (by first | omega | (simp; done) | (simp; omega)) _) | (with_reducible refine Below.alloc ?_ (by first | omega | (simp; done) | (simp; omega)) _) | (with_reducible refine Below.drew ?_) | (with_reducible refine below_drewN ?_ _) | (with_reducible refine Below.trans ?_ (h.mono (by first | omega | (simp; done) | (simp; omega))))))⟩

theorem Tryd_rRight (d : Nat) (x : ValN d) (v : Value) (w : World) (h : ValAt w d v x) :
    Calls Tryd.prog 27 #[v] w fun e w' => e = .returned (.bool (rightV d x)) ∧ Below w.heap.size w w' := by
  have HX := Lib.hid h
  obtain ⟨d', rfl⟩ : ∃ d', d = d' + 1 := by
    cases d with
    | zero => exact h.elim
    | succ d => exact ⟨d, rfl⟩
  obtain ⟨ka, kl, kc, qa, ql, qc, hi⟩ := h
  have hv := hi.val
  clear hi
  subst hv
  obtain ⟨c, hc⟩ : ∃ c, w.alloc (.cells #[.int .i64 x.to.kind, .int .i64 x.to.n, .string x.to.s, .slice ka kl kc, .slice qa ql qc] 39) = c := ⟨_, rfl⟩
  have hb : Below w.heap.size w c := by rw [← hc]; exact (by repeat (first | (with_reducible exact Below.refl _ _) | (with_reducible exact Below.refl _ _) | (with_reducible refine Below.setCell ?_ (by first | omega | (simp; done) | (simp; omega)) _) | (with_reducible refine Below.alloc ?_ (by first | omega | (simp; done) | (simp; omega)) _) | (with_reducible refine Below.drew ?_) | (with_reducible refine below_drewN ?_ _)))
  have HC := Lib.hid hc
  have HB := Lib.hid hb
  have hX2 := Lib.hid (ValAt.ext hb _ HX.out)
  obtain ⟨r, hr⟩ : ∃ r, withinV (d' + 1) x 8 256 = r := ⟨_, rfl⟩
  have HRR := Lib.hid hr
  have HQ := Lib.hid (show rightV (d' + 1) x = decide (0 < r) by unfold rightV; rw [hr])
  clear hc hb hr HX
  rw [HQ.out]
  clear HQ
  go_enter Tryd.func27, Tryd.ntmps27
  go_wp2_with fail
  rw [HC.out]
  have hA := Tryd_rWithin (d' + 1) x _ 8 256 c hX2.out (by omega) (by omega) (by omega)
  rw [HRR.out] at hA
  refine hA.mono ?_; rintro e w2 ⟨rfl, hb2⟩
  have BEL := Lib.hid (HB.out.trans (hb2.mono HB.out.size))
  clear hb2
  go_wp2
  go_ret
  exact ⟨by simp, BEL.out⟩
end Go.Proofs.YtmcmknndhppljaaDoor
