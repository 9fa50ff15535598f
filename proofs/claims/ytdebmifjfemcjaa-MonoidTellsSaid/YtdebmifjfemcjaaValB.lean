/-
  The reference of layer 4: Zero, alone, walked.
-/
import Derived.Test.YtdebmifjfemcjaaValA
import Derived.Test.YtdebmifjfemcjaaFree
import Derived.Laws.EntriesVeiled
import Derived.BigQuiet
namespace Go.Proofs.Ytdebmifjfemcjaa
set_option linter.unusedVariables false
set_option linter.unusedSimpArgs false
open Go.RowKit Go.Dav
attribute [local go_sem] Gives ite_val ite_val_true

theorem Try_rZero {K : Type} (R : Value → K → Prop) (x : ValF K) (v : Value) (ka qa : Option Addr) (kl kc ql qc : Nat) (w : World) (h : ValIs w R v x ka kl kc qa ql qc) :
    Calls Try.prog 21 #[v] w fun e w' => e = .returned (.bool (zeroF x)) ∧ Below w.heap.size w w' := by
  obtain ⟨kind, n, s, kids, keys⟩ := x
  have hv := h.val
  have hkl := h.hlen
  have hql := h.keys.hlen
  dsimp only at hv hkl hql
  subst hv
  obtain ⟨r, hr⟩ : ∃ r, zeroF (⟨kind, n, s, kids, keys⟩ : ValF K) = r := ⟨_, rfl⟩
  rw [hr]
  unfold zeroF strEmpty at hr
  dsimp only at hr
  rw [hkl, hql] at hr
  have HR := Lib.hid hr
  clear hr h hkl hql
  go_enter Try.func21, Try.ntmps21
  go_wp2
  all_goals
    go_ret
    refine ⟨?_, (by repeat (first | (with_reducible exact Below.refl _ _) | (with_reducible exact Below.refl _ _) | (with_reducible refine Below.setCell ?_ (by first | omega | (simp; done) | (simp; omega)) _) | (with_reducible refine Below.alloc ?_ (by first | omega | (simp; done) | (simp; omega)) _) | (with_reducible refine Below.drew ?_) | (with_reducible refine below_drewN ?_ _)))⟩
    rw [← HR.out]
    simp [*] <;> (rw [Bool.eq_iff_iff]; simp)

set_option maxRecDepth 8000 in
set_option maxHeartbeats 8000000 in
theorem Try_rAlone {K : Type} (R : Value → K → Prop) (x : ValF K) (v : Value) (ka qa : Option Addr) (kl kc ql qc : Nat) (w : World) (h : ValIs w R v x ka kl kc qa ql qc) :
    Calls Try.prog 52 #[v] w fun e w' => e = .returned (.bool (aloneB x)) ∧ Below w.heap.size w w' := by
  obtain ⟨kind, n, s, kids, keys⟩ := x
  have hv := h.val
  have hkl := h.hlen
  have hK := h.keys
  have hs := h.hs
  have hql := hK.hlen
  dsimp only at hv hkl hql hK hs
  subst hv
  have hkf := h.hfew
  have hqf := hK.hfew
  obtain ⟨r, hr⟩ : ∃ r, aloneB (⟨kind, n, s, kids, keys⟩ : ValF K) = r := ⟨_, rfl⟩
  rw [hr]
  unfold aloneB strEmpty at hr
  dsimp only at hr
  rw [hkl, hql] at hr
  have HR := Lib.hid hr
  obtain ⟨W0, hW0⟩ : ∃ W0, w.alloc (.cells #[.int .i64 kind, .int .i64 n, .string s, .slice ka kl kc, .slice qa ql qc] 51) = W0 := ⟨_, rfl⟩
  have bel0 : Below w.heap.size w W0 := by rw [← hW0]; exact (by repeat (first | (with_reducible exact Below.refl _ _) | (with_reducible exact Below.refl _ _) | (with_reducible refine Below.setCell ?_ (by first | omega | (simp; done) | (simp; omega)) _) | (with_reducible refine Below.alloc ?_ (by first | omega | (simp; done) | (simp; omega)) _) | (with_reducible refine Below.drew ?_) | (with_reducible refine below_drewN ?_ _)))
  have HB0 := Lib.hid (show Blk W0 w.heap.size [.int .i64 kind, .int .i64 n, .string s, .slice ka kl kc, .slice qa ql qc] 51 by rw [← hW0]; exact Blk.new _ _ _)
  have HKS := Lib.hid (hK.ext bel0)
  have BEL0 := Lib.hid bel0
  have HW0 := Lib.hid hW0
  have HQL := Lib.hid hql
  have HS := Lib.hid hs
  clear hr h hkl hql hK bel0 hW0 hs
  go_enter Try.func52, Try.ntmps52
  go_wp2_with fail
  rw [HW0.out]
  go_loopw [3] (fun ix wr => ∃ i : Nat, i ≤ ql ∧ ix = .int .i64 (i : Int) ∧ keysTo keys i = true ∧ Below W0.heap.size W0 wr) (fun ix _ => ql - (intOf ix).toNat)
  case atStart => exact ⟨0, Nat.zero_le _, by go_num, rfl, Below.refl _ _⟩
  case round =>
    obtain ⟨i, hi, rfl, hkt, hbr⟩ := hrel
    have HBr := Lib.hid (HB0.out.ext hbr)
    have HBL := Lib.hid hbr
    have HKT := Lib.hid hkt
    have q1 := HBr.out.cells
    have l1 := HBr.out.lt
    clear hbr hkt
    by_cases hlt : i < ql
    · have g1 : (i : Int) < (ql : Int) := by omega
      obtain ⟨u, hu⟩ : ∃ u, keys[i]? = some u := ⟨_, List.getElem?_eq_getElem (by have := HQL.out; omega)⟩
      obtain ⟨b, o, rfl, hb, hcell⟩ := (HKS.out.ext HBL.out).hat i u hu
      have hsz := HKS.out.hsz u (List.mem_of_getElem? hu)
      have hgd : keys.getD i default = u := by rw [List.getD, hu]; rfl
      have hsucc := keysTo_succ keys i
      rw [hgd, HKT.out, Bool.true_and] at hsucc
      have HSU := Lib.hid hsucc
      have HSZ := Lib.hid hsz
      have HLT := Lib.hid hlt
      clear hgd hsucc hsz hlt hi
      cases hvu : validB u.data.toList with
      | false =>
        have HV := Lib.hid hvu
        clear hvu hu
        go_wp2_with fail
        refine' wp_region_seq [.inl _, .inl _, .inl _, .inl _, .inl _, .inl _, .inl _, .inl _, .inl undef, .inl undef, .inl undef, .inl undef, .inl undef, .inl undef, .inl undef, .inl undef, .inl undef, .inl undef, .inl undef, .inl undef, .inl undef, .inl undef, .inl undef, .inl undef, .inl _] (by kernel_rfl) (by kernel_rfl) ?main1
        case main1 =>
          refine wpParts_det (by rfl) (fun W hE hN => ?_) ?_
          · go_simp; refine ⟨Below.refl _ _, ?_⟩; rfl
          simp only [Act.put, List.setIfInBounds_toArray, List.set_cons_zero, List.set_cons_succ]
          refine wpParts_det (by rfl) (fun W hE hN => ?_) ?_
          · have hc := fun b o h => hE.cell (p := ⟨b, o, none⟩) h
            go_simp; refine ⟨Below.refl _ _, ?_⟩; rfl
          simp only [Act.put, List.setIfInBounds_toArray, List.set_cons_zero, List.set_cons_succ]
          refine wpParts_det (by rfl) (fun W hE hN => ?_) ?_
          · go_simp; refine ⟨Below.refl _ _, ?_⟩; rfl
          simp only [Act.put, List.setIfInBounds_toArray, List.set_cons_zero, List.set_cons_succ]
          refine wpParts_det (by rfl) (fun W hE hN => ?_) ?_
          · go_simp; refine ⟨Below.refl _ _, ?_⟩; rfl
          simp only [Act.put, List.setIfInBounds_toArray, List.set_cons_zero, List.set_cons_succ]
          refine wpParts_det (by rfl) (fun W hE hN => ?_) ?_
          · have hc := fun b o h => hE.cell (p := ⟨b, o, none⟩) h
            go_simp; refine ⟨Below.refl _ _, ?_⟩; rfl
          simp only [Act.put, List.setIfInBounds_toArray, List.set_cons_zero, List.set_cons_succ]
          refine wpParts_det (by rfl) (fun W hE hN => ?_) ?_
          · go_simp; refine ⟨Below.refl _ _, ?_⟩; refine (Try_rValid u W HSZ.out).mono ?_; rintro e w' ⟨rfl, hb⟩; rw [HV.out]; refine ⟨?_, hb⟩; rfl
          simp only [Act.put, List.setIfInBounds_toArray, List.set_cons_zero, List.set_cons_succ]
          refine wpParts_det (by rfl) (fun W hE hN => ?_) ?_
          · go_simp; refine ⟨Below.refl _ _, ?_⟩; rfl
          simp only [Act.put, List.setIfInBounds_toArray, List.set_cons_zero, List.set_cons_succ]
          refine wpParts_det (by rfl) (fun W hE hN => ?_) ?_
          · go_simp; refine ⟨Below.refl _ _, ?_⟩; rfl
          simp only [Act.put, List.setIfInBounds_toArray, List.set_cons_zero, List.set_cons_succ]
          refine wpParts_skip ?_ ?_
          · rfl
          simp only [Act.put, List.setIfInBounds_toArray, List.set_cons_zero, List.set_cons_succ]
          refine wpParts_skip ?_ ?_
          · rfl
          simp only [Act.put, List.setIfInBounds_toArray, List.set_cons_zero, List.set_cons_succ]
          refine wpParts_skip ?_ ?_
          · rfl
          simp only [Act.put, List.setIfInBounds_toArray, List.set_cons_zero, List.set_cons_succ]
          refine wpParts_skip ?_ ?_
          · rfl
          simp only [Act.put, List.setIfInBounds_toArray, List.set_cons_zero, List.set_cons_succ]
          refine wpParts_skip ?_ ?_
          · rfl
          simp only [Act.put, List.setIfInBounds_toArray, List.set_cons_zero, List.set_cons_succ]
          refine wpParts_skip ?_ ?_
          · rfl
          simp only [Act.put, List.setIfInBounds_toArray, List.set_cons_zero, List.set_cons_succ]
          refine wpParts_skip ?_ ?_
          · rfl
          simp only [Act.put, List.setIfInBounds_toArray, List.set_cons_zero, List.set_cons_succ]
          refine wpParts_skip ?_ ?_
          · rfl
          simp only [Act.put, List.setIfInBounds_toArray, List.set_cons_zero, List.set_cons_succ]
          refine wpParts_skip ?_ ?_
          · rfl
          simp only [Act.put, List.setIfInBounds_toArray, List.set_cons_zero, List.set_cons_succ]
          refine wpParts_skip ?_ ?_
          · rfl
          simp only [Act.put, List.setIfInBounds_toArray, List.set_cons_zero, List.set_cons_succ]
          refine wpParts_skip ?_ ?_
          · rfl
          simp only [Act.put, List.setIfInBounds_toArray, List.set_cons_zero, List.set_cons_succ]
          refine wpParts_skip ?_ ?_
          · rfl
          simp only [Act.put, List.setIfInBounds_toArray, List.set_cons_zero, List.set_cons_succ]
          refine wpParts_skip ?_ ?_
          · rfl
          simp only [Act.put, List.setIfInBounds_toArray, List.set_cons_zero, List.set_cons_succ]
          refine wpParts_skip ?_ ?_
          · rfl
          simp only [Act.put, List.setIfInBounds_toArray, List.set_cons_zero, List.set_cons_succ]
          refine wpParts_skip ?_ ?_
          · rfl
          simp only [Act.put, List.setIfInBounds_toArray, List.set_cons_zero, List.set_cons_succ]
          refine wpParts_skip ?_ ?_
          · rfl
          simp only [Act.put, List.setIfInBounds_toArray, List.set_cons_zero, List.set_cons_succ]
          refine wpParts_det (by rfl) (fun W hE hN => ?_) ?_
          · go_simp; refine ⟨Below.refl _ _, ?_⟩; rfl
          simp only [Act.put, List.setIfInBounds_toArray, List.set_cons_zero, List.set_cons_succ]
          refine wpParts_end fun W2 hE2 hG2 => ?_
          have hcW2 := fun b o h => hE2.cell (p := ⟨b, o, none⟩) h
          have hfW2 := fun b o h => hE2.frozen (p := ⟨b, o, none⟩) h
          have e : r = false := by
            rw [← HR.out]
            have h1 : keysTo keys ql = false := by
              cases hkq : keysTo keys ql with
              | false => rfl
              | true =>
                have h2 := keysTo_mono hkq (show i + 1 ≤ ql from HLT.out)
                rw [HSU.out, HV.out] at h2
                cases h2
            rw [h1, Bool.false_and]
          subst e
          have BEL := Lib.hid (BEL0.out.trans ((HBL.out.trans (hE2.mono HBL.out.size)).mono BEL0.out.size))
          clear hE2 hcW2 hfW2 q1 l1
          go_wp2
          go_ret
          exact ⟨rfl, BEL.out⟩
      | true =>
        have HV := Lib.hid hvu
        clear hvu
        cases i with
        | zero =>
          have hk1 := Lib.hid (show keysTo keys 1 = true by rw [HSU.out, HV.out]; rfl)
          rw [Nat.add_zero] at hcell
          have g0 : 0 < ql := HLT.out
          clear hu
          go_wp2_with fail
          refine' wp_region_seq [.inl _, .inl _, .inl _, .inl _, .inl _, .inl _, .inl _, .inl _, .inl _, .inl _, .inl _, .inl undef, .inl undef, .inl undef, .inl undef, .inl undef, .inl undef, .inl undef, .inl undef, .inl undef, .inl undef, .inl undef, .inl undef, .inl _, .inl _] (by kernel_rfl) (by kernel_rfl) ?main2
          case main2 =>
            refine wpParts_det (by rfl) (fun W hE hN => ?_) ?_
            · go_simp; refine ⟨Below.refl _ _, ?_⟩; rfl
            simp only [Act.put, List.setIfInBounds_toArray, List.set_cons_zero, List.set_cons_succ]
            refine wpParts_det (by rfl) (fun W hE hN => ?_) ?_
            · have hc := fun b o h => hE.cell (p := ⟨b, o, none⟩) h
              go_simp; refine ⟨Below.refl _ _, ?_⟩; rfl
            simp only [Act.put, List.setIfInBounds_toArray, List.set_cons_zero, List.set_cons_succ]
            refine wpParts_det (by rfl) (fun W hE hN => ?_) ?_
            · go_simp; refine ⟨Below.refl _ _, ?_⟩; rfl
            simp only [Act.put, List.setIfInBounds_toArray, List.set_cons_zero, List.set_cons_succ]
            refine wpParts_det (by rfl) (fun W hE hN => ?_) ?_
            · go_simp; refine ⟨Below.refl _ _, ?_⟩; rfl
            simp only [Act.put, List.setIfInBounds_toArray, List.set_cons_zero, List.set_cons_succ]
            refine wpParts_det (by rfl) (fun W hE hN => ?_) ?_
            · have hc := fun b o h => hE.cell (p := ⟨b, o, none⟩) h
              go_simp; refine ⟨Below.refl _ _, ?_⟩; rfl
            simp only [Act.put, List.setIfInBounds_toArray, List.set_cons_zero, List.set_cons_succ]
            refine wpParts_det (by rfl) (fun W hE hN => ?_) ?_
            · go_simp; refine ⟨Below.refl _ _, ?_⟩; refine (Try_rValid u W HSZ.out).mono ?_; rintro e w' ⟨rfl, hb⟩; rw [HV.out]; refine ⟨?_, hb⟩; rfl
            simp only [Act.put, List.setIfInBounds_toArray, List.set_cons_zero, List.set_cons_succ]
            refine wpParts_det (by rfl) (fun W hE hN => ?_) ?_
            · go_simp; refine ⟨Below.refl _ _, ?_⟩; rfl
            simp only [Act.put, List.setIfInBounds_toArray, List.set_cons_zero, List.set_cons_succ]
            refine wpParts_det (by rfl) (fun W hE hN => ?_) ?_
            · go_simp; refine ⟨Below.refl _ _, ?_⟩; rfl
            simp only [Act.put, List.setIfInBounds_toArray, List.set_cons_zero, List.set_cons_succ]
            refine wpParts_det (by rfl) (fun W hE hN => ?_) ?_
            · go_simp; refine ⟨Below.refl _ _, ?_⟩; rfl
            simp only [Act.put, List.setIfInBounds_toArray, List.set_cons_zero, List.set_cons_succ]
            refine wpParts_det (by rfl) (fun W hE hN => ?_) ?_
            · go_simp; refine ⟨Below.refl _ _, ?_⟩; rfl
            simp only [Act.put, List.setIfInBounds_toArray, List.set_cons_zero, List.set_cons_succ]
            refine wpParts_det (by rfl) (fun W hE hN => ?_) ?_
            · go_simp; refine ⟨Below.refl _ _, ?_⟩; rfl
            simp only [Act.put, List.setIfInBounds_toArray, List.set_cons_zero, List.set_cons_succ]
            refine wpParts_skip ?_ ?_
            · rfl
            simp only [Act.put, List.setIfInBounds_toArray, List.set_cons_zero, List.set_cons_succ]
            refine wpParts_skip ?_ ?_
            · rfl
            simp only [Act.put, List.setIfInBounds_toArray, List.set_cons_zero, List.set_cons_succ]
            refine wpParts_skip ?_ ?_
            · rfl
            simp only [Act.put, List.setIfInBounds_toArray, List.set_cons_zero, List.set_cons_succ]
            refine wpParts_skip ?_ ?_
            · rfl
            simp only [Act.put, List.setIfInBounds_toArray, List.set_cons_zero, List.set_cons_succ]
            refine wpParts_skip ?_ ?_
            · rfl
            simp only [Act.put, List.setIfInBounds_toArray, List.set_cons_zero, List.set_cons_succ]
            refine wpParts_skip ?_ ?_
            · rfl
            simp only [Act.put, List.setIfInBounds_toArray, List.set_cons_zero, List.set_cons_succ]
            refine wpParts_skip ?_ ?_
            · rfl
            simp only [Act.put, List.setIfInBounds_toArray, List.set_cons_zero, List.set_cons_succ]
            refine wpParts_skip ?_ ?_
            · rfl
            simp only [Act.put, List.setIfInBounds_toArray, List.set_cons_zero, List.set_cons_succ]
            refine wpParts_skip ?_ ?_
            · rfl
            simp only [Act.put, List.setIfInBounds_toArray, List.set_cons_zero, List.set_cons_succ]
            refine wpParts_skip ?_ ?_
            · rfl
            simp only [Act.put, List.setIfInBounds_toArray, List.set_cons_zero, List.set_cons_succ]
            refine wpParts_skip ?_ ?_
            · rfl
            simp only [Act.put, List.setIfInBounds_toArray, List.set_cons_zero, List.set_cons_succ]
            refine wpParts_skip ?_ ?_
            · rfl
            simp only [Act.put, List.setIfInBounds_toArray, List.set_cons_zero, List.set_cons_succ]
            refine wpParts_det (by rfl) (fun W hE hN => ?_) ?_
            · go_simp; refine ⟨Below.refl _ _, ?_⟩; rfl
            simp only [Act.put, List.setIfInBounds_toArray, List.set_cons_zero, List.set_cons_succ]
            refine wpParts_det (by rfl) (fun W hE hN => ?_) ?_
            · go_simp; refine ⟨Below.refl _ _, ?_⟩; rfl
            simp only [Act.put, List.setIfInBounds_toArray, List.set_cons_zero, List.set_cons_succ]
            refine wpParts_end fun W2 hE2 hG2 => ?_
            have hcW2 := fun b o h => hE2.cell (p := ⟨b, o, none⟩) h
            have hfW2 := fun b o h => hE2.frozen (p := ⟨b, o, none⟩) h
            have BEL := Lib.hid (HBL.out.trans (hE2.mono HBL.out.size))
            clear hE2 hcW2 hfW2 q1 l1
            go_wp2_with fail
            go_roundw
            case rel => exact ⟨1, HLT.out, by go_num, hk1.out, BEL.out⟩
            case measure => have := HLT.out; simp [intOf]; omega
        | succ j =>
          obtain ⟨u', hu'⟩ : ∃ u, keys[j]? = some u := ⟨_, List.getElem?_eq_getElem (by have := HQL.out; have := HLT.out; omega)⟩
          obtain ⟨b', o', e', _, hcell'⟩ := (HKS.out.ext HBL.out).hat j u' hu'
          cases e'
          have hgd' : keys.getD j default = u' := by rw [List.getD, hu']; rfl
          have g2 : (j : Int) < (ql : Int) := by omega
          have u1 : IntKind.i64.wrap (j : Int) = (j : Int) := IntWalk.i64_in _ (by omega)
          obtain ⟨le, hle⟩ : ∃ le, Op.bytesLess u'.toList u.toList = le := ⟨_, rfl⟩
          have hsu := HSU.out
          rw [HV.out, Nat.add_sub_cancel, hgd', hle] at hsu
          simp only [Bool.true_and, Nat.add_eq_zero_iff, Nat.succ_ne_zero, and_false, decide_false, Bool.false_or] at hsu
          have HSU2 := Lib.hid hsu
          have HLE := Lib.hid hle
          clear hu hu' hgd' hsu
          cases le with
          | true =>
            go_wp2_with fail
            refine' wp_region_seq [.inl _, .inl _, .inl _, .inl _, .inl _, .inl _, .inl _, .inl _, .inl _, .inl _, .inl _, .inl _, .inl _, .inl _, .inl _, .inl _, .inl _, .inl _, .inl _, .inl _, .inl _, .inl _, .inl _, .inl _, .inl _] (by kernel_rfl) (by kernel_rfl) ?main3
            case main3 =>
              refine wpParts_det (by rfl) (fun W hE hN => ?_) ?_
              · go_simp; refine ⟨Below.refl _ _, ?_⟩; rfl
              simp only [Act.put, List.setIfInBounds_toArray, List.set_cons_zero, List.set_cons_succ]
              refine wpParts_det (by rfl) (fun W hE hN => ?_) ?_
              · have hc := fun b o h => hE.cell (p := ⟨b, o, none⟩) h
                go_simp; refine ⟨Below.refl _ _, ?_⟩; rfl
              simp only [Act.put, List.setIfInBounds_toArray, List.set_cons_zero, List.set_cons_succ]
              refine wpParts_det (by rfl) (fun W hE hN => ?_) ?_
              · go_simp; refine ⟨Below.refl _ _, ?_⟩; rfl
              simp only [Act.put, List.setIfInBounds_toArray, List.set_cons_zero, List.set_cons_succ]
              refine wpParts_det (by rfl) (fun W hE hN => ?_) ?_
              · go_simp; refine ⟨Below.refl _ _, ?_⟩; rfl
              simp only [Act.put, List.setIfInBounds_toArray, List.set_cons_zero, List.set_cons_succ]
              refine wpParts_det (by rfl) (fun W hE hN => ?_) ?_
              · have hc := fun b o h => hE.cell (p := ⟨b, o, none⟩) h
                go_simp; refine ⟨Below.refl _ _, ?_⟩; rfl
              simp only [Act.put, List.setIfInBounds_toArray, List.set_cons_zero, List.set_cons_succ]
              refine wpParts_det (by rfl) (fun W hE hN => ?_) ?_
              · go_simp; refine ⟨Below.refl _ _, ?_⟩; refine (Try_rValid u W HSZ.out).mono ?_; rintro e w' ⟨rfl, hb⟩; rw [HV.out]; refine ⟨?_, hb⟩; rfl
              simp only [Act.put, List.setIfInBounds_toArray, List.set_cons_zero, List.set_cons_succ]
              refine wpParts_det (by rfl) (fun W hE hN => ?_) ?_
              · go_simp; refine ⟨Below.refl _ _, ?_⟩; rfl
              simp only [Act.put, List.setIfInBounds_toArray, List.set_cons_zero, List.set_cons_succ]
              refine wpParts_det (by rfl) (fun W hE hN => ?_) ?_
              · go_simp; refine ⟨Below.refl _ _, ?_⟩; rfl
              simp only [Act.put, List.setIfInBounds_toArray, List.set_cons_zero, List.set_cons_succ]
              refine wpParts_det (by rfl) (fun W hE hN => ?_) ?_
              · go_simp; refine ⟨Below.refl _ _, ?_⟩; rfl
              simp only [Act.put, List.setIfInBounds_toArray, List.set_cons_zero, List.set_cons_succ]
              refine wpParts_det (by rfl) (fun W hE hN => ?_) ?_
              · go_simp; refine ⟨Below.refl _ _, ?_⟩; rfl
              simp only [Act.put, List.setIfInBounds_toArray, List.set_cons_zero, List.set_cons_succ]
              refine wpParts_det (by rfl) (fun W hE hN => ?_) ?_
              · go_simp; refine ⟨Below.refl _ _, ?_⟩; rfl
              simp only [Act.put, List.setIfInBounds_toArray, List.set_cons_zero, List.set_cons_succ]
              refine wpParts_det (by rfl) (fun W hE hN => ?_) ?_
              · go_simp; refine ⟨Below.refl _ _, ?_⟩; rfl
              simp only [Act.put, List.setIfInBounds_toArray, List.set_cons_zero, List.set_cons_succ]
              refine wpParts_det (by rfl) (fun W hE hN => ?_) ?_
              · have hc := fun b o h => hE.cell (p := ⟨b, o, none⟩) h
                go_simp; refine ⟨Below.refl _ _, ?_⟩; rfl
              simp only [Act.put, List.setIfInBounds_toArray, List.set_cons_zero, List.set_cons_succ]
              refine wpParts_det (by rfl) (fun W hE hN => ?_) ?_
              · go_simp; refine ⟨Below.refl _ _, ?_⟩; rfl
              simp only [Act.put, List.setIfInBounds_toArray, List.set_cons_zero, List.set_cons_succ]
              refine wpParts_det (by rfl) (fun W hE hN => ?_) ?_
              · go_simp; refine ⟨Below.refl _ _, ?_⟩; rfl
              simp only [Act.put, List.setIfInBounds_toArray, List.set_cons_zero, List.set_cons_succ]
              refine wpParts_det (by rfl) (fun W hE hN => ?_) ?_
              · go_simp; refine ⟨Below.refl _ _, ?_⟩; rfl
              simp only [Act.put, List.setIfInBounds_toArray, List.set_cons_zero, List.set_cons_succ]
              refine wpParts_det (by rfl) (fun W hE hN => ?_) ?_
              · have hc := fun b o h => hE.cell (p := ⟨b, o, none⟩) h
                go_simp; refine ⟨Below.refl _ _, ?_⟩; rfl
              simp only [Act.put, List.setIfInBounds_toArray, List.set_cons_zero, List.set_cons_succ]
              refine wpParts_det (by rfl) (fun W hE hN => ?_) ?_
              · go_simp; refine ⟨Below.refl _ _, ?_⟩; rfl
              simp only [Act.put, List.setIfInBounds_toArray, List.set_cons_zero, List.set_cons_succ]
              refine wpParts_det (by rfl) (fun W hE hN => ?_) ?_
              · have hc := fun b o h => hE.cell (p := ⟨b, o, none⟩) h
                go_simp; refine ⟨Below.refl _ _, ?_⟩; rfl
              simp only [Act.put, List.setIfInBounds_toArray, List.set_cons_zero, List.set_cons_succ]
              refine wpParts_det (by rfl) (fun W hE hN => ?_) ?_
              · go_simp; refine ⟨Below.refl _ _, ?_⟩; rfl
              simp only [Act.put, List.setIfInBounds_toArray, List.set_cons_zero, List.set_cons_succ]
              refine wpParts_det (by rfl) (fun W hE hN => ?_) ?_
              · go_simp; refine ⟨Below.refl _ _, ?_⟩; rfl
              simp only [Act.put, List.setIfInBounds_toArray, List.set_cons_zero, List.set_cons_succ]
              refine wpParts_det (by rfl) (fun W hE hN => ?_) ?_
              · have hc := fun b o h => hE.cell (p := ⟨b, o, none⟩) h
                go_simp; refine ⟨Below.refl _ _, ?_⟩; rfl
              simp only [Act.put, List.setIfInBounds_toArray, List.set_cons_zero, List.set_cons_succ]
              refine wpParts_det (by rfl) (fun W hE hN => ?_) ?_
              · go_simp; refine ⟨Below.refl _ _, ?_⟩; rfl
              simp only [Act.put, List.setIfInBounds_toArray, List.set_cons_zero, List.set_cons_succ]
              refine wpParts_det (by rfl) (fun W hE hN => ?_) ?_
              · go_simp; refine ⟨Below.refl _ _, ?_⟩; rfl
              simp only [Act.put, List.setIfInBounds_toArray, List.set_cons_zero, List.set_cons_succ]
              refine wpParts_det (by rfl) (fun W hE hN => ?_) ?_
              · go_simp; refine ⟨Below.refl _ _, ?_⟩; rfl
              simp only [Act.put, List.setIfInBounds_toArray, List.set_cons_zero, List.set_cons_succ]
              refine wpParts_end fun W2 hE2 hG2 => ?_
              have hcW2 := fun b o h => hE2.cell (p := ⟨b, o, none⟩) h
              have hfW2 := fun b o h => hE2.frozen (p := ⟨b, o, none⟩) h
              have BEL := Lib.hid (HBL.out.trans (hE2.mono HBL.out.size))
              clear hE2 hcW2 hfW2 q1 l1
              go_wp2_with fail
              go_roundw
              case rel => exact ⟨j + 1 + 1, HLT.out, by go_num, HSU2.out, BEL.out⟩
              case measure => have := HLT.out; simp [intOf]; omega
          | false =>
            go_wp2_with fail
            refine' wp_region_seq [.inl _, .inl _, .inl _, .inl _, .inl _, .inl _, .inl _, .inl _, .inl _, .inl _, .inl _, .inl _, .inl _, .inl _, .inl _, .inl _, .inl _, .inl _, .inl _, .inl _, .inl _, .inl _, .inl _, .inl _, .inl _] (by kernel_rfl) (by kernel_rfl) ?main4
            case main4 =>
              refine wpParts_det (by rfl) (fun W hE hN => ?_) ?_
              · go_simp; refine ⟨Below.refl _ _, ?_⟩; rfl
              simp only [Act.put, List.setIfInBounds_toArray, List.set_cons_zero, List.set_cons_succ]
              refine wpParts_det (by rfl) (fun W hE hN => ?_) ?_
              · have hc := fun b o h => hE.cell (p := ⟨b, o, none⟩) h
                go_simp; refine ⟨Below.refl _ _, ?_⟩; rfl
              simp only [Act.put, List.setIfInBounds_toArray, List.set_cons_zero, List.set_cons_succ]
              refine wpParts_det (by rfl) (fun W hE hN => ?_) ?_
              · go_simp; refine ⟨Below.refl _ _, ?_⟩; rfl
              simp only [Act.put, List.setIfInBounds_toArray, List.set_cons_zero, List.set_cons_succ]
              refine wpParts_det (by rfl) (fun W hE hN => ?_) ?_
              · go_simp; refine ⟨Below.refl _ _, ?_⟩; rfl
              simp only [Act.put, List.setIfInBounds_toArray, List.set_cons_zero, List.set_cons_succ]
              refine wpParts_det (by rfl) (fun W hE hN => ?_) ?_
              · have hc := fun b o h => hE.cell (p := ⟨b, o, none⟩) h
                go_simp; refine ⟨Below.refl _ _, ?_⟩; rfl
              simp only [Act.put, List.setIfInBounds_toArray, List.set_cons_zero, List.set_cons_succ]
              refine wpParts_det (by rfl) (fun W hE hN => ?_) ?_
              · go_simp; refine ⟨Below.refl _ _, ?_⟩; refine (Try_rValid u W HSZ.out).mono ?_; rintro e w' ⟨rfl, hb⟩; rw [HV.out]; refine ⟨?_, hb⟩; rfl
              simp only [Act.put, List.setIfInBounds_toArray, List.set_cons_zero, List.set_cons_succ]
              refine wpParts_det (by rfl) (fun W hE hN => ?_) ?_
              · go_simp; refine ⟨Below.refl _ _, ?_⟩; rfl
              simp only [Act.put, List.setIfInBounds_toArray, List.set_cons_zero, List.set_cons_succ]
              refine wpParts_det (by rfl) (fun W hE hN => ?_) ?_
              · go_simp; refine ⟨Below.refl _ _, ?_⟩; rfl
              simp only [Act.put, List.setIfInBounds_toArray, List.set_cons_zero, List.set_cons_succ]
              refine wpParts_det (by rfl) (fun W hE hN => ?_) ?_
              · go_simp; refine ⟨Below.refl _ _, ?_⟩; rfl
              simp only [Act.put, List.setIfInBounds_toArray, List.set_cons_zero, List.set_cons_succ]
              refine wpParts_det (by rfl) (fun W hE hN => ?_) ?_
              · go_simp; refine ⟨Below.refl _ _, ?_⟩; rfl
              simp only [Act.put, List.setIfInBounds_toArray, List.set_cons_zero, List.set_cons_succ]
              refine wpParts_det (by rfl) (fun W hE hN => ?_) ?_
              · go_simp; refine ⟨Below.refl _ _, ?_⟩; rfl
              simp only [Act.put, List.setIfInBounds_toArray, List.set_cons_zero, List.set_cons_succ]
              refine wpParts_det (by rfl) (fun W hE hN => ?_) ?_
              · go_simp; refine ⟨Below.refl _ _, ?_⟩; rfl
              simp only [Act.put, List.setIfInBounds_toArray, List.set_cons_zero, List.set_cons_succ]
              refine wpParts_det (by rfl) (fun W hE hN => ?_) ?_
              · have hc := fun b o h => hE.cell (p := ⟨b, o, none⟩) h
                go_simp; refine ⟨Below.refl _ _, ?_⟩; rfl
              simp only [Act.put, List.setIfInBounds_toArray, List.set_cons_zero, List.set_cons_succ]
              refine wpParts_det (by rfl) (fun W hE hN => ?_) ?_
              · go_simp; refine ⟨Below.refl _ _, ?_⟩; rfl
              simp only [Act.put, List.setIfInBounds_toArray, List.set_cons_zero, List.set_cons_succ]
              refine wpParts_det (by rfl) (fun W hE hN => ?_) ?_
              · go_simp; refine ⟨Below.refl _ _, ?_⟩; rfl
              simp only [Act.put, List.setIfInBounds_toArray, List.set_cons_zero, List.set_cons_succ]
              refine wpParts_det (by rfl) (fun W hE hN => ?_) ?_
              · go_simp; refine ⟨Below.refl _ _, ?_⟩; rfl
              simp only [Act.put, List.setIfInBounds_toArray, List.set_cons_zero, List.set_cons_succ]
              refine wpParts_det (by rfl) (fun W hE hN => ?_) ?_
              · have hc := fun b o h => hE.cell (p := ⟨b, o, none⟩) h
                go_simp; refine ⟨Below.refl _ _, ?_⟩; rfl
              simp only [Act.put, List.setIfInBounds_toArray, List.set_cons_zero, List.set_cons_succ]
              refine wpParts_det (by rfl) (fun W hE hN => ?_) ?_
              · go_simp; refine ⟨Below.refl _ _, ?_⟩; rfl
              simp only [Act.put, List.setIfInBounds_toArray, List.set_cons_zero, List.set_cons_succ]
              refine wpParts_det (by rfl) (fun W hE hN => ?_) ?_
              · have hc := fun b o h => hE.cell (p := ⟨b, o, none⟩) h
                go_simp; refine ⟨Below.refl _ _, ?_⟩; rfl
              simp only [Act.put, List.setIfInBounds_toArray, List.set_cons_zero, List.set_cons_succ]
              refine wpParts_det (by rfl) (fun W hE hN => ?_) ?_
              · go_simp; refine ⟨Below.refl _ _, ?_⟩; rfl
              simp only [Act.put, List.setIfInBounds_toArray, List.set_cons_zero, List.set_cons_succ]
              refine wpParts_det (by rfl) (fun W hE hN => ?_) ?_
              · go_simp; refine ⟨Below.refl _ _, ?_⟩; rfl
              simp only [Act.put, List.setIfInBounds_toArray, List.set_cons_zero, List.set_cons_succ]
              refine wpParts_det (by rfl) (fun W hE hN => ?_) ?_
              · have hc := fun b o h => hE.cell (p := ⟨b, o, none⟩) h
                go_simp; refine ⟨Below.refl _ _, ?_⟩; rfl
              simp only [Act.put, List.setIfInBounds_toArray, List.set_cons_zero, List.set_cons_succ]
              refine wpParts_det (by rfl) (fun W hE hN => ?_) ?_
              · go_simp; refine ⟨Below.refl _ _, ?_⟩; rfl
              simp only [Act.put, List.setIfInBounds_toArray, List.set_cons_zero, List.set_cons_succ]
              refine wpParts_det (by rfl) (fun W hE hN => ?_) ?_
              · go_simp; refine ⟨Below.refl _ _, ?_⟩; rfl
              simp only [Act.put, List.setIfInBounds_toArray, List.set_cons_zero, List.set_cons_succ]
              refine wpParts_det (by rfl) (fun W hE hN => ?_) ?_
              · go_simp; refine ⟨Below.refl _ _, ?_⟩; rfl
              simp only [Act.put, List.setIfInBounds_toArray, List.set_cons_zero, List.set_cons_succ]
              refine wpParts_end fun W2 hE2 hG2 => ?_
              have hcW2 := fun b o h => hE2.cell (p := ⟨b, o, none⟩) h
              have hfW2 := fun b o h => hE2.frozen (p := ⟨b, o, none⟩) h
              have e : r = false := by
                rw [← HR.out]
                have h1 : keysTo keys ql = false := by
                  cases hkq : keysTo keys ql with
                  | false => rfl
                  | true =>
                    have h2 := keysTo_mono hkq (show j + 1 + 1 ≤ ql from HLT.out)
                    rw [HSU2.out] at h2
                    cases h2
                rw [h1, Bool.false_and]
              subst e
              have BEL := Lib.hid (BEL0.out.trans ((HBL.out.trans (hE2.mono HBL.out.size)).mono BEL0.out.size))
              clear hE2 hcW2 hfW2 q1 l1
              go_wp2
              go_ret
              exact ⟨rfl, BEL.out⟩
    · have g1 : ¬ (i : Int) < (ql : Int) := by omega
      obtain rfl : i = ql := by omega
      have hr := HR.out
      rw [HKT.out, Bool.true_and] at hr
      have BEL := Lib.hid (BEL0.out.trans (HBL.out.mono BEL0.out.size))
      clear hlt hi
      by_cases k1 : kind = 1
      · subst k1
        have HR2 := Lib.hid hr
        clear hr HR
        go_wp2_with fail
        go_quiet (fail)
        go_wp2
        all_goals
          go_ret
          refine ⟨?_, by have h := BEL.out; exact (by repeat (first | (with_reducible exact Below.refl _ _) | (with_reducible exact Below.refl _ _) | (with_reducible refine Below.setCell ?_ (by first | omega | (simp; done) | (simp; omega)) _) | (with_reducible refine Below.alloc ?_ (by first | omega | (simp; done) | (simp; omega)) _) | (with_reducible refine Below.drew ?_) | (with_reducible refine below_drewN ?_ _) | (with_reducible refine Below.trans ?_ (h.mono (by first | omega | (simp; done) | (simp; omega))))))⟩
          rw [← HR2.out]
          simp [*] <;> (rw [Bool.eq_iff_iff]; simp) <;> omega
      · by_cases k2 : kind = 2
        · subst k2
          have HR2 := Lib.hid hr
          clear hr HR
          go_wp2_with fail
          go_quiet (fail)
          go_wp2
          all_goals
            go_ret
            refine ⟨?_, by have h := BEL.out; exact (by repeat (first | (with_reducible exact Below.refl _ _) | (with_reducible exact Below.refl _ _) | (with_reducible refine Below.setCell ?_ (by first | omega | (simp; done) | (simp; omega)) _) | (with_reducible refine Below.alloc ?_ (by first | omega | (simp; done) | (simp; omega)) _) | (with_reducible refine Below.drew ?_) | (with_reducible refine below_drewN ?_ _) | (with_reducible refine Below.trans ?_ (h.mono (by first | omega | (simp; done) | (simp; omega))))))⟩
            rw [← HR2.out]
            simp [*] <;> (rw [Bool.eq_iff_iff]; simp) <;> omega
        · by_cases k3 : kind = 3
          · subst k3
            have HR2 := Lib.hid hr
            clear hr HR
            go_wp2_with fail
            go_quiet (fail)
            go_wp2
            all_goals
              go_ret
              refine ⟨?_, by have h := BEL.out; exact (by repeat (first | (with_reducible exact Below.refl _ _) | (with_reducible exact Below.refl _ _) | (with_reducible refine Below.setCell ?_ (by first | omega | (simp; done) | (simp; omega)) _) | (with_reducible refine Below.alloc ?_ (by first | omega | (simp; done) | (simp; omega)) _) | (with_reducible refine Below.drew ?_) | (with_reducible refine below_drewN ?_ _) | (with_reducible refine Below.trans ?_ (h.mono (by first | omega | (simp; done) | (simp; omega))))))⟩
              rw [← HR2.out]
              simp [*] <;> (rw [Bool.eq_iff_iff]; simp) <;> omega
          · by_cases k4 : kind = 4
            · subst k4
              have HR2 := Lib.hid hr
              clear hr HR
              by_cases hn : n = 0
              · subst hn
                go_wp2_with fail
                go_quiet (fail)
                go_wp2_with fail
                refine (Try_rValid s _ HS.out).mono ?_; rintro e w2 ⟨rfl, hb2⟩
                have BEL2 := Lib.hid (BEL.out.trans ((show Below wr.heap.size wr w2 from (by repeat (first | (with_reducible exact Below.refl _ _) | (with_reducible exact Below.refl _ _) | (with_reducible refine Below.setCell ?_ (by first | omega | (simp; done) | (simp; omega)) _) | (with_reducible refine Below.alloc ?_ (by first | omega | (simp; done) | (simp; omega)) _) | (with_reducible refine Below.drew ?_) | (with_reducible refine below_drewN ?_ _) | (with_reducible refine Below.trans ?_ (hb2.mono (by first | omega | (simp; done) | (simp; omega))))))).mono BEL.out.size))
                obtain ⟨vs, hvs⟩ : ∃ vs, validB s.data.toList = vs := ⟨_, rfl⟩
                have HVS := Lib.hid hvs
                rw [hvs]
                clear hb2 hvs
                go_wp2
                all_goals
                  go_ret
                  refine ⟨?_, by have h := BEL2.out; exact (by repeat (first | (with_reducible exact Below.refl _ _) | (with_reducible exact Below.refl _ _) | (with_reducible refine Below.setCell ?_ (by first | omega | (simp; done) | (simp; omega)) _) | (with_reducible refine Below.alloc ?_ (by first | omega | (simp; done) | (simp; omega)) _) | (with_reducible refine Below.drew ?_) | (with_reducible refine below_drewN ?_ _) | (with_reducible refine Below.trans ?_ (h.mono (by first | omega | (simp; done) | (simp; omega))))))⟩
                  rw [← HR2.out]
                  simp [*, HVS.out] <;> (rw [Bool.eq_iff_iff]; simp) <;> omega
              · have hn0 : (n == 0) = false := by simp [hn]
                have e : r = false := by rw [← HR2.out]; simp [hn]
                clear HR2
                subst e
                go_wp2_with fail
                go_quiet (fail)
                go_wp2
                go_ret
                exact ⟨rfl, by have h := BEL.out; exact (by repeat (first | (with_reducible exact Below.refl _ _) | (with_reducible exact Below.refl _ _) | (with_reducible refine Below.setCell ?_ (by first | omega | (simp; done) | (simp; omega)) _) | (with_reducible refine Below.alloc ?_ (by first | omega | (simp; done) | (simp; omega)) _) | (with_reducible refine Below.drew ?_) | (with_reducible refine below_drewN ?_ _) | (with_reducible refine Below.trans ?_ (h.mono (by first | omega | (simp; done) | (simp; omega))))))⟩
            · by_cases k5 : kind = 5
              · subst k5
                have HR2 := Lib.hid hr
                clear hr HR
                go_wp2_with fail
                go_quiet (fail)
                go_wp2
                all_goals
                  go_ret
                  refine ⟨?_, by have h := BEL.out; exact (by repeat (first | (with_reducible exact Below.refl _ _) | (with_reducible exact Below.refl _ _) | (with_reducible refine Below.setCell ?_ (by first | omega | (simp; done) | (simp; omega)) _) | (with_reducible refine Below.alloc ?_ (by first | omega | (simp; done) | (simp; omega)) _) | (with_reducible refine Below.drew ?_) | (with_reducible refine below_drewN ?_ _) | (with_reducible refine Below.trans ?_ (h.mono (by first | omega | (simp; done) | (simp; omega))))))⟩
                  rw [← HR2.out]
                  simp [*] <;> (rw [Bool.eq_iff_iff]; simp) <;> omega
              · by_cases k6 : kind = 6
                · subst k6
                  have HR2 := Lib.hid hr
                  clear hr HR
                  go_wp2_with fail
                  go_quiet (fail)
                  go_wp2
                  all_goals
                    go_ret
                    refine ⟨?_, by have h := BEL.out; exact (by repeat (first | (with_reducible exact Below.refl _ _) | (with_reducible exact Below.refl _ _) | (with_reducible refine Below.setCell ?_ (by first | omega | (simp; done) | (simp; omega)) _) | (with_reducible refine Below.alloc ?_ (by first | omega | (simp; done) | (simp; omega)) _) | (with_reducible refine Below.drew ?_) | (with_reducible refine below_drewN ?_ _) | (with_reducible refine Below.trans ?_ (h.mono (by first | omega | (simp; done) | (simp; omega))))))⟩
                    rw [← HR2.out]
                    simp [*] <;> (rw [Bool.eq_iff_iff]; simp) <;> omega
                · have e : r = false := by rw [← hr, if_neg k1, if_neg k2, if_neg k3, if_neg k4, if_neg k5, if_neg k6]
                  have d1 : (kind == 1) = false := by simp [k1]
                  have d2 : (kind == 2) = false := by simp [k2]
                  have d3 : (kind == 3) = false := by simp [k3]
                  have d4 : (kind == 4) = false := by simp [k4]
                  have d5 : (kind == 5) = false := by simp [k5]
                  have d6 : (kind == 6) = false := by simp [k6]
                  clear hr HR k1 k2 k3 k4 k5 k6
                  subst e
                  go_wp2_with fail
                  go_quiet (fail)
                  go_wp2
                  go_ret
                  exact ⟨rfl, by have h := BEL.out; exact (by repeat (first | (with_reducible exact Below.refl _ _) | (with_reducible exact Below.refl _ _) | (with_reducible refine Below.setCell ?_ (by first | omega | (simp; done) | (simp; omega)) _) | (with_reducible refine Below.alloc ?_ (by first | omega | (simp; done) | (simp; omega)) _) | (with_reducible refine Below.drew ?_) | (with_reducible refine below_drewN ?_ _) | (with_reducible refine Below.trans ?_ (h.mono (by first | omega | (simp; done) | (simp; omega))))))⟩
end Go.Proofs.Ytdebmifjfemcjaa
