/-
  Layer 10: whole files held against one another: slices.EqualFunc, Same, and the reference's Same, walked.
-/
import Derived.Test.YtafigbomcgncnaaFilB
import Derived.Test.YtafigbomcgncnaaFilC
namespace Go.Proofs.Ytafigbomcgncnaa
set_option linter.unusedVariables false
set_option linter.unusedSimpArgs false
open Go.RowKit Go.Dav
attribute [local go_sem] Gives ite_val ite_val_true

def TryEqFRel (w : World) (x y : List (List UInt8)) (ix : Value) (wr : World) : Prop :=
  ∃ k : Nat, k ≤ x.length ∧ ix = .int .i64 k ∧ x.take k = y.take k ∧ Below w.heap.size w wr

theorem take_succ_eqL {x y : List (List UInt8)} {k : Nat} {c d : List UInt8} (h : x.take k = y.take k) (hx : x[k]? = some c) (hy : y[k]? = some d) : x.take (k + 1) = y.take (k + 1) ↔ c = d := by
  rw [List.take_add_one, List.take_add_one, hx, hy, h]
  simp

def TryRSameRel (w : World) (x y : List (List UInt8)) (c1 c2 : List Value) (ix : Value) (wr : World) : Prop :=
  ∃ k : Nat, k ≤ x.length ∧ ix = .int .i64 k ∧ x.take k = y.take k ∧ Blk wr w.heap.size c1 25 ∧ Blk wr (w.heap.size + 1) c2 25 ∧ Below w.heap.size w wr

set_option maxRecDepth 8000 in
set_option maxHeartbeats 8000000 in
theorem Try_refSame (F G : FileD) (fa la ga ma : Option Addr) (fl fc ll lc gl gc ml mc : Nat) (w : World) (hF : FileAt w fa fl fc la ll lc F) (hG : FileAt w ga gl gc ma ml mc G) :
    Calls Try.prog 18 #[.agg #[.slice fa fl fc, .slice la ll lc, .int .i64 F.fuse, .int .i64 F.fault, .bool F.off], .agg #[.slice ga gl gc, .slice ma ml mc, .int .i64 G.fuse, .int .i64 G.fault, .bool G.off]] w fun e w' => e = .returned (.bool (F.one G)) ∧ Below w.heap.size w w' := by
  have e1 := hF.loose.hlen
  have e2 := hG.loose.hlen
  have f1 := hF.loose.hfew
  have f2 := hG.loose.hfew
  have hW0 : Below w.heap.size w ((w.alloc (.cells #[.slice fa fl fc, .slice la ll lc, .int .i64 F.fuse, .int .i64 F.fault, .bool F.off] 25)).alloc (.cells #[.slice ga gl gc, .slice ma ml mc, .int .i64 G.fuse, .int .i64 G.fault, .bool G.off] 25)) := (by repeat (first | (with_reducible exact Below.refl _ _) | (with_reducible exact Below.refl _ _) | (with_reducible refine Below.setCell ?_ (by first | omega | (simp; done) | (simp; omega)) _) | (with_reducible refine Below.alloc ?_ (by first | omega | (simp; done) | (simp; omega)) _) | (with_reducible refine Below.drew ?_) | (with_reducible refine below_drewN ?_ _)))
  have HFF := Lib.hid (hF.firm.ext hW0)
  have HGF := Lib.hid (hG.firm.ext hW0)
  have HX := Lib.hid hF.loose
  have HY := Lib.hid hG.loose
  have H1 := Lib.hid e1
  have H2 := Lib.hid e2
  have g1 : (ll : Int) ≤ 140737488355328 := by omega
  clear hF hG hW0
  by_cases h1 : F.fuse = G.fuse
  · have h1' : (F.fuse != G.fuse) = false := by simp [h1]
    by_cases h2 : F.fault = G.fault
    · have h2' : (F.fault != G.fault) = false := by simp [h2]
      by_cases h3 : F.off = G.off
      · rw [h3] at HFF HGF ⊢
        by_cases h4 : ll = ml
        · have h4' : ((ll : Int) != (ml : Int)) = false := by simp [h4]
          have HV := Lib.hid (show F.one G = (decide (F.firm = G.firm) && decide (F.loose = G.loose)) by simp [FileD.one, h1, h2, h3])
          have H4 := Lib.hid h4
          clear h1 h2 h3 h4 e1 e2
          go_enter Try.func18, Try.ntmps18
          go_wp2_with fail
          (with_reducible refine (Try_refbytes fa ga fl fc gl gc F.firm G.firm _ HFF.out HGF.out).mono ?_); rintro e w1 ⟨rfl, hb1⟩
          have hs1 := hb1.size
          simp only [World.size_alloc] at hs1
          have hB1 := ((Blk.new w [_, _, _, _, _] 25).alloc _).ext hb1
          have hB2 := (Blk.new' (w.alloc (.cells #[.slice fa fl fc, .slice la ll lc, .int .i64 F.fuse, .int .i64 F.fault, .bool G.off] 25)) [_, _, _, _, _] 25 (World.size_alloc _ _)).ext hb1
          have b1 : Below w.heap.size w w1 := (by repeat (first | (with_reducible exact Below.refl _ _) | (with_reducible exact Below.refl _ _) | (with_reducible refine Below.setCell ?_ (by first | omega | (simp; done) | (simp; omega)) _) | (with_reducible refine Below.alloc ?_ (by first | omega | (simp; done) | (simp; omega)) _) | (with_reducible refine Below.drew ?_) | (with_reducible refine below_drewN ?_ _) | (with_reducible refine Below.trans ?_ (hb1.mono (by first | omega | (simp; done) | (simp; omega))))))
          by_cases h5 : F.firm = G.firm
          · have hv : decide (F.firm = G.firm) = true := by simp [h5]
            rw [hv] at HV ⊢
            clear h5 hv
            have n12 : w.heap.size ≠ w.heap.size + 1 := by omega
            go_wp2_with fail
            go_loopw [5] (fun ix wr => TryRSameRel w F.loose G.loose [.slice fa fl fc, .slice la ll lc, .int .i64 F.fuse, .int .i64 F.fault, .bool G.off] [.slice ga gl gc, .slice ma ml mc, .int .i64 G.fuse, .int .i64 G.fault, .bool G.off] ix wr) (fun ix _ => ll - (intOf ix).toNat)
            case atStart => exact ⟨0, Nat.zero_le _, rfl, by simp, hB1, hB2, b1⟩
            case round =>
              obtain ⟨k, hk, rfl, htk, hr1, hr2, hbel⟩ := hrel
              have hk2 : k ≤ ll := by have := H1.out; omega
              have HT := Lib.hid htk; clear htk
              have hbs := hbel.size
              have l1 := hr1.lt
              have l2 := hr2.lt
              have c1 := hr1.cells
              have c2 := hr2.cells
              by_cases hlt : k < F.loose.length
              · obtain ⟨c, hc⟩ : ∃ c, F.loose[k]? = some c := ⟨_, List.getElem?_eq_getElem hlt⟩
                obtain ⟨d, hd⟩ : ∃ d, G.loose[k]? = some d := ⟨_, List.getElem?_eq_getElem (by have := H1.out; have := H2.out; have := H4.out; omega)⟩
                obtain ⟨b1, o1, pa, pl, pc, rfl, hb1, q1, hP⟩ := (HX.out.ext hbel).hat k c hc
                obtain ⟨b2, o2, ra, rl, rc, rfl, hb2, q2, hR⟩ := (HY.out.ext hbel).hat k d hd
                have HS := Lib.hid (take_succ_eqL HT.out hc hd)
                have hkl : (k : Int) < (ll : Int) := by have := H1.out; omega
                have hkm : (k : Int) < (ml : Int) := by have := H1.out; have := H4.out; omega
                have hk0 : (0 : Int) ≤ (k : Int) := by omega
                have HLT := Lib.hid hlt
                clear hlt hc hd hk
                go_wp2_with fail
                refine' wp_region_seq [.inl _, .inl _, .inl _, .inl _, .inl _, .inl _, .inl _, .inl _, .inl _, .inl _, .inl _, .inl _] (by kernel_rfl) (by kernel_rfl) ?main1
                case main1 =>
                  refine wpParts_det (by rfl) (fun W hE hN => ?_) ?_
                  · go_simp; refine ⟨Below.refl _ _, ?_⟩; rfl
                  simp only [Act.put, List.setIfInBounds_toArray, List.set_cons_zero, List.set_cons_succ]
                  refine wpParts_det (by rfl) (fun W hE hN => ?_) ?_
                  · have hc := fun b o h => hE.cell (p := ⟨b, o, none⟩) h
                    go_simp; refine ⟨Below.refl _ _, ?_⟩; rfl
                  simp only [Act.put, List.setIfInBounds_toArray, List.set_cons_zero, List.set_cons_succ]
                  refine wpParts_det (by rfl) (fun W hE hN => ?_) ?_
                  · go_simp; refine ⟨Below.refl _ _, ?_⟩; rfl
                  simp only [Act.put, List.setIfInBounds_toArray, List.set_cons_zero, List.set_cons_succ]
                  refine wpParts_det (by rfl) (fun W hE hN => ?_) ?_
                  · go_simp; refine ⟨Below.refl _ _, ?_⟩; rfl
                  simp only [Act.put, List.setIfInBounds_toArray, List.set_cons_zero, List.set_cons_succ]
                  refine wpParts_det (by rfl) (fun W hE hN => ?_) ?_
                  · have hc := fun b o h => hE.cell (p := ⟨b, o, none⟩) h
                    go_simp; refine ⟨Below.refl _ _, ?_⟩; rfl
                  simp only [Act.put, List.setIfInBounds_toArray, List.set_cons_zero, List.set_cons_succ]
                  refine wpParts_det (by rfl) (fun W hE hN => ?_) ?_
                  · go_simp; refine ⟨Below.refl _ _, ?_⟩; rfl
                  simp only [Act.put, List.setIfInBounds_toArray, List.set_cons_zero, List.set_cons_succ]
                  refine wpParts_det (by rfl) (fun W hE hN => ?_) ?_
                  · have hc := fun b o h => hE.cell (p := ⟨b, o, none⟩) h
                    go_simp; refine ⟨Below.refl _ _, ?_⟩; rfl
                  simp only [Act.put, List.setIfInBounds_toArray, List.set_cons_zero, List.set_cons_succ]
                  refine wpParts_det (by rfl) (fun W hE hN => ?_) ?_
                  · go_simp; refine ⟨Below.refl _ _, ?_⟩; rfl
                  simp only [Act.put, List.setIfInBounds_toArray, List.set_cons_zero, List.set_cons_succ]
                  refine wpParts_det (by rfl) (fun W hE hN => ?_) ?_
                  · go_simp; refine ⟨Below.refl _ _, ?_⟩; rfl
                  simp only [Act.put, List.setIfInBounds_toArray, List.set_cons_zero, List.set_cons_succ]
                  refine wpParts_det (by rfl) (fun W hE hN => ?_) ?_
                  · have hc := fun b o h => hE.cell (p := ⟨b, o, none⟩) h
                    go_simp; refine ⟨Below.refl _ _, ?_⟩; rfl
                  simp only [Act.put, List.setIfInBounds_toArray, List.set_cons_zero, List.set_cons_succ]
                  refine wpParts_det (by rfl) (fun W hE hN => ?_) ?_
                  · go_simp; refine ⟨Below.refl _ _, ?_⟩; refine (Try_refbytes pa ra pl pc rl rc c d _ (hP.ext hE) (hR.ext hE)).mono ?_; rintro e w' ⟨rfl, hb⟩; refine ⟨?_, hb⟩; rfl
                  simp only [Act.put, List.setIfInBounds_toArray, List.set_cons_zero, List.set_cons_succ]
                  refine wpParts_det (by rfl) (fun W hE hN => ?_) ?_
                  · go_simp; refine ⟨Below.refl _ _, ?_⟩; rfl
                  simp only [Act.put, List.setIfInBounds_toArray, List.set_cons_zero, List.set_cons_succ]
                  refine wpParts_end fun W2 hE2 hG2 => ?_
                  have hcW2 := fun b o h => hE2.cell (p := ⟨b, o, none⟩) h
                  have hfW2 := fun b o h => hE2.frozen (p := ⟨b, o, none⟩) h
                  by_cases hcd : c = d
                  · have hv : decide (c = d) = true := by simp [hcd]
                    rw [hv]
                    have HCD := Lib.hid hcd; clear hcd hv
                    go_wp2_with fail
                    go_roundw
                    case rel => exact ⟨k + 1, HLT.out, by go_num, HS.out.2 HCD.out, hr1.ext hE2, hr2.ext hE2, (by repeat (first | (with_reducible exact Below.refl _ _) | (with_reducible exact Below.refl _ _) | (with_reducible refine Below.setCell ?_ (by first | omega | (simp; done) | (simp; omega)) _) | (with_reducible refine Below.alloc ?_ (by first | omega | (simp; done) | (simp; omega)) _) | (with_reducible refine Below.drew ?_) | (with_reducible refine below_drewN ?_ _) | (with_reducible refine Below.trans ?_ (hE2.mono (by first | omega | (simp; done) | (simp; omega)))) | (with_reducible refine Below.trans ?_ (hbel.mono (by first | omega | (simp; done) | (simp; omega))))))⟩
                    case measure => simp [intOf]; omega
                  · have hv : decide (c = d) = false := by simp [hcd]
                    rw [hv]
                    have HCD := Lib.hid hcd; clear hcd hv
                    go_wp2_with fail
                    go_ret
                    exact ⟨ret_bool (by rw [HV.out, eq_comm, Bool.true_and]; simp only [decide_eq_false_iff_not]; intro h; exact HCD.out (HS.out.1 (by rw [h]))), (by repeat (first | (with_reducible exact Below.refl _ _) | (with_reducible exact Below.refl _ _) | (with_reducible refine Below.setCell ?_ (by first | omega | (simp; done) | (simp; omega)) _) | (with_reducible refine Below.alloc ?_ (by first | omega | (simp; done) | (simp; omega)) _) | (with_reducible refine Below.drew ?_) | (with_reducible refine below_drewN ?_ _) | (with_reducible refine Below.trans ?_ (hE2.mono (by first | omega | (simp; done) | (simp; omega)))) | (with_reducible refine Below.trans ?_ (hbel.mono (by first | omega | (simp; done) | (simp; omega))))))⟩
              · have hkl : k = F.loose.length := by omega
                have hk3 : ¬ ((k : Int) < (ll : Int)) := by have := H1.out; omega
                have hval : F.loose = G.loose := by
                  have h := HT.out
                  rw [hkl, List.take_length, List.take_of_length_le (by have := H1.out; have := H2.out; have := H4.out; omega)] at h
                  exact h
                have HL := Lib.hid hval; clear hval hkl hk hlt
                go_wp2
                go_ret
                exact ⟨ret_bool (by rw [HV.out]; simp [HL.out]), (by repeat (first | (with_reducible exact Below.refl _ _) | (with_reducible exact Below.refl _ _) | (with_reducible refine Below.setCell ?_ (by first | omega | (simp; done) | (simp; omega)) _) | (with_reducible refine Below.alloc ?_ (by first | omega | (simp; done) | (simp; omega)) _) | (with_reducible refine Below.drew ?_) | (with_reducible refine below_drewN ?_ _) | (with_reducible refine Below.trans ?_ (hbel.mono (by first | omega | (simp; done) | (simp; omega))))))⟩
          · have hv : decide (F.firm = G.firm) = false := by simp [h5]
            rw [hv] at HV ⊢
            clear h5 hv
            go_wp2
            go_ret
            exact ⟨ret_bool (by rw [HV.out]; rfl), (by repeat (first | (with_reducible exact Below.refl _ _) | (with_reducible exact Below.refl _ _) | (with_reducible refine Below.setCell ?_ (by first | omega | (simp; done) | (simp; omega)) _) | (with_reducible refine Below.alloc ?_ (by first | omega | (simp; done) | (simp; omega)) _) | (with_reducible refine Below.drew ?_) | (with_reducible refine below_drewN ?_ _) | (with_reducible refine Below.trans ?_ (b1.mono (by first | omega | (simp; done) | (simp; omega))))))⟩
        · have h4' : ((ll : Int) != (ml : Int)) = true := by simp; omega
          have HV := Lib.hid (show F.one G = false by rw [Bool.eq_false_iff]; intro h; have := FileD.one_spec.1 h; subst this; omega)
          clear h1 h2 h3 h4 e1 e2
          go_enter Try.func18, Try.ntmps18
          go_wp2
          go_ret
          exact ⟨ret_bool HV.out.symm, (by repeat (first | (with_reducible exact Below.refl _ _) | (with_reducible exact Below.refl _ _) | (with_reducible refine Below.setCell ?_ (by first | omega | (simp; done) | (simp; omega)) _) | (with_reducible refine Below.alloc ?_ (by first | omega | (simp; done) | (simp; omega)) _) | (with_reducible refine Below.drew ?_) | (with_reducible refine below_drewN ?_ _)))⟩
      · have h3' : (F.off == G.off) = false := by simpa using h3
        have HV := Lib.hid (show F.one G = false by simp [FileD.one, h3])
        clear h1 h2 h3 e1 e2
        go_enter Try.func18, Try.ntmps18
        go_wp2
        go_ret
        exact ⟨ret_bool HV.out.symm, (by repeat (first | (with_reducible exact Below.refl _ _) | (with_reducible exact Below.refl _ _) | (with_reducible refine Below.setCell ?_ (by first | omega | (simp; done) | (simp; omega)) _) | (with_reducible refine Below.alloc ?_ (by first | omega | (simp; done) | (simp; omega)) _) | (with_reducible refine Below.drew ?_) | (with_reducible refine below_drewN ?_ _)))⟩
    · have h2' : (F.fault != G.fault) = true := by simp [h2]
      have HV := Lib.hid (show F.one G = false by simp [FileD.one, h2])
      clear h1 h2 e1 e2
      go_enter Try.func18, Try.ntmps18
      go_wp2
      go_ret
      exact ⟨ret_bool HV.out.symm, (by repeat (first | (with_reducible exact Below.refl _ _) | (with_reducible exact Below.refl _ _) | (with_reducible refine Below.setCell ?_ (by first | omega | (simp; done) | (simp; omega)) _) | (with_reducible refine Below.alloc ?_ (by first | omega | (simp; done) | (simp; omega)) _) | (with_reducible refine Below.drew ?_) | (with_reducible refine below_drewN ?_ _)))⟩
  · have h1' : (F.fuse != G.fuse) = true := by simp [h1]
    have HV := Lib.hid (show F.one G = false by simp [FileD.one, h1])
    clear h1 e1 e2
    go_enter Try.func18, Try.ntmps18
    go_wp2
    go_ret
    exact ⟨ret_bool HV.out.symm, (by repeat (first | (with_reducible exact Below.refl _ _) | (with_reducible exact Below.refl _ _) | (with_reducible refine Below.setCell ?_ (by first | omega | (simp; done) | (simp; omega)) _) | (with_reducible refine Below.alloc ?_ (by first | omega | (simp; done) | (simp; omega)) _) | (with_reducible refine Below.drew ?_) | (with_reducible refine below_drewN ?_ _)))⟩
end Go.Proofs.Ytafigbomcgncnaa
