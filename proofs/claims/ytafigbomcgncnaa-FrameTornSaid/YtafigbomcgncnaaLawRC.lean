/-
  FrameTorn, walked.
-/
import Derived.Test.YtafigbomcgncnaaFrQ
namespace Go.Proofs.Ytafigbomcgncnaa
set_option linter.unusedVariables false
set_option linter.unusedSimpArgs false
open Go.RowKit Go.Dav
attribute [local go_sem] Gives ite_val ite_val_true

set_option maxRecDepth 100000 in
set_option maxHeartbeats 8000000 in
theorem Try_FrameTorn (ya pa : Option Addr) (yn yc pl pc : Nat) (y p : List UInt8) (cut : Int) (w : World) (hy : BytesAt w ya yn yc y) (hp : BytesAt w pa pl pc p) (hc : I64' cut) :
    Calls Try.prog 5 #[.slice ya yn yc, .slice pa pl pc, .int .i64 cut] w fun e w' => e = .returned (.bool true) ∧ Below w.heap.size w w' := by
  have HY := Lib.hid hy.s
  have HP := Lib.hid hp.s
  have HCUT := Lib.hid hc
  clear hy hp hc
  go_enter Try.func5, Try.ntmps5
  go_wp2_with fail
  refine (Try_wakes11 w).mono ?_; rintro e w1 ⟨rfl, hb1⟩
  have BEL1 := Lib.hid hb1
  clear hb1
  go_wp2_with fail
  obtain ⟨A, hA⟩ : ∃ A, y.take 500 = A := ⟨_, rfl⟩
  have hal : A.length ≤ 500 := by rw [← hA, List.length_take]; omega
  have hC := Try_few ya yn yc 500 y w1 _ (HY.out.ext BEL1.out) (by omega)
  rw [hA] at hC
  refine (show Calls Try.prog 15 #[.slice ya yn yc, .int .i64 500] w1 _ from hC).mono ?_; rintro e w2 ⟨v2, rfl, ho2, hb2⟩
  obtain ⟨aa, ac, rfl, hA2⟩ := own_bytes ho2 (by omega)
  have HAB := Lib.hid hA2
  have BEL2 := Lib.hid (BEL1.out.trans (hb2.mono BEL1.out.size))
  clear hC hA2 ho2 hb2 BEL1 hA
  go_wp2_with fail
  refine (Try_firm aa A.length ac w2).mono ?_; rintro e w3 ⟨rfl, hb3⟩
  have HA3 := Lib.hid (HAB.out.ext hb3)
  have BEL3 := Lib.hid (BEL2.out.trans (hb3.mono BEL2.out.size))
  clear hb3 HAB BEL2
  go_wp2_with fail
  obtain ⟨V, hV⟩ : ∃ V, w3.alloc (.cells #[.slice aa A.length ac, .slice none 0 0, .int .i64 (-1), .int .i64 (-1), .bool false] 25) = V := ⟨_, rfl⟩
  have hbV : Below w3.heap.size w3 V := by rw [← hV]; exact (by repeat (first | (with_reducible exact Below.refl _ _) | (with_reducible exact Below.refl _ _) | (with_reducible refine Below.setCell ?_ (by first | omega | (simp; done) | (simp; omega)) _) | (with_reducible refine Below.alloc ?_ (by first | omega | (simp; done) | (simp; omega)) _) | (with_reducible refine Below.drew ?_) | (with_reducible refine below_drewN ?_ _)))
  have HKF := Lib.hid (show Blk V w3.heap.size [.slice aa A.length ac, .slice none 0 0, .int .i64 (-1), .int .i64 (-1), .bool false] 25 by rw [← hV]; exact Blk.new _ _ _)
  have HFV := Lib.hid ((firmS (HA3.out.ext hbV)).bound)
  have BELV := Lib.hid (BEL3.out.trans (hbV.mono BEL3.out.size))
  rw [show _ = V from hV]
  clear hbV hV HA3 BEL3
  obtain ⟨b, hb⟩ : ∃ b, p.take 500 = b := ⟨_, rfl⟩
  have hbl : b.length ≤ 500 := by rw [← hb, List.length_take]; omega
  have hC := Try_few pa pl pc 500 p V _ (HP.out.ext BELV.out) (by omega)
  rw [hb] at hC
  refine (show Calls Try.prog 15 #[.slice pa pl pc, .int .i64 500] V _ from hC).mono ?_; rintro e w4 ⟨v4, rfl, ho4, hb4⟩
  obtain ⟨ba, bc, rfl, hB4⟩ := own_bytes ho4 (by omega)
  have HB4 := Lib.hid hB4
  have HK4 := Lib.hid (HKF.out.ext hb4)
  have HF4 := Lib.hid ((HFV.out.ext hb4).bound)
  have BEL4 := Lib.hid (BELV.out.trans (hb4.mono BELV.out.size))
  have q1 := HK4.out.cells
  have l1 := HK4.out.lt
  clear hC hB4 ho4 hb4 HKF HFV BELV hb
  by_cases h0 : b.length = 0
  · have d1 : ((b.length : Int) == 0) = true := by rw [h0]; rfl
    go_wp2_with fail
    refine (show Calls Try.prog 17 #[.agg #[.slice aa A.length ac, .slice none 0 0, .int .i64 (-1), .int .i64 (-1), .bool false], .int .i64 0] w4 _ from Try_Size (firmF A) aa none A.length ac 0 0 0 w4 _ HF4.out (fun b h => h.2) (by unfold I64'; omega)).mono ?_; rintro e w5 ⟨rfl, hb5⟩
    rw [show (firmF A).fsize 0 = 0 from FileD.fsize_zero _]
    have BEL5 := Lib.hid (BEL4.out.trans (hb5.mono BEL4.out.size))
    clear hb5
    go_wp2
    go_ret
    exact ⟨rfl, BEL5.out⟩
  · have d1 : ((b.length : Int) == 0) = false := by rw [beq_eq_false_iff_ne]; omega
    have hb1 : 1 ≤ b.length := by omega
    have hpw := pieceOf_len (F := firmF A) (outOf b) (by rw [outOf_len]; omega)
    rw [firmF_all] at hpw
    have hpp : 1 ≤ (pieceOf A (outOf b)).length := List.length_pos_iff.2 (pieceOf_ne A b)
    have HPUT := Lib.hid (laidF_put (A := A) (b := b) (by omega) hb1 (by omega))
    have HBACK := Lib.hid (back A hb1 (by omega))
    have HTORN := Lib.hid (fun n => torn A (b := b) (by omega) (n := n))
    have HLALL := Lib.hid (laidF_all A b)
    have HLR := Lib.hid (laidF_right (A := A) (b := b) (by omega) (by omega))
    have HFM := Lib.hid (firmF_many A)
    have HFR := Lib.hid (firmF_right (A := A) (by omega))
    have HFA := Lib.hid (firmF_all A)
    obtain ⟨x, hx⟩ : ∃ x, pieceOf A (outOf b) = x := ⟨_, rfl⟩
    obtain ⟨at_, hat⟩ : ∃ z, placeOf A (outOf b) = z := ⟨_, rfl⟩
    rw [hx] at hpw hpp HBACK HTORN HLALL
    rw [hat] at HPUT HBACK HTORN
    obtain ⟨xl, hxl⟩ : ∃ xl, x.length = xl := ⟨_, rfl⟩
    rw [hxl] at hpw hpp
    have HXL := Lib.hid hxl
    clear hxl
    have hatl : at_ ≤ 30000 := by rw [← hat, place_body A _ (outOf_ne b), List.length_append]; have := padFor_len A; split <;> omega
    clear hx hat h0
    go_wp2_with fail
    have hA := Try_fPut (firmF A) aa none ba A.length ac 0 0 b.length bc b w4 _ _ HF4.out (fun b h => h.2) HB4.out
    rw [HPUT.out] at hA
    refine (show Calls Try.prog 16 #[.agg #[.slice aa A.length ac, .slice none 0 0, .int .i64 (-1), .int .i64 (-1), .bool false], .slice ba b.length bc] w4 _ from hA).mono ?_; rintro e w5 ⟨ga, gl, gc, ma, ml, mc, rfl, hR, hb5⟩
    have HG5 := Lib.hid hR
    have HB5 := Lib.hid (HB4.out.ext hb5)
    have HK5 := Lib.hid (HK4.out.ext hb5)
    have HF5 := Lib.hid (HF4.out.ext hb5)
    have BEL5 := Lib.hid (BEL4.out.trans (hb5.mono BEL4.out.size))
    clear hA hR hb5 HB4 HK4 HF4 BEL4 q1 l1 HPUT d1
    go_wp2_with fail
    obtain ⟨U, hU⟩ : ∃ U, w5.alloc (.cells #[.slice ga gl gc, .slice ma ml mc, .int .i64 (laidF A b).fuse, .int .i64 (laidF A b).fault, .bool (laidF A b).off] 25) = U := ⟨_, rfl⟩
    have hbU : Below w5.heap.size w5 U := by rw [← hU]; exact (by repeat (first | (with_reducible exact Below.refl _ _) | (with_reducible exact Below.refl _ _) | (with_reducible refine Below.setCell ?_ (by first | omega | (simp; done) | (simp; omega)) _) | (with_reducible refine Below.alloc ?_ (by first | omega | (simp; done) | (simp; omega)) _) | (with_reducible refine Below.drew ?_) | (with_reducible refine below_drewN ?_ _)))
    have HGU := Lib.hid ((HG5.out.ext hbU).bound)
    have HBU := Lib.hid (HB5.out.ext hbU)
    have HKU := Lib.hid (HK5.out.ext hbU)
    have HFU := Lib.hid (HF5.out.ext hbU)
    have BELU := Lib.hid (BEL5.out.trans (hbU.mono BEL5.out.size))
    rw [show _ = U from hU]
    clear hbU hU HG5 HB5 HK5 HF5 BEL5
    refine (Try_said (laidF A b) ga ma gl gc ml mc U _ HGU.out (fun b h => h.2) HLR.out).mono ?_; rintro e w6 ⟨sa, sn, sc, rfl, hS, hb6⟩
    rw [HLALL.out] at hS
    have hsn := hS.at_.hlen
    rw [List.length_append, HXL.out] at hsn
    subst hsn
    have HS6 := Lib.hid hS
    have HB6 := Lib.hid (HBU.out.ext hb6)
    have HK6 := Lib.hid (HKU.out.ext hb6)
    have HF6 := Lib.hid (HFU.out.ext hb6)
    have BEL6 := Lib.hid (BELU.out.trans (hb6.mono BELU.out.size))
    have q1 := HK6.out.cells
    have l1 := HK6.out.lt
    clear hS hb6 HGU HBU HKU HFU BELU
    go_wp2_with fail
    have HLEN := Lib.hid (show ∀ W, Below w6.heap.size w6 W → Calls Try.prog 24 #[.agg #[.slice aa A.length ac, .slice none 0 0, .int .i64 (-1), .int .i64 (-1), .bool false]] W (fun e w' => e = .returned (.int .i64 (A.length : Int)) ∧ Below W.heap.size W w') from fun W hW => by
      have h := Try_Len (firmF A) aa none A.length ac 0 0 W (HF6.out.ext hW).at_
      rw [if_pos HFR.out, HFM.out] at h
      exact h)
    refine (HLEN.out w6 (Below.refl _ _)).mono ?_; rintro e w7 ⟨rfl, hb7⟩
    have HK7 := Lib.hid (HK6.out.ext hb7)
    have HW7 := Lib.hid hb7
    have BEL7 := Lib.hid (BEL6.out.trans (hb7.mono BEL6.out.size))
    have d2 : ¬ ((A.length : Int) + (xl : Int) ≤ (A.length : Int)) := by omega
    clear hb7 q1 l1 HK6 BEL6
    have q1 := HK7.out.cells
    have l1 := HK7.out.lt
    obtain ⟨cu, hcu⟩ : ∃ cu : Nat, IntKind.u64.wrap cut = (cu : Int) := ⟨(IntKind.u64.wrap cut).toNat, by rw [IntKind.wrap_u64]; omega⟩
    obtain ⟨r, hr⟩ : ∃ r, cu % xl = r := ⟨_, rfl⟩
    have hrx : r < xl := by rw [← hr]; exact Nat.mod_lt _ (by omega)
    have u2 : IntKind.i64.wrap ((A.length : Int) + (xl : Int) - (A.length : Int)) = (xl : Int) := by rw [show (A.length : Int) + (xl : Int) - (A.length : Int) = (xl : Int) by omega]; exact IntWalk.i64_in _ (by omega)
    have u3 : IntKind.u64.wrap (xl : Int) = (xl : Int) := by rw [IntKind.wrap_u64]; omega
    have u4 : (cu : Int).tmod (xl : Int) = (r : Int) := by rw [← hr]; rfl
    have u5 : IntKind.i64.wrap (r : Int) = (r : Int) := IntWalk.i64_in _ (by omega)
    have u6 : IntKind.i64.wrap ((A.length : Int) + (r : Int)) = (A.length : Int) + (r : Int) := IntWalk.i64_in _ (by omega)
    have d3 : ¬ xl = 0 := by omega
    clear hr
    go_wp2_with fail
    refine' wp_region_seq [.inl _, .inl _, .inl _, .inl _, .inl _, .inl _, .inl _, .inl _, .inl _, .inl _, .inl _, .inl _, .inl _, .inl _] (by kernel_rfl) (by kernel_rfl) ?main1
    case main1 =>
      refine wpParts_det (by rfl) (fun W hE hN => ?_) ?_
      · have hc := fun b o h => hE.cell (p := ⟨b, o, none⟩) h
        go_simp; refine ⟨Below.refl _ _, ?_⟩; rfl
      simp only [Act.put, List.setIfInBounds_toArray, List.set_cons_zero, List.set_cons_succ]
      refine wpParts_det (by rfl) (fun W hE hN => ?_) ?_
      · go_simp; refine ⟨Below.refl _ _, ?_⟩; refine (HLEN.out W (HW7.out.trans (hE.mono HW7.out.size))).mono ?_; rintro e w' ⟨rfl, hb⟩; refine ⟨?_, hb⟩; rfl
      simp only [Act.put, List.setIfInBounds_toArray, List.set_cons_zero, List.set_cons_succ]
      refine wpParts_det (by rfl) (fun W hE hN => ?_) ?_
      · go_simp; refine ⟨Below.refl _ _, ?_⟩; rfl
      simp only [Act.put, List.setIfInBounds_toArray, List.set_cons_zero, List.set_cons_succ]
      refine wpParts_det (by rfl) (fun W hE hN => ?_) ?_
      · go_simp; refine ⟨Below.refl _ _, ?_⟩; rfl
      simp only [Act.put, List.setIfInBounds_toArray, List.set_cons_zero, List.set_cons_succ]
      refine wpParts_det (by rfl) (fun W hE hN => ?_) ?_
      · go_simp; refine ⟨Below.refl _ _, ?_⟩; rfl
      simp only [Act.put, List.setIfInBounds_toArray, List.set_cons_zero, List.set_cons_succ]
      refine wpParts_det (by rfl) (fun W hE hN => ?_) ?_
      · go_simp; refine ⟨Below.refl _ _, ?_⟩; rfl
      simp only [Act.put, List.setIfInBounds_toArray, List.set_cons_zero, List.set_cons_succ]
      refine wpParts_det (by rfl) (fun W hE hN => ?_) ?_
      · have hc := fun b o h => hE.cell (p := ⟨b, o, none⟩) h
        go_simp; refine ⟨Below.refl _ _, ?_⟩; rfl
      simp only [Act.put, List.setIfInBounds_toArray, List.set_cons_zero, List.set_cons_succ]
      refine wpParts_det (by rfl) (fun W hE hN => ?_) ?_
      · go_simp; refine ⟨Below.refl _ _, ?_⟩; refine (HLEN.out W (HW7.out.trans (hE.mono HW7.out.size))).mono ?_; rintro e w' ⟨rfl, hb⟩; refine ⟨?_, hb⟩; rfl
      simp only [Act.put, List.setIfInBounds_toArray, List.set_cons_zero, List.set_cons_succ]
      refine wpParts_det (by rfl) (fun W hE hN => ?_) ?_
      · go_simp; refine ⟨Below.refl _ _, ?_⟩; rfl
      simp only [Act.put, List.setIfInBounds_toArray, List.set_cons_zero, List.set_cons_succ]
      refine wpParts_det (by rfl) (fun W hE hN => ?_) ?_
      · go_simp; refine ⟨Below.refl _ _, ?_⟩; rfl
      simp only [Act.put, List.setIfInBounds_toArray, List.set_cons_zero, List.set_cons_succ]
      refine wpParts_det (by rfl) (fun W hE hN => ?_) ?_
      · go_simp; refine ⟨Below.refl _ _, ?_⟩; rfl
      simp only [Act.put, List.setIfInBounds_toArray, List.set_cons_zero, List.set_cons_succ]
      refine wpParts_det (by rfl) (fun W hE hN => ?_) ?_
      · go_simp; refine ⟨Below.refl _ _, ?_⟩; rfl
      simp only [Act.put, List.setIfInBounds_toArray, List.set_cons_zero, List.set_cons_succ]
      refine wpParts_det (by rfl) (fun W hE hN => ?_) ?_
      · go_simp; refine ⟨Below.refl _ _, ?_⟩; rfl
      simp only [Act.put, List.setIfInBounds_toArray, List.set_cons_zero, List.set_cons_succ]
      refine wpParts_det (by rfl) (fun W hE hN => ?_) ?_
      · go_simp; refine ⟨Below.refl _ _, ?_⟩; rfl
      simp only [Act.put, List.setIfInBounds_toArray, List.set_cons_zero, List.set_cons_succ]
      refine wpParts_end fun W8 hE8 hG8 => ?_
      have hcW8 := fun b o h => hE8.cell (p := ⟨b, o, none⟩) h
      have hfW8 := fun b o h => hE8.frozen (p := ⟨b, o, none⟩) h
      have hb8 := HW7.out.trans (hE8.mono HW7.out.size)
      have HS8 := Lib.hid (HS6.out.ext hb8)
      have HB8 := Lib.hid (HB6.out.ext hb8)
      have BEL8 := Lib.hid (BEL7.out.trans (hE8.mono BEL7.out.size))
      clear hb8 hE8 hG8 hcW8 hfW8 q1 l1 HW7 HLEN HK7 BEL7 HS6 HB6 HF6 u2 u3 u4 u5 u6 d3 hcu
      obtain ⟨z0, hz0⟩ : ∃ z, (A ++ x)[0]? = some z := ⟨_, List.getElem?_eq_getElem (by rw [List.length_append, HXL.out]; omega)⟩
      obtain ⟨sb, so, rfl, _⟩ := HS8.out.at_.hat 0 z0 hz0
      have hsc := HS8.out.at_.hcap
      have e1 : (0 : Int) ≤ (A.length : Int) + (r : Int) := by omega
      have e2 : (A.length : Int) + (r : Int) ≤ (sc : Int) := by omega
      obtain ⟨n, hn⟩ : ∃ n, A.length + r = n := ⟨_, rfl⟩
      have hnI : (A.length : Int) + (r : Int) = (n : Int) := by omega
      have hnl : n < A.length + xl := by omega
      have HSN := Lib.hid (HS8.out.take (n := n) (by omega))
      rw [hnI] at e1 e2 ⊢
      clear hz0
      go_wp2_with fail
      refine (Try_firm (some ⟨sb, so, none⟩) n sc W8).mono ?_; rintro e w9 ⟨rfl, hb9⟩
      have HS9 := Lib.hid (HS8.out.ext hb9)
      have HN9 := Lib.hid ((firmS (HSN.out.ext hb9)).bound)
      have HB9 := Lib.hid (HB8.out.ext hb9)
      have BEL9 := Lib.hid (BEL8.out.trans (hb9.mono BEL8.out.size))
      clear hb9 HS8 HSN HB8 BEL8
      go_wp2_with fail
      have hG := Try_Get (firmF ((A ++ x).take n)) (some ⟨sb, so, none⟩) none n sc 0 0 (at_ : Int) w9 _ HN9.out (fun b h => h.2) (firmF_right (by rw [List.length_take]; omega)) (by unfold I64'; omega)
      rw [firmF_all] at hG
      have hnone := HTORN.out n (by rw [List.length_append, HXL.out]; exact hnl)
      refine (show Calls Try.prog 10 #[.agg #[.slice (some ⟨sb, so, none⟩) n sc, .slice none 0 0, .int .i64 (-1), .int .i64 (-1), .bool false], .int .i64 (at_ : Int)] w9 _ from hG).mono ?_
      rintro e w10 (⟨gp, gn, hfr, _⟩ | ⟨hfr, rfl, hb10⟩)
      case inl => rw [hnone] at hfr; cases hfr
      have HS10 := Lib.hid (HS9.out.ext hb10)
      have HB10 := Lib.hid (HB9.out.ext hb10)
      have BEL10 := Lib.hid (BEL9.out.trans (hb10.mono BEL9.out.size))
      clear hb10 HS9 HN9 HB9 BEL9 hG hfr hnone
      go_wp2_with fail
      refine (Try_firm (some ⟨sb, so, none⟩) (A.length + xl) sc w10).mono ?_; rintro e w11 ⟨rfl, hb11⟩
      have HN11 := Lib.hid ((firmS (HS10.out.ext hb11)).bound)
      have HB11 := Lib.hid (HB10.out.ext hb11)
      have BEL11 := Lib.hid (BEL10.out.trans (hb11.mono BEL10.out.size))
      clear hb11 HS10 HB10 BEL10
      go_wp2_with fail
      have hG := Try_Get (firmF (A ++ x)) (some ⟨sb, so, none⟩) none (A.length + xl) sc 0 0 (at_ : Int) w11 _ HN11.out (fun b h => h.2) (firmF_right (by rw [List.length_append, HXL.out]; omega)) (by unfold I64'; omega)
      rw [firmF_all] at hG
      refine (show Calls Try.prog 10 #[.agg #[.slice (some ⟨sb, so, none⟩) (A.length + xl) sc, .slice none 0 0, .int .i64 (-1), .int .i64 (-1), .bool false], .int .i64 (at_ : Int)] w11 _ from hG).mono ?_
      rintro e w12 (⟨gp, gn, hfr, ra, rn, rc, rfl, hX, hb12⟩ | ⟨hfr, _⟩)
      case inr => rw [HBACK.out] at hfr; cases hfr
      rw [HBACK.out] at hfr
      obtain ⟨rfl, e5⟩ : b = gp ∧ (A ++ x).length = gn := by cases hfr; exact ⟨rfl, rfl⟩
      rw [List.length_append, HXL.out] at e5
      subst e5
      have HX12 := Lib.hid hX
      have HB12 := Lib.hid (HB11.out.ext hb12)
      have BEL12 := Lib.hid (BEL11.out.trans (hb12.mono BEL11.out.size))
      clear hb12 hX HN11 HB11 BEL11 hG hfr
      go_wp2_with fail
      have hE := Try_bytesEqual ra ba rn rc b.length bc b b w12 HX12.out HB12.out.at_
      rw [show decide (b = b) = true by simp] at hE
      refine hE.mono ?_; rintro e w13 ⟨rfl, hb13⟩
      have BEL13 := Lib.hid (BEL12.out.trans (hb13.mono BEL12.out.size))
      clear hb13 hE HX12 HB12 BEL12
      go_wp2
      go_ret
      exact ⟨rfl, BEL13.out⟩
end Go.Proofs.Ytafigbomcgncnaa
