/-
  FrameGets, walked.
-/
import Derived.Test.YtafigbomcgncnaaFrO
namespace Go.Proofs.Ytafigbomcgncnaa
set_option linter.unusedVariables false
set_option linter.unusedSimpArgs false
open Go.RowKit Go.Dav
attribute [local go_sem] Gives ite_val ite_val_true

set_option maxRecDepth 100000 in
set_option maxHeartbeats 8000000 in
theorem Try_FrameGets (F : FileD) (fa la : Option Addr) (fl fc ll lc : Nat) (at_ : Int) (w : World) (hF : FileAt w fa fl fc la ll lc F) (ha : I64' at_) :
    Calls Try.prog 3 #[.agg #[.slice fa fl fc, .slice la ll lc, .int .i64 F.fuse, .int .i64 F.fault, .bool F.off], .int .i64 at_] w fun e w' => e = .returned (.bool true) ∧ Below w.heap.size w w' := by
  obtain ⟨W0, hW0⟩ : ∃ W0, w.alloc (.cells [.slice fa fl fc, .slice la ll lc, .int .i64 F.fuse, .int .i64 F.fault, .bool F.off].toArray 25) = W0 := ⟨_, rfl⟩
  have bel0 : Below w.heap.size w W0 := by rw [← hW0]; exact (by repeat (first | (with_reducible exact Below.refl _ _) | (with_reducible exact Below.refl _ _) | (with_reducible refine Below.setCell ?_ (by first | omega | (simp; done) | (simp; omega)) _) | (with_reducible refine Below.alloc ?_ (by first | omega | (simp; done) | (simp; omega)) _) | (with_reducible refine Below.drew ?_) | (with_reducible refine below_drewN ?_ _)))
  have HB1 := Lib.hid (show Blk W0 w.heap.size [.slice fa fl fc, .slice la ll lc, .int .i64 F.fuse, .int .i64 F.fault, .bool F.off] 25 by rw [← hW0]; exact Blk.new w [.slice fa fl fc, .slice la ll lc, .int .i64 F.fuse, .int .i64 F.fault, .bool F.off] _)
  have BEL0 := Lib.hid bel0
  have HF := Lib.hid ((hF.s).ext bel0)
  have HA := Lib.hid ha
  have HW0 := Lib.hid hW0
  clear hF bel0 ha hW0
  go_enter Try.func3, Try.ntmps3
  go_wp2_with fail
  rw [HW0.out]
  refine (Try_wakes11 W0).mono ?_; rintro e w1 ⟨rfl, hb1⟩
  have HB11 := Lib.hid (HB1.out.ext hb1)
  have HF1 := Lib.hid (HF.out.ext hb1)
  have BEL1 := Lib.hid (BEL0.out.trans (hb1.mono BEL0.out.size))
  have q1 := HB11.out.cells
  have l1 := HB11.out.lt
  clear hb1 HB1 HF BEL0 HW0
  go_wp2_with fail
  obtain ⟨G, hG⟩ : ∃ G, F.some = G := ⟨_, rfl⟩
  have hA := Try_some F fa la fl fc ll lc w1 _ HF1.out
  rw [hG] at hA
  refine hA.mono ?_; rintro e w2 ⟨ga, gl, gc, ma, ml, mc, rfl, hR, hb2⟩
  have HR := Lib.hid hR.bound
  have BEL2 := Lib.hid (BEL1.out.trans (hb2.mono BEL1.out.size))
  clear hA hR hb2 q1 l1 HB11 HF1 BEL1 hG
  go_wp2_with fail
  obtain ⟨V, hV⟩ : ∃ V, w2.alloc (.cells [.slice ga gl gc, .slice ma ml mc, .int .i64 G.fuse, .int .i64 G.fault, .bool G.off].toArray 25) = V := ⟨_, rfl⟩
  have hb3 : Below w2.heap.size w2 V := by rw [← hV]; exact (by repeat (first | (with_reducible exact Below.refl _ _) | (with_reducible exact Below.refl _ _) | (with_reducible refine Below.setCell ?_ (by first | omega | (simp; done) | (simp; omega)) _) | (with_reducible refine Below.alloc ?_ (by first | omega | (simp; done) | (simp; omega)) _) | (with_reducible refine Below.drew ?_) | (with_reducible refine below_drewN ?_ _)))
  have HBV := Lib.hid (show Blk V w2.heap.size [.slice ga gl gc, .slice ma ml mc, .int .i64 G.fuse, .int .i64 G.fault, .bool G.off] 25 by rw [← hV]; exact Blk.new w2 [.slice ga gl gc, .slice ma ml mc, .int .i64 G.fuse, .int .i64 G.fault, .bool G.off] _)
  have HFV := Lib.hid ((HR.out.ext hb3).bound)
  have BELV := Lib.hid (BEL2.out.trans (hb3.mono BEL2.out.size))
  rw [show _ = V from hV]
  clear hb3 hV HR BEL2
  cases hr : G.right with
  | false =>
    refine (Try_Get_no G ga ma gl gc ml mc at_ V HFV.out.at_ hr).mono ?_; rintro e w4 ⟨rfl, hb4⟩
    have HB4 := Lib.hid (HBV.out.ext hb4)
    have HF4 := Lib.hid (HFV.out.ext hb4)
    have BEL4 := Lib.hid (BELV.out.trans (hb4.mono BELV.out.size))
    have q1 := HB4.out.cells
    have l1 := HB4.out.lt
    clear hb4 HBV HFV BELV
    go_wp2_with fail
    have hC := Try_Check G ga ma gl gc ml mc w4 HF4.out.at_
    rw [show G.err = 200 by unfold FileD.err; rw [if_neg (by rw [hr]; decide)]] at hC
    refine hC.mono ?_; rintro e w5 ⟨rfl, hb5⟩
    have BEL5 := Lib.hid (BEL4.out.trans (hb5.mono BEL4.out.size))
    clear hb5 hC HB4 HF4 BEL4 q1 l1 hr
    go_wp2
    go_ret
    exact ⟨rfl, BEL5.out⟩
  | true =>
    have hmx := (FileD.right_spec.1 hr).2.2.2.2
    have hA := Try_Get G ga ma gl gc ml mc at_ V _ HFV.out (fun b h => h.2) hr HA.out
    obtain ⟨T, hT⟩ : ∃ T, pastAll G.all at_ = T := ⟨_, rfl⟩
    have HT := Lib.hid hT
    rw [hT] at hA
    have HR := Lib.hid hr
    have HMX := Lib.hid hmx
    clear hr hT hmx
    refine hA.mono ?_; rintro e w4 hgets
    clear hA
    rcases hgets with ⟨p, nx, hfr, xa, xn, xc, rfl, hX, hb4⟩ | ⟨hfr, rfl, hb4⟩
    · have HX := Lib.hid hX
      have HFR := Lib.hid hfr
      have HB4 := Lib.hid (HBV.out.ext hb4)
      have HF4 := Lib.hid (HFV.out.ext hb4)
      have BEL4 := Lib.hid (BELV.out.trans (hb4.mono BELV.out.size))
      have q1 := HB4.out.cells
      have l1 := HB4.out.lt
      clear hb4 hfr HBV HFV BELV
      go_wp2_with fail
      have hC := Try_Check G ga ma gl gc ml mc w4 HF4.out.at_
      rw [show G.err = 0 by unfold FileD.err; rw [if_pos HR.out]] at hC
      refine hC.mono ?_; rintro e w5 ⟨rfl, hb5⟩
      have HB45 := Lib.hid hb5
      have HB5 := Lib.hid (HB4.out.ext hb5)
      have HF5 := Lib.hid (HF4.out.ext hb5)
      have BEL5 := Lib.hid (BEL4.out.trans (hb5.mono BEL4.out.size))
      clear hb5 hC HB4 HF4 BEL4 q1 l1
      have q1 := HB5.out.cells
      have l1 := HB5.out.lt
      go_wp2_with fail
      refine (Try_refBytes G ga ma gl gc ml mc w5 HF5.out.at_ (by have := HMX.out; omega)).mono ?_; rintro e w6 ⟨ba, bn, bc, rfl, hB, hb6⟩
      have HB56 := Lib.hid hb6
      have BEL6 := Lib.hid (BEL5.out.trans (hb6.mono BEL5.out.size))
      have hbn := hB.at_.hlen
      rw [G.all_length] at hbn
      have hA := Try_refGet ba bn bc G.all at_ w6 hB.at_ HA.out (by have := HMX.out; omega)
      rw [HT.out] at hA
      have HRG := Lib.hid hA
      clear hb6 hB hbn hA HB5 HF5 BEL5 q1 l1
      go_wp2_with fail
      refine HRG.out.mono ?_; rintro e w7 href
      clear HRG
      rcases href with ⟨p', nx', hfr', ya, yn, yc, rfl, hY, hb7⟩ | ⟨hfr', _⟩
      case inr => rw [HFR.out] at hfr'; cases hfr'
      rw [HFR.out] at hfr'
      cases hfr'
      have HX7 := Lib.hid (((HX.out.ext HB45.out).ext HB56.out).ext hb7)
      have HY7 := Lib.hid hY
      have BEL7 := Lib.hid (BEL6.out.trans (hb7.mono BEL6.out.size))
      clear hb7 hY HX HB45 HB56 BEL6
      go_wp2_with fail
      have hA := Try_slicesEqual xa ya xn xc yn yc p p w7 HX7.out HY7.out
      rw [show decide (p = p) = true by simp] at hA
      refine hA.mono ?_; rintro e w8 ⟨rfl, hb8⟩
      have BEL8 := Lib.hid (BEL7.out.trans (hb8.mono BEL7.out.size))
      clear hb8 hA HX7 HY7 BEL7
      go_wp2
      go_ret
      exact ⟨rfl, BEL8.out⟩
    ·
      have HFR := Lib.hid hfr
      have HB4 := Lib.hid (HBV.out.ext hb4)
      have HF4 := Lib.hid (HFV.out.ext hb4)
      have BEL4 := Lib.hid (BELV.out.trans (hb4.mono BELV.out.size))
      have q1 := HB4.out.cells
      have l1 := HB4.out.lt
      clear hb4 hfr HBV HFV BELV
      go_wp2_with fail
      have hC := Try_Check G ga ma gl gc ml mc w4 HF4.out.at_
      rw [show G.err = 0 by unfold FileD.err; rw [if_pos HR.out]] at hC
      refine hC.mono ?_; rintro e w5 ⟨rfl, hb5⟩
      have HB45 := Lib.hid hb5
      have HB5 := Lib.hid (HB4.out.ext hb5)
      have HF5 := Lib.hid (HF4.out.ext hb5)
      have BEL5 := Lib.hid (BEL4.out.trans (hb5.mono BEL4.out.size))
      clear hb5 hC HB4 HF4 BEL4 q1 l1
      have q1 := HB5.out.cells
      have l1 := HB5.out.lt
      go_wp2_with fail
      refine (Try_refBytes G ga ma gl gc ml mc w5 HF5.out.at_ (by have := HMX.out; omega)).mono ?_; rintro e w6 ⟨ba, bn, bc, rfl, hB, hb6⟩
      have HB56 := Lib.hid hb6
      have BEL6 := Lib.hid (BEL5.out.trans (hb6.mono BEL5.out.size))
      have hbn := hB.at_.hlen
      rw [G.all_length] at hbn
      have hA := Try_refGet ba bn bc G.all at_ w6 hB.at_ HA.out (by have := HMX.out; omega)
      rw [HT.out] at hA
      have HRG := Lib.hid hA
      clear hb6 hB hbn hA HB5 HF5 BEL5 q1 l1
      go_wp2_with fail
      refine HRG.out.mono ?_; rintro e w7 href
      clear HRG
      rcases href with ⟨p', nx', hfr', _⟩ | ⟨hfr', rfl, hb7⟩
      case inl => rw [HFR.out] at hfr'; cases hfr'
      have BEL7 := Lib.hid (BEL6.out.trans (hb7.mono BEL6.out.size))
      clear hb7 hfr' HB45 HB56 BEL6
      go_wp2
      go_ret
      exact ⟨rfl, BEL7.out⟩
end Go.Proofs.Ytafigbomcgncnaa
