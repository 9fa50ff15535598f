/-
  Layer 10: Same, walked.
-/
import Derived.Test.YtmjmjjakhmeogaaFilE
namespace Go.Proofs.Ytmjmjjakhmeogaa
set_option linter.unusedVariables false
set_option linter.unusedSimpArgs false
open Go.RowKit Go.Dav
attribute [local go_sem] Gives ite_val ite_val_true

theorem FileD.err_right {F : FileD} (h : F.right = true) : F.err = 0 := by unfold FileD.err; rw [if_pos h]
theorem FileD.err_wrong {F : FileD} (h : F.right = false) : F.err = 200 := by unfold FileD.err; rw [if_neg (by rw [h]; decide)]

set_option maxRecDepth 8000 in
set_option maxHeartbeats 8000000 in
theorem Try_Same (F G : FileD) (fa la ga ma : Option Addr) (fl fc ll lc gl gc ml mc : Nat) (w : World) (hF : FileAt w fa fl fc la ll lc F) (hG : FileAt w ga gl gc ma ml mc G) :
    Calls Try.prog 24 #[.agg #[.slice fa fl fc, .slice la ll lc, .int .i64 F.fuse, .int .i64 F.fault, .bool F.off], .agg #[.slice ga gl gc, .slice ma ml mc, .int .i64 G.fuse, .int .i64 G.fault, .bool G.off]] w fun e w' => e = .returned (.bool (F.right && (G.right && F.one G))) ∧ Below w.heap.size w w' := by
  have hW0 : Below w.heap.size w ((w.alloc (.cells [.slice fa fl fc, .slice la ll lc, .int .i64 F.fuse, .int .i64 F.fault, .bool F.off].toArray 25)).alloc (.cells [.slice ga gl gc, .slice ma ml mc, .int .i64 G.fuse, .int .i64 G.fault, .bool G.off].toArray 25)) := (by repeat (first | (with_reducible exact Below.refl _ _) | (with_reducible exact Below.refl _ _) | (with_reducible refine Below.setCell ?_ (by first | omega | (simp; done) | (simp; omega)) _) | (with_reducible refine Below.alloc ?_ (by first | omega | (simp; done) | (simp; omega)) _) | (with_reducible refine Below.drew ?_) | (with_reducible refine below_drewN ?_ _)))
  have HX := Lib.hid (hF.ext hW0)
  have HY := Lib.hid (hG.ext hW0)
  have HC := Lib.hid (Try_Check F fa la fl fc ll lc _ (hF.ext hW0))
  have HB1 := Lib.hid ((Blk.new w [.slice fa fl fc, .slice la ll lc, .int .i64 F.fuse, .int .i64 F.fault, .bool F.off] 25).alloc (o := .cells [.slice ga gl gc, .slice ma ml mc, .int .i64 G.fuse, .int .i64 G.fault, .bool G.off].toArray 25))
  have HB2 := Lib.hid (Blk.new' (w.alloc (.cells [.slice fa fl fc, .slice la ll lc, .int .i64 F.fuse, .int .i64 F.fault, .bool F.off].toArray 25)) [.slice ga gl gc, .slice ma ml mc, .int .i64 G.fuse, .int .i64 G.fault, .bool G.off] 25 (World.size_alloc _ _))
  clear hF hG hW0
  cases hr : F.right with
  | false =>
    have h := FileD.err_wrong hr
    rw [h] at HC
    clear hr h
    go_enter Try.func24, Try.ntmps24
    go_wp2_with fail
    refine HC.out.mono ?_; rintro e w1 ⟨rfl, hb1⟩
    go_wp2
    go_ret
    exact ⟨rfl, (by repeat (first | (with_reducible exact Below.refl _ _) | (with_reducible exact Below.refl _ _) | (with_reducible refine Below.setCell ?_ (by first | omega | (simp; done) | (simp; omega)) _) | (with_reducible refine Below.alloc ?_ (by first | omega | (simp; done) | (simp; omega)) _) | (with_reducible refine Below.drew ?_) | (with_reducible refine below_drewN ?_ _) | (with_reducible refine Below.trans ?_ (hb1.mono (by first | omega | (simp; done) | (simp; omega))))))⟩
  | true =>
    have h := FileD.err_right hr
    rw [h] at HC
    clear hr h
    go_enter Try.func24, Try.ntmps24
    go_wp2_with fail
    refine HC.out.mono ?_; rintro e w1 ⟨rfl, hb1⟩
    have s1 := hb1.size
    simp only [World.size_alloc] at s1
    have B1 := HB1.out.ext hb1
    have B2 := HB2.out.ext hb1
    have q1 := B1.cells
    have q2 := B2.cells
    have m1 := B1.marks
    have m2 := B2.marks
    have l1 := B1.lt
    have l2 := B2.lt
    have HX1 := Lib.hid (HX.out.ext hb1)
    have HY1 := Lib.hid (HY.out.ext hb1)
    have bel : Below w.heap.size w w1 := (by repeat (first | (with_reducible exact Below.refl _ _) | (with_reducible exact Below.refl _ _) | (with_reducible refine Below.setCell ?_ (by first | omega | (simp; done) | (simp; omega)) _) | (with_reducible refine Below.alloc ?_ (by first | omega | (simp; done) | (simp; omega)) _) | (with_reducible refine Below.drew ?_) | (with_reducible refine below_drewN ?_ _) | (with_reducible refine Below.trans ?_ (hb1.mono (by first | omega | (simp; done) | (simp; omega))))))
    have HB1' := Lib.hid B1
    have HB2' := Lib.hid B2
    have HD := Lib.hid (Try_Check G ga ma gl gc ml mc _ (HY1.out))
    clear B1 B2 HC hb1 HB1 HB2
    cases hg : G.right with
    | false =>
      have h := FileD.err_wrong hg
      rw [h] at HD
      have HG := Lib.hid hg
      clear hg h
      go_wp2_with fail
      refine HD.out.mono ?_; rintro e w2 ⟨rfl, hb2⟩
      go_wp2
      go_ret
      exact ⟨ret_bool (by rw [HG.out]; rfl), (by repeat (first | (with_reducible exact Below.refl _ _) | (with_reducible exact Below.refl _ _) | (with_reducible refine Below.setCell ?_ (by first | omega | (simp; done) | (simp; omega)) _) | (with_reducible refine Below.alloc ?_ (by first | omega | (simp; done) | (simp; omega)) _) | (with_reducible refine Below.drew ?_) | (with_reducible refine below_drewN ?_ _) | (with_reducible refine Below.trans ?_ (hb2.mono (by first | omega | (simp; done) | (simp; omega)))) | (with_reducible refine Below.trans ?_ (bel.mono (by first | omega | (simp; done) | (simp; omega))))))⟩
    | true =>
      have h := FileD.err_right hg
      rw [h] at HD
      have HG := Lib.hid hg
      clear hg h
      go_wp2_with fail
      refine HD.out.mono ?_; rintro e w2 ⟨rfl, hb2⟩
      have B1 := HB1'.out.ext hb2
      have B2 := HB2'.out.ext hb2
      have bel2 : Below w.heap.size w w2 := (by repeat (first | (with_reducible exact Below.refl _ _) | (with_reducible exact Below.refl _ _) | (with_reducible refine Below.setCell ?_ (by first | omega | (simp; done) | (simp; omega)) _) | (with_reducible refine Below.alloc ?_ (by first | omega | (simp; done) | (simp; omega)) _) | (with_reducible refine Below.drew ?_) | (with_reducible refine below_drewN ?_ _) | (with_reducible refine Below.trans ?_ (hb2.mono (by first | omega | (simp; done) | (simp; omega)))) | (with_reducible refine Below.trans ?_ (bel.mono (by first | omega | (simp; done) | (simp; omega))))))
      have s2 := hb2.size
      have HX2 := Lib.hid (HX1.out.ext hb2)
      have HY2 := Lib.hid (HY1.out.ext hb2)
      clear q1 q2 m1 m2 l1 l2 hb2 HD
      have q1 := B1.cells
      have q2 := B2.cells
      have m1 := B1.marks
      have m2 := B2.marks
      have l1 := B1.lt
      have l2 := B2.lt
      have HB1'' := Lib.hid B1
      have HB2'' := Lib.hid B2
      clear B1 B2
      by_cases h1 : F.fuse = G.fuse
      · have h1' : (F.fuse == G.fuse) = true := by simp [h1]
        by_cases h2 : F.fault = G.fault
        · have h2' : (F.fault == G.fault) = true := by simp [h2]
          by_cases h3 : F.off = G.off
          · have HV := Lib.hid (show F.one G = (decide (F.firm = G.firm) && decide (F.loose = G.loose)) by simp [FileD.one, h1, h2, h3])
            have h3' : (F.off == G.off) = true := by simp [h3]
            clear h1 h2 h3
            go_wp2_with fail
            (with_reducible refine (Try_slicesEqual fa ga fl fc gl gc F.firm G.firm _ HX2.out.firm HY2.out.firm).mono ?_); rintro e w3 ⟨rfl, hb3⟩
            have B1 := HB1''.out.ext hb3
            have B2 := HB2''.out.ext hb3
            have bel3 : Below w.heap.size w w3 := (by repeat (first | (with_reducible exact Below.refl _ _) | (with_reducible exact Below.refl _ _) | (with_reducible refine Below.setCell ?_ (by first | omega | (simp; done) | (simp; omega)) _) | (with_reducible refine Below.alloc ?_ (by first | omega | (simp; done) | (simp; omega)) _) | (with_reducible refine Below.drew ?_) | (with_reducible refine below_drewN ?_ _) | (with_reducible refine Below.trans ?_ (hb3.mono (by first | omega | (simp; done) | (simp; omega)))) | (with_reducible refine Below.trans ?_ (bel2.mono (by first | omega | (simp; done) | (simp; omega))))))
            have HX3 := Lib.hid (HX2.out.ext hb3)
            have HY3 := Lib.hid (HY2.out.ext hb3)
            clear q1 q2 m1 m2 l1 l2 hb3
            have q1 := B1.cells
            have q2 := B2.cells
            have m1 := B1.marks
            have m2 := B2.marks
            have l1 := B1.lt
            have l2 := B2.lt
            clear B1 B2 HB1'' HB2''
            by_cases h5 : F.firm = G.firm
            · have hv : decide (F.firm = G.firm) = true := by simp [h5]
              rw [hv] at HV ⊢
              clear h5 hv
              go_wp2_with fail
              (with_reducible refine (Try_equalFunc la ma ll lc ml mc F.loose G.loose _ HX3.out.loose HY3.out.loose).mono ?_); rintro e w4 ⟨rfl, hb4⟩
              go_wp2
              go_ret
              exact ⟨ret_bool (by rw [HG.out, HV.out]; simp), (by repeat (first | (with_reducible exact Below.refl _ _) | (with_reducible exact Below.refl _ _) | (with_reducible refine Below.setCell ?_ (by first | omega | (simp; done) | (simp; omega)) _) | (with_reducible refine Below.alloc ?_ (by first | omega | (simp; done) | (simp; omega)) _) | (with_reducible refine Below.drew ?_) | (with_reducible refine below_drewN ?_ _) | (with_reducible refine Below.trans ?_ (hb4.mono (by first | omega | (simp; done) | (simp; omega)))) | (with_reducible refine Below.trans ?_ (bel3.mono (by first | omega | (simp; done) | (simp; omega))))))⟩
            · have hv : decide (F.firm = G.firm) = false := by simp [h5]
              rw [hv] at HV ⊢
              clear h5 hv
              go_wp2
              go_ret
              exact ⟨ret_bool (by rw [HG.out, HV.out]; simp), (by repeat (first | (with_reducible exact Below.refl _ _) | (with_reducible exact Below.refl _ _) | (with_reducible refine Below.setCell ?_ (by first | omega | (simp; done) | (simp; omega)) _) | (with_reducible refine Below.alloc ?_ (by first | omega | (simp; done) | (simp; omega)) _) | (with_reducible refine Below.drew ?_) | (with_reducible refine below_drewN ?_ _) | (with_reducible refine Below.trans ?_ (bel3.mono (by first | omega | (simp; done) | (simp; omega))))))⟩
          · have HV := Lib.hid (show F.one G = false by simp [FileD.one, h3])
            have h3' : (F.off == G.off) = false := by simpa using h3
            clear h1 h2 h3
            go_wp2
            go_ret
            exact ⟨ret_bool (by rw [HG.out, HV.out]; rfl), (by repeat (first | (with_reducible exact Below.refl _ _) | (with_reducible exact Below.refl _ _) | (with_reducible refine Below.setCell ?_ (by first | omega | (simp; done) | (simp; omega)) _) | (with_reducible refine Below.alloc ?_ (by first | omega | (simp; done) | (simp; omega)) _) | (with_reducible refine Below.drew ?_) | (with_reducible refine below_drewN ?_ _) | (with_reducible refine Below.trans ?_ (bel2.mono (by first | omega | (simp; done) | (simp; omega))))))⟩
        · have HV := Lib.hid (show F.one G = false by simp [FileD.one, h2])
          have h2' : (F.fault == G.fault) = false := by simpa using h2
          clear h1 h2
          go_wp2
          go_ret
          exact ⟨ret_bool (by rw [HG.out, HV.out]; rfl), (by repeat (first | (with_reducible exact Below.refl _ _) | (with_reducible exact Below.refl _ _) | (with_reducible refine Below.setCell ?_ (by first | omega | (simp; done) | (simp; omega)) _) | (with_reducible refine Below.alloc ?_ (by first | omega | (simp; done) | (simp; omega)) _) | (with_reducible refine Below.drew ?_) | (with_reducible refine below_drewN ?_ _) | (with_reducible refine Below.trans ?_ (bel2.mono (by first | omega | (simp; done) | (simp; omega))))))⟩
      · have HV := Lib.hid (show F.one G = false by simp [FileD.one, h1])
        have h1' : (F.fuse == G.fuse) = false := by simpa using h1
        clear h1
        go_wp2
        go_ret
        exact ⟨ret_bool (by rw [HG.out, HV.out]; rfl), (by repeat (first | (with_reducible exact Below.refl _ _) | (with_reducible exact Below.refl _ _) | (with_reducible refine Below.setCell ?_ (by first | omega | (simp; done) | (simp; omega)) _) | (with_reducible refine Below.alloc ?_ (by first | omega | (simp; done) | (simp; omega)) _) | (with_reducible refine Below.drew ?_) | (with_reducible refine below_drewN ?_ _) | (with_reducible refine Below.trans ?_ (bel2.mono (by first | omega | (simp; done) | (simp; omega))))))⟩
end Go.Proofs.Ytmjmjjakhmeogaa
