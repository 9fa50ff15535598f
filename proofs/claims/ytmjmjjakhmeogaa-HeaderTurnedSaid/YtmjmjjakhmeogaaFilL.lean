/-
  Layer 10: the reference's Asked, Append, Sync, walked.
-/
import Derived.Test.YtmjmjjakhmeogaaFilK
namespace Go.Proofs.Ytmjmjjakhmeogaa
set_option linter.unusedVariables false
set_option linter.unusedSimpArgs false
open Go.RowKit Go.Dav
attribute [local go_sem] Gives ite_val ite_val_true


set_option maxRecDepth 8000 in
set_option maxHeartbeats 8000000 in
theorem Try_Asked (F : FileD) (fa la : Option Addr) (fl fc ll lc : Nat) (more : Nat) (w : World) (S : Nat → Prop) (hF : FileS w S fa fl fc la ll lc F) (hr : F.right = true) (hm : more ≤ 140737488355328) :
    Calls Try.prog 70 #[.agg #[.slice fa fl fc, .slice la ll lc, .int .i64 F.fuse, .int .i64 F.fault, .bool F.off], .int .i64 more] w (GivesFile w S (F.asked more).1 (F.asked more).2) := by
  have hW : Below w.heap.size w ((w.alloc (.cells [.slice fa fl fc, .slice la ll lc, .int .i64 F.fuse, .int .i64 F.fault, .bool F.off].toArray 25)).alloc (.cells #[.slice none 0 0, .slice none 0 0, .int .i64 0, .int .i64 0, .bool false] 25)) := (by repeat (first | (with_reducible exact Below.refl _ _) | (with_reducible exact Below.refl _ _) | (with_reducible refine Below.setCell ?_ (by first | omega | (simp; done) | (simp; omega)) _) | (with_reducible refine Below.alloc ?_ (by first | omega | (simp; done) | (simp; omega)) _) | (with_reducible refine Below.drew ?_) | (with_reducible refine below_drewN ?_ _)))
  have hf0 := (Blk.new w [.slice fa fl fc, .slice la ll lc, .int .i64 F.fuse, .int .i64 F.fault, .bool F.off] 25).alloc (o := (.cells #[.slice none 0 0, .slice none 0 0, .int .i64 0, .int .i64 0, .bool false] 25))
  have B1 := Blk.new' (w.alloc (.cells [.slice fa fl fc, .slice la ll lc, .int .i64 F.fuse, .int .i64 F.fault, .bool F.off].toArray 25)) [.slice none 0 0, .slice none 0 0, .int .i64 0, .int .i64 0, .bool false] 25 (p := w.heap.size + 1) (by simp)
  have hrs := FileD.right_spec.1 hr
  have HF := Lib.hid hF
  have HW := Lib.hid hW
  have HFF := Lib.hid (hF.at_.ext hW)
  clear hF hW
  by_cases hoff : F.off = true
  · have q10 := B1.cells
    have m10 := B1.marks
    have HV := Lib.hid (show F.asked more = (F, 10) by unfold FileD.asked; rw [if_pos hoff])
    clear hrs
    go_enter Try.func70, Try.ntmps70
    have HB1 := Lib.hid B1
    clear B1
    go_wp2
    rw [HV.out]
    have hr2 := ((((HB1.out.set 0 (.slice fa fl fc)).set 1 (.slice la ll lc)).set 2 (.int .i64 (F.fuse))).set 3 (.int .i64 (F.fault))).set 4 (.bool (true))
    have c2 := hr2.cells
    simp only [List.set_cons_zero, List.set_cons_succ] at c2
    refine bodyPost_ret (v := .tuple #[.agg #[.slice fa fl fc, .slice la ll lc, .int .i64 (F.fuse), .int .i64 (F.fault), .bool (true)], .int .i64 (10)]) (by simp [results, Try.results70, go_sem, c2]) rfl ⟨fa, fl, fc, la, ll, lc, by first | rfl | (simp only [hoff2]; done) | (simp only [hoff]; done), ?_, ?_⟩
    · exact ((HF.out).mono fun b h => Or.inl h).ext (by repeat (first | (with_reducible exact Below.refl _ _) | (with_reducible exact Below.refl _ _) | (with_reducible refine Below.setCell ?_ (by first | omega | (simp; done) | (simp; omega)) _) | (with_reducible refine Below.alloc ?_ (by first | omega | (simp; done) | (simp; omega)) _) | (with_reducible refine Below.drew ?_) | (with_reducible refine below_drewN ?_ _) | (with_reducible refine Below.trans ?_ (HW.out.mono (by first | omega | (simp; done) | (simp; omega))))))
    · exact (by repeat (first | (with_reducible exact Below.refl _ _) | (with_reducible exact Below.refl _ _) | (with_reducible refine Below.setCell ?_ (by first | omega | (simp; done) | (simp; omega)) _) | (with_reducible refine Below.alloc ?_ (by first | omega | (simp; done) | (simp; omega)) _) | (with_reducible refine Below.drew ?_) | (with_reducible refine below_drewN ?_ _) | (with_reducible refine Below.trans ?_ (HW.out.mono (by first | omega | (simp; done) | (simp; omega))))))
  · have hoff2 : F.off = false := by simpa using hoff
    have HNO := Lib.hid hoff; clear hoff
    have hL := Lib.hid (Try_Long F fa la fl fc ll lc _ HFF.out)
    rw [hoff2] at hL hf0 B1
    go_enter Try.func70, Try.ntmps70
    go_wp2_with fail
    refine hL.out.mono ?_; rintro e w1 ⟨n, rfl, hn1, hn2, hn3, hb1⟩
    have hn : n = F.many := hn1 hrs.2.2.2.2
    subst hn
    clear hn1 hn2 hn3
    have hmany : (F.many : Int) ≤ 524288 := by have := hrs.2.2.2.2; omega
    have hmore : (more : Int) ≤ 140737488355328 := by omega
    have B1 := B1.ext hb1
    have q10 := B1.cells
    have m10 := B1.marks
    have l10 := B1.lt
    have hf1 := hf0.ext hb1
    have s1 := hb1.size
    simp only [World.size_alloc] at s1
    have bel : Below w.heap.size w w1 := (by repeat (first | (with_reducible exact Below.refl _ _) | (with_reducible exact Below.refl _ _) | (with_reducible refine Below.setCell ?_ (by first | omega | (simp; done) | (simp; omega)) _) | (with_reducible refine Below.alloc ?_ (by first | omega | (simp; done) | (simp; omega)) _) | (with_reducible refine Below.drew ?_) | (with_reducible refine below_drewN ?_ _) | (with_reducible refine Below.trans ?_ (hb1.mono (by first | omega | (simp; done) | (simp; omega))))))
    have cf := hf1.cells
    have mf := hf1.marks
    have lf := hf1.lt
    have nBf : w.heap.size ≠ w.heap.size + 1 := by omega
    by_cases hroom : 524288 - (F.many : Int) < (more : Int)
    · have HV := Lib.hid (show F.asked more = (F, 8) by unfold FileD.asked; rw [if_neg HNO.out, if_pos hroom])
      have hroom2 : (524288 : Int) < (F.many : Int) + (more : Int) := by omega
      have HB1 := Lib.hid B1
      clear B1
      go_wp2
      rw [HV.out]
      have hr2 := ((((HB1.out.set 0 (.slice fa fl fc)).set 1 (.slice la ll lc)).set 2 (.int .i64 (F.fuse))).set 3 (.int .i64 (F.fault))).set 4 (.bool (false))
      have c2 := hr2.cells
      simp only [List.set_cons_zero, List.set_cons_succ] at c2
      refine bodyPost_ret (v := .tuple #[.agg #[.slice fa fl fc, .slice la ll lc, .int .i64 (F.fuse), .int .i64 (F.fault), .bool (false)], .int .i64 (8)]) (by simp [results, Try.results70, go_sem, c2]) rfl ⟨fa, fl, fc, la, ll, lc, by first | rfl | (simp only [hoff2]; done) | (simp only [hoff]; done), ?_, ?_⟩
      · exact ((HF.out).mono fun b h => Or.inl h).ext (by repeat (first | (with_reducible exact Below.refl _ _) | (with_reducible exact Below.refl _ _) | (with_reducible refine Below.setCell ?_ (by first | omega | (simp; done) | (simp; omega)) _) | (with_reducible refine Below.alloc ?_ (by first | omega | (simp; done) | (simp; omega)) _) | (with_reducible refine Below.drew ?_) | (with_reducible refine below_drewN ?_ _) | (with_reducible refine Below.trans ?_ (bel.mono (by first | omega | (simp; done) | (simp; omega))))))
      · exact (by repeat (first | (with_reducible exact Below.refl _ _) | (with_reducible exact Below.refl _ _) | (with_reducible refine Below.setCell ?_ (by first | omega | (simp; done) | (simp; omega)) _) | (with_reducible refine Below.alloc ?_ (by first | omega | (simp; done) | (simp; omega)) _) | (with_reducible refine Below.drew ?_) | (with_reducible refine below_drewN ?_ _) | (with_reducible refine Below.trans ?_ (bel.mono (by first | omega | (simp; done) | (simp; omega))))))
    · have hroom2 : (F.many : Int) + (more : Int) ≤ 524288 := by omega
      have HRM := Lib.hid hroom; clear hroom
      have hfau := HF.out.fault
      have hfus := HF.out.fuse
      unfold I64' at hfau hfus
      by_cases hfa : F.fault = 0
      · have HV := Lib.hid (show F.asked more = ({ F with fault := -1 }, 9) by unfold FileD.asked; rw [if_neg HNO.out, if_neg HRM.out, if_pos hfa])
        have hR : FileS w S fa fl fc la ll lc { F with fault := -1 } := ⟨HF.out.firm, HF.out.loose, HF.out.fuse, by unfold I64'; simp⟩
        have hg2 := hf1.set 3 (.int .i64 (-1))
        have B1 := B1.other (q := w.heap.size) (by omega) 3 (.int .i64 (-1))
        have hfa' : (F.fault == 0) = true := by simp [hfa]
        clear hfa hrs hfau hg2
        have HB1 := Lib.hid B1
        clear B1
        go_wp2
        rw [HV.out]
        have hr2 := ((((HB1.out.set 0 (.slice fa fl fc)).set 1 (.slice la ll lc)).set 2 (.int .i64 (F.fuse))).set 3 (.int .i64 (-1))).set 4 (.bool (false))
        have c2 := hr2.cells
        simp only [List.set_cons_zero, List.set_cons_succ] at c2
        refine bodyPost_ret (v := .tuple #[.agg #[.slice fa fl fc, .slice la ll lc, .int .i64 (F.fuse), .int .i64 (-1), .bool (false)], .int .i64 (9)]) (by simp [results, Try.results70, go_sem, c2]) rfl ⟨fa, fl, fc, la, ll, lc, by first | rfl | (simp only [hoff2]; done) | (simp only [hoff]; done), ?_, ?_⟩
        · exact ((hR).mono fun b h => Or.inl h).ext (by repeat (first | (with_reducible exact Below.refl _ _) | (with_reducible exact Below.refl _ _) | (with_reducible refine Below.setCell ?_ (by first | omega | (simp; done) | (simp; omega)) _) | (with_reducible refine Below.alloc ?_ (by first | omega | (simp; done) | (simp; omega)) _) | (with_reducible refine Below.drew ?_) | (with_reducible refine below_drewN ?_ _) | (with_reducible refine Below.trans ?_ (bel.mono (by first | omega | (simp; done) | (simp; omega))))))
        · exact (by repeat (first | (with_reducible exact Below.refl _ _) | (with_reducible exact Below.refl _ _) | (with_reducible refine Below.setCell ?_ (by first | omega | (simp; done) | (simp; omega)) _) | (with_reducible refine Below.alloc ?_ (by first | omega | (simp; done) | (simp; omega)) _) | (with_reducible refine Below.drew ?_) | (with_reducible refine below_drewN ?_ _) | (with_reducible refine Below.trans ?_ (bel.mono (by first | omega | (simp; done) | (simp; omega))))))
      · have hfa' : (F.fault == 0) = false := by simp [hfa]
        have HFA := Lib.hid hfa
        by_cases hfp : 0 < F.fault
        · have hg2 := hf1.set 3 (.int .i64 (F.fault - 1))
          have B2 := B1.other (q := w.heap.size) (by omega) 3 (.int .i64 (F.fault - 1))
          have bel2 : Below w.heap.size w (w1.setCell ⟨w.heap.size, 3, none⟩ (.int .i64 (F.fault - 1))) := (by repeat (first | (with_reducible exact Below.refl _ _) | (with_reducible exact Below.refl _ _) | (with_reducible refine Below.setCell ?_ (by first | omega | (simp; done) | (simp; omega)) _) | (with_reducible refine Below.alloc ?_ (by first | omega | (simp; done) | (simp; omega)) _) | (with_reducible refine Below.drew ?_) | (with_reducible refine below_drewN ?_ _) | (with_reducible refine Below.trans ?_ (bel.mono (by first | omega | (simp; done) | (simp; omega))))))
          have hfe := Lib.hid (show (if 0 < F.fault then F.fault - 1 else F.fault) = F.fault - 1 from if_pos hfp)
          have hf3 : I64' (F.fault - 1) := by unfold I64'; omega
          simp only [List.set_cons_zero, List.set_cons_succ] at hg2
          have HG2 := Lib.hid hg2
          have HB2 := Lib.hid B2
          clear B1 hg2 B2
          clear hfa
          by_cases hfu : F.fuse = 0
          · have HV := Lib.hid (show F.asked more = ({ F with fault := F.fault - 1, fuse := -1, off := true }, 10) by unfold FileD.asked; rw [if_neg HNO.out, if_neg HRM.out, if_neg HFA.out, if_pos hfu, hfe.out])
            have hR : FileS w S fa fl fc la ll lc { F with fault := F.fault - 1, fuse := -1, off := true } := ⟨HF.out.firm, HF.out.loose, by unfold I64'; simp, hf3⟩
            have B1 := ((HB2.out).other (q := w.heap.size) (by omega) 2 (.int .i64 (-1))).other (q := w.heap.size) (by omega) 4 (.bool true)
            have hfu' : (F.fuse == 0) = true := by simp [hfu]
            clear hfu hrs hfus
            have HB1 := Lib.hid B1
            clear B1
            go_wp2
            rw [HV.out]
            have hr2 := ((((HB1.out.set 0 (.slice fa fl fc)).set 1 (.slice la ll lc)).set 2 (.int .i64 (-1))).set 3 (.int .i64 (F.fault - 1))).set 4 (.bool (true))
            have c2 := hr2.cells
            simp only [List.set_cons_zero, List.set_cons_succ] at c2
            refine bodyPost_ret (v := .tuple #[.agg #[.slice fa fl fc, .slice la ll lc, .int .i64 (-1), .int .i64 (F.fault - 1), .bool (true)], .int .i64 (10)]) (by simp [results, Try.results70, go_sem, c2]) rfl ⟨fa, fl, fc, la, ll, lc, by first | rfl | (simp only [hoff2]; done) | (simp only [hoff]; done), ?_, ?_⟩
            · exact ((hR).mono fun b h => Or.inl h).ext (by repeat (first | (with_reducible exact Below.refl _ _) | (with_reducible exact Below.refl _ _) | (with_reducible refine Below.setCell ?_ (by first | omega | (simp; done) | (simp; omega)) _) | (with_reducible refine Below.alloc ?_ (by first | omega | (simp; done) | (simp; omega)) _) | (with_reducible refine Below.drew ?_) | (with_reducible refine below_drewN ?_ _) | (with_reducible refine Below.trans ?_ (bel.mono (by first | omega | (simp; done) | (simp; omega))))))
            · exact (by repeat (first | (with_reducible exact Below.refl _ _) | (with_reducible exact Below.refl _ _) | (with_reducible refine Below.setCell ?_ (by first | omega | (simp; done) | (simp; omega)) _) | (with_reducible refine Below.alloc ?_ (by first | omega | (simp; done) | (simp; omega)) _) | (with_reducible refine Below.drew ?_) | (with_reducible refine below_drewN ?_ _) | (with_reducible refine Below.trans ?_ (bel.mono (by first | omega | (simp; done) | (simp; omega))))))
          · have hfu' : (F.fuse == 0) = false := by simp [hfu]
            by_cases hup : 0 < F.fuse
            · have HV := Lib.hid (show F.asked more = ({ F with fault := F.fault - 1, fuse := F.fuse - 1, off := false }, 0) by unfold FileD.asked; rw [if_neg HNO.out, if_neg HRM.out, if_neg HFA.out, if_neg hfu, hfe.out, if_pos hup, hoff2])
              have hf4 : I64' (F.fuse - 1) := by unfold I64'; omega
              have hR : FileS w S fa fl fc la ll lc { F with fault := F.fault - 1, fuse := F.fuse - 1, off := false } := ⟨HF.out.firm, HF.out.loose, hf4, hf3⟩
              have B1 := (HB2.out).other (q := w.heap.size) (by omega) 2 (.int .i64 (F.fuse - 1))
              clear hfu hrs
              have HB1 := Lib.hid B1
              clear B1
              go_wp2
              rw [HV.out]
              have hr2 := ((((HB1.out.set 0 (.slice fa fl fc)).set 1 (.slice la ll lc)).set 2 (.int .i64 (F.fuse - 1))).set 3 (.int .i64 (F.fault - 1))).set 4 (.bool (false))
              have c2 := hr2.cells
              simp only [List.set_cons_zero, List.set_cons_succ] at c2
              refine bodyPost_ret (v := .tuple #[.agg #[.slice fa fl fc, .slice la ll lc, .int .i64 (F.fuse - 1), .int .i64 (F.fault - 1), .bool (false)], .int .i64 (0)]) (by simp [results, Try.results70, go_sem, c2]) rfl ⟨fa, fl, fc, la, ll, lc, by first | rfl | (simp only [hoff2]; done) | (simp only [hoff]; done), ?_, ?_⟩
              · exact ((hR).mono fun b h => Or.inl h).ext (by repeat (first | (with_reducible exact Below.refl _ _) | (with_reducible exact Below.refl _ _) | (with_reducible refine Below.setCell ?_ (by first | omega | (simp; done) | (simp; omega)) _) | (with_reducible refine Below.alloc ?_ (by first | omega | (simp; done) | (simp; omega)) _) | (with_reducible refine Below.drew ?_) | (with_reducible refine below_drewN ?_ _) | (with_reducible refine Below.trans ?_ (bel.mono (by first | omega | (simp; done) | (simp; omega))))))
              · exact (by repeat (first | (with_reducible exact Below.refl _ _) | (with_reducible exact Below.refl _ _) | (with_reducible refine Below.setCell ?_ (by first | omega | (simp; done) | (simp; omega)) _) | (with_reducible refine Below.alloc ?_ (by first | omega | (simp; done) | (simp; omega)) _) | (with_reducible refine Below.drew ?_) | (with_reducible refine below_drewN ?_ _) | (with_reducible refine Below.trans ?_ (bel.mono (by first | omega | (simp; done) | (simp; omega))))))
            · have HV := Lib.hid (show F.asked more = ({ F with fault := F.fault - 1, off := false }, 0) by unfold FileD.asked; rw [if_neg HNO.out, if_neg HRM.out, if_neg HFA.out, if_neg hfu, hfe.out, if_neg hup, hoff2])
              have hR : FileS w S fa fl fc la ll lc { F with fault := F.fault - 1, off := false } := ⟨HF.out.firm, HF.out.loose, HF.out.fuse, hf3⟩
              have B1 := HB2.out
              have hun : F.fuse ≤ 0 := by omega
              clear hfu hrs
              have HB1 := Lib.hid B1
              clear B1
              go_wp2
              rw [HV.out]
              have hr2 := ((((HB1.out.set 0 (.slice fa fl fc)).set 1 (.slice la ll lc)).set 2 (.int .i64 (F.fuse))).set 3 (.int .i64 (F.fault - 1))).set 4 (.bool (false))
              have c2 := hr2.cells
              simp only [List.set_cons_zero, List.set_cons_succ] at c2
              refine bodyPost_ret (v := .tuple #[.agg #[.slice fa fl fc, .slice la ll lc, .int .i64 (F.fuse), .int .i64 (F.fault - 1), .bool (false)], .int .i64 (0)]) (by simp [results, Try.results70, go_sem, c2]) rfl ⟨fa, fl, fc, la, ll, lc, by first | rfl | (simp only [hoff2]; done) | (simp only [hoff]; done), ?_, ?_⟩
              · exact ((hR).mono fun b h => Or.inl h).ext (by repeat (first | (with_reducible exact Below.refl _ _) | (with_reducible exact Below.refl _ _) | (with_reducible refine Below.setCell ?_ (by first | omega | (simp; done) | (simp; omega)) _) | (with_reducible refine Below.alloc ?_ (by first | omega | (simp; done) | (simp; omega)) _) | (with_reducible refine Below.drew ?_) | (with_reducible refine below_drewN ?_ _) | (with_reducible refine Below.trans ?_ (bel.mono (by first | omega | (simp; done) | (simp; omega))))))
              · exact (by repeat (first | (with_reducible exact Below.refl _ _) | (with_reducible exact Below.refl _ _) | (with_reducible refine Below.setCell ?_ (by first | omega | (simp; done) | (simp; omega)) _) | (with_reducible refine Below.alloc ?_ (by first | omega | (simp; done) | (simp; omega)) _) | (with_reducible refine Below.drew ?_) | (with_reducible refine below_drewN ?_ _) | (with_reducible refine Below.trans ?_ (bel.mono (by first | omega | (simp; done) | (simp; omega))))))
        · have hfe := Lib.hid (show (if 0 < F.fault then F.fault - 1 else F.fault) = F.fault from if_neg hfp)
          have hf3 : I64' F.fault := by unfold I64'; omega
          have hfn : F.fault ≤ 0 := by omega
          clear hfa
          by_cases hfu : F.fuse = 0
          · have HV := Lib.hid (show F.asked more = ({ F with fault := F.fault, fuse := -1, off := true }, 10) by unfold FileD.asked; rw [if_neg HNO.out, if_neg HRM.out, if_neg HFA.out, if_pos hfu, hfe.out])
            have hR : FileS w S fa fl fc la ll lc { F with fault := F.fault, fuse := -1, off := true } := ⟨HF.out.firm, HF.out.loose, by unfold I64'; simp, hf3⟩
            have B1 := ((B1).other (q := w.heap.size) (by omega) 2 (.int .i64 (-1))).other (q := w.heap.size) (by omega) 4 (.bool true)
            have hfu' : (F.fuse == 0) = true := by simp [hfu]
            clear hfu hrs hfus
            have HB1 := Lib.hid B1
            clear B1
            go_wp2
            rw [HV.out]
            have hr2 := ((((HB1.out.set 0 (.slice fa fl fc)).set 1 (.slice la ll lc)).set 2 (.int .i64 (-1))).set 3 (.int .i64 (F.fault))).set 4 (.bool (true))
            have c2 := hr2.cells
            simp only [List.set_cons_zero, List.set_cons_succ] at c2
            refine bodyPost_ret (v := .tuple #[.agg #[.slice fa fl fc, .slice la ll lc, .int .i64 (-1), .int .i64 (F.fault), .bool (true)], .int .i64 (10)]) (by simp [results, Try.results70, go_sem, c2]) rfl ⟨fa, fl, fc, la, ll, lc, by first | rfl | (simp only [hoff2]; done) | (simp only [hoff]; done), ?_, ?_⟩
            · exact ((hR).mono fun b h => Or.inl h).ext (by repeat (first | (with_reducible exact Below.refl _ _) | (with_reducible exact Below.refl _ _) | (with_reducible refine Below.setCell ?_ (by first | omega | (simp; done) | (simp; omega)) _) | (with_reducible refine Below.alloc ?_ (by first | omega | (simp; done) | (simp; omega)) _) | (with_reducible refine Below.drew ?_) | (with_reducible refine below_drewN ?_ _) | (with_reducible refine Below.trans ?_ (bel.mono (by first | omega | (simp; done) | (simp; omega))))))
            · exact (by repeat (first | (with_reducible exact Below.refl _ _) | (with_reducible exact Below.refl _ _) | (with_reducible refine Below.setCell ?_ (by first | omega | (simp; done) | (simp; omega)) _) | (with_reducible refine Below.alloc ?_ (by first | omega | (simp; done) | (simp; omega)) _) | (with_reducible refine Below.drew ?_) | (with_reducible refine below_drewN ?_ _) | (with_reducible refine Below.trans ?_ (bel.mono (by first | omega | (simp; done) | (simp; omega))))))
          · have hfu' : (F.fuse == 0) = false := by simp [hfu]
            by_cases hup : 0 < F.fuse
            · have HV := Lib.hid (show F.asked more = ({ F with fault := F.fault, fuse := F.fuse - 1, off := false }, 0) by unfold FileD.asked; rw [if_neg HNO.out, if_neg HRM.out, if_neg HFA.out, if_neg hfu, hfe.out, if_pos hup, hoff2])
              have hf4 : I64' (F.fuse - 1) := by unfold I64'; omega
              have hR : FileS w S fa fl fc la ll lc { F with fault := F.fault, fuse := F.fuse - 1, off := false } := ⟨HF.out.firm, HF.out.loose, hf4, hf3⟩
              have B1 := (B1).other (q := w.heap.size) (by omega) 2 (.int .i64 (F.fuse - 1))
              clear hfu hrs
              have HB1 := Lib.hid B1
              clear B1
              go_wp2
              rw [HV.out]
              have hr2 := ((((HB1.out.set 0 (.slice fa fl fc)).set 1 (.slice la ll lc)).set 2 (.int .i64 (F.fuse - 1))).set 3 (.int .i64 (F.fault))).set 4 (.bool (false))
              have c2 := hr2.cells
              simp only [List.set_cons_zero, List.set_cons_succ] at c2
              refine bodyPost_ret (v := .tuple #[.agg #[.slice fa fl fc, .slice la ll lc, .int .i64 (F.fuse - 1), .int .i64 (F.fault), .bool (false)], .int .i64 (0)]) (by simp [results, Try.results70, go_sem, c2]) rfl ⟨fa, fl, fc, la, ll, lc, by first | rfl | (simp only [hoff2]; done) | (simp only [hoff]; done), ?_, ?_⟩
              · exact ((hR).mono fun b h => Or.inl h).ext (by repeat (first | (with_reducible exact Below.refl _ _) | (with_reducible exact Below.refl _ _) | (with_reducible refine Below.setCell ?_ (by first | omega | (simp; done) | (simp; omega)) _) | (with_reducible refine Below.alloc ?_ (by first | omega | (simp; done) | (simp; omega)) _) | (with_reducible refine Below.drew ?_) | (with_reducible refine below_drewN ?_ _) | (with_reducible refine Below.trans ?_ (bel.mono (by first | omega | (simp; done) | (simp; omega))))))
              · exact (by repeat (first | (with_reducible exact Below.refl _ _) | (with_reducible exact Below.refl _ _) | (with_reducible refine Below.setCell ?_ (by first | omega | (simp; done) | (simp; omega)) _) | (with_reducible refine Below.alloc ?_ (by first | omega | (simp; done) | (simp; omega)) _) | (with_reducible refine Below.drew ?_) | (with_reducible refine below_drewN ?_ _) | (with_reducible refine Below.trans ?_ (bel.mono (by first | omega | (simp; done) | (simp; omega))))))
            · have HV := Lib.hid (show F.asked more = ({ F with fault := F.fault, off := false }, 0) by unfold FileD.asked; rw [if_neg HNO.out, if_neg HRM.out, if_neg HFA.out, if_neg hfu, hfe.out, if_neg hup, hoff2])
              have hR : FileS w S fa fl fc la ll lc { F with fault := F.fault, off := false } := ⟨HF.out.firm, HF.out.loose, HF.out.fuse, hf3⟩
              have B1 := B1
              have hun : F.fuse ≤ 0 := by omega
              clear hfu hrs
              have HB1 := Lib.hid B1
              clear B1
              go_wp2
              rw [HV.out]
              have hr2 := ((((HB1.out.set 0 (.slice fa fl fc)).set 1 (.slice la ll lc)).set 2 (.int .i64 (F.fuse))).set 3 (.int .i64 (F.fault))).set 4 (.bool (false))
              have c2 := hr2.cells
              simp only [List.set_cons_zero, List.set_cons_succ] at c2
              refine bodyPost_ret (v := .tuple #[.agg #[.slice fa fl fc, .slice la ll lc, .int .i64 (F.fuse), .int .i64 (F.fault), .bool (false)], .int .i64 (0)]) (by simp [results, Try.results70, go_sem, c2]) rfl ⟨fa, fl, fc, la, ll, lc, by first | rfl | (simp only [hoff2]; done) | (simp only [hoff]; done), ?_, ?_⟩
              · exact ((hR).mono fun b h => Or.inl h).ext (by repeat (first | (with_reducible exact Below.refl _ _) | (with_reducible exact Below.refl _ _) | (with_reducible refine Below.setCell ?_ (by first | omega | (simp; done) | (simp; omega)) _) | (with_reducible refine Below.alloc ?_ (by first | omega | (simp; done) | (simp; omega)) _) | (with_reducible refine Below.drew ?_) | (with_reducible refine below_drewN ?_ _) | (with_reducible refine Below.trans ?_ (bel.mono (by first | omega | (simp; done) | (simp; omega))))))
              · exact (by repeat (first | (with_reducible exact Below.refl _ _) | (with_reducible exact Below.refl _ _) | (with_reducible refine Below.setCell ?_ (by first | omega | (simp; done) | (simp; omega)) _) | (with_reducible refine Below.alloc ?_ (by first | omega | (simp; done) | (simp; omega)) _) | (with_reducible refine Below.drew ?_) | (with_reducible refine below_drewN ?_ _) | (with_reducible refine Below.trans ?_ (bel.mono (by first | omega | (simp; done) | (simp; omega))))))
end Go.Proofs.Ytmjmjjakhmeogaa
