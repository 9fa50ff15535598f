/-
  Layer 10: FileTells, walked: for every two files and every two numbers it answers true.
-/
import Derived.Test.YtmjmjjakhmeogaaLawFB
namespace Go.Dav
set_option linter.unusedVariables false
set_option linter.unusedSimpArgs false
open Go Go.RowKit
theorem FileD.one_comm (F G : FileD) : G.one F = F.one G := by
  rw [Bool.eq_iff_iff, FileD.one_spec, FileD.one_spec]
  exact eq_comm
theorem BytesAt.empty {W : World} {a : Option Addr} {n c : Nat} (h : BytesAt W a n c []) : n = 0 := h.hlen.symm
theorem BytesAt.mk_empty {W : World} {a : Option Addr} {c : Nat} (h : c ≤ maxLen) (ha : a = none → c = 0) : BytesAt W a 0 c [] := ⟨rfl, Nat.zero_le _, h, by omega, fun k x hk => by simp at hk, ha⟩
theorem BytesAt.piece {W : World} {a : Option Addr} {n c A N : Nat} {l : List UInt8} (h : BytesAt W a n c l) (h1 : A + N ≤ n) : BytesAt W (a.map (fun x => x.add A)) N (c - A) ((l.take (A + N)).drop A) := by
  have h2 := h.hlen
  have h3 := h.hcap
  have h4 := h.hmax
  have h5 := h.hfew
  refine ⟨by rw [List.length_drop, List.length_take]; omega, by omega, by omega, by omega, fun k x hk => ?_, fun e => ?_⟩
  · rw [List.getElem?_drop, List.getElem?_take] at hk
    split at hk
    · obtain ⟨b, o, e1, e2, e3⟩ := h.hat (A + k) x hk
      exact ⟨b, o + A, by rw [e1]; simp [Addr.add_lit], e2, by rw [Nat.add_assoc]; exact e3⟩
    · cases hk
  · have := h.hnil (by cases a <;> first | rfl | cases e)
    omega
end Go.Dav
namespace Go.Proofs.Ytmjmjjakhmeogaa
set_option linter.unusedVariables false
set_option linter.unusedSimpArgs false
open Go.RowKit Go.Dav
attribute [local go_sem] Gives ite_val ite_val_true

set_option maxRecDepth 8000 in
set_option maxHeartbeats 16000000 in
theorem Try_FileTells (F G : FileD) (fa la ga ma : Option Addr) (fl fc ll lc gl gc ml mc : Nat) (at_ n : Int) (w : World) (hF : FileAt w fa fl fc la ll lc F) (hG : FileAt w ga gl gc ma ml mc G) (h1 : I64' at_) (h2 : I64' n) :
    Calls Try.prog 4 #[.agg #[.slice fa fl fc, .slice la ll lc, .int .i64 F.fuse, .int .i64 F.fault, .bool F.off], .agg #[.slice ga gl gc, .slice ma ml mc, .int .i64 G.fuse, .int .i64 G.fault, .bool G.off], .int .i64 at_, .int .i64 n] w fun e w' => e = .returned (.bool true) ∧ Below w.heap.size w w' := by
  obtain ⟨W0, hW0⟩ : ∃ W0, (w.alloc (.cells [.slice fa fl fc, .slice la ll lc, .int .i64 F.fuse, .int .i64 F.fault, .bool F.off].toArray 25)).alloc (.cells [.slice ga gl gc, .slice ma ml mc, .int .i64 G.fuse, .int .i64 G.fault, .bool G.off].toArray 25) = W0 := ⟨_, rfl⟩
  have bel0 : Below w.heap.size w W0 := by rw [← hW0]; exact (by repeat (first | (with_reducible exact Below.refl _ _) | (with_reducible exact Below.refl _ _) | (with_reducible refine Below.setCell ?_ (by first | omega | (simp; done) | (simp; omega)) _) | (with_reducible refine Below.alloc ?_ (by first | omega | (simp; done) | (simp; omega)) _) | (with_reducible refine Below.drew ?_) | (with_reducible refine below_drewN ?_ _)))
  have hs0 : W0.heap.size = w.heap.size + 1 + 1 := by rw [← hW0]; simp
  have hb1 : Blk W0 w.heap.size [.slice fa fl fc, .slice la ll lc, .int .i64 F.fuse, .int .i64 F.fault, .bool F.off] 25 := by rw [← hW0]; exact (Blk.new w [.slice fa fl fc, .slice la ll lc, .int .i64 F.fuse, .int .i64 F.fault, .bool F.off] 25).alloc _
  have hb2 : Blk W0 (w.heap.size + 1) [.slice ga gl gc, .slice ma ml mc, .int .i64 G.fuse, .int .i64 G.fault, .bool G.off] 25 := by rw [← hW0]; exact Blk.new' (w.alloc (.cells [.slice fa fl fc, .slice la ll lc, .int .i64 F.fuse, .int .i64 F.fault, .bool F.off].toArray 25)) [.slice ga gl gc, .slice ma ml mc, .int .i64 G.fuse, .int .i64 G.fault, .bool G.off] 25 (p := w.heap.size + 1) (by simp)
  have HW0 := Lib.hid hW0
  have HF0 := Lib.hid (hF.ext bel0)
  have HG0 := Lib.hid (hG.ext bel0)
  have HB10 := Lib.hid hb1
  have HB20 := Lib.hid hb2
  have BEL0 := Lib.hid bel0
  have HS0 := Lib.hid hs0
  have H1 := Lib.hid h1
  have H2 := Lib.hid h2
  have hwk := Try_wakes10 W0
  have HWK := Lib.hid hwk
  clear hF hG hb1 hb2 bel0 hs0 hW0 hwk h1 h2
  go_enter Try.func4, Try.ntmps4
  go_wp2_with fail
  rw [HW0.out]
  refine HWK.out.mono ?_; rintro e w1 ⟨rfl, hb⟩
  have hl0 : w.heap.size + 1 + 1 ≤ W0.heap.size := by have := HS0.out; omega
  have hF1 := HF0.out.ext hb
  have hG1 := HG0.out.ext hb
  have hq1 := HB10.out.ext hb
  have hq2 := HB20.out.ext hb
  have bel1 := BEL0.out.trans (hb.mono (by have := BEL0.out.size; omega))
  have hl1 : w.heap.size + 1 + 1 ≤ w1.heap.size := Nat.le_trans hl0 hb.size
  have HF1 := Lib.hid hF1
  have HG1 := Lib.hid hG1
  have HB11 := Lib.hid hq1
  have HB21 := Lib.hid hq2
  have BEL1 := Lib.hid bel1
  have q11 := hq1.cells
  have q21 := hq2.cells
  clear hb hq1 hq2 hF1 hG1 bel1 HF0 HG0 HB10 HB20 BEL0 hl0
  clear HW0 HWK HS0
  go_wp2_with fail
  refine (Try_Right F fa la fl fc ll lc w1 HF1.out).mono ?_; rintro e w2 ⟨rfl, hb⟩
  have hF2 := HF1.out.ext hb
  have hG2 := HG1.out.ext hb
  have hq1 := HB11.out.ext hb
  have hq2 := HB21.out.ext hb
  have bel2 := BEL1.out.trans (hb.mono (by have := BEL1.out.size; omega))
  have hl2 : w.heap.size + 1 + 1 ≤ w2.heap.size := Nat.le_trans hl1 hb.size
  have HF2 := Lib.hid hF2
  have HG2 := Lib.hid hG2
  have HB12 := Lib.hid hq1
  have HB22 := Lib.hid hq2
  have BEL2 := Lib.hid bel2
  have q12 := hq1.cells
  have q22 := hq2.cells
  clear q11 q21 hb hq1 hq2 hF2 hG2 bel2 HF1 HG1 HB11 HB21 BEL1 hl1
  go_wp2_with fail
  refine (Try_Check F fa la fl fc ll lc w2 HF2.out).mono ?_; rintro e w3 ⟨rfl, hb⟩
  have hF3 := HF2.out.ext hb
  have hG3 := HG2.out.ext hb
  have hq1 := HB12.out.ext hb
  have hq2 := HB22.out.ext hb
  have bel3 := BEL2.out.trans (hb.mono (by have := BEL2.out.size; omega))
  have hl3 : w.heap.size + 1 + 1 ≤ w3.heap.size := Nat.le_trans hl2 hb.size
  have HF3 := Lib.hid hF3
  have HG3 := Lib.hid hG3
  have HB13 := Lib.hid hq1
  have HB23 := Lib.hid hq2
  have BEL3 := Lib.hid bel3
  have q13 := hq1.cells
  have q23 := hq2.cells
  clear q12 q22 hb hq1 hq2 hF3 hG3 bel3 HF2 HG2 HB12 HB22 BEL2 hl2
  cases hr : F.right with
  | false =>
    rw [FileD.err_wrong hr]
    have HR := Lib.hid hr
    clear hr
    go_wp2_with fail
    refine (Try_Same F G fa la ga ma fl fc ll lc gl gc ml mc w3 HF3.out HG3.out).mono ?_; rintro e w4 ⟨rfl, hb⟩
    rw [HR.out, Bool.false_and]
    have hF4 := HF3.out.ext hb
    have hG4 := HG3.out.ext hb
    have hq1 := HB13.out.ext hb
    have hq2 := HB23.out.ext hb
    have bel4 := BEL3.out.trans (hb.mono (by have := BEL3.out.size; omega))
    have hl4 : w.heap.size + 1 + 1 ≤ w4.heap.size := Nat.le_trans hl3 hb.size
    have HF4 := Lib.hid hF4
    have HG4 := Lib.hid hG4
    have HB14 := Lib.hid hq1
    have HB24 := Lib.hid hq2
    have BEL4 := Lib.hid bel4
    have q14 := hq1.cells
    have q24 := hq2.cells
    clear q13 q23 hb hq1 hq2 hF4 hG4 bel4 HF3 HG3 HB13 HB23 BEL3 hl3
    go_wp2_with fail
    refine (Try_Same G F ga ma fa la gl gc ml mc fl fc ll lc w4 HG4.out HF4.out).mono ?_; rintro e w5 ⟨rfl, hb⟩
    rw [HR.out, Bool.false_and, Bool.and_false]
    have hF5 := HF4.out.ext hb
    have hG5 := HG4.out.ext hb
    have hq1 := HB14.out.ext hb
    have hq2 := HB24.out.ext hb
    have bel5 := BEL4.out.trans (hb.mono (by have := BEL4.out.size; omega))
    have hl5 : w.heap.size + 1 + 1 ≤ w5.heap.size := Nat.le_trans hl4 hb.size
    have HF5 := Lib.hid hF5
    have HG5 := Lib.hid hG5
    have HB15 := Lib.hid hq1
    have HB25 := Lib.hid hq2
    have BEL5 := Lib.hid bel5
    have q15 := hq1.cells
    have q25 := hq2.cells
    clear q14 q24 hb hq1 hq2 hF5 hG5 bel5 HF4 HG4 HB14 HB24 BEL4 hl4
    go_wp2_with fail
    refine (Try_Same F F fa la fa la fl fc ll lc fl fc ll lc w5 HF5.out HF5.out).mono ?_; rintro e w6 ⟨rfl, hb⟩
    rw [HR.out, Bool.false_and]
    have hF6 := HF5.out.ext hb
    have hG6 := HG5.out.ext hb
    have hq1 := HB15.out.ext hb
    have hq2 := HB25.out.ext hb
    have bel6 := BEL5.out.trans (hb.mono (by have := BEL5.out.size; omega))
    have hl6 : w.heap.size + 1 + 1 ≤ w6.heap.size := Nat.le_trans hl5 hb.size
    have HF6 := Lib.hid hF6
    have HG6 := Lib.hid hG6
    have HB16 := Lib.hid hq1
    have HB26 := Lib.hid hq2
    have BEL6 := Lib.hid bel6
    have q16 := hq1.cells
    have q26 := hq2.cells
    clear q15 q25 hb hq1 hq2 hF6 hG6 bel6 HF5 HG5 HB15 HB25 BEL5 hl5
    go_wp2_with fail
    have hA := Try_Read F fa la fl fc ll lc at_ n w6 _ HF6.out.s (fun b h => h) H1.out H2.out
    rw [show F.read at_ n = ([], 200) by unfold FileD.read; rw [if_neg (by rw [HR.out]; decide)]] at hA
    refine hA.mono ?_; rintro e w7 ⟨ra, rl, rc, rfl, hRD, hb⟩
    obtain rfl := hRD.at_.empty
    have hF7 := HF6.out.ext hb
    have hG7 := HG6.out.ext hb
    have hq1 := HB16.out.ext hb
    have hq2 := HB26.out.ext hb
    have bel7 := BEL6.out.trans (hb.mono (by have := BEL6.out.size; omega))
    have hl7 : w.heap.size + 1 + 1 ≤ w7.heap.size := Nat.le_trans hl6 hb.size
    have HF7 := Lib.hid hF7
    have HG7 := Lib.hid hG7
    have HB17 := Lib.hid hq1
    have HB27 := Lib.hid hq2
    have BEL7 := Lib.hid bel7
    have q17 := hq1.cells
    have q27 := hq2.cells
    clear hA q16 q26 hRD hb hq1 hq2 hF7 hG7 bel7 HF6 HG6 HB16 HB26 BEL6 hl6
    go_wp2_with fail
    refine (Try_Len F fa la fl fc ll lc w7 HF7.out).mono ?_; rintro e w8 ⟨rfl, hb⟩
    rw [if_neg (by rw [HR.out]; decide)]
    have hF8 := HF7.out.ext hb
    have hG8 := HG7.out.ext hb
    have hq1 := HB17.out.ext hb
    have hq2 := HB27.out.ext hb
    have bel8 := BEL7.out.trans (hb.mono (by have := BEL7.out.size; omega))
    have hl8 : w.heap.size + 1 + 1 ≤ w8.heap.size := Nat.le_trans hl7 hb.size
    have HF8 := Lib.hid hF8
    have HG8 := Lib.hid hG8
    have HB18 := Lib.hid hq1
    have HB28 := Lib.hid hq2
    have BEL8 := Lib.hid bel8
    have q18 := hq1.cells
    have q28 := hq2.cells
    clear q17 q27 hb hq1 hq2 hF8 hG8 bel8 HF7 HG7 HB17 HB27 BEL7 hl7
    go_wp2
    go_ret
    exact ⟨rfl, BEL8.out⟩
  | true =>
    rw [FileD.err_right hr]
    have HR := Lib.hid hr
    clear hr
    go_wp2_with fail
    refine (Try_Right G ga ma gl gc ml mc w3 HG3.out).mono ?_; rintro e wa ⟨rfl, hb⟩
    have hFa := HF3.out.ext hb
    have hGa := HG3.out.ext hb
    have hq1 := HB13.out.ext hb
    have hq2 := HB23.out.ext hb
    have bela := BEL3.out.trans (hb.mono (by have := BEL3.out.size; omega))
    have hla : w.heap.size + 1 + 1 ≤ wa.heap.size := Nat.le_trans hl3 hb.size
    have HFa := Lib.hid hFa
    have HGa := Lib.hid hGa
    have HB1a := Lib.hid hq1
    have HB2a := Lib.hid hq2
    have BELa := Lib.hid bela
    have q1a := hq1.cells
    have q2a := hq2.cells
    clear q13 q23 hb hq1 hq2 hFa hGa bela HF3 HG3 HB13 HB23 BEL3 hl3
    cases hg : G.right with
    | false =>
      have HGR := Lib.hid hg
      clear hg
      go_wp2_with fail
      refine (Try_Same F G fa la ga ma fl fc ll lc gl gc ml mc wa HFa.out HGa.out).mono ?_; rintro e w4 ⟨rfl, hb⟩
      rw [HGR.out, Bool.false_and, Bool.and_false]
      have hF4 := HFa.out.ext hb
      have hG4 := HGa.out.ext hb
      have hq1 := HB1a.out.ext hb
      have hq2 := HB2a.out.ext hb
      have bel4 := BELa.out.trans (hb.mono (by have := BELa.out.size; omega))
      have hl4 : w.heap.size + 1 + 1 ≤ w4.heap.size := Nat.le_trans hla hb.size
      have HF4 := Lib.hid hF4
      have HG4 := Lib.hid hG4
      have HB14 := Lib.hid hq1
      have HB24 := Lib.hid hq2
      have BEL4 := Lib.hid bel4
      have q14 := hq1.cells
      have q24 := hq2.cells
      clear q1a q2a hb hq1 hq2 hF4 hG4 bel4 HFa HGa HB1a HB2a BELa hla
      go_wp2_with fail
      refine (Try_Same G F ga ma fa la gl gc ml mc fl fc ll lc w4 HG4.out HF4.out).mono ?_; rintro e w5 ⟨rfl, hb⟩
      rw [HGR.out, Bool.false_and]
      have hF5 := HF4.out.ext hb
      have hG5 := HG4.out.ext hb
      have hq1 := HB14.out.ext hb
      have hq2 := HB24.out.ext hb
      have bel5 := BEL4.out.trans (hb.mono (by have := BEL4.out.size; omega))
      have hl5 : w.heap.size + 1 + 1 ≤ w5.heap.size := Nat.le_trans hl4 hb.size
      have HF5 := Lib.hid hF5
      have HG5 := Lib.hid hG5
      have HB15 := Lib.hid hq1
      have HB25 := Lib.hid hq2
      have BEL5 := Lib.hid bel5
      have q15 := hq1.cells
      have q25 := hq2.cells
      clear q14 q24 hb hq1 hq2 hF5 hG5 bel5 HF4 HG4 HB14 HB24 BEL4 hl4
      go_wp2_with fail
      refine (Try_Same F F fa la fa la fl fc ll lc fl fc ll lc w5 HF5.out HF5.out).mono ?_; rintro e w6 ⟨rfl, hb⟩
      rw [HR.out, FileD.one_self, Bool.true_and, Bool.true_and]
      have hF6 := HF5.out.ext hb
      have hG6 := HG5.out.ext hb
      have hq1 := HB15.out.ext hb
      have hq2 := HB25.out.ext hb
      have bel6 := BEL5.out.trans (hb.mono (by have := BEL5.out.size; omega))
      have hl6 : w.heap.size + 1 + 1 ≤ w6.heap.size := Nat.le_trans hl5 hb.size
      have HF6 := Lib.hid hF6
      have HG6 := Lib.hid hG6
      have HB16 := Lib.hid hq1
      have HB26 := Lib.hid hq2
      have BEL6 := Lib.hid bel6
      have q16 := hq1.cells
      have q26 := hq2.cells
      clear q15 q25 hb hq1 hq2 hF6 hG6 bel6 HF5 HG5 HB15 HB25 BEL5 hl5
      go_wp2_with fail
      obtain ⟨m, hm⟩ : ∃ m, F.many = m := ⟨_, rfl⟩
      have hmx := (FileD.right_spec.1 HR.out).2.2.2.2
      rw [hm] at hmx
      have hmi : (m : Int) ≤ 524288 := by omega
      have HM := Lib.hid hm
      clear hm
      by_cases g1 : at_ < 0
      · have HVE := Lib.hid (show F.read at_ n = ([], 2) by unfold FileD.read; rw [if_pos HR.out, if_pos (.inl g1)])
        have hA := Try_Read F fa la fl fc ll lc at_ n w6 _ HF6.out.s (fun b h => h) H1.out H2.out
        rw [HVE.out] at hA
        refine hA.mono ?_; rintro e w7 ⟨ra, rl, rc, rfl, hRD, hb⟩
        obtain rfl := hRD.at_.empty
        have hF7 := HF6.out.ext hb
        have hG7 := HG6.out.ext hb
        have hq1 := HB16.out.ext hb
        have hq2 := HB26.out.ext hb
        have bel7 := BEL6.out.trans (hb.mono (by have := BEL6.out.size; omega))
        have hl7 : w.heap.size + 1 + 1 ≤ w7.heap.size := Nat.le_trans hl6 hb.size
        have HF7 := Lib.hid hF7
        have HG7 := Lib.hid hG7
        have HB17 := Lib.hid hq1
        have HB27 := Lib.hid hq2
        have BEL7 := Lib.hid bel7
        have q17 := hq1.cells
        have q27 := hq2.cells
        clear hA q16 q26 hRD hb hq1 hq2 hF7 hG7 bel7 HF6 HG6 HB16 HB26 BEL6 hl6
        go_wp2_with fail
        refine (Try_All F fa la fl fc ll lc w7 HF7.out (by rw [HM.out]; omega)).mono ?_; rintro e w8 ⟨aa, an, ac, rfl, hAB, hb⟩
        have han : m = an := by rw [← hAB.at_.hlen, FileD.all_length, HM.out]
        subst han
        have hF8 := HF7.out.ext hb
        have hG8 := HG7.out.ext hb
        have hq1 := HB17.out.ext hb
        have hq2 := HB27.out.ext hb
        have bel8 := BEL7.out.trans (hb.mono (by have := BEL7.out.size; omega))
        have hl8 : w.heap.size + 1 + 1 ≤ w8.heap.size := Nat.le_trans hl7 hb.size
        have HF8 := Lib.hid hF8
        have HG8 := Lib.hid hG8
        have HB18 := Lib.hid hq1
        have HB28 := Lib.hid hq2
        have BEL8 := Lib.hid bel8
        have q18 := hq1.cells
        have q28 := hq2.cells
        clear q17 q27 hAB hb hq1 hq2 hF8 hG8 bel8 HF7 HG7 HB17 HB27 BEL7 hl7
        go_wp2_with fail
        refine (Try_Len F fa la fl fc ll lc w8 HF8.out).mono ?_; rintro e w9 ⟨rfl, hb⟩
        rw [if_pos HR.out, HM.out]
        have hF9 := HF8.out.ext hb
        have hG9 := HG8.out.ext hb
        have hq1 := HB18.out.ext hb
        have hq2 := HB28.out.ext hb
        have bel9 := BEL8.out.trans (hb.mono (by have := BEL8.out.size; omega))
        have hl9 : w.heap.size + 1 + 1 ≤ w9.heap.size := Nat.le_trans hl8 hb.size
        have HF9 := Lib.hid hF9
        have HG9 := Lib.hid hG9
        have HB19 := Lib.hid hq1
        have HB29 := Lib.hid hq2
        have BEL9 := Lib.hid bel9
        have q19 := hq1.cells
        have q29 := hq2.cells
        clear q18 q28 hb hq1 hq2 hF9 hG9 bel9 HF8 HG8 HB18 HB28 BEL8 hl8
        go_wp2
        go_ret
        exact ⟨rfl, BEL9.out⟩
      · by_cases g2 : n < 0
        · have HVE := Lib.hid (show F.read at_ n = ([], 2) by unfold FileD.read; rw [if_pos HR.out, if_pos (.inr g2)])
          have hA := Try_Read F fa la fl fc ll lc at_ n w6 _ HF6.out.s (fun b h => h) H1.out H2.out
          rw [HVE.out] at hA
          refine hA.mono ?_; rintro e w7 ⟨ra, rl, rc, rfl, hRD, hb⟩
          obtain rfl := hRD.at_.empty
          have hF7 := HF6.out.ext hb
          have hG7 := HG6.out.ext hb
          have hq1 := HB16.out.ext hb
          have hq2 := HB26.out.ext hb
          have bel7 := BEL6.out.trans (hb.mono (by have := BEL6.out.size; omega))
          have hl7 : w.heap.size + 1 + 1 ≤ w7.heap.size := Nat.le_trans hl6 hb.size
          have HF7 := Lib.hid hF7
          have HG7 := Lib.hid hG7
          have HB17 := Lib.hid hq1
          have HB27 := Lib.hid hq2
          have BEL7 := Lib.hid bel7
          have q17 := hq1.cells
          have q27 := hq2.cells
          clear hA q16 q26 hRD hb hq1 hq2 hF7 hG7 bel7 HF6 HG6 HB16 HB26 BEL6 hl6
          go_wp2_with fail
          refine (Try_All F fa la fl fc ll lc w7 HF7.out (by rw [HM.out]; omega)).mono ?_; rintro e w8 ⟨aa, an, ac, rfl, hAB, hb⟩
          have han : m = an := by rw [← hAB.at_.hlen, FileD.all_length, HM.out]
          subst han
          have hF8 := HF7.out.ext hb
          have hG8 := HG7.out.ext hb
          have hq1 := HB17.out.ext hb
          have hq2 := HB27.out.ext hb
          have bel8 := BEL7.out.trans (hb.mono (by have := BEL7.out.size; omega))
          have hl8 : w.heap.size + 1 + 1 ≤ w8.heap.size := Nat.le_trans hl7 hb.size
          have HF8 := Lib.hid hF8
          have HG8 := Lib.hid hG8
          have HB18 := Lib.hid hq1
          have HB28 := Lib.hid hq2
          have BEL8 := Lib.hid bel8
          have q18 := hq1.cells
          have q28 := hq2.cells
          clear q17 q27 hAB hb hq1 hq2 hF8 hG8 bel8 HF7 HG7 HB17 HB27 BEL7 hl7
          go_wp2_with fail
          refine (Try_Len F fa la fl fc ll lc w8 HF8.out).mono ?_; rintro e w9 ⟨rfl, hb⟩
          rw [if_pos HR.out, HM.out]
          have hF9 := HF8.out.ext hb
          have hG9 := HG8.out.ext hb
          have hq1 := HB18.out.ext hb
          have hq2 := HB28.out.ext hb
          have bel9 := BEL8.out.trans (hb.mono (by have := BEL8.out.size; omega))
          have hl9 : w.heap.size + 1 + 1 ≤ w9.heap.size := Nat.le_trans hl8 hb.size
          have HF9 := Lib.hid hF9
          have HG9 := Lib.hid hG9
          have HB19 := Lib.hid hq1
          have HB29 := Lib.hid hq2
          have BEL9 := Lib.hid bel9
          have q19 := hq1.cells
          have q29 := hq2.cells
          clear q18 q28 hb hq1 hq2 hF9 hG9 bel9 HF8 HG8 HB18 HB28 BEL8 hl8
          go_wp2
          go_ret
          exact ⟨rfl, BEL9.out⟩
        · have h2b := H2.out.2
          by_cases g3 : (m : Int) < at_
          · have HVE := Lib.hid (show F.read at_ n = ([], 6) by unfold FileD.read; rw [if_pos HR.out, if_neg (by omega), HM.out, if_pos (by omega)])
            have hA := Try_Read F fa la fl fc ll lc at_ n w6 _ HF6.out.s (fun b h => h) H1.out H2.out
            rw [HVE.out] at hA
            refine hA.mono ?_; rintro e w7 ⟨ra, rl, rc, rfl, hRD, hb⟩
            obtain rfl := hRD.at_.empty
            have hF7 := HF6.out.ext hb
            have hG7 := HG6.out.ext hb
            have hq1 := HB16.out.ext hb
            have hq2 := HB26.out.ext hb
            have bel7 := BEL6.out.trans (hb.mono (by have := BEL6.out.size; omega))
            have hl7 : w.heap.size + 1 + 1 ≤ w7.heap.size := Nat.le_trans hl6 hb.size
            have HF7 := Lib.hid hF7
            have HG7 := Lib.hid hG7
            have HB17 := Lib.hid hq1
            have HB27 := Lib.hid hq2
            have BEL7 := Lib.hid bel7
            have q17 := hq1.cells
            have q27 := hq2.cells
            clear hA q16 q26 hRD hb hq1 hq2 hF7 hG7 bel7 HF6 HG6 HB16 HB26 BEL6 hl6
            go_wp2_with fail
            refine (Try_All F fa la fl fc ll lc w7 HF7.out (by rw [HM.out]; omega)).mono ?_; rintro e w8 ⟨aa, an, ac, rfl, hAB, hb⟩
            have han : m = an := by rw [← hAB.at_.hlen, FileD.all_length, HM.out]
            subst han
            have hF8 := HF7.out.ext hb
            have hG8 := HG7.out.ext hb
            have hq1 := HB17.out.ext hb
            have hq2 := HB27.out.ext hb
            have bel8 := BEL7.out.trans (hb.mono (by have := BEL7.out.size; omega))
            have hl8 : w.heap.size + 1 + 1 ≤ w8.heap.size := Nat.le_trans hl7 hb.size
            have HF8 := Lib.hid hF8
            have HG8 := Lib.hid hG8
            have HB18 := Lib.hid hq1
            have HB28 := Lib.hid hq2
            have BEL8 := Lib.hid bel8
            have q18 := hq1.cells
            have q28 := hq2.cells
            clear q17 q27 hAB hb hq1 hq2 hF8 hG8 bel8 HF7 HG7 HB17 HB27 BEL7 hl7
            go_wp2_with fail
            refine (Try_Len F fa la fl fc ll lc w8 HF8.out).mono ?_; rintro e w9 ⟨rfl, hb⟩
            rw [if_pos HR.out, HM.out]
            have hF9 := HF8.out.ext hb
            have hG9 := HG8.out.ext hb
            have hq1 := HB18.out.ext hb
            have hq2 := HB28.out.ext hb
            have bel9 := BEL8.out.trans (hb.mono (by have := BEL8.out.size; omega))
            have hl9 : w.heap.size + 1 + 1 ≤ w9.heap.size := Nat.le_trans hl8 hb.size
            have HF9 := Lib.hid hF9
            have HG9 := Lib.hid hG9
            have HB19 := Lib.hid hq1
            have HB29 := Lib.hid hq2
            have BEL9 := Lib.hid bel9
            have q19 := hq1.cells
            have q29 := hq2.cells
            clear q18 q28 hb hq1 hq2 hF9 hG9 bel9 HF8 HG8 HB18 HB28 BEL8 hl8
            go_wp2
            go_ret
            exact ⟨rfl, BEL9.out⟩
          · have hw : IntKind.i64.wrap ((m : Int) - at_) = (m : Int) - at_ := IntWalk.i64_in _ (by omega)
            by_cases g4 : (m : Int) - at_ < n
            · have HVE := Lib.hid (show F.read at_ n = ([], 6) by unfold FileD.read; rw [if_pos HR.out, if_neg (by omega), HM.out, if_pos (by omega)])
              have hA := Try_Read F fa la fl fc ll lc at_ n w6 _ HF6.out.s (fun b h => h) H1.out H2.out
              rw [HVE.out] at hA
              refine hA.mono ?_; rintro e w7 ⟨ra, rl, rc, rfl, hRD, hb⟩
              obtain rfl := hRD.at_.empty
              have hF7 := HF6.out.ext hb
              have hG7 := HG6.out.ext hb
              have hq1 := HB16.out.ext hb
              have hq2 := HB26.out.ext hb
              have bel7 := BEL6.out.trans (hb.mono (by have := BEL6.out.size; omega))
              have hl7 : w.heap.size + 1 + 1 ≤ w7.heap.size := Nat.le_trans hl6 hb.size
              have HF7 := Lib.hid hF7
              have HG7 := Lib.hid hG7
              have HB17 := Lib.hid hq1
              have HB27 := Lib.hid hq2
              have BEL7 := Lib.hid bel7
              have q17 := hq1.cells
              have q27 := hq2.cells
              clear hA q16 q26 hRD hb hq1 hq2 hF7 hG7 bel7 HF6 HG6 HB16 HB26 BEL6 hl6
              go_wp2_with fail
              refine (Try_All F fa la fl fc ll lc w7 HF7.out (by rw [HM.out]; omega)).mono ?_; rintro e w8 ⟨aa, an, ac, rfl, hAB, hb⟩
              have han : m = an := by rw [← hAB.at_.hlen, FileD.all_length, HM.out]
              subst han
              have hF8 := HF7.out.ext hb
              have hG8 := HG7.out.ext hb
              have hq1 := HB17.out.ext hb
              have hq2 := HB27.out.ext hb
              have bel8 := BEL7.out.trans (hb.mono (by have := BEL7.out.size; omega))
              have hl8 : w.heap.size + 1 + 1 ≤ w8.heap.size := Nat.le_trans hl7 hb.size
              have HF8 := Lib.hid hF8
              have HG8 := Lib.hid hG8
              have HB18 := Lib.hid hq1
              have HB28 := Lib.hid hq2
              have BEL8 := Lib.hid bel8
              have q18 := hq1.cells
              have q28 := hq2.cells
              clear q17 q27 hAB hb hq1 hq2 hF8 hG8 bel8 HF7 HG7 HB17 HB27 BEL7 hl7
              go_wp2_with fail
              refine (Try_Len F fa la fl fc ll lc w8 HF8.out).mono ?_; rintro e w9 ⟨rfl, hb⟩
              rw [if_pos HR.out, HM.out]
              have hF9 := HF8.out.ext hb
              have hG9 := HG8.out.ext hb
              have hq1 := HB18.out.ext hb
              have hq2 := HB28.out.ext hb
              have bel9 := BEL8.out.trans (hb.mono (by have := BEL8.out.size; omega))
              have hl9 : w.heap.size + 1 + 1 ≤ w9.heap.size := Nat.le_trans hl8 hb.size
              have HF9 := Lib.hid hF9
              have HG9 := Lib.hid hG9
              have HB19 := Lib.hid hq1
              have HB29 := Lib.hid hq2
              have BEL9 := Lib.hid bel9
              have q19 := hq1.cells
              have q29 := hq2.cells
              clear q18 q28 hb hq1 hq2 hF9 hG9 bel9 HF8 HG8 HB18 HB28 BEL8 hl8
              go_wp2
              go_ret
              exact ⟨rfl, BEL9.out⟩
            · have HVE := Lib.hid (show F.read at_ n = ((F.all.drop at_.toNat).take n.toNat, 0) by unfold FileD.read; rw [if_pos HR.out, if_neg (by omega), HM.out, if_neg (by omega)])
              obtain ⟨A, rfl⟩ : ∃ A : Nat, at_ = (A : Int) := ⟨at_.toNat, by omega⟩
              obtain ⟨N, rfl⟩ : ∃ N : Nat, n = (N : Int) := ⟨n.toNat, by omega⟩
              have hw2 : IntKind.i64.wrap ((A : Int) + (N : Int)) = (A : Int) + (N : Int) := IntWalk.i64_in _ (by omega)
              have hA := Try_Read F fa la fl fc ll lc A N w6 _ HF6.out.s (fun b h => h) H1.out H2.out
              rw [HVE.out] at hA
              refine hA.mono ?_; rintro e w7 ⟨ra, rl, rc, rfl, hRD, hb⟩
              have HRD7 := Lib.hid hRD.at_
              have hF7 := HF6.out.ext hb
              have hG7 := HG6.out.ext hb
              have hq1 := HB16.out.ext hb
              have hq2 := HB26.out.ext hb
              have bel7 := BEL6.out.trans (hb.mono (by have := BEL6.out.size; omega))
              have hl7 : w.heap.size + 1 + 1 ≤ w7.heap.size := Nat.le_trans hl6 hb.size
              have HF7 := Lib.hid hF7
              have HG7 := Lib.hid hG7
              have HB17 := Lib.hid hq1
              have HB27 := Lib.hid hq2
              have BEL7 := Lib.hid bel7
              have q17 := hq1.cells
              have q27 := hq2.cells
              clear hA q16 q26 hRD hb hq1 hq2 hF7 hG7 bel7 HF6 HG6 HB16 HB26 BEL6 hl6
              go_wp2_with fail
              refine (Try_All F fa la fl fc ll lc w7 HF7.out (by rw [HM.out]; omega)).mono ?_; rintro e w8 ⟨aa, an, ac, rfl, hAB, hb⟩
              have han : m = an := by rw [← hAB.at_.hlen, FileD.all_length, HM.out]
              subst han
              have HRD8 := Lib.hid (HRD7.out.ext hb)
              have HAB8 := Lib.hid hAB.at_
              have hF8 := HF7.out.ext hb
              have hG8 := HG7.out.ext hb
              have hq1 := HB17.out.ext hb
              have hq2 := HB27.out.ext hb
              have bel8 := BEL7.out.trans (hb.mono (by have := BEL7.out.size; omega))
              have hl8 : w.heap.size + 1 + 1 ≤ w8.heap.size := Nat.le_trans hl7 hb.size
              have HF8 := Lib.hid hF8
              have HG8 := Lib.hid hG8
              have HB18 := Lib.hid hq1
              have HB28 := Lib.hid hq2
              have BEL8 := Lib.hid bel8
              have q18 := hq1.cells
              have q28 := hq2.cells
              clear q17 q27 hAB HRD7 hb hq1 hq2 hF8 hG8 bel8 HF7 HG7 HB17 HB27 BEL7 hl7
              go_wp2_with fail
              refine (Try_Len F fa la fl fc ll lc w8 HF8.out).mono ?_; rintro e w9 ⟨rfl, hb⟩
              rw [if_pos HR.out, HM.out]
              have HRD9 := Lib.hid (HRD8.out.ext hb)
              have HAB9 := Lib.hid (HAB8.out.ext hb)
              have hF9 := HF8.out.ext hb
              have hG9 := HG8.out.ext hb
              have hq1 := HB18.out.ext hb
              have hq2 := HB28.out.ext hb
              have bel9 := BEL8.out.trans (hb.mono (by have := BEL8.out.size; omega))
              have hl9 : w.heap.size + 1 + 1 ≤ w9.heap.size := Nat.le_trans hl8 hb.size
              have HF9 := Lib.hid hF9
              have HG9 := Lib.hid hG9
              have HB19 := Lib.hid hq1
              have HB29 := Lib.hid hq2
              have BEL9 := Lib.hid bel9
              have q19 := hq1.cells
              have q29 := hq2.cells
              clear q18 q28 HRD8 HAB8 hb hq1 hq2 hF9 hG9 bel9 HF8 HG8 HB18 HB28 BEL8 hl8
              have hac := HAB9.out.hcap
              have e1 : (A : Int).toNat = A := Int.toNat_natCast A
              have e2 : (N : Int).toNat = N := Int.toNat_natCast N
              have HRD := HRD9.out
              rw [e1, e2] at HRD
              have hANi : (A : Int) + (N : Int) ≤ (m : Int) := by omega
              have hANc : (A : Int) + (N : Int) ≤ (ac : Int) := by omega
              have hAN1 : (A : Int) ≤ (A : Int) + (N : Int) := by omega
              clear HRD9 HF9 HG9 HB19 HB29 q19 q29 e1 e2
              have hHR := Lib.hid HRD
              clear HRD
              by_cases k9 : ac = A
              · have hN : N = 0 := by omega
                subst hN
                have hAm : m = A := by omega
                have hnil := HAB9.out.hnil
                go_wp2_with fail
                have hA := Try_bytesEqual ra aa rl rc 0 0 _ [] w9 hHR.out (BytesAt.mk_empty (by unfold maxLen; omega) (fun _ => rfl))
                rw [List.take_zero, show decide (([] : List UInt8) = []) = true from rfl] at hA
                refine hA.mono ?_; rintro e w10 ⟨rfl, hb⟩
                have bel10 := BEL9.out.trans (hb.mono (by have := BEL9.out.size; omega))
                clear hA
                go_wp2
                go_ret
                exact ⟨rfl, bel10⟩
              · have k9' : A < ac := by omega
                go_wp2_with fail
                have hA := Try_bytesEqual ra _ rl rc _ _ _ _ w9 hHR.out (HAB9.out.piece (A := A) (N := N) (by omega))
                rw [show (F.all.drop A).take N = (F.all.take (A + N)).drop A by rw [List.take_drop], decide_eq_true (show (F.all.take (A + N)).drop A = (F.all.take (A + N)).drop A from rfl)] at hA
                refine hA.mono ?_; rintro e w10 ⟨rfl, hb⟩
                have bel10 := BEL9.out.trans (hb.mono (by have := BEL9.out.size; omega))
                clear hA
                go_wp2
                go_ret
                exact ⟨rfl, bel10⟩
    | true =>
      have HGR := Lib.hid hg
      clear hg
      go_wp2_with fail
      refine (Try_refSame F G fa la ga ma fl fc ll lc gl gc ml mc wa HFa.out HGa.out).mono ?_; rintro e wb ⟨rfl, hb⟩
      have hFb := HFa.out.ext hb
      have hGb := HGa.out.ext hb
      have hq1 := HB1a.out.ext hb
      have hq2 := HB2a.out.ext hb
      have belb := BELa.out.trans (hb.mono (by have := BELa.out.size; omega))
      have hlb : w.heap.size + 1 + 1 ≤ wb.heap.size := Nat.le_trans hla hb.size
      have HFb := Lib.hid hFb
      have HGb := Lib.hid hGb
      have HB1b := Lib.hid hq1
      have HB2b := Lib.hid hq2
      have BELb := Lib.hid belb
      have q1b := hq1.cells
      have q2b := hq2.cells
      clear q1a q2a hb hq1 hq2 hFb hGb belb HFa HGa HB1a HB2a BELa hla
      cases ho : F.one G with
      | false =>
        have HO := Lib.hid ho
        clear ho
        go_wp2_with fail
        refine (Try_Same F G fa la ga ma fl fc ll lc gl gc ml mc wb HFb.out HGb.out).mono ?_; rintro e w4 ⟨rfl, hb⟩
        rw [HO.out, Bool.and_false, Bool.and_false]
        have hF4 := HFb.out.ext hb
        have hG4 := HGb.out.ext hb
        have hq1 := HB1b.out.ext hb
        have hq2 := HB2b.out.ext hb
        have bel4 := BELb.out.trans (hb.mono (by have := BELb.out.size; omega))
        have hl4 : w.heap.size + 1 + 1 ≤ w4.heap.size := Nat.le_trans hlb hb.size
        have HF4 := Lib.hid hF4
        have HG4 := Lib.hid hG4
        have HB14 := Lib.hid hq1
        have HB24 := Lib.hid hq2
        have BEL4 := Lib.hid bel4
        have q14 := hq1.cells
        have q24 := hq2.cells
        clear q1b q2b hb hq1 hq2 hF4 hG4 bel4 HFb HGb HB1b HB2b BELb hlb
        go_wp2_with fail
        refine (Try_Same G F ga ma fa la gl gc ml mc fl fc ll lc w4 HG4.out HF4.out).mono ?_; rintro e w5 ⟨rfl, hb⟩
        rw [FileD.one_comm, HO.out, Bool.and_false, Bool.and_false]
        have hF5 := HF4.out.ext hb
        have hG5 := HG4.out.ext hb
        have hq1 := HB14.out.ext hb
        have hq2 := HB24.out.ext hb
        have bel5 := BEL4.out.trans (hb.mono (by have := BEL4.out.size; omega))
        have hl5 : w.heap.size + 1 + 1 ≤ w5.heap.size := Nat.le_trans hl4 hb.size
        have HF5 := Lib.hid hF5
        have HG5 := Lib.hid hG5
        have HB15 := Lib.hid hq1
        have HB25 := Lib.hid hq2
        have BEL5 := Lib.hid bel5
        have q15 := hq1.cells
        have q25 := hq2.cells
        clear q14 q24 hb hq1 hq2 hF5 hG5 bel5 HF4 HG4 HB14 HB24 BEL4 hl4
        go_wp2_with fail
        refine (Try_Same F F fa la fa la fl fc ll lc fl fc ll lc w5 HF5.out HF5.out).mono ?_; rintro e w6 ⟨rfl, hb⟩
        rw [HR.out, FileD.one_self, Bool.true_and, Bool.true_and]
        have hF6 := HF5.out.ext hb
        have hG6 := HG5.out.ext hb
        have hq1 := HB15.out.ext hb
        have hq2 := HB25.out.ext hb
        have bel6 := BEL5.out.trans (hb.mono (by have := BEL5.out.size; omega))
        have hl6 : w.heap.size + 1 + 1 ≤ w6.heap.size := Nat.le_trans hl5 hb.size
        have HF6 := Lib.hid hF6
        have HG6 := Lib.hid hG6
        have HB16 := Lib.hid hq1
        have HB26 := Lib.hid hq2
        have BEL6 := Lib.hid bel6
        have q16 := hq1.cells
        have q26 := hq2.cells
        clear q15 q25 hb hq1 hq2 hF6 hG6 bel6 HF5 HG5 HB15 HB25 BEL5 hl5
        go_wp2_with fail
        obtain ⟨m, hm⟩ : ∃ m, F.many = m := ⟨_, rfl⟩
        have hmx := (FileD.right_spec.1 HR.out).2.2.2.2
        rw [hm] at hmx
        have hmi : (m : Int) ≤ 524288 := by omega
        have HM := Lib.hid hm
        clear hm
        by_cases g1 : at_ < 0
        · have HVE := Lib.hid (show F.read at_ n = ([], 2) by unfold FileD.read; rw [if_pos HR.out, if_pos (.inl g1)])
          have hA := Try_Read F fa la fl fc ll lc at_ n w6 _ HF6.out.s (fun b h => h) H1.out H2.out
          rw [HVE.out] at hA
          refine hA.mono ?_; rintro e w7 ⟨ra, rl, rc, rfl, hRD, hb⟩
          obtain rfl := hRD.at_.empty
          have hF7 := HF6.out.ext hb
          have hG7 := HG6.out.ext hb
          have hq1 := HB16.out.ext hb
          have hq2 := HB26.out.ext hb
          have bel7 := BEL6.out.trans (hb.mono (by have := BEL6.out.size; omega))
          have hl7 : w.heap.size + 1 + 1 ≤ w7.heap.size := Nat.le_trans hl6 hb.size
          have HF7 := Lib.hid hF7
          have HG7 := Lib.hid hG7
          have HB17 := Lib.hid hq1
          have HB27 := Lib.hid hq2
          have BEL7 := Lib.hid bel7
          have q17 := hq1.cells
          have q27 := hq2.cells
          clear hA q16 q26 hRD hb hq1 hq2 hF7 hG7 bel7 HF6 HG6 HB16 HB26 BEL6 hl6
          go_wp2_with fail
          refine (Try_All F fa la fl fc ll lc w7 HF7.out (by rw [HM.out]; omega)).mono ?_; rintro e w8 ⟨aa, an, ac, rfl, hAB, hb⟩
          have han : m = an := by rw [← hAB.at_.hlen, FileD.all_length, HM.out]
          subst han
          have hF8 := HF7.out.ext hb
          have hG8 := HG7.out.ext hb
          have hq1 := HB17.out.ext hb
          have hq2 := HB27.out.ext hb
          have bel8 := BEL7.out.trans (hb.mono (by have := BEL7.out.size; omega))
          have hl8 : w.heap.size + 1 + 1 ≤ w8.heap.size := Nat.le_trans hl7 hb.size
          have HF8 := Lib.hid hF8
          have HG8 := Lib.hid hG8
          have HB18 := Lib.hid hq1
          have HB28 := Lib.hid hq2
          have BEL8 := Lib.hid bel8
          have q18 := hq1.cells
          have q28 := hq2.cells
          clear q17 q27 hAB hb hq1 hq2 hF8 hG8 bel8 HF7 HG7 HB17 HB27 BEL7 hl7
          go_wp2_with fail
          refine (Try_Len F fa la fl fc ll lc w8 HF8.out).mono ?_; rintro e w9 ⟨rfl, hb⟩
          rw [if_pos HR.out, HM.out]
          have hF9 := HF8.out.ext hb
          have hG9 := HG8.out.ext hb
          have hq1 := HB18.out.ext hb
          have hq2 := HB28.out.ext hb
          have bel9 := BEL8.out.trans (hb.mono (by have := BEL8.out.size; omega))
          have hl9 : w.heap.size + 1 + 1 ≤ w9.heap.size := Nat.le_trans hl8 hb.size
          have HF9 := Lib.hid hF9
          have HG9 := Lib.hid hG9
          have HB19 := Lib.hid hq1
          have HB29 := Lib.hid hq2
          have BEL9 := Lib.hid bel9
          have q19 := hq1.cells
          have q29 := hq2.cells
          clear q18 q28 hb hq1 hq2 hF9 hG9 bel9 HF8 HG8 HB18 HB28 BEL8 hl8
          go_wp2
          go_ret
          exact ⟨rfl, BEL9.out⟩
        · by_cases g2 : n < 0
          · have HVE := Lib.hid (show F.read at_ n = ([], 2) by unfold FileD.read; rw [if_pos HR.out, if_pos (.inr g2)])
            have hA := Try_Read F fa la fl fc ll lc at_ n w6 _ HF6.out.s (fun b h => h) H1.out H2.out
            rw [HVE.out] at hA
            refine hA.mono ?_; rintro e w7 ⟨ra, rl, rc, rfl, hRD, hb⟩
            obtain rfl := hRD.at_.empty
            have hF7 := HF6.out.ext hb
            have hG7 := HG6.out.ext hb
            have hq1 := HB16.out.ext hb
            have hq2 := HB26.out.ext hb
            have bel7 := BEL6.out.trans (hb.mono (by have := BEL6.out.size; omega))
            have hl7 : w.heap.size + 1 + 1 ≤ w7.heap.size := Nat.le_trans hl6 hb.size
            have HF7 := Lib.hid hF7
            have HG7 := Lib.hid hG7
            have HB17 := Lib.hid hq1
            have HB27 := Lib.hid hq2
            have BEL7 := Lib.hid bel7
            have q17 := hq1.cells
            have q27 := hq2.cells
            clear hA q16 q26 hRD hb hq1 hq2 hF7 hG7 bel7 HF6 HG6 HB16 HB26 BEL6 hl6
            go_wp2_with fail
            refine (Try_All F fa la fl fc ll lc w7 HF7.out (by rw [HM.out]; omega)).mono ?_; rintro e w8 ⟨aa, an, ac, rfl, hAB, hb⟩
            have han : m = an := by rw [← hAB.at_.hlen, FileD.all_length, HM.out]
            subst han
            have hF8 := HF7.out.ext hb
            have hG8 := HG7.out.ext hb
            have hq1 := HB17.out.ext hb
            have hq2 := HB27.out.ext hb
            have bel8 := BEL7.out.trans (hb.mono (by have := BEL7.out.size; omega))
            have hl8 : w.heap.size + 1 + 1 ≤ w8.heap.size := Nat.le_trans hl7 hb.size
            have HF8 := Lib.hid hF8
            have HG8 := Lib.hid hG8
            have HB18 := Lib.hid hq1
            have HB28 := Lib.hid hq2
            have BEL8 := Lib.hid bel8
            have q18 := hq1.cells
            have q28 := hq2.cells
            clear q17 q27 hAB hb hq1 hq2 hF8 hG8 bel8 HF7 HG7 HB17 HB27 BEL7 hl7
            go_wp2_with fail
            refine (Try_Len F fa la fl fc ll lc w8 HF8.out).mono ?_; rintro e w9 ⟨rfl, hb⟩
            rw [if_pos HR.out, HM.out]
            have hF9 := HF8.out.ext hb
            have hG9 := HG8.out.ext hb
            have hq1 := HB18.out.ext hb
            have hq2 := HB28.out.ext hb
            have bel9 := BEL8.out.trans (hb.mono (by have := BEL8.out.size; omega))
            have hl9 : w.heap.size + 1 + 1 ≤ w9.heap.size := Nat.le_trans hl8 hb.size
            have HF9 := Lib.hid hF9
            have HG9 := Lib.hid hG9
            have HB19 := Lib.hid hq1
            have HB29 := Lib.hid hq2
            have BEL9 := Lib.hid bel9
            have q19 := hq1.cells
            have q29 := hq2.cells
            clear q18 q28 hb hq1 hq2 hF9 hG9 bel9 HF8 HG8 HB18 HB28 BEL8 hl8
            go_wp2
            go_ret
            exact ⟨rfl, BEL9.out⟩
          · have h2b := H2.out.2
            by_cases g3 : (m : Int) < at_
            · have HVE := Lib.hid (show F.read at_ n = ([], 6) by unfold FileD.read; rw [if_pos HR.out, if_neg (by omega), HM.out, if_pos (by omega)])
              have hA := Try_Read F fa la fl fc ll lc at_ n w6 _ HF6.out.s (fun b h => h) H1.out H2.out
              rw [HVE.out] at hA
              refine hA.mono ?_; rintro e w7 ⟨ra, rl, rc, rfl, hRD, hb⟩
              obtain rfl := hRD.at_.empty
              have hF7 := HF6.out.ext hb
              have hG7 := HG6.out.ext hb
              have hq1 := HB16.out.ext hb
              have hq2 := HB26.out.ext hb
              have bel7 := BEL6.out.trans (hb.mono (by have := BEL6.out.size; omega))
              have hl7 : w.heap.size + 1 + 1 ≤ w7.heap.size := Nat.le_trans hl6 hb.size
              have HF7 := Lib.hid hF7
              have HG7 := Lib.hid hG7
              have HB17 := Lib.hid hq1
              have HB27 := Lib.hid hq2
              have BEL7 := Lib.hid bel7
              have q17 := hq1.cells
              have q27 := hq2.cells
              clear hA q16 q26 hRD hb hq1 hq2 hF7 hG7 bel7 HF6 HG6 HB16 HB26 BEL6 hl6
              go_wp2_with fail
              refine (Try_All F fa la fl fc ll lc w7 HF7.out (by rw [HM.out]; omega)).mono ?_; rintro e w8 ⟨aa, an, ac, rfl, hAB, hb⟩
              have han : m = an := by rw [← hAB.at_.hlen, FileD.all_length, HM.out]
              subst han
              have hF8 := HF7.out.ext hb
              have hG8 := HG7.out.ext hb
              have hq1 := HB17.out.ext hb
              have hq2 := HB27.out.ext hb
              have bel8 := BEL7.out.trans (hb.mono (by have := BEL7.out.size; omega))
              have hl8 : w.heap.size + 1 + 1 ≤ w8.heap.size := Nat.le_trans hl7 hb.size
              have HF8 := Lib.hid hF8
              have HG8 := Lib.hid hG8
              have HB18 := Lib.hid hq1
              have HB28 := Lib.hid hq2
              have BEL8 := Lib.hid bel8
              have q18 := hq1.cells
              have q28 := hq2.cells
              clear q17 q27 hAB hb hq1 hq2 hF8 hG8 bel8 HF7 HG7 HB17 HB27 BEL7 hl7
              go_wp2_with fail
              refine (Try_Len F fa la fl fc ll lc w8 HF8.out).mono ?_; rintro e w9 ⟨rfl, hb⟩
              rw [if_pos HR.out, HM.out]
              have hF9 := HF8.out.ext hb
              have hG9 := HG8.out.ext hb
              have hq1 := HB18.out.ext hb
              have hq2 := HB28.out.ext hb
              have bel9 := BEL8.out.trans (hb.mono (by have := BEL8.out.size; omega))
              have hl9 : w.heap.size + 1 + 1 ≤ w9.heap.size := Nat.le_trans hl8 hb.size
              have HF9 := Lib.hid hF9
              have HG9 := Lib.hid hG9
              have HB19 := Lib.hid hq1
              have HB29 := Lib.hid hq2
              have BEL9 := Lib.hid bel9
              have q19 := hq1.cells
              have q29 := hq2.cells
              clear q18 q28 hb hq1 hq2 hF9 hG9 bel9 HF8 HG8 HB18 HB28 BEL8 hl8
              go_wp2
              go_ret
              exact ⟨rfl, BEL9.out⟩
            · have hw : IntKind.i64.wrap ((m : Int) - at_) = (m : Int) - at_ := IntWalk.i64_in _ (by omega)
              by_cases g4 : (m : Int) - at_ < n
              · have HVE := Lib.hid (show F.read at_ n = ([], 6) by unfold FileD.read; rw [if_pos HR.out, if_neg (by omega), HM.out, if_pos (by omega)])
                have hA := Try_Read F fa la fl fc ll lc at_ n w6 _ HF6.out.s (fun b h => h) H1.out H2.out
                rw [HVE.out] at hA
                refine hA.mono ?_; rintro e w7 ⟨ra, rl, rc, rfl, hRD, hb⟩
                obtain rfl := hRD.at_.empty
                have hF7 := HF6.out.ext hb
                have hG7 := HG6.out.ext hb
                have hq1 := HB16.out.ext hb
                have hq2 := HB26.out.ext hb
                have bel7 := BEL6.out.trans (hb.mono (by have := BEL6.out.size; omega))
                have hl7 : w.heap.size + 1 + 1 ≤ w7.heap.size := Nat.le_trans hl6 hb.size
                have HF7 := Lib.hid hF7
                have HG7 := Lib.hid hG7
                have HB17 := Lib.hid hq1
                have HB27 := Lib.hid hq2
                have BEL7 := Lib.hid bel7
                have q17 := hq1.cells
                have q27 := hq2.cells
                clear hA q16 q26 hRD hb hq1 hq2 hF7 hG7 bel7 HF6 HG6 HB16 HB26 BEL6 hl6
                go_wp2_with fail
                refine (Try_All F fa la fl fc ll lc w7 HF7.out (by rw [HM.out]; omega)).mono ?_; rintro e w8 ⟨aa, an, ac, rfl, hAB, hb⟩
                have han : m = an := by rw [← hAB.at_.hlen, FileD.all_length, HM.out]
                subst han
                have hF8 := HF7.out.ext hb
                have hG8 := HG7.out.ext hb
                have hq1 := HB17.out.ext hb
                have hq2 := HB27.out.ext hb
                have bel8 := BEL7.out.trans (hb.mono (by have := BEL7.out.size; omega))
                have hl8 : w.heap.size + 1 + 1 ≤ w8.heap.size := Nat.le_trans hl7 hb.size
                have HF8 := Lib.hid hF8
                have HG8 := Lib.hid hG8
                have HB18 := Lib.hid hq1
                have HB28 := Lib.hid hq2
                have BEL8 := Lib.hid bel8
                have q18 := hq1.cells
                have q28 := hq2.cells
                clear q17 q27 hAB hb hq1 hq2 hF8 hG8 bel8 HF7 HG7 HB17 HB27 BEL7 hl7
                go_wp2_with fail
                refine (Try_Len F fa la fl fc ll lc w8 HF8.out).mono ?_; rintro e w9 ⟨rfl, hb⟩
                rw [if_pos HR.out, HM.out]
                have hF9 := HF8.out.ext hb
                have hG9 := HG8.out.ext hb
                have hq1 := HB18.out.ext hb
                have hq2 := HB28.out.ext hb
                have bel9 := BEL8.out.trans (hb.mono (by have := BEL8.out.size; omega))
                have hl9 : w.heap.size + 1 + 1 ≤ w9.heap.size := Nat.le_trans hl8 hb.size
                have HF9 := Lib.hid hF9
                have HG9 := Lib.hid hG9
                have HB19 := Lib.hid hq1
                have HB29 := Lib.hid hq2
                have BEL9 := Lib.hid bel9
                have q19 := hq1.cells
                have q29 := hq2.cells
                clear q18 q28 hb hq1 hq2 hF9 hG9 bel9 HF8 HG8 HB18 HB28 BEL8 hl8
                go_wp2
                go_ret
                exact ⟨rfl, BEL9.out⟩
              · have HVE := Lib.hid (show F.read at_ n = ((F.all.drop at_.toNat).take n.toNat, 0) by unfold FileD.read; rw [if_pos HR.out, if_neg (by omega), HM.out, if_neg (by omega)])
                obtain ⟨A, rfl⟩ : ∃ A : Nat, at_ = (A : Int) := ⟨at_.toNat, by omega⟩
                obtain ⟨N, rfl⟩ : ∃ N : Nat, n = (N : Int) := ⟨n.toNat, by omega⟩
                have hw2 : IntKind.i64.wrap ((A : Int) + (N : Int)) = (A : Int) + (N : Int) := IntWalk.i64_in _ (by omega)
                have hA := Try_Read F fa la fl fc ll lc A N w6 _ HF6.out.s (fun b h => h) H1.out H2.out
                rw [HVE.out] at hA
                refine hA.mono ?_; rintro e w7 ⟨ra, rl, rc, rfl, hRD, hb⟩
                have HRD7 := Lib.hid hRD.at_
                have hF7 := HF6.out.ext hb
                have hG7 := HG6.out.ext hb
                have hq1 := HB16.out.ext hb
                have hq2 := HB26.out.ext hb
                have bel7 := BEL6.out.trans (hb.mono (by have := BEL6.out.size; omega))
                have hl7 : w.heap.size + 1 + 1 ≤ w7.heap.size := Nat.le_trans hl6 hb.size
                have HF7 := Lib.hid hF7
                have HG7 := Lib.hid hG7
                have HB17 := Lib.hid hq1
                have HB27 := Lib.hid hq2
                have BEL7 := Lib.hid bel7
                have q17 := hq1.cells
                have q27 := hq2.cells
                clear hA q16 q26 hRD hb hq1 hq2 hF7 hG7 bel7 HF6 HG6 HB16 HB26 BEL6 hl6
                go_wp2_with fail
                refine (Try_All F fa la fl fc ll lc w7 HF7.out (by rw [HM.out]; omega)).mono ?_; rintro e w8 ⟨aa, an, ac, rfl, hAB, hb⟩
                have han : m = an := by rw [← hAB.at_.hlen, FileD.all_length, HM.out]
                subst han
                have HRD8 := Lib.hid (HRD7.out.ext hb)
                have HAB8 := Lib.hid hAB.at_
                have hF8 := HF7.out.ext hb
                have hG8 := HG7.out.ext hb
                have hq1 := HB17.out.ext hb
                have hq2 := HB27.out.ext hb
                have bel8 := BEL7.out.trans (hb.mono (by have := BEL7.out.size; omega))
                have hl8 : w.heap.size + 1 + 1 ≤ w8.heap.size := Nat.le_trans hl7 hb.size
                have HF8 := Lib.hid hF8
                have HG8 := Lib.hid hG8
                have HB18 := Lib.hid hq1
                have HB28 := Lib.hid hq2
                have BEL8 := Lib.hid bel8
                have q18 := hq1.cells
                have q28 := hq2.cells
                clear q17 q27 hAB HRD7 hb hq1 hq2 hF8 hG8 bel8 HF7 HG7 HB17 HB27 BEL7 hl7
                go_wp2_with fail
                refine (Try_Len F fa la fl fc ll lc w8 HF8.out).mono ?_; rintro e w9 ⟨rfl, hb⟩
                rw [if_pos HR.out, HM.out]
                have HRD9 := Lib.hid (HRD8.out.ext hb)
                have HAB9 := Lib.hid (HAB8.out.ext hb)
                have hF9 := HF8.out.ext hb
                have hG9 := HG8.out.ext hb
                have hq1 := HB18.out.ext hb
                have hq2 := HB28.out.ext hb
                have bel9 := BEL8.out.trans (hb.mono (by have := BEL8.out.size; omega))
                have hl9 : w.heap.size + 1 + 1 ≤ w9.heap.size := Nat.le_trans hl8 hb.size
                have HF9 := Lib.hid hF9
                have HG9 := Lib.hid hG9
                have HB19 := Lib.hid hq1
                have HB29 := Lib.hid hq2
                have BEL9 := Lib.hid bel9
                have q19 := hq1.cells
                have q29 := hq2.cells
                clear q18 q28 HRD8 HAB8 hb hq1 hq2 hF9 hG9 bel9 HF8 HG8 HB18 HB28 BEL8 hl8
                have hac := HAB9.out.hcap
                have e1 : (A : Int).toNat = A := Int.toNat_natCast A
                have e2 : (N : Int).toNat = N := Int.toNat_natCast N
                have HRD := HRD9.out
                rw [e1, e2] at HRD
                have hANi : (A : Int) + (N : Int) ≤ (m : Int) := by omega
                have hANc : (A : Int) + (N : Int) ≤ (ac : Int) := by omega
                have hAN1 : (A : Int) ≤ (A : Int) + (N : Int) := by omega
                clear HRD9 HF9 HG9 HB19 HB29 q19 q29 e1 e2
                have hHR := Lib.hid HRD
                clear HRD
                by_cases k9 : ac = A
                · have hN : N = 0 := by omega
                  subst hN
                  have hAm : m = A := by omega
                  have hnil := HAB9.out.hnil
                  go_wp2_with fail
                  have hA := Try_bytesEqual ra aa rl rc 0 0 _ [] w9 hHR.out (BytesAt.mk_empty (by unfold maxLen; omega) (fun _ => rfl))
                  rw [List.take_zero, show decide (([] : List UInt8) = []) = true from rfl] at hA
                  refine hA.mono ?_; rintro e w10 ⟨rfl, hb⟩
                  have bel10 := BEL9.out.trans (hb.mono (by have := BEL9.out.size; omega))
                  clear hA
                  go_wp2
                  go_ret
                  exact ⟨rfl, bel10⟩
                · have k9' : A < ac := by omega
                  go_wp2_with fail
                  have hA := Try_bytesEqual ra _ rl rc _ _ _ _ w9 hHR.out (HAB9.out.piece (A := A) (N := N) (by omega))
                  rw [show (F.all.drop A).take N = (F.all.take (A + N)).drop A by rw [List.take_drop], decide_eq_true (show (F.all.take (A + N)).drop A = (F.all.take (A + N)).drop A from rfl)] at hA
                  refine hA.mono ?_; rintro e w10 ⟨rfl, hb⟩
                  have bel10 := BEL9.out.trans (hb.mono (by have := BEL9.out.size; omega))
                  clear hA
                  go_wp2
                  go_ret
                  exact ⟨rfl, bel10⟩
      | true =>
        have HO := Lib.hid ho
        clear ho
        go_wp2_with fail
        refine (Try_Same F G fa la ga ma fl fc ll lc gl gc ml mc wb HFb.out HGb.out).mono ?_; rintro e w4 ⟨rfl, hb⟩
        rw [HO.out, HR.out, HGR.out, Bool.true_and, Bool.true_and]
        have hF4 := HFb.out.ext hb
        have hG4 := HGb.out.ext hb
        have hq1 := HB1b.out.ext hb
        have hq2 := HB2b.out.ext hb
        have bel4 := BELb.out.trans (hb.mono (by have := BELb.out.size; omega))
        have hl4 : w.heap.size + 1 + 1 ≤ w4.heap.size := Nat.le_trans hlb hb.size
        have HF4 := Lib.hid hF4
        have HG4 := Lib.hid hG4
        have HB14 := Lib.hid hq1
        have HB24 := Lib.hid hq2
        have BEL4 := Lib.hid bel4
        have q14 := hq1.cells
        have q24 := hq2.cells
        clear q1b q2b hb hq1 hq2 hF4 hG4 bel4 HFb HGb HB1b HB2b BELb hlb
        go_wp2_with fail
        refine (Try_Same G F ga ma fa la gl gc ml mc fl fc ll lc w4 HG4.out HF4.out).mono ?_; rintro e w5 ⟨rfl, hb⟩
        rw [FileD.one_comm, HO.out, HR.out, HGR.out, Bool.true_and, Bool.true_and]
        have hF5 := HF4.out.ext hb
        have hG5 := HG4.out.ext hb
        have hq1 := HB14.out.ext hb
        have hq2 := HB24.out.ext hb
        have bel5 := BEL4.out.trans (hb.mono (by have := BEL4.out.size; omega))
        have hl5 : w.heap.size + 1 + 1 ≤ w5.heap.size := Nat.le_trans hl4 hb.size
        have HF5 := Lib.hid hF5
        have HG5 := Lib.hid hG5
        have HB15 := Lib.hid hq1
        have HB25 := Lib.hid hq2
        have BEL5 := Lib.hid bel5
        have q15 := hq1.cells
        have q25 := hq2.cells
        clear q14 q24 hb hq1 hq2 hF5 hG5 bel5 HF4 HG4 HB14 HB24 BEL4 hl4
        go_wp2_with fail
        refine (Try_Same F F fa la fa la fl fc ll lc fl fc ll lc w5 HF5.out HF5.out).mono ?_; rintro e w6 ⟨rfl, hb⟩
        rw [HR.out, FileD.one_self, Bool.true_and, Bool.true_and]
        have hF6 := HF5.out.ext hb
        have hG6 := HG5.out.ext hb
        have hq1 := HB15.out.ext hb
        have hq2 := HB25.out.ext hb
        have bel6 := BEL5.out.trans (hb.mono (by have := BEL5.out.size; omega))
        have hl6 : w.heap.size + 1 + 1 ≤ w6.heap.size := Nat.le_trans hl5 hb.size
        have HF6 := Lib.hid hF6
        have HG6 := Lib.hid hG6
        have HB16 := Lib.hid hq1
        have HB26 := Lib.hid hq2
        have BEL6 := Lib.hid bel6
        have q16 := hq1.cells
        have q26 := hq2.cells
        clear q15 q25 hb hq1 hq2 hF6 hG6 bel6 HF5 HG5 HB15 HB25 BEL5 hl5
        go_wp2_with fail
        obtain ⟨m, hm⟩ : ∃ m, F.many = m := ⟨_, rfl⟩
        have hmx := (FileD.right_spec.1 HR.out).2.2.2.2
        rw [hm] at hmx
        have hmi : (m : Int) ≤ 524288 := by omega
        have HM := Lib.hid hm
        clear hm
        by_cases g1 : at_ < 0
        · have HVE := Lib.hid (show F.read at_ n = ([], 2) by unfold FileD.read; rw [if_pos HR.out, if_pos (.inl g1)])
          have hA := Try_Read F fa la fl fc ll lc at_ n w6 _ HF6.out.s (fun b h => h) H1.out H2.out
          rw [HVE.out] at hA
          refine hA.mono ?_; rintro e w7 ⟨ra, rl, rc, rfl, hRD, hb⟩
          obtain rfl := hRD.at_.empty
          have hF7 := HF6.out.ext hb
          have hG7 := HG6.out.ext hb
          have hq1 := HB16.out.ext hb
          have hq2 := HB26.out.ext hb
          have bel7 := BEL6.out.trans (hb.mono (by have := BEL6.out.size; omega))
          have hl7 : w.heap.size + 1 + 1 ≤ w7.heap.size := Nat.le_trans hl6 hb.size
          have HF7 := Lib.hid hF7
          have HG7 := Lib.hid hG7
          have HB17 := Lib.hid hq1
          have HB27 := Lib.hid hq2
          have BEL7 := Lib.hid bel7
          have q17 := hq1.cells
          have q27 := hq2.cells
          clear hA q16 q26 hRD hb hq1 hq2 hF7 hG7 bel7 HF6 HG6 HB16 HB26 BEL6 hl6
          go_wp2_with fail
          refine (Try_All F fa la fl fc ll lc w7 HF7.out (by rw [HM.out]; omega)).mono ?_; rintro e w8 ⟨aa, an, ac, rfl, hAB, hb⟩
          have han : m = an := by rw [← hAB.at_.hlen, FileD.all_length, HM.out]
          subst han
          have hF8 := HF7.out.ext hb
          have hG8 := HG7.out.ext hb
          have hq1 := HB17.out.ext hb
          have hq2 := HB27.out.ext hb
          have bel8 := BEL7.out.trans (hb.mono (by have := BEL7.out.size; omega))
          have hl8 : w.heap.size + 1 + 1 ≤ w8.heap.size := Nat.le_trans hl7 hb.size
          have HF8 := Lib.hid hF8
          have HG8 := Lib.hid hG8
          have HB18 := Lib.hid hq1
          have HB28 := Lib.hid hq2
          have BEL8 := Lib.hid bel8
          have q18 := hq1.cells
          have q28 := hq2.cells
          clear q17 q27 hAB hb hq1 hq2 hF8 hG8 bel8 HF7 HG7 HB17 HB27 BEL7 hl7
          go_wp2_with fail
          refine (Try_Len F fa la fl fc ll lc w8 HF8.out).mono ?_; rintro e w9 ⟨rfl, hb⟩
          rw [if_pos HR.out, HM.out]
          have hF9 := HF8.out.ext hb
          have hG9 := HG8.out.ext hb
          have hq1 := HB18.out.ext hb
          have hq2 := HB28.out.ext hb
          have bel9 := BEL8.out.trans (hb.mono (by have := BEL8.out.size; omega))
          have hl9 : w.heap.size + 1 + 1 ≤ w9.heap.size := Nat.le_trans hl8 hb.size
          have HF9 := Lib.hid hF9
          have HG9 := Lib.hid hG9
          have HB19 := Lib.hid hq1
          have HB29 := Lib.hid hq2
          have BEL9 := Lib.hid bel9
          have q19 := hq1.cells
          have q29 := hq2.cells
          clear q18 q28 hb hq1 hq2 hF9 hG9 bel9 HF8 HG8 HB18 HB28 BEL8 hl8
          go_wp2
          go_ret
          exact ⟨rfl, BEL9.out⟩
        · by_cases g2 : n < 0
          · have HVE := Lib.hid (show F.read at_ n = ([], 2) by unfold FileD.read; rw [if_pos HR.out, if_pos (.inr g2)])
            have hA := Try_Read F fa la fl fc ll lc at_ n w6 _ HF6.out.s (fun b h => h) H1.out H2.out
            rw [HVE.out] at hA
            refine hA.mono ?_; rintro e w7 ⟨ra, rl, rc, rfl, hRD, hb⟩
            obtain rfl := hRD.at_.empty
            have hF7 := HF6.out.ext hb
            have hG7 := HG6.out.ext hb
            have hq1 := HB16.out.ext hb
            have hq2 := HB26.out.ext hb
            have bel7 := BEL6.out.trans (hb.mono (by have := BEL6.out.size; omega))
            have hl7 : w.heap.size + 1 + 1 ≤ w7.heap.size := Nat.le_trans hl6 hb.size
            have HF7 := Lib.hid hF7
            have HG7 := Lib.hid hG7
            have HB17 := Lib.hid hq1
            have HB27 := Lib.hid hq2
            have BEL7 := Lib.hid bel7
            have q17 := hq1.cells
            have q27 := hq2.cells
            clear hA q16 q26 hRD hb hq1 hq2 hF7 hG7 bel7 HF6 HG6 HB16 HB26 BEL6 hl6
            go_wp2_with fail
            refine (Try_All F fa la fl fc ll lc w7 HF7.out (by rw [HM.out]; omega)).mono ?_; rintro e w8 ⟨aa, an, ac, rfl, hAB, hb⟩
            have han : m = an := by rw [← hAB.at_.hlen, FileD.all_length, HM.out]
            subst han
            have hF8 := HF7.out.ext hb
            have hG8 := HG7.out.ext hb
            have hq1 := HB17.out.ext hb
            have hq2 := HB27.out.ext hb
            have bel8 := BEL7.out.trans (hb.mono (by have := BEL7.out.size; omega))
            have hl8 : w.heap.size + 1 + 1 ≤ w8.heap.size := Nat.le_trans hl7 hb.size
            have HF8 := Lib.hid hF8
            have HG8 := Lib.hid hG8
            have HB18 := Lib.hid hq1
            have HB28 := Lib.hid hq2
            have BEL8 := Lib.hid bel8
            have q18 := hq1.cells
            have q28 := hq2.cells
            clear q17 q27 hAB hb hq1 hq2 hF8 hG8 bel8 HF7 HG7 HB17 HB27 BEL7 hl7
            go_wp2_with fail
            refine (Try_Len F fa la fl fc ll lc w8 HF8.out).mono ?_; rintro e w9 ⟨rfl, hb⟩
            rw [if_pos HR.out, HM.out]
            have hF9 := HF8.out.ext hb
            have hG9 := HG8.out.ext hb
            have hq1 := HB18.out.ext hb
            have hq2 := HB28.out.ext hb
            have bel9 := BEL8.out.trans (hb.mono (by have := BEL8.out.size; omega))
            have hl9 : w.heap.size + 1 + 1 ≤ w9.heap.size := Nat.le_trans hl8 hb.size
            have HF9 := Lib.hid hF9
            have HG9 := Lib.hid hG9
            have HB19 := Lib.hid hq1
            have HB29 := Lib.hid hq2
            have BEL9 := Lib.hid bel9
            have q19 := hq1.cells
            have q29 := hq2.cells
            clear q18 q28 hb hq1 hq2 hF9 hG9 bel9 HF8 HG8 HB18 HB28 BEL8 hl8
            go_wp2
            go_ret
            exact ⟨rfl, BEL9.out⟩
          · have h2b := H2.out.2
            by_cases g3 : (m : Int) < at_
            · have HVE := Lib.hid (show F.read at_ n = ([], 6) by unfold FileD.read; rw [if_pos HR.out, if_neg (by omega), HM.out, if_pos (by omega)])
              have hA := Try_Read F fa la fl fc ll lc at_ n w6 _ HF6.out.s (fun b h => h) H1.out H2.out
              rw [HVE.out] at hA
              refine hA.mono ?_; rintro e w7 ⟨ra, rl, rc, rfl, hRD, hb⟩
              obtain rfl := hRD.at_.empty
              have hF7 := HF6.out.ext hb
              have hG7 := HG6.out.ext hb
              have hq1 := HB16.out.ext hb
              have hq2 := HB26.out.ext hb
              have bel7 := BEL6.out.trans (hb.mono (by have := BEL6.out.size; omega))
              have hl7 : w.heap.size + 1 + 1 ≤ w7.heap.size := Nat.le_trans hl6 hb.size
              have HF7 := Lib.hid hF7
              have HG7 := Lib.hid hG7
              have HB17 := Lib.hid hq1
              have HB27 := Lib.hid hq2
              have BEL7 := Lib.hid bel7
              have q17 := hq1.cells
              have q27 := hq2.cells
              clear hA q16 q26 hRD hb hq1 hq2 hF7 hG7 bel7 HF6 HG6 HB16 HB26 BEL6 hl6
              go_wp2_with fail
              refine (Try_All F fa la fl fc ll lc w7 HF7.out (by rw [HM.out]; omega)).mono ?_; rintro e w8 ⟨aa, an, ac, rfl, hAB, hb⟩
              have han : m = an := by rw [← hAB.at_.hlen, FileD.all_length, HM.out]
              subst han
              have hF8 := HF7.out.ext hb
              have hG8 := HG7.out.ext hb
              have hq1 := HB17.out.ext hb
              have hq2 := HB27.out.ext hb
              have bel8 := BEL7.out.trans (hb.mono (by have := BEL7.out.size; omega))
              have hl8 : w.heap.size + 1 + 1 ≤ w8.heap.size := Nat.le_trans hl7 hb.size
              have HF8 := Lib.hid hF8
              have HG8 := Lib.hid hG8
              have HB18 := Lib.hid hq1
              have HB28 := Lib.hid hq2
              have BEL8 := Lib.hid bel8
              have q18 := hq1.cells
              have q28 := hq2.cells
              clear q17 q27 hAB hb hq1 hq2 hF8 hG8 bel8 HF7 HG7 HB17 HB27 BEL7 hl7
              go_wp2_with fail
              refine (Try_Len F fa la fl fc ll lc w8 HF8.out).mono ?_; rintro e w9 ⟨rfl, hb⟩
              rw [if_pos HR.out, HM.out]
              have hF9 := HF8.out.ext hb
              have hG9 := HG8.out.ext hb
              have hq1 := HB18.out.ext hb
              have hq2 := HB28.out.ext hb
              have bel9 := BEL8.out.trans (hb.mono (by have := BEL8.out.size; omega))
              have hl9 : w.heap.size + 1 + 1 ≤ w9.heap.size := Nat.le_trans hl8 hb.size
              have HF9 := Lib.hid hF9
              have HG9 := Lib.hid hG9
              have HB19 := Lib.hid hq1
              have HB29 := Lib.hid hq2
              have BEL9 := Lib.hid bel9
              have q19 := hq1.cells
              have q29 := hq2.cells
              clear q18 q28 hb hq1 hq2 hF9 hG9 bel9 HF8 HG8 HB18 HB28 BEL8 hl8
              go_wp2
              go_ret
              exact ⟨rfl, BEL9.out⟩
            · have hw : IntKind.i64.wrap ((m : Int) - at_) = (m : Int) - at_ := IntWalk.i64_in _ (by omega)
              by_cases g4 : (m : Int) - at_ < n
              · have HVE := Lib.hid (show F.read at_ n = ([], 6) by unfold FileD.read; rw [if_pos HR.out, if_neg (by omega), HM.out, if_pos (by omega)])
                have hA := Try_Read F fa la fl fc ll lc at_ n w6 _ HF6.out.s (fun b h => h) H1.out H2.out
                rw [HVE.out] at hA
                refine hA.mono ?_; rintro e w7 ⟨ra, rl, rc, rfl, hRD, hb⟩
                obtain rfl := hRD.at_.empty
                have hF7 := HF6.out.ext hb
                have hG7 := HG6.out.ext hb
                have hq1 := HB16.out.ext hb
                have hq2 := HB26.out.ext hb
                have bel7 := BEL6.out.trans (hb.mono (by have := BEL6.out.size; omega))
                have hl7 : w.heap.size + 1 + 1 ≤ w7.heap.size := Nat.le_trans hl6 hb.size
                have HF7 := Lib.hid hF7
                have HG7 := Lib.hid hG7
                have HB17 := Lib.hid hq1
                have HB27 := Lib.hid hq2
                have BEL7 := Lib.hid bel7
                have q17 := hq1.cells
                have q27 := hq2.cells
                clear hA q16 q26 hRD hb hq1 hq2 hF7 hG7 bel7 HF6 HG6 HB16 HB26 BEL6 hl6
                go_wp2_with fail
                refine (Try_All F fa la fl fc ll lc w7 HF7.out (by rw [HM.out]; omega)).mono ?_; rintro e w8 ⟨aa, an, ac, rfl, hAB, hb⟩
                have han : m = an := by rw [← hAB.at_.hlen, FileD.all_length, HM.out]
                subst han
                have hF8 := HF7.out.ext hb
                have hG8 := HG7.out.ext hb
                have hq1 := HB17.out.ext hb
                have hq2 := HB27.out.ext hb
                have bel8 := BEL7.out.trans (hb.mono (by have := BEL7.out.size; omega))
                have hl8 : w.heap.size + 1 + 1 ≤ w8.heap.size := Nat.le_trans hl7 hb.size
                have HF8 := Lib.hid hF8
                have HG8 := Lib.hid hG8
                have HB18 := Lib.hid hq1
                have HB28 := Lib.hid hq2
                have BEL8 := Lib.hid bel8
                have q18 := hq1.cells
                have q28 := hq2.cells
                clear q17 q27 hAB hb hq1 hq2 hF8 hG8 bel8 HF7 HG7 HB17 HB27 BEL7 hl7
                go_wp2_with fail
                refine (Try_Len F fa la fl fc ll lc w8 HF8.out).mono ?_; rintro e w9 ⟨rfl, hb⟩
                rw [if_pos HR.out, HM.out]
                have hF9 := HF8.out.ext hb
                have hG9 := HG8.out.ext hb
                have hq1 := HB18.out.ext hb
                have hq2 := HB28.out.ext hb
                have bel9 := BEL8.out.trans (hb.mono (by have := BEL8.out.size; omega))
                have hl9 : w.heap.size + 1 + 1 ≤ w9.heap.size := Nat.le_trans hl8 hb.size
                have HF9 := Lib.hid hF9
                have HG9 := Lib.hid hG9
                have HB19 := Lib.hid hq1
                have HB29 := Lib.hid hq2
                have BEL9 := Lib.hid bel9
                have q19 := hq1.cells
                have q29 := hq2.cells
                clear q18 q28 hb hq1 hq2 hF9 hG9 bel9 HF8 HG8 HB18 HB28 BEL8 hl8
                go_wp2
                go_ret
                exact ⟨rfl, BEL9.out⟩
              · have HVE := Lib.hid (show F.read at_ n = ((F.all.drop at_.toNat).take n.toNat, 0) by unfold FileD.read; rw [if_pos HR.out, if_neg (by omega), HM.out, if_neg (by omega)])
                obtain ⟨A, rfl⟩ : ∃ A : Nat, at_ = (A : Int) := ⟨at_.toNat, by omega⟩
                obtain ⟨N, rfl⟩ : ∃ N : Nat, n = (N : Int) := ⟨n.toNat, by omega⟩
                have hw2 : IntKind.i64.wrap ((A : Int) + (N : Int)) = (A : Int) + (N : Int) := IntWalk.i64_in _ (by omega)
                have hA := Try_Read F fa la fl fc ll lc A N w6 _ HF6.out.s (fun b h => h) H1.out H2.out
                rw [HVE.out] at hA
                refine hA.mono ?_; rintro e w7 ⟨ra, rl, rc, rfl, hRD, hb⟩
                have HRD7 := Lib.hid hRD.at_
                have hF7 := HF6.out.ext hb
                have hG7 := HG6.out.ext hb
                have hq1 := HB16.out.ext hb
                have hq2 := HB26.out.ext hb
                have bel7 := BEL6.out.trans (hb.mono (by have := BEL6.out.size; omega))
                have hl7 : w.heap.size + 1 + 1 ≤ w7.heap.size := Nat.le_trans hl6 hb.size
                have HF7 := Lib.hid hF7
                have HG7 := Lib.hid hG7
                have HB17 := Lib.hid hq1
                have HB27 := Lib.hid hq2
                have BEL7 := Lib.hid bel7
                have q17 := hq1.cells
                have q27 := hq2.cells
                clear hA q16 q26 hRD hb hq1 hq2 hF7 hG7 bel7 HF6 HG6 HB16 HB26 BEL6 hl6
                go_wp2_with fail
                refine (Try_All F fa la fl fc ll lc w7 HF7.out (by rw [HM.out]; omega)).mono ?_; rintro e w8 ⟨aa, an, ac, rfl, hAB, hb⟩
                have han : m = an := by rw [← hAB.at_.hlen, FileD.all_length, HM.out]
                subst han
                have HRD8 := Lib.hid (HRD7.out.ext hb)
                have HAB8 := Lib.hid hAB.at_
                have hF8 := HF7.out.ext hb
                have hG8 := HG7.out.ext hb
                have hq1 := HB17.out.ext hb
                have hq2 := HB27.out.ext hb
                have bel8 := BEL7.out.trans (hb.mono (by have := BEL7.out.size; omega))
                have hl8 : w.heap.size + 1 + 1 ≤ w8.heap.size := Nat.le_trans hl7 hb.size
                have HF8 := Lib.hid hF8
                have HG8 := Lib.hid hG8
                have HB18 := Lib.hid hq1
                have HB28 := Lib.hid hq2
                have BEL8 := Lib.hid bel8
                have q18 := hq1.cells
                have q28 := hq2.cells
                clear q17 q27 hAB HRD7 hb hq1 hq2 hF8 hG8 bel8 HF7 HG7 HB17 HB27 BEL7 hl7
                go_wp2_with fail
                refine (Try_Len F fa la fl fc ll lc w8 HF8.out).mono ?_; rintro e w9 ⟨rfl, hb⟩
                rw [if_pos HR.out, HM.out]
                have HRD9 := Lib.hid (HRD8.out.ext hb)
                have HAB9 := Lib.hid (HAB8.out.ext hb)
                have hF9 := HF8.out.ext hb
                have hG9 := HG8.out.ext hb
                have hq1 := HB18.out.ext hb
                have hq2 := HB28.out.ext hb
                have bel9 := BEL8.out.trans (hb.mono (by have := BEL8.out.size; omega))
                have hl9 : w.heap.size + 1 + 1 ≤ w9.heap.size := Nat.le_trans hl8 hb.size
                have HF9 := Lib.hid hF9
                have HG9 := Lib.hid hG9
                have HB19 := Lib.hid hq1
                have HB29 := Lib.hid hq2
                have BEL9 := Lib.hid bel9
                have q19 := hq1.cells
                have q29 := hq2.cells
                clear q18 q28 HRD8 HAB8 hb hq1 hq2 hF9 hG9 bel9 HF8 HG8 HB18 HB28 BEL8 hl8
                have hac := HAB9.out.hcap
                have e1 : (A : Int).toNat = A := Int.toNat_natCast A
                have e2 : (N : Int).toNat = N := Int.toNat_natCast N
                have HRD := HRD9.out
                rw [e1, e2] at HRD
                have hANi : (A : Int) + (N : Int) ≤ (m : Int) := by omega
                have hANc : (A : Int) + (N : Int) ≤ (ac : Int) := by omega
                have hAN1 : (A : Int) ≤ (A : Int) + (N : Int) := by omega
                clear HRD9 HF9 HG9 HB19 HB29 q19 q29 e1 e2
                have hHR := Lib.hid HRD
                clear HRD
                by_cases k9 : ac = A
                · have hN : N = 0 := by omega
                  subst hN
                  have hAm : m = A := by omega
                  have hnil := HAB9.out.hnil
                  go_wp2_with fail
                  have hA := Try_bytesEqual ra aa rl rc 0 0 _ [] w9 hHR.out (BytesAt.mk_empty (by unfold maxLen; omega) (fun _ => rfl))
                  rw [List.take_zero, show decide (([] : List UInt8) = []) = true from rfl] at hA
                  refine hA.mono ?_; rintro e w10 ⟨rfl, hb⟩
                  have bel10 := BEL9.out.trans (hb.mono (by have := BEL9.out.size; omega))
                  clear hA
                  go_wp2
                  go_ret
                  exact ⟨rfl, bel10⟩
                · have k9' : A < ac := by omega
                  go_wp2_with fail
                  have hA := Try_bytesEqual ra _ rl rc _ _ _ _ w9 hHR.out (HAB9.out.piece (A := A) (N := N) (by omega))
                  rw [show (F.all.drop A).take N = (F.all.take (A + N)).drop A by rw [List.take_drop], decide_eq_true (show (F.all.take (A + N)).drop A = (F.all.take (A + N)).drop A from rfl)] at hA
                  refine hA.mono ?_; rintro e w10 ⟨rfl, hb⟩
                  have bel10 := BEL9.out.trans (hb.mono (by have := BEL9.out.size; omega))
                  clear hA
                  go_wp2
                  go_ret
                  exact ⟨rfl, bel10⟩
end Go.Proofs.Ytmjmjjakhmeogaa
