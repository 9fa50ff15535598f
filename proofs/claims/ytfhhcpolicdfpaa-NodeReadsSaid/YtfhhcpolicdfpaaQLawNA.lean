/-
  The law of layer 14: NodeOnce, walked.
-/
import Derived.Test.YtfhhcpolicdfpaaNdP
namespace Go.Dav
set_option linter.unusedVariables false
set_option linter.unusedSimpArgs false
open Go Go.RowKit
theorem BytesS.takeC {W : World} {S : Nat → Prop} {a : Option Addr} {n c k : Nat} {l : List UInt8} (h : BytesS W S a n c l) (hk : k ≤ n) : BytesS W S a k c (l.take k) := by
  have h1 := h.at_.hcap
  refine ⟨⟨by rw [List.length_take, h.at_.hlen]; omega, by omega, h.at_.hmax, by have := h.at_.hfew; omega, fun j x hx => ?_, h.at_.hnil⟩, fun j x hx => ?_⟩
  · rw [List.getElem?_take] at hx
    split at hx
    · exact h.at_.hat j x hx
    · cases hx
  · rw [List.getElem?_take] at hx
    split at hx
    · exact h.in_ j x hx
    · cases hx
theorem good_spec {s : TkSt} (h : goodN s = true) : nodeOk (decN s) = true ∧ nodeBytes (decN s) = s.l ∧ decE s = 0 := by
  unfold decN decE
  rw [h, if_pos rfl]
  unfold goodN at h
  simp only [Bool.and_eq_true, decide_eq_true_eq] at h
  exact ⟨h.2.1, h.2.2, rfl⟩
theorem bad_spec {s : TkSt} (h : goodN s = false) : decN s = emptyN ∧ decE s = 240 := by
  unfold decN decE; rw [h]; exact ⟨rfl, rfl⟩
end Go.Dav
namespace Go.Proofs.Ytfhhcpolicdfpaa
set_option linter.unusedVariables false
set_option linter.unusedSimpArgs false
open Go.RowKit Go.Dav
attribute [local go_sem] Gives ite_val ite_val_true

set_option maxRecDepth 8000 in
set_option maxHeartbeats 8000000 in
theorem Try_NodeOnce (xa : Option Addr) (xn xc : Nat) (X : List UInt8) (w : World) (hx : BytesAt w xa xn xc X) :
    Calls Try.prog 3 #[.slice xa xn xc] w fun e w' => e = .returned (.bool true) ∧ Below w.heap.size w w' := by
  have hnil : xa = none → xc = 0 := hx.hnil
  have hcap := hx.hcap
  have hmax := hx.hmax
  unfold maxLen at hmax
  have HX := Lib.hid hx
  have HNIL := Lib.hid hnil
  clear hx hnil
  by_cases h : xn ≤ 3000
  · have hi1 : (xn : Int) ≤ 3000 := by omega
    have hi2 : (xn : Int) ≤ (xc : Int) := by omega
    go_enter Try.func3, Try.ntmps3
    go_wp2_with fail
    (with_reducible refine (Try_wakes14 _).mono ?_); rintro e w1 ⟨rfl, hb1⟩
    have HB1 := Lib.hid hb1
    have hcl := Try_bClone xa xn xc (X.take xn) _ w1 ((HX.out.ext hb1).s.takeC (by omega))
    have HCL := Lib.hid hcl
    clear hb1 hcl
    go_wp2_with fail
    (with_reducible refine HCL.out.mono ?_); rintro e w2 ⟨ba, bn, bc, rfl, hB, hp, hb2⟩
    have HB2 := Lib.hid (HB1.out.trans (hb2.mono HB1.out.size))
    have hd := Try_Decode (fun b => b < w2.heap.size) ba bn bc (X.take xn) w2 hB.at_.s hp (fun b h => h)
    obtain ⟨s, hs⟩ : ∃ s : TkSt, (⟨ba, bn, bc, X.take xn, true⟩ : TkSt) = s := ⟨_, rfl⟩
    rw [hs] at hd
    have HL := Lib.hid (show s.l = X.take xn by rw [← hs])
    have HBY := Lib.hid hB.at_
    have HD := Lib.hid hd
    clear hb2 hB hp hd hs
    go_wp2_with fail
    (with_reducible refine HD.out.mono ?_); rintro e w3 ⟨ia, il, ic, ka, kl, kc, rfl, hN, hb3⟩
    have HB3 := Lib.hid (HB2.out.trans (hb3.mono HB2.out.size))
    have HBY3 := Lib.hid (HBY.out.ext hb3)
    obtain ⟨N, hNN⟩ : ∃ N, decN s = N := ⟨_, rfl⟩
    obtain ⟨er, her⟩ : ∃ r, decE s = r := ⟨_, rfl⟩
    rw [hNN] at hN
    rw [hNN, her]
    have HN3 := Lib.hid hN
    have HNN := Lib.hid hNN
    have HER := Lib.hid her
    clear hN hb3 hNN her
    cases hg : goodN s with
    | false =>
      have e1 : er = 240 := by rw [← HER.out]; exact (bad_spec hg).2
      subst e1
      clear hg
      go_wp2
      go_ret
      exact ⟨rfl, by have h := HB3.out; have hsz := h.size; exact (by repeat (first | (with_reducible exact Below.refl _ _) | (with_reducible exact Below.refl _ _) | (with_reducible refine Below.setCell ?_ (by first | omega | (simp; done) | (simp; omega)) _) | (with_reducible refine Below.alloc ?_ (by first | omega | (simp; done) | (simp; omega)) _) | (with_reducible refine Below.drew ?_) | (with_reducible refine below_drewN ?_ _) | (with_reducible refine Below.trans ?_ (h.mono (by first | omega | (simp; done) | (simp; omega))))))⟩
    | true =>
      have e1 : er = 0 := by rw [← HER.out]; exact (good_spec hg).2.2
      subst e1
      have HG := Lib.hid (good_spec hg)
      clear hg
      obtain ⟨lf, hlf⟩ : ∃ b, N.leaf = b := ⟨_, rfl⟩
      obtain ⟨w4, hw4⟩ : ∃ w4, w3.alloc (.cells #[.bool lf, .slice ia il ic, .slice ka kl kc] 28) = w4 := ⟨_, rfl⟩
      have hb34 : Below w3.heap.size w3 w4 := by rw [← hw4]; exact (Below.refl _ _).alloc (Nat.le_refl _) _
      have K4 : Blk w4 w3.heap.size [.bool lf, .slice ia il ic, .slice ka kl kc] 28 := by rw [← hw4]; exact Blk.new w3 _ _
      have hE := Try_Encode N ia ka il ic kl kc _ w4 (HN3.out.ext hb34).s (fun b h => h)
      rw [hlf] at hE ⊢
      have HE := Lib.hid hE
      have HB4 := Lib.hid (HB3.out.trans (hb34.mono HB3.out.size))
      have HBY4 := Lib.hid (HBY3.out.ext hb34)
      have q4 := K4.cells
      have m4 := K4.marks
      have l4 := K4.lt
      have HW4 := Lib.hid hw4
      clear hE hb34 hlf hw4
      go_wp2_with fail
      rw [HW4.out]
      go_wp2_with fail
      (with_reducible refine HE.out.mono ?_); rintro e w5 ⟨oa, on, oc, rfl, hOB, hb5⟩
      have HB5 := Lib.hid (HB4.out.trans (hb5.mono HB4.out.size))
      have hok : nodeOk N = true := by rw [← HNN.out]; exact HG.out.1
      have e0 := nodeE_0 hok
      rw [if_pos hok] at hOB
      have hq := Try_bytesEqual oa ba on oc bn bc _ _ w5 hOB.at_ (HBY4.out.ext hb5)
      rw [decide_eq_true (show nodeBytes N = X.take xn by rw [← HNN.out, HG.out.2.1, HL.out])] at hq
      have HQ := Lib.hid hq
      clear hok hOB hb5 hq q4 m4 l4
      go_wp2_with fail
      (with_reducible refine HQ.out.mono ?_); rintro e w6 ⟨rfl, hb6⟩
      have HB6 := Lib.hid (HB5.out.trans (hb6.mono HB5.out.size))
      clear hb6
      go_wp2
      go_ret
      exact ⟨rfl, HB6.out⟩
  · have hi1 : ¬ (xn : Int) ≤ 3000 := by omega
    have hi2 : (3000 : Int) ≤ (xc : Int) := by omega
    have hi3 : (3000 : Int) < (xn : Int) := by omega
    go_enter Try.func3, Try.ntmps3
    go_wp2_with fail
    (with_reducible refine (Try_wakes14 _).mono ?_); rintro e w1 ⟨rfl, hb1⟩
    have HB1 := Lib.hid hb1
    have hcl := Try_bClone xa 3000 xc (X.take 3000) _ w1 ((HX.out.ext hb1).s.takeC (by omega))
    have HCL := Lib.hid hcl
    clear hb1 hcl
    go_wp2_with fail
    (with_reducible refine HCL.out.mono ?_); rintro e w2 ⟨ba, bn, bc, rfl, hB, hp, hb2⟩
    have HB2 := Lib.hid (HB1.out.trans (hb2.mono HB1.out.size))
    have hd := Try_Decode (fun b => b < w2.heap.size) ba bn bc (X.take 3000) w2 hB.at_.s hp (fun b h => h)
    obtain ⟨s, hs⟩ : ∃ s : TkSt, (⟨ba, bn, bc, X.take 3000, true⟩ : TkSt) = s := ⟨_, rfl⟩
    rw [hs] at hd
    have HL := Lib.hid (show s.l = X.take 3000 by rw [← hs])
    have HBY := Lib.hid hB.at_
    have HD := Lib.hid hd
    clear hb2 hB hp hd hs
    go_wp2_with fail
    (with_reducible refine HD.out.mono ?_); rintro e w3 ⟨ia, il, ic, ka, kl, kc, rfl, hN, hb3⟩
    have HB3 := Lib.hid (HB2.out.trans (hb3.mono HB2.out.size))
    have HBY3 := Lib.hid (HBY.out.ext hb3)
    obtain ⟨N, hNN⟩ : ∃ N, decN s = N := ⟨_, rfl⟩
    obtain ⟨er, her⟩ : ∃ r, decE s = r := ⟨_, rfl⟩
    rw [hNN] at hN
    rw [hNN, her]
    have HN3 := Lib.hid hN
    have HNN := Lib.hid hNN
    have HER := Lib.hid her
    clear hN hb3 hNN her
    cases hg : goodN s with
    | false =>
      have e1 : er = 240 := by rw [← HER.out]; exact (bad_spec hg).2
      subst e1
      clear hg
      go_wp2
      go_ret
      exact ⟨rfl, by have h := HB3.out; have hsz := h.size; exact (by repeat (first | (with_reducible exact Below.refl _ _) | (with_reducible exact Below.refl _ _) | (with_reducible refine Below.setCell ?_ (by first | omega | (simp; done) | (simp; omega)) _) | (with_reducible refine Below.alloc ?_ (by first | omega | (simp; done) | (simp; omega)) _) | (with_reducible refine Below.drew ?_) | (with_reducible refine below_drewN ?_ _) | (with_reducible refine Below.trans ?_ (h.mono (by first | omega | (simp; done) | (simp; omega))))))⟩
    | true =>
      have e1 : er = 0 := by rw [← HER.out]; exact (good_spec hg).2.2
      subst e1
      have HG := Lib.hid (good_spec hg)
      clear hg
      obtain ⟨lf, hlf⟩ : ∃ b, N.leaf = b := ⟨_, rfl⟩
      obtain ⟨w4, hw4⟩ : ∃ w4, w3.alloc (.cells #[.bool lf, .slice ia il ic, .slice ka kl kc] 28) = w4 := ⟨_, rfl⟩
      have hb34 : Below w3.heap.size w3 w4 := by rw [← hw4]; exact (Below.refl _ _).alloc (Nat.le_refl _) _
      have K4 : Blk w4 w3.heap.size [.bool lf, .slice ia il ic, .slice ka kl kc] 28 := by rw [← hw4]; exact Blk.new w3 _ _
      have hE := Try_Encode N ia ka il ic kl kc _ w4 (HN3.out.ext hb34).s (fun b h => h)
      rw [hlf] at hE ⊢
      have HE := Lib.hid hE
      have HB4 := Lib.hid (HB3.out.trans (hb34.mono HB3.out.size))
      have HBY4 := Lib.hid (HBY3.out.ext hb34)
      have q4 := K4.cells
      have m4 := K4.marks
      have l4 := K4.lt
      have HW4 := Lib.hid hw4
      clear hE hb34 hlf hw4
      go_wp2_with fail
      rw [HW4.out]
      go_wp2_with fail
      (with_reducible refine HE.out.mono ?_); rintro e w5 ⟨oa, on, oc, rfl, hOB, hb5⟩
      have HB5 := Lib.hid (HB4.out.trans (hb5.mono HB4.out.size))
      have hok : nodeOk N = true := by rw [← HNN.out]; exact HG.out.1
      have e0 := nodeE_0 hok
      rw [if_pos hok] at hOB
      have hq := Try_bytesEqual oa ba on oc bn bc _ _ w5 hOB.at_ (HBY4.out.ext hb5)
      rw [decide_eq_true (show nodeBytes N = X.take 3000 by rw [← HNN.out, HG.out.2.1, HL.out])] at hq
      have HQ := Lib.hid hq
      clear hok hOB hb5 hq q4 m4 l4
      go_wp2_with fail
      (with_reducible refine HQ.out.mono ?_); rintro e w6 ⟨rfl, hb6⟩
      have HB6 := Lib.hid (HB5.out.trans (hb6.mono HB5.out.size))
      clear hb6
      go_wp2
      go_ret
      exact ⟨rfl, HB6.out⟩
end Go.Proofs.Ytfhhcpolicdfpaa
