/-
  The law of layer 14: NodeLays, walked.
-/
import Derived.Test.YtfhhcpolicdfpaaQNodAB
import Derived.Test.YtfhhcpolicdfpaaNdP
import Derived.Test.YtfhhcpolicdfpaaQNodBA
import Derived.Test.YtfhhcpolicdfpaaQNodBD
import Derived.Test.YtfhhcpolicdfpaaQNodBH
import Derived.Test.YtfhhcpolicdfpaaQLawNG
import Derived.Test.YtfhhcpolicdfpaaQLawNA
namespace Go.Dav
set_option linter.unusedVariables false
set_option linter.unusedSimpArgs false
open Go Go.RowKit
/-- Bytes, wherever. -/
def BytesV (x : List UInt8) (v : Value) (W : World) : Prop := ∃ a n c, v = .slice a n c ∧ BytesAt W a n c x
theorem BytesV.later {x : List UInt8} : ∀ v W W', BytesV x v W → Below W.heap.size W W' → BytesV x v W' := fun _ _ _ ⟨a, n, c, h1, h2⟩ hb => ⟨a, n, c, h1, h2.ext hb⟩
end Go.Dav
namespace Go.Proofs.Ytfhhcpolicdfpaa
set_option linter.unusedVariables false
set_option linter.unusedSimpArgs false
open Go.RowKit Go.Dav
attribute [local go_sem] Gives GivesK ite_val ite_val_true
set_option maxRecDepth 8000 in
set_option maxHeartbeats 16000000 in
theorem Try_NodeLays (X0 : NodeD) (ia ka : Option Addr) (il ic kl kc : Nat) (w : World) (hX : NodeS w (fun b => b < w.heap.size) ia il ic ka kl kc X0) :
    Calls Try.prog 4 #[.agg #[.bool X0.leaf, .slice ia il ic, .slice ka kl kc]] w fun e w' => e = .returned (.bool true) ∧ Below w.heap.size w w' := by
  obtain ⟨f0, hf0⟩ : ∃ f, X0.leaf = f := ⟨_, rfl⟩
  rw [hf0]
  obtain ⟨w0, hw0⟩ : ∃ w0, w.alloc (.cells #[.bool f0, .slice ia il ic, .slice ka kl kc] 28) = w0 := ⟨_, rfl⟩
  have hb0 : Below w.heap.size w w0 := by rw [← hw0]; exact (by repeat (first | (with_reducible exact Below.refl _ _) | (with_reducible exact Below.refl _ _) | (with_reducible refine Below.setCell ?_ (by first | omega | (simp; done) | (simp; omega)) _) | (with_reducible refine Below.alloc ?_ (by first | omega | (simp; done) | (simp; omega)) _) | (with_reducible refine Below.drew ?_) | (with_reducible refine below_drewN ?_ _)))
  have Q0 : Blk w0 w.heap.size [.bool f0, .slice ia il ic, .slice ka kl kc] 28 := by rw [← hw0]; exact Blk.new w _ _
  have HX0 := Lib.hid (hX.ext hb0)
  have HF0 := Lib.hid hf0
  have HB0 := Lib.hid hb0
  have HQ0 := Lib.hid Q0
  clear hX hb0 Q0 hf0
  go_enter Try.func4, Try.ntmps4
  go_wp2_with fail
  clear hw0
  (with_reducible refine (Try_wakes14 _).mono ?_); rintro e w1 ⟨rfl, hb1⟩
  have hq1 := HQ0.out.ext hb1
  have c1 := hq1.cells
  have m1 := hq1.marks
  have l1 := hq1.lt
  have HQ1 := Lib.hid hq1
  have HX1 := Lib.hid (HX0.out.ext hb1)
  have HB1 := Lib.hid (HB0.out.trans (hb1.mono HB0.out.size))
  have hown := Try_own X0 ia ka il ic kl kc _ w1 (HX1.out.mono (fun b h => Nat.lt_of_lt_of_le h HB1.out.size)) (fun b h => h)
  rw [HF0.out] at hown
  have HOWN := Lib.hid hown
  clear hb1 hown hq1 HQ0 HX0 HB0
  go_wp2_with fail
  (with_reducible refine HOWN.out.mono ?_); rintro e w2 ⟨ja, jl, jc, la, ll, lc, rfl, hN2, hb2⟩
  obtain ⟨N, hNN⟩ : ∃ N, ownN X0 = N := ⟨_, rfl⟩
  have hlf : N.leaf = f0 := by rw [← hNN]; exact HF0.out
  rw [hNN] at hN2
  obtain ⟨w3, hw3⟩ : ∃ w3, w2.alloc (.cells #[.bool f0, .slice ja jl jc, .slice la ll lc] 28) = w3 := ⟨_, rfl⟩
  have hb3 : Below w2.heap.size w2 w3 := by rw [← hw3]; exact (Below.refl _ _).alloc (Nat.le_refl _) _
  have Q3 : Blk w3 w2.heap.size [.bool f0, .slice ja jl jc, .slice la ll lc] 28 := by rw [← hw3]; exact Blk.new w2 _ _
  have c3 := Q3.cells
  have m3 := Q3.marks
  have l3 := Q3.lt
  have hb23 := hb2.trans (hb3.mono hb2.size)
  have HQ3 := Lib.hid Q3
  have HN3 := Lib.hid (hN2.ext hb3)
  have HQX3 := Lib.hid (HQ1.out.ext hb23)
  have HX3 := Lib.hid (HX1.out.ext hb23)
  have HB3 := Lib.hid (HB1.out.trans (hb23.mono HB1.out.size))
  have HLF := Lib.hid hlf
  have HNN := Lib.hid hNN
  clear hb2 hN2 hNN hlf hb3 hb23 Q3 c1 m1 l1 HOWN HQ1 HX1 HB1
  go_wp2_with fail
  clear hw3
  have hen := Try_Encode N ja la jl jc ll lc _ w3 HN3.out.s (fun b h => h)
  rw [HLF.out] at hen
  (with_reducible refine hen.mono ?_); rintro e w4 ⟨ba, bn, bc, rfl, hBy, hb4⟩
  have q4 := HQ3.out.ext hb4
  have c4 := q4.cells
  have m4 := q4.marks
  have l4 := q4.lt
  have HQ4 := Lib.hid q4
  have HN4 := Lib.hid (HN3.out.ext hb4)
  have HQX4 := Lib.hid (HQX3.out.ext hb4)
  have HX4 := Lib.hid (HX3.out.ext hb4)
  have HB4 := Lib.hid (HB3.out.trans (hb4.mono HB3.out.size))
  have HBY := Lib.hid hBy.at_
  have hr := Try_rRight N ja la jl jc ll lc _ w4 HN4.out
  rw [HLF.out] at hr
  have HR := Lib.hid hr
  clear hen hBy hb4 q4 c3 m3 l3 HQ3 HN3 HQX3 HX3 HB3 hr
  cases hok : nodeOk N with
  | false =>
    have e0 := nodeE_240 hok
    rw [hok] at HR
    have HBN := Lib.hid (show bn = 0 by have := HBY.out.hlen; rw [hok] at this; simpa using this.symm)
    clear hok
    rw [e0]
    go_wp2_with fail
    (with_reducible refine HR.out.mono ?_); rintro e w5 ⟨rfl, hb5⟩
    have HB5 := Lib.hid (HB4.out.trans (hb5.mono HB4.out.size))
    obtain rfl := HBN.out
    clear hb5 e0
    go_wp2
    go_ret
    exact ⟨rfl, HB5.out⟩
  | true =>
    have e0 := nodeE_0 hok
    rw [hok] at HR
    have HOK := Lib.hid hok
    have HBY2 := Lib.hid (show BytesAt w4 ba bn bc (nodeBytes N) by have := HBY.out; rw [hok] at this; simpa using this)
    clear hok
    rw [e0]
    go_wp2_with fail
    (with_reducible refine HR.out.mono ?_); rintro e w5 ⟨rfl, hb5⟩
    have q5 := HQ4.out.ext hb5
    have c5 := q5.cells
    have m5 := q5.marks
    have l5 := q5.lt
    have x5 := HQX4.out.ext hb5
    have d5 := x5.cells
    have n5 := x5.marks
    have k5 := x5.lt
    have HN5 := Lib.hid (HN4.out.ext hb5)
    have HX5 := Lib.hid (HX4.out.ext hb5)
    have HBY5 := Lib.hid (HBY2.out.ext hb5)
    have HB5 := Lib.hid (HB4.out.trans (hb5.mono HB4.out.size))
    have HSS := Lib.hid ((sameN_ref HOK.out HOK.out).symm.trans (sameN_self HOK.out))
    clear hb5 q5 x5 c4 m4 l4 HR HN4 HX4 HB4 HQ4 HQX4 e0
    go_wp2_with fail
    refine' wp_region_seq [.inl _, .inl _, .inl _, .inl _, .inl _, .inr (BytesV (nodeBytes N)), .inl _, .inl _, .inl _, .inl _, .inl _, .inr (NodeV 0 N), .inl _, .inl _, .inl _] (by kernel_rfl) (by kernel_rfl) ?main1
    case main1 =>
      refine wpParts_det (by rfl) (fun W hE hN => ?_) ?_
      · go_simp; refine ⟨Below.refl _ _, ?_⟩; rfl
      simp only [Act.put, List.setIfInBounds_toArray, List.set_cons_zero, List.set_cons_succ]
      refine wpParts_det (by rfl) (fun W hE hN => ?_) ?_
      · go_simp; refine ⟨Below.refl _ _, ?_⟩; rfl
      simp only [Act.put, List.setIfInBounds_toArray, List.set_cons_zero, List.set_cons_succ]
      refine wpParts_det (by rfl) (fun W hE hN => ?_) ?_
      · go_simp; refine ⟨Below.refl _ _, ?_⟩; rfl
      simp only [Act.put, List.setIfInBounds_toArray, List.set_cons_zero, List.set_cons_succ]
      refine wpParts_det (by rfl) (fun W hE hN => ?_) ?_
      · go_simp; refine ⟨Below.refl _ _, ?_⟩; rfl
      simp only [Act.put, List.setIfInBounds_toArray, List.set_cons_zero, List.set_cons_succ]
      refine wpParts_det (by rfl) (fun W hE hN => ?_) ?_
      · have hc := fun b o h => hE.cell (p := ⟨b, o, none⟩) h
        go_simp; refine ⟨Below.refl _ _, ?_⟩; rfl
      simp only [Act.put, List.setIfInBounds_toArray, List.set_cons_zero, List.set_cons_succ]
      refine wpParts_any rfl (BytesV.later) (by rfl) (fun W hE hN => ?_) (fun u5 => ?_)
      · go_simp; refine ⟨Below.refl _ _, ?_⟩; have h := Try_rBytes N ja la jl jc ll lc _ W (HN5.out.ext hE).s (fun b h => h) HOK.out; rw [HLF.out] at h; refine h.mono ?_; rintro e w' ⟨ea, en, ec, rfl, hK, hb⟩; exact ⟨_, rfl, hb, ea, en, ec, rfl, hK.at_⟩
      simp only [Act.put, List.setIfInBounds_toArray, List.set_cons_zero, List.set_cons_succ]
      refine wpParts_det (by rfl) (fun W hE hN => ?_) ?_
      · simp [near, Oper.looksAt, Op.operands, Call.operands] at hN; obtain ⟨ea, en, ec, rfl, hK⟩ := hN; go_simp; refine ⟨Below.refl _ _, ?_⟩; have h := Try_bytesEqual _ _ _ _ _ _ _ _ W (HBY5.out.ext hE) hK; rw [decide_eq_true rfl] at h; refine h.mono ?_; rintro e w' ⟨rfl, hb⟩; refine ⟨?_, hb⟩; rfl
      simp only [Act.put, List.setIfInBounds_toArray, List.set_cons_zero, List.set_cons_succ]
      refine wpParts_det (by rfl) (fun W hE hN => ?_) ?_
      · go_simp; refine ⟨Below.refl _ _, ?_⟩; rfl
      simp only [Act.put, List.setIfInBounds_toArray, List.set_cons_zero, List.set_cons_succ]
      refine wpParts_det (by rfl) (fun W hE hN => ?_) ?_
      · go_simp; refine ⟨Below.refl _ _, ?_⟩; rfl
      simp only [Act.put, List.setIfInBounds_toArray, List.set_cons_zero, List.set_cons_succ]
      refine wpParts_det (by rfl) (fun W hE hN => ?_) ?_
      · have hc := fun b o h => hE.cell (p := ⟨b, o, none⟩) h
        go_simp; refine ⟨Below.refl _ _, ?_⟩; rfl
      simp only [Act.put, List.setIfInBounds_toArray, List.set_cons_zero, List.set_cons_succ]
      refine wpParts_det (by rfl) (fun W hE hN => ?_) ?_
      · have hc := fun b o h => hE.cell (p := ⟨b, o, none⟩) h
        go_simp; refine ⟨Below.refl _ _, ?_⟩; rfl
      simp only [Act.put, List.setIfInBounds_toArray, List.set_cons_zero, List.set_cons_succ]
      refine wpParts_any rfl (NodeV.later) (by rfl) (fun W hE hN => ?_) (fun u11 => ?_)
      · go_simp; refine ⟨Below.refl _ _, ?_⟩; have h := Try_own X0 ia ka il ic kl kc _ W (HX5.out.ext hE) (fun b h => by have := HB5.out.size; have := hE.size; omega); rw [HF0.out] at h; refine h.mono ?_; rintro e w' ⟨ja, jl, jc, la, ll, lc, rfl, hS, hb⟩; rw [HNN.out] at hS; exact ⟨_, rfl, hb, ja, jl, jc, la, ll, lc, by rw [HLF.out], hS.mono (fun b h => Nat.zero_le _)⟩
      simp only [Act.put, List.setIfInBounds_toArray, List.set_cons_zero, List.set_cons_succ]
      refine wpParts_det (by rfl) (fun W hE hN => ?_) ?_
      · simp [near, Oper.looksAt, Op.operands, Call.operands] at hN; obtain ⟨pa', pl', pc', pk', pm', pn', rfl, hS⟩ := hN; go_simp; refine ⟨Below.refl _ _, ?_⟩; have h := Try_rSame N N ja la pa' pk' jl jc ll lc pl' pc' pm' pn' _ _ W (HN5.out.ext hE) hS; rw [HLF.out, HSS.out] at h; rw [HLF.out]; refine h.mono ?_; rintro e w' ⟨rfl, hb⟩; refine ⟨?_, hb⟩; rfl
      simp only [Act.put, List.setIfInBounds_toArray, List.set_cons_zero, List.set_cons_succ]
      refine wpParts_det (by rfl) (fun W hE hN => ?_) ?_
      · go_simp; refine ⟨Below.refl _ _, ?_⟩; rfl
      simp only [Act.put, List.setIfInBounds_toArray, List.set_cons_zero, List.set_cons_succ]
      refine wpParts_det (by rfl) (fun W hE hN => ?_) ?_
      · go_simp; refine ⟨Below.refl _ _, ?_⟩; rfl
      simp only [Act.put, List.setIfInBounds_toArray, List.set_cons_zero, List.set_cons_succ]
      refine wpParts_end fun W9 hE9 hG9 => ?_
      have hcW9 := fun b o h => hE9.cell (p := ⟨b, o, none⟩) h
      have hfW9 := fun b o h => hE9.frozen (p := ⟨b, o, none⟩) h
      have HB9 := Lib.hid (HB5.out.trans (hE9.mono HB5.out.size))
      clear hE9 hG9 hcW9 hfW9 c5 m5 l5 d5 n5 k5
      go_wp2
      go_ret
      exact ⟨ret_bool (by simp), HB9.out⟩
end Go.Proofs.Ytfhhcpolicdfpaa
