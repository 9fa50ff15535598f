/-
  The law of layer 14: NodePlaces, walked.
-/
import Derived.Test.YtfhhcpolicdfpaaQNodAB
import Derived.Test.YtfhhcpolicdfpaaNdP
import Derived.Test.YtfhhcpolicdfpaaQNodBA
import Derived.Test.YtfhhcpolicdfpaaQNodBC
import Derived.Test.YtfhhcpolicdfpaaQNodBD
import Derived.Test.YtfhhcpolicdfpaaQLawNA
namespace Go.Proofs.Ytfhhcpolicdfpaa
set_option linter.unusedVariables false
set_option linter.unusedSimpArgs false
open Go.RowKit Go.Dav
attribute [local go_sem] Gives GivesK ite_val ite_val_true
set_option maxRecDepth 8000 in
set_option maxHeartbeats 16000000 in
theorem Try_NodePlaces (N0 : NodeD) (ia ka qa : Option Addr) (il ic kl kc qn qc : Nat) (key : List UInt8) (w : World) (hN : NodeS w (fun b => b < w.heap.size) ia il ic ka kl kc N0) (hk : BytesAt w qa qn qc key) :
    Calls Try.prog 6 #[.agg #[.bool N0.leaf, .slice ia il ic, .slice ka kl kc], .slice qa qn qc] w fun e w' => e = .returned (.bool true) ∧ Below w.heap.size w w' := by
  have hcap := hk.hcap
  have hmax := hk.hmax
  unfold maxLen at hmax
  have hnil : qa = none → qc = 0 := hk.hnil
  obtain ⟨f0, hf0⟩ : ∃ f, N0.leaf = f := ⟨_, rfl⟩
  rw [hf0]
  obtain ⟨w0, hw0⟩ : ∃ w0, w.alloc (.cells #[.bool f0, .slice ia il ic, .slice ka kl kc] 28) = w0 := ⟨_, rfl⟩
  have hb0 : Below w.heap.size w w0 := by rw [← hw0]; exact (by repeat (first | (with_reducible exact Below.refl _ _) | (with_reducible exact Below.refl _ _) | (with_reducible refine Below.setCell ?_ (by first | omega | (simp; done) | (simp; omega)) _) | (with_reducible refine Below.alloc ?_ (by first | omega | (simp; done) | (simp; omega)) _) | (with_reducible refine Below.drew ?_) | (with_reducible refine below_drewN ?_ _)))
  have Q0 : Blk w0 w.heap.size [.bool f0, .slice ia il ic, .slice ka kl kc] 28 := by rw [← hw0]; exact Blk.new w _ _
  have HN0 := Lib.hid (hN.ext hb0)
  have HK0 := Lib.hid (hk.ext hb0)
  have HF0 := Lib.hid hf0
  have HB0 := Lib.hid hb0
  have HQ0 := Lib.hid Q0
  have HNIL := Lib.hid hnil
  clear hN hk hb0 Q0 hf0 hnil
  obtain ⟨mi, hmi⟩ : ∃ m, m = min qn 200 := ⟨_, rfl⟩
  have HMI := Lib.hid (show (if 200 < (qn : Int) then 200 else (qn : Int)) = ((mi : Nat) : Int) by split <;> omega)
  have HMQ := Lib.hid (show mi ≤ qn by omega)
  have hi1 : ¬ ((mi : Nat) : Int) < 0 := by omega
  have hi2 : ((mi : Nat) : Int) ≤ (qc : Int) := by omega
  clear hmi
  go_enter Try.func6, Try.ntmps6
  go_wp2_with fail
  clear hw0
  (with_reducible refine (Try_wakes14 _).mono ?_); rintro e w1 ⟨rfl, hb1⟩
  have hq1 := HQ0.out.ext hb1
  have c1 := hq1.cells
  have m1 := hq1.marks
  have l1 := hq1.lt
  have HN1 := Lib.hid (HN0.out.ext hb1)
  have HK1 := Lib.hid (HK0.out.ext hb1)
  have HB1 := Lib.hid (HB0.out.trans (hb1.mono HB0.out.size))
  clear hb1 hq1
  go_wp2_with fail
  --E2
  refine' wp_region_seqM (OnlyZ (w1.heap.size) (NBox) (28)) (goes_onlyZ _ _ _) 9 (StoredN 5 w1.heap.size (ownN N0) 28) [.inl _, .inr (NodeV w1.heap.size (ownN N0)), .inl _, .inl _, .inl _, .inl _, .inl _, .inr (RowV w1.heap.size (key.take mi)), .inr (BoxV w1.heap.size NBox 28), .inr (fun _ _ => True)] (by kernel_rfl) (by kernel_rfl) (show 9 < 10 from by decide) (fun _ _ h => h.size) (StoredN.later) (fun o a a' W ho hl h => h.local (hl 5 (by cases ho; simp [Oper.looksAt, Op.operands]))) ?main1
  case main1 =>
    refine wpPartsM_det (by decide) (by rfl) (fun W hK hN => ?_) ?_
    · have hE := OnlyZ.below hK (Nat.le_refl _); have hc := fun b o h => hE.cell (p := ⟨b, o, none⟩) h
      go_simp; refine ⟨Below.refl _ _, ?_⟩; rfl
    simp only [Act.put, List.setIfInBounds_toArray, List.set_cons_zero, List.set_cons_succ]
    refine wpPartsM_any (by decide) rfl (NodeV.later) (NodeV.keepZ) (by rfl) (fun W hK hN => ?_) (fun u1 => ?_)
    · have hE := OnlyZ.below hK (Nat.le_refl _); go_simp; refine ⟨Below.refl _ _, ?_⟩; have h := Try_own N0 ia ka il ic kl kc _ W (HN1.out.ext hE) (fun b h => by have := HB1.out.size; have := hE.size; omega); rw [HF0.out] at h; refine h.mono ?_; rintro e w' ⟨ja, jl, jc, la, ll, lc, rfl, hS, hb⟩; exact ⟨_, rfl, hb, ja, jl, jc, la, ll, lc, by rw [show (ownN N0).leaf = f0 from HF0.out], hS.mono (fun b h => Nat.le_trans hE.size h)⟩
    simp only [Act.put, List.setIfInBounds_toArray, List.set_cons_zero, List.set_cons_succ]
    refine wpPartsM_det (by decide) (by rfl) (fun W hK hN => ?_) ?_
    · go_simp; refine ⟨Below.refl _ _, ?_⟩; rfl
    simp only [Act.put, List.setIfInBounds_toArray, List.set_cons_zero, List.set_cons_succ]
    refine wpPartsM_det (by decide) (by rfl) (fun W hK hN => ?_) ?_
    · go_simp; refine ⟨Below.refl _ _, ?_⟩; rfl
    simp only [Act.put, List.setIfInBounds_toArray, List.set_cons_zero, List.set_cons_succ]
    refine wpPartsM_det (by decide) (by rfl) (fun W hK hN => ?_) ?_
    · go_simp; refine ⟨Below.refl _ _, ?_⟩; rfl
    simp only [Act.put, List.setIfInBounds_toArray, List.set_cons_zero, List.set_cons_succ]
    refine wpPartsM_det (by decide) (by rfl) (fun W hK hN => ?_) ?_
    · have hE := OnlyZ.below hK (Nat.le_refl _); go_simp; refine ⟨Below.refl _ _, ?_⟩; rw [HMI.out]
    simp only [Act.put, List.setIfInBounds_toArray, List.set_cons_zero, List.set_cons_succ]
    refine wpPartsM_det (by decide) (by rfl) (fun W hK hN => ?_) ?_
    · go_simp; refine ⟨Below.refl _ _, ?_⟩; rfl
    simp only [Act.put, List.setIfInBounds_toArray, List.set_cons_zero, List.set_cons_succ]
    refine wpPartsM_any (by decide) rfl (RowV.later) (RowV.keepZ NBox.noU8) (by rfl) (fun W hK hN => ?_) (fun u7 => ?_)
    · have hE := OnlyZ.below hK (Nat.le_refl _); go_simp; refine ⟨Below.refl _ _, ?_⟩; refine (Try_Clone qa mi qc (key.take mi) _ W ((HK1.out.ext hE).s.takeC HMQ.out)).mono ?_; rintro e w' ⟨ba, bn, bc, rfl, hB, hb⟩; exact ⟨_, rfl, hb, ba, bn, bc, rfl, hB.mono (fun b h => Nat.le_trans hE.size h)⟩
    simp only [Act.put, List.setIfInBounds_toArray, List.set_cons_zero, List.set_cons_succ]
    refine wpPartsM_any (by decide) rfl (BoxV.later) (BoxV.keepZ) (by rfl) (fun W hK hN => ?_) (fun u8 => ?_)
    · have hE := OnlyZ.below hK (Nat.le_refl _); go_simp; exact boxV_alloc (cs := [.bool false, .slice none 0 0, .slice none 0 0]) hE.size (NBox.mk _ _ _ _ _ _ _)
    simp only [Act.put, List.setIfInBounds_toArray, List.set_cons_zero, List.set_cons_succ]
    refine wpPartsM_writes (by decide) (by rfl) rfl (by rfl) (fun W hE hN => ?_) ?_
    · obtain ⟨⟨p, rfl, hp, cs, hz, hbk⟩, ⟨ja, jl, jc, la, ll, lc, rfl, hS⟩, _⟩ := (show BoxV w1.heap.size NBox 28 u8 W ∧ NodeV w1.heap.size (ownN N0) u1 W ∧ True from hN); have hz0 := hz; obtain ⟨zf, za, zn, zc, za', zn', zc', rfl⟩ := hz; have qc := hbk.cells; have qm := hbk.marks; have ql := hbk.lt; have hO : Only p W _ := (((Only.refl p W).set 0 (.bool (ownN N0).leaf)).set 1 (.slice ja jl jc)).set 2 (.slice la ll lc); have hB3 := nbox_store (v0 := .bool (ownN N0).leaf) (v1 := .slice ja jl jc) (v2 := .slice la ll lc) hbk hz0; have hSo := (hS.offZ hbk hz0).same hO.size (fun b h hlt => hO.block b hlt h.2); go_simp; exact ⟨OnlyZ.of_only hO hp hz0 (NBox.mk _ _ _ _ _ _ _) hbk hB3, p, ja, jl, jc, la, ll, lc, rfl, hp, hB3, hSo⟩
    refine wpPartsM_end fun W1 hK1 hG1 hX1 hA1 => ?_
    have hEW1 := OnlyZ.below hK1 (Nat.le_refl _)
    --E0
    obtain ⟨pn, ja, jl, jc, la, ll, lc, h5, hp, hbk, hS⟩ := hX1
    obtain rfl := Option.some.inj (show some u8 = some _ from h5)
    obtain ⟨_, ⟨ba, bn, bc, rfl, hB⟩, _⟩ := (show BoxV w1.heap.size NBox 28 _ W1 ∧ RowV w1.heap.size (key.take mi) u7 W1 ∧ _ from hG1)
    obtain ⟨N, hNN⟩ : ∃ N, ownN N0 = N := ⟨_, rfl⟩
    have hlf : N.leaf = f0 := by rw [← hNN]; exact HF0.out
    obtain ⟨ky, hky⟩ : ∃ k, key.take mi = k := ⟨_, rfl⟩
    rw [hNN, hlf] at hbk
    rw [hNN] at hS
    rw [hky] at hB
    have q2 := hbk.cells
    have n2 := hbk.marks
    have k2 := hbk.lt
    have HQ2 := Lib.hid hbk
    have HN2 := Lib.hid hS
    have HK2 := Lib.hid hB.at_
    have HB2 := Lib.hid (HB1.out.trans (hEW1.mono HB1.out.size))
    have HLF := Lib.hid hlf
    clear hbk hS hB hlf hky hNN h5 hp hK1 hG1 hA1 hEW1 c1 m1 l1 hi1 hi2
    go_wp2_with fail
    --E1
    have hpl := Try_Place N ja la ba jl jc ll lc bn bc _ ky _ HN2.out HK2.out
    rw [HLF.out] at hpl
    (with_reducible refine hpl.mono ?_); rintro e w4 ⟨rfl, hb4⟩
    have q4 := HQ2.out.ext hb4
    have HQ4 := Lib.hid q4
    have HN4 := Lib.hid (HN2.out.ext hb4)
    have HK4 := Lib.hid (HK2.out.ext hb4)
    have HB4 := Lib.hid (HB2.out.trans (hb4.mono HB2.out.size))
    have c4 := q4.cells
    have m4 := q4.marks
    have l4 := q4.lt
    have hr := Try_rRight N ja la jl jc ll lc _ w4 HN4.out
    rw [HLF.out] at hr
    have HR := Lib.hid hr
    clear hpl hb4 q4 q2 n2 k2 HQ2 HN2 HK2 HB2 hr
    cases hok : nodeOk N with
    | false =>
      have e1 : placeN N ky = (0, false) := by unfold placeN; rw [hok]; rfl
      rw [hok] at HR
      rw [e1]
      clear hok
      go_wp2_with fail
      (with_reducible refine HR.out.mono ?_); rintro e w5 ⟨rfl, hb5⟩
      have HB5 := Lib.hid (HB4.out.trans (hb5.mono HB4.out.size))
      clear hb5
      go_wp2
      go_ret
      exact ⟨rfl, HB5.out⟩
    | true =>
      rw [hok] at HR
      obtain ⟨x, y, hxy⟩ : ∃ x y, placeN N ky = (x, y) := ⟨_, _, rfl⟩
      have HOK := Lib.hid hok
      have HXY := Lib.hid hxy
      rw [hxy]
      clear hok hxy
      go_wp2_with fail
      (with_reducible refine HR.out.mono ?_); rintro e w5 ⟨rfl, hb5⟩
      have q5 := HQ4.out.ext hb5
      have hpl := Try_rPlace N ja la ba jl jc ll lc bn bc ky _ w5 (HN4.out.ext hb5) (HK4.out.ext hb5) HOK.out
      rw [HLF.out, HXY.out] at hpl
      have HPL := Lib.hid hpl
      have HB5 := Lib.hid (HB4.out.trans (hb5.mono HB4.out.size))
      have c5 := q5.cells
      have m5 := q5.marks
      have l5 := q5.lt
      have b1 : (x == x) = true := by simp
      have b2 : (y == y) = true := by simp
      clear hb5 q5 c4 m4 l4 hpl
      go_wp2_with fail
      (with_reducible refine HPL.out.mono ?_); rintro e w6 ⟨rfl, hb6⟩
      have HB6 := Lib.hid (HB5.out.trans (hb6.mono HB5.out.size))
      clear hb6
      go_wp2
      go_ret
      exact ⟨ret_bool (by simp), HB6.out⟩
end Go.Proofs.Ytfhhcpolicdfpaa
