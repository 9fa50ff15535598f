/-
  The law of layer 14: NodeChecks, walked.
-/
import Derived.Test.YtfhhcpolicdfpaaQNodAB
import Derived.Test.YtfhhcpolicdfpaaNdP
import Derived.Test.YtfhhcpolicdfpaaQNodBA
import Derived.Test.YtfhhcpolicdfpaaQNodBD
import Derived.Test.YtfhhcpolicdfpaaQNodBF
import Derived.Test.YtfhhcpolicdfpaaQLawNG
import Derived.Test.YtfhhcpolicdfpaaQLawNA
namespace Go.Dav
set_option linter.unusedVariables false
set_option linter.unusedSimpArgs false
open Go Go.RowKit
/-- Bytes, wherever. -/
def KeyV (x : List UInt8) (v : Value) (W : World) : Prop := ∃ a n c, v = .slice a n c ∧ BytesAt W a n c x
theorem KeyV.later {x : List UInt8} : ∀ v W W', KeyV x v W → Below W.heap.size W W' → KeyV x v W' := fun _ _ _ ⟨a, n, c, h1, h2⟩ hb => ⟨a, n, c, h1, h2.ext hb⟩
end Go.Dav
namespace Go.Proofs.Ytfhhcpolicdfpaa
set_option linter.unusedVariables false
set_option linter.unusedSimpArgs false
open Go.RowKit Go.Dav
attribute [local go_sem] Gives GivesK ite_val ite_val_true
set_option maxRecDepth 8000 in
set_option maxHeartbeats 16000000 in
theorem Try_NodeChecks (X0 Y0 : NodeD) (ia ka ja la : Option Addr) (il ic kl kc jl jc ll lc : Nat) (w : World) (hX : NodeS w (fun b => b < w.heap.size) ia il ic ka kl kc X0) (hY : NodeS w (fun b => b < w.heap.size) ja jl jc la ll lc Y0) (hF : nodeFine X0) :
    Calls Try.prog 10 #[.agg #[.bool X0.leaf, .slice ia il ic, .slice ka kl kc], .agg #[.bool Y0.leaf, .slice ja jl jc, .slice la ll lc]] w fun e w' => e = .returned (.bool true) ∧ Below w.heap.size w w' := by
  have hF2 : nodeFine (ownN X0) := by
    refine ⟨fun x hx => ?_, fun x hx => ?_⟩
    · obtain ⟨y, hy, rfl⟩ := List.mem_map.1 hx
      exact hF.1 y (List.mem_of_mem_take hy)
    · obtain ⟨y, hy, rfl⟩ := List.mem_map.1 hx
      exact hF.2 y (List.mem_of_mem_take hy)
  have HF2 := Lib.hid hF2
  clear hF hF2
  obtain ⟨f0, hf0⟩ : ∃ f, X0.leaf = f := ⟨_, rfl⟩
  obtain ⟨g0, hg0⟩ : ∃ f, Y0.leaf = f := ⟨_, rfl⟩
  rw [hf0, hg0]
  obtain ⟨w0, hw0⟩ : ∃ w0, (w.alloc (.cells #[.bool f0, .slice ia il ic, .slice ka kl kc] 28)).alloc (.cells #[.bool g0, .slice ja jl jc, .slice la ll lc] 28) = w0 := ⟨_, rfl⟩
  have hb0 : Below w.heap.size w w0 := by rw [← hw0]; exact (by repeat (first | (with_reducible exact Below.refl _ _) | (with_reducible exact Below.refl _ _) | (with_reducible refine Below.setCell ?_ (by first | omega | (simp; done) | (simp; omega)) _) | (with_reducible refine Below.alloc ?_ (by first | omega | (simp; done) | (simp; omega)) _) | (with_reducible refine Below.drew ?_) | (with_reducible refine below_drewN ?_ _)))
  have Q0 : Blk w0 w.heap.size [.bool f0, .slice ia il ic, .slice ka kl kc] 28 := by rw [← hw0]; exact (Blk.new w _ _).alloc _
  have R0 : Blk w0 (w.heap.size + 1) [.bool g0, .slice ja jl jc, .slice la ll lc] 28 := by rw [← hw0]; exact Blk.new' _ _ _ (by simp)
  have HX0 := Lib.hid (hX.ext hb0)
  have HY0 := Lib.hid (hY.ext hb0)
  have HF0 := Lib.hid hf0
  have HG0 := Lib.hid hg0
  have HB0 := Lib.hid hb0
  have HQ0 := Lib.hid Q0
  have HR0 := Lib.hid R0
  clear hX hY hb0 Q0 R0 hf0 hg0
  go_enter Try.func10, Try.ntmps10
  go_wp2_with fail
  clear hw0
  (with_reducible refine (Try_wakes14 _).mono ?_); rintro e w1 ⟨rfl, hb1⟩
  have hq1 := HQ0.out.ext hb1
  have hr1 := HR0.out.ext hb1
  have c1 := hq1.cells
  have m1 := hq1.marks
  have l1 := hq1.lt
  have d1 := hr1.cells
  have n1 := hr1.marks
  have k1 := hr1.lt
  have HQ1 := Lib.hid hq1
  have HR1 := Lib.hid hr1
  have HX1 := Lib.hid (HX0.out.ext hb1)
  have HY1 := Lib.hid (HY0.out.ext hb1)
  have HB1 := Lib.hid (HB0.out.trans (hb1.mono HB0.out.size))
  clear hb1 hq1 hr1 HX0 HY0 HQ0 HR0 HB0
  go_wp2_with fail
  refine' wp_region_seqM (OnlyZ (w1.heap.size) (NBox) (28)) (goes_onlyZ _ _ _) 6 (StoredN 5 w1.heap.size (ownN X0) 28) [.inl _, .inr (NodeV w1.heap.size (ownN X0)), .inl _, .inr (NodeV w1.heap.size (ownN Y0)), .inr (BoxV w1.heap.size NBox 28), .inr (BoxV w1.heap.size NBox 28), .inr (fun _ _ => True)] (by kernel_rfl) (by kernel_rfl) (show 6 < 7 from by decide) (fun _ _ h => h.size) (StoredN.later) (fun o a a' W ho hl h => h.local (hl 5 (by cases ho; simp [Oper.looksAt, Op.operands]))) ?main1
  case main1 =>
    refine wpPartsM_det (by decide) (by rfl) (fun W hK hN => ?_) ?_
    · have hE := OnlyZ.below hK (Nat.le_refl _); have hc := fun b o h => hE.cell (p := ⟨b, o, none⟩) h
      go_simp; refine ⟨Below.refl _ _, ?_⟩; rfl
    simp only [Act.put, List.setIfInBounds_toArray, List.set_cons_zero, List.set_cons_succ]
    refine wpPartsM_any (by decide) rfl (NodeV.later) (NodeV.keepZ) (by rfl) (fun W hK hN => ?_) (fun u1 => ?_)
    · have hE := OnlyZ.below hK (Nat.le_refl _); go_simp; refine ⟨Below.refl _ _, ?_⟩; have h := Try_own X0 ia ka il ic kl kc _ W (HX1.out.ext hE) (fun b h => by have := HB1.out.size; have := hE.size; omega); rw [HF0.out] at h; refine h.mono ?_; rintro e w' ⟨ja, jl, jc, la, ll, lc, rfl, hS, hb⟩; exact ⟨_, rfl, hb, ja, jl, jc, la, ll, lc, by rw [show (ownN X0).leaf = f0 from HF0.out], hS.mono (fun b h => Nat.le_trans hE.size h)⟩
    simp only [Act.put, List.setIfInBounds_toArray, List.set_cons_zero, List.set_cons_succ]
    refine wpPartsM_det (by decide) (by rfl) (fun W hK hN => ?_) ?_
    · have hE := OnlyZ.below hK (Nat.le_refl _); have hc := fun b o h => hE.cell (p := ⟨b, o, none⟩) h
      go_simp; refine ⟨Below.refl _ _, ?_⟩; rfl
    simp only [Act.put, List.setIfInBounds_toArray, List.set_cons_zero, List.set_cons_succ]
    refine wpPartsM_any (by decide) rfl (NodeV.later) (NodeV.keepZ) (by rfl) (fun W hK hN => ?_) (fun u3 => ?_)
    · have hE := OnlyZ.below hK (Nat.le_refl _); go_simp; refine ⟨Below.refl _ _, ?_⟩; have h := Try_own Y0 ja la jl jc ll lc _ W (HY1.out.ext hE) (fun b h => by have := HB1.out.size; have := hE.size; omega); rw [HG0.out] at h; refine h.mono ?_; rintro e w' ⟨ja, jl, jc, la, ll, lc, rfl, hS, hb⟩; exact ⟨_, rfl, hb, ja, jl, jc, la, ll, lc, by rw [show (ownN Y0).leaf = g0 from HG0.out], hS.mono (fun b h => Nat.le_trans hE.size h)⟩
    simp only [Act.put, List.setIfInBounds_toArray, List.set_cons_zero, List.set_cons_succ]
    refine wpPartsM_any (by decide) rfl (BoxV.later) (BoxV.keepZ) (by rfl) (fun W hK hN => ?_) (fun u4 => ?_)
    · have hE := OnlyZ.below hK (Nat.le_refl _); go_simp; exact boxV_alloc (cs := [.bool false, .slice none 0 0, .slice none 0 0]) hE.size (NBox.mk _ _ _ _ _ _ _)
    simp only [Act.put, List.setIfInBounds_toArray, List.set_cons_zero, List.set_cons_succ]
    refine wpPartsM_any (by decide) rfl (BoxV.later) (BoxV.keepZ) (by rfl) (fun W hK hN => ?_) (fun u5 => ?_)
    · have hE := OnlyZ.below hK (Nat.le_refl _); go_simp; exact boxV_alloc (cs := [.bool false, .slice none 0 0, .slice none 0 0]) hE.size (NBox.mk _ _ _ _ _ _ _)
    simp only [Act.put, List.setIfInBounds_toArray, List.set_cons_zero, List.set_cons_succ]
    refine wpPartsM_writes (by decide) (by rfl) rfl (by rfl) (fun W hE hN => ?_) ?_
    · obtain ⟨⟨p, rfl, hp, cs, hz, hbk⟩, ⟨ja, jl, jc, la, ll, lc, rfl, hS⟩, _⟩ := (show BoxV w1.heap.size NBox 28 u4 W ∧ NodeV w1.heap.size (ownN X0) u1 W ∧ True from hN); have hz0 := hz; obtain ⟨zf, za, zn, zc, za', zn', zc', rfl⟩ := hz; have qc := hbk.cells; have qm := hbk.marks; have ql := hbk.lt; have hO : Only p W _ := (((Only.refl p W).set 0 (.bool (ownN X0).leaf)).set 1 (.slice ja jl jc)).set 2 (.slice la ll lc); have hB3 := nbox_store (v0 := .bool (ownN X0).leaf) (v1 := .slice ja jl jc) (v2 := .slice la ll lc) hbk hz0; have hSo := (hS.offZ hbk hz0).same hO.size (fun b h hlt => hO.block b hlt h.2); go_simp; exact ⟨OnlyZ.of_only hO hp hz0 (NBox.mk _ _ _ _ _ _ _) hbk hB3, p, ja, jl, jc, la, ll, lc, rfl, hp, hB3, hSo⟩
    refine wpPartsM_end fun W1 hK1 hG1 hX1 hA1 => ?_
    have hEW1 := OnlyZ.below hK1 (Nat.le_refl _)
    obtain ⟨pa, xa, xl, xc, za, zl, zc, h5, hpa, hba, hSA⟩ := hX1
    obtain rfl := Option.some.inj (show some u4 = some _ from h5)
    obtain ⟨⟨pb, rfl, hpb, cs, hz, hbb⟩, _, ⟨ya, yl, yc, va, vl, vc, rfl, hSB⟩, _⟩ := (show BoxV w1.heap.size NBox 28 u5 W1 ∧ BoxV w1.heap.size NBox 28 _ W1 ∧ NodeV w1.heap.size (ownN Y0) u3 W1 ∧ _ from hG1)
    have hne : pb ≠ pa := by
      have h := (List.nodup_cons.1 (show [Value.pointer (some ⟨pb, 0, none⟩), .pointer (some ⟨pa, 0, none⟩)].Nodup from hA1)).1
      intro e; apply h; rw [e]; simp
    obtain ⟨A, hAA⟩ : ∃ N, ownN X0 = N := ⟨_, rfl⟩
    obtain ⟨B, hBB⟩ : ∃ N, ownN Y0 = N := ⟨_, rfl⟩
    have hlf : A.leaf = f0 := by rw [← hAA]; exact HF0.out
    have hlg : B.leaf = g0 := by rw [← hBB]; exact HG0.out
    rw [hAA, hlf] at hba
    rw [hAA] at hSA
    rw [hBB] at hSB
    rw [hBB, hlg]
    have hSA2 := hSA.offZ hbb hz
    have hSB2 := hSB.offZ hbb hz
    have hb3 := fun (v0 v1 v2 : Value) => nbox_store (v0 := v0) (v1 := v1) (v2 := v2) hbb hz
    obtain ⟨zf, za', zn, zc', zb, zn', zc'', rfl⟩ := hz
    have q5 := hbb.cells
    have n5 := hbb.marks
    have k5 := hbb.lt
    have HQ2 := Lib.hid (HQ1.out.ext hEW1)
    have HR2 := Lib.hid (HR1.out.ext hEW1)
    have HX2 := Lib.hid (HX1.out.ext hEW1)
    have HB2 := Lib.hid (HB1.out.trans (hEW1.mono HB1.out.size))
    have HBA2 := Lib.hid hba
    have HSA2 := Lib.hid hSA2
    have HSB2 := Lib.hid hSB2
    have HB3 := Lib.hid hb3
    have HLF := Lib.hid hlf
    have HLG := Lib.hid hlg
    have HF3 := Lib.hid (show nodeFine A by rw [← hAA]; exact HF2.out)
    have HAA := Lib.hid hAA
    have HSZ := Lib.hid (show w1.heap.size ≤ pb ∧ w.heap.size + 2 ≤ w1.heap.size ∧ pb ≠ pa ∧ pa < W1.heap.size from ⟨hpb, by have := HR1.out.lt; omega, hne, hba.lt⟩)
    clear hba hSA hSB hSA2 hSB2 hb3 hlf hlg hAA hBB h5 hpa hK1 hG1 hA1 hEW1 c1 m1 l1 d1 n1 k1 hbb hpb HF2 HX1 HY1 HQ1 HR1 hne
    have hne1 : pb ≠ pa := HSZ.out.2.2.1
    have hne2 : pa ≠ pb := fun e => HSZ.out.2.2.1 e.symm
    have qa := HBA2.out.cells
    have na := HBA2.out.marks
    have ka2 := HBA2.out.lt
    go_wp2_with fail
    have hO : Only pb W1 _ := (((Only.refl pb W1).set 0 (.bool g0)).set 1 (.slice ya yl yc)).set 2 (.slice va vl vc)
    have hBB := HB3.out (.bool g0) (.slice ya yl yc) (.slice va vl vc)
    obtain ⟨V, hV⟩ : ∃ V, ((W1.setCell ⟨pb, 0, none⟩ (.bool g0)).setCell ⟨pb, 1, none⟩ (.slice ya yl yc)).setCell ⟨pb, 2, none⟩ (.slice va vl vc) = V := ⟨_, rfl⟩
    rw [hV] at hO hBB ⊢
    have HSA := Lib.hid (HSA2.out.same hO.size (fun b h hlt => hO.block b hlt h.2))
    have HSB := Lib.hid (HSB2.out.same hO.size (fun b h hlt => hO.block b hlt h.2))
    have HBA := Lib.hid (HBA2.out.only hO hne2)
    have HBB := Lib.hid hBB
    have HQ3 := Lib.hid (HQ2.out.only hO (by have := HSZ.out; omega))
    have HX3 := Lib.hid (HX2.out.same hO.size (fun b h hlt => hO.block b hlt (by have := HSZ.out; omega)))
    have HBV := Lib.hid (below_only HB2.out hO HB2.out.size (by have := HSZ.out; omega))
    clear hV hO hBB qa na ka2 q5 n5 k5 HSA2 HSB2 HBA2 HB3 HQ2 HR2 HX2 HB2
    have hRA := Try_rRight A xa za xl xc zl zc _ V HSA.out
    rw [HLF.out] at hRA
    (with_reducible refine hRA.mono ?_); rintro e w2 ⟨rfl, hb2⟩
    clear hRA
    have HSA1 := Lib.hid (HSA.out.ext hb2)
    have HSB1 := Lib.hid (HSB.out.ext hb2)
    have HBA1 := Lib.hid (HBA.out.ext hb2)
    have HBB1 := Lib.hid (HBB.out.ext hb2)
    have HQ4 := Lib.hid (HQ3.out.ext hb2)
    have HX4 := Lib.hid (HX3.out.ext hb2)
    have HB4 := Lib.hid (HBV.out.trans (hb2.mono HBV.out.size))
    have hch := Try_nCheck A xa za xl xc zl zc _ w2 HSA1.out
    rw [HLF.out] at hch
    have c4 := HBA1.out.cells
    have m4 := HBA1.out.marks
    have l4 := HBA1.out.lt
    clear hb2 HSA HSB HBA HBB HQ3 HX3 HBV
    go_wp2_with fail
    (with_reducible refine hch.mono ?_); rintro e w3 ⟨rfl, hb3⟩
    clear hch
    have HSA2 := Lib.hid (HSA1.out.ext hb3)
    have HSB2 := Lib.hid (HSB1.out.ext hb3)
    have HBA2 := Lib.hid (HBA1.out.ext hb3)
    have HBB2 := Lib.hid (HBB1.out.ext hb3)
    have HQ5 := Lib.hid (HQ4.out.ext hb3)
    have HX5 := Lib.hid (HX4.out.ext hb3)
    have HB5 := Lib.hid (HB4.out.trans (hb3.mono HB4.out.size))
    have c5 := HBA2.out.cells
    have m5 := HBA2.out.marks
    have l5 := HBA2.out.lt
    have d5 := HBB2.out.cells
    have n5 := HBB2.out.marks
    have k5 := HBB2.out.lt
    clear hb3 HSA1 HSB1 HBA1 HBB1 HQ4 HX4 HB4 c4 m4 l4
    obtain ⟨r, hr⟩ : ∃ r, nodeOk A = r := ⟨_, rfl⟩
    have HR := Lib.hid hr
    have HE := Lib.hid (show nodeE A = if r then 0 else 240 by unfold nodeE; rw [hr])
    rw [hr]
    clear hr
    have HX6 := HX5
    have HB6 := HB5
    cases r with
    | false =>
      have HS1 := Lib.hid (sameN_not (B := B) (.inl HR.out))
      have HS2 := Lib.hid (sameN_not (A := B) (.inr HR.out))
      have HS3 := Lib.hid (sameN_not (B := A) (.inl HR.out))
      have HSA3 := HSA2
      have HSB3 := HSB2
      have HBA3 := HBA2
      have HBB3 := HBB2
      rw [if_neg Bool.false_ne_true] at HE
      rw [HE.out]
      have q6 := HQ5.out.cells
      have o6 := HQ5.out.marks
      have p6 := HQ5.out.lt
      have b1 : (false != false) = false := by simp
      have b2 : (false != false) = false := by simp
      go_wp2_with fail
      refine' wp_region_seq [.inl _, .inl _, .inl _, .inl _, .inl _, .inl _, .inl _, .inl _, .inl _, .inl _, .inl _, .inl _, .inl _, .inl _, .inl _, .inr (NodeV 0 A), .inl _, .inl _, .inl _, .inl _] (by kernel_rfl) (by kernel_rfl) ?main2
      case main2 =>
        refine wpParts_det (by rfl) (fun W hE hN => ?_) ?_
        · have hc := fun b o h => hE.cell (p := ⟨b, o, none⟩) h
          go_simp; refine ⟨Below.refl _ _, ?_⟩; rfl
        simp only [Act.put, List.setIfInBounds_toArray, List.set_cons_zero, List.set_cons_succ]
        refine wpParts_det (by rfl) (fun W hE hN => ?_) ?_
        · have hc := fun b o h => hE.cell (p := ⟨b, o, none⟩) h
          go_simp; refine ⟨Below.refl _ _, ?_⟩; rfl
        simp only [Act.put, List.setIfInBounds_toArray, List.set_cons_zero, List.set_cons_succ]
        refine wpParts_det (by rfl) (fun W hE hN => ?_) ?_
        · go_simp; refine ⟨Below.refl _ _, ?_⟩; have h := Try_nSame A B xa za ya va xl xc zl zc yl yc vl vc _ _ W (HSA3.out.ext hE) (HSB3.out.ext hE); rw [HLF.out, HLG.out, HS1.out] at h; refine h.mono ?_; rintro e w' ⟨rfl, hb⟩; refine ⟨?_, hb⟩; rfl
        simp only [Act.put, List.setIfInBounds_toArray, List.set_cons_zero, List.set_cons_succ]
        refine wpParts_det (by rfl) (fun W hE hN => ?_) ?_
        · go_simp; refine ⟨Below.refl _ _, ?_⟩; rfl
        simp only [Act.put, List.setIfInBounds_toArray, List.set_cons_zero, List.set_cons_succ]
        refine wpParts_det (by rfl) (fun W hE hN => ?_) ?_
        · go_simp; refine ⟨Below.refl _ _, ?_⟩; rfl
        simp only [Act.put, List.setIfInBounds_toArray, List.set_cons_zero, List.set_cons_succ]
        refine wpParts_det (by rfl) (fun W hE hN => ?_) ?_
        · go_simp; refine ⟨Below.refl _ _, ?_⟩; rfl
        simp only [Act.put, List.setIfInBounds_toArray, List.set_cons_zero, List.set_cons_succ]
        refine wpParts_det (by rfl) (fun W hE hN => ?_) ?_
        · have hc := fun b o h => hE.cell (p := ⟨b, o, none⟩) h
          go_simp; refine ⟨Below.refl _ _, ?_⟩; rfl
        simp only [Act.put, List.setIfInBounds_toArray, List.set_cons_zero, List.set_cons_succ]
        refine wpParts_det (by rfl) (fun W hE hN => ?_) ?_
        · have hc := fun b o h => hE.cell (p := ⟨b, o, none⟩) h
          go_simp; refine ⟨Below.refl _ _, ?_⟩; rfl
        simp only [Act.put, List.setIfInBounds_toArray, List.set_cons_zero, List.set_cons_succ]
        refine wpParts_det (by rfl) (fun W hE hN => ?_) ?_
        · go_simp; refine ⟨Below.refl _ _, ?_⟩; have h := Try_nSame B A ya va xa za yl yc vl vc xl xc zl zc _ _ W (HSB3.out.ext hE) (HSA3.out.ext hE); rw [HLF.out, HLG.out, HS2.out] at h; refine h.mono ?_; rintro e w' ⟨rfl, hb⟩; refine ⟨?_, hb⟩; rfl
        simp only [Act.put, List.setIfInBounds_toArray, List.set_cons_zero, List.set_cons_succ]
        refine wpParts_det (by rfl) (fun W hE hN => ?_) ?_
        · go_simp; refine ⟨Below.refl _ _, ?_⟩; rfl
        simp only [Act.put, List.setIfInBounds_toArray, List.set_cons_zero, List.set_cons_succ]
        refine wpParts_det (by rfl) (fun W hE hN => ?_) ?_
        · go_simp; refine ⟨Below.refl _ _, ?_⟩; rfl
        simp only [Act.put, List.setIfInBounds_toArray, List.set_cons_zero, List.set_cons_succ]
        refine wpParts_det (by rfl) (fun W hE hN => ?_) ?_
        · go_simp; refine ⟨Below.refl _ _, ?_⟩; rfl
        simp only [Act.put, List.setIfInBounds_toArray, List.set_cons_zero, List.set_cons_succ]
        refine wpParts_det (by rfl) (fun W hE hN => ?_) ?_
        · go_simp; refine ⟨Below.refl _ _, ?_⟩; rfl
        simp only [Act.put, List.setIfInBounds_toArray, List.set_cons_zero, List.set_cons_succ]
        refine wpParts_det (by rfl) (fun W hE hN => ?_) ?_
        · have hc := fun b o h => hE.cell (p := ⟨b, o, none⟩) h
          go_simp; refine ⟨Below.refl _ _, ?_⟩; rfl
        simp only [Act.put, List.setIfInBounds_toArray, List.set_cons_zero, List.set_cons_succ]
        refine wpParts_det (by rfl) (fun W hE hN => ?_) ?_
        · have hc := fun b o h => hE.cell (p := ⟨b, o, none⟩) h
          go_simp; refine ⟨Below.refl _ _, ?_⟩; rfl
        simp only [Act.put, List.setIfInBounds_toArray, List.set_cons_zero, List.set_cons_succ]
        refine wpParts_any rfl (NodeV.later) (by rfl) (fun W hE hN => ?_) (fun u15 => ?_)
        · go_simp; refine ⟨Below.refl _ _, ?_⟩; have h := Try_own X0 ia ka il ic kl kc _ W (HX6.out.ext hE) (fun b h => by have := HB6.out.size; have := hE.size; omega); rw [HF0.out] at h; refine h.mono ?_; rintro e w' ⟨ja, jl, jc, la, ll, lc, rfl, hS, hb⟩; rw [HAA.out] at hS; exact ⟨_, rfl, hb, ja, jl, jc, la, ll, lc, by rw [HLF.out], hS.mono (fun b h => Nat.zero_le _)⟩
        simp only [Act.put, List.setIfInBounds_toArray, List.set_cons_zero, List.set_cons_succ]
        refine wpParts_det (by rfl) (fun W hE hN => ?_) ?_
        · simp [near, Oper.looksAt, Op.operands, Call.operands] at hN; obtain ⟨pa', pl', pc', pk', pm', pn', rfl, hS⟩ := hN; go_simp; refine ⟨Below.refl _ _, ?_⟩; have h := Try_nSame A A xa za pa' pk' xl xc zl zc pl' pc' pm' pn' _ _ W (HSA3.out.ext hE) hS; rw [HLF.out, HS3.out] at h; rw [HLF.out]; refine h.mono ?_; rintro e w' ⟨rfl, hb⟩; refine ⟨?_, hb⟩; rfl
        simp only [Act.put, List.setIfInBounds_toArray, List.set_cons_zero, List.set_cons_succ]
        refine wpParts_det (by rfl) (fun W hE hN => ?_) ?_
        · go_simp; refine ⟨Below.refl _ _, ?_⟩; rfl
        simp only [Act.put, List.setIfInBounds_toArray, List.set_cons_zero, List.set_cons_succ]
        refine wpParts_det (by rfl) (fun W hE hN => ?_) ?_
        · go_simp; refine ⟨Below.refl _ _, ?_⟩; rfl
        simp only [Act.put, List.setIfInBounds_toArray, List.set_cons_zero, List.set_cons_succ]
        refine wpParts_det (by rfl) (fun W hE hN => ?_) ?_
        · go_simp; refine ⟨Below.refl _ _, ?_⟩; rfl
        simp only [Act.put, List.setIfInBounds_toArray, List.set_cons_zero, List.set_cons_succ]
        refine wpParts_end fun W9 hE9 hG9 => ?_
        have hcW9 := fun b o h => hE9.cell (p := ⟨b, o, none⟩) h
        have hfW9 := fun b o h => hE9.frozen (p := ⟨b, o, none⟩) h
        have HSA4 := Lib.hid (HSA3.out.ext hE9)
        have HBA4 := Lib.hid (HBA3.out.ext hE9)
        have HB7 := Lib.hid (HB6.out.trans (hE9.mono HB6.out.size))
        have e7 := HBA4.out.cells
        have f7 := HBA4.out.marks
        have g7 := HBA4.out.lt
        clear hE9 hG9 hcW9 hfW9 c5 m5 l5 d5 n5 k5 q6 o6 p6
        go_wp2_with fail
        have hfi := Try_First A xa za xl xc zl zc _ W9 HSA4.out
        rw [HLF.out] at hfi
        (with_reducible refine hfi.mono ?_); rintro e w10 ⟨ka', kn', kc', rfl, hKB, hb10⟩
        rw [HR.out] at hKB
        rw [HE.out]
        have hkn := hKB.at_.hlen
        have HKB := Lib.hid hKB.at_
        have HSA5 := Lib.hid (HSA4.out.ext hb10)
        have HBA5 := Lib.hid (HBA4.out.ext hb10)
        have HB8 := Lib.hid (HB7.out.trans (hb10.mono HB7.out.size))
        have hrd := Try_nRed A xa za xl xc zl zc _ w10 HSA5.out
        have e8 := HBA5.out.cells
        have f8 := HBA5.out.marks
        have g8 := HBA5.out.lt
        rw [HLF.out] at hrd
        have HRD := Lib.hid hrd
        have HKN := Lib.hid hkn
        clear hfi hKB hb10 e7 f7 g7 hrd hkn
        go_wp2_with fail
        (with_reducible refine HRD.out.mono ?_); rintro e w11 ⟨rfl, hb11⟩
        have HSA6 := Lib.hid (HSA5.out.ext hb11)
        have HBA6 := Lib.hid (HBA5.out.ext hb11)
        have HKB6 := Lib.hid (HKB.out.ext hb11)
        have HB9 := Lib.hid (HB8.out.trans (hb11.mono HB8.out.size))
        have e9 := HBA6.out.cells
        have f9 := HBA6.out.marks
        have g9 := HBA6.out.lt
        clear hb11 HRD e8 f8 g8
        obtain rfl : kn' = 0 := by have := HKN.out; simpa using this.symm
        have hz : redN A = (Red.zero, 240) := by unfold redN; rw [HR.out]; rfl
        rw [hz, show redV (Red.zero, (240 : Int)).1 = .agg #[.int .i64 0, .int .i64 0, .int .i64 0, .int .u64 0, .int .i64 0, .int .i64 0] by unfold redV Red.zero; simp only [hi_zero, lo_zero]]
        clear hz
        go_wp2
        go_ret
        exact ⟨ret_bool (by simp), by have h := HB9.out; have hsz := h.size; exact (by repeat (first | (with_reducible exact Below.refl _ _) | (with_reducible exact Below.refl _ _) | (with_reducible refine Below.setCell ?_ (by first | omega | (simp; done) | (simp; omega)) _) | (with_reducible refine Below.alloc ?_ (by first | omega | (simp; done) | (simp; omega)) _) | (with_reducible refine Below.drew ?_) | (with_reducible refine below_drewN ?_ _) | (with_reducible refine Below.trans ?_ (h.mono (by first | omega | (simp; done) | (simp; omega))))))⟩
    | true =>
      have HS3 := Lib.hid (sameN_self HR.out)
      rw [if_pos rfl] at HE
      rw [HE.out]
      have hRB := Try_rRight B ya va yl yc vl vc _ w3 HSB2.out
      rw [HLG.out] at hRB
      have HRB := Lib.hid hRB
      clear hRB
      go_wp2_with fail
      (with_reducible refine HRB.out.mono ?_); rintro e w4 ⟨rfl, hb4⟩
      have HSA4 := Lib.hid (HSA2.out.ext hb4)
      have HSB4 := Lib.hid (HSB2.out.ext hb4)
      have HBA4 := Lib.hid (HBA2.out.ext hb4)
      have HBB4 := Lib.hid (HBB2.out.ext hb4)
      have HQ6 := Lib.hid (HQ5.out.ext hb4)
      have HX6 := Lib.hid (HX6.out.ext hb4)
      have HB6 := Lib.hid (HB6.out.trans (hb4.mono HB6.out.size))
      have c6 := HBA4.out.cells
      have m6 := HBA4.out.marks
      have l6 := HBA4.out.lt
      have d6 := HBB4.out.cells
      have n6 := HBB4.out.marks
      have k6 := HBB4.out.lt
      clear hb4 c5 m5 l5 d5 n5 k5
      obtain ⟨rb, hrb⟩ : ∃ r, nodeOk B = r := ⟨_, rfl⟩
      rw [hrb]
      have HRB2 := Lib.hid hrb
      clear hrb
      cases rb with
      | false =>
        have HS1 := Lib.hid (sameN_not (A := A) (.inr HRB2.out))
        have HS2 := Lib.hid (sameN_not (B := A) (.inl HRB2.out))
        have HSA3 := HSA4
        have HSB3 := HSB4
        have HBA3 := HBA4
        have HBB3 := HBB4
        have q6 := HQ6.out.cells
        have o6 := HQ6.out.marks
        have p6 := HQ6.out.lt
        go_wp2_with fail
        have b1 : (false != false) = false := by simp
        have b2 : (true != true) = false := by simp
        go_wp2_with fail
        refine' wp_region_seq [.inl _, .inl _, .inl _, .inl _, .inl _, .inl _, .inl _, .inl _, .inl _, .inl _, .inl _, .inl _, .inl _, .inl _, .inl _, .inr (NodeV 0 A), .inl _, .inl _, .inl _, .inl _] (by kernel_rfl) (by kernel_rfl) ?main3
        case main3 =>
          refine wpParts_det (by rfl) (fun W hE hN => ?_) ?_
          · have hc := fun b o h => hE.cell (p := ⟨b, o, none⟩) h
            go_simp; refine ⟨Below.refl _ _, ?_⟩; rfl
          simp only [Act.put, List.setIfInBounds_toArray, List.set_cons_zero, List.set_cons_succ]
          refine wpParts_det (by rfl) (fun W hE hN => ?_) ?_
          · have hc := fun b o h => hE.cell (p := ⟨b, o, none⟩) h
            go_simp; refine ⟨Below.refl _ _, ?_⟩; rfl
          simp only [Act.put, List.setIfInBounds_toArray, List.set_cons_zero, List.set_cons_succ]
          refine wpParts_det (by rfl) (fun W hE hN => ?_) ?_
          · go_simp; refine ⟨Below.refl _ _, ?_⟩; have h := Try_nSame A B xa za ya va xl xc zl zc yl yc vl vc _ _ W (HSA3.out.ext hE) (HSB3.out.ext hE); rw [HLF.out, HLG.out, HS1.out] at h; refine h.mono ?_; rintro e w' ⟨rfl, hb⟩; refine ⟨?_, hb⟩; rfl
          simp only [Act.put, List.setIfInBounds_toArray, List.set_cons_zero, List.set_cons_succ]
          refine wpParts_det (by rfl) (fun W hE hN => ?_) ?_
          · go_simp; refine ⟨Below.refl _ _, ?_⟩; rfl
          simp only [Act.put, List.setIfInBounds_toArray, List.set_cons_zero, List.set_cons_succ]
          refine wpParts_det (by rfl) (fun W hE hN => ?_) ?_
          · go_simp; refine ⟨Below.refl _ _, ?_⟩; rfl
          simp only [Act.put, List.setIfInBounds_toArray, List.set_cons_zero, List.set_cons_succ]
          refine wpParts_det (by rfl) (fun W hE hN => ?_) ?_
          · go_simp; refine ⟨Below.refl _ _, ?_⟩; rfl
          simp only [Act.put, List.setIfInBounds_toArray, List.set_cons_zero, List.set_cons_succ]
          refine wpParts_det (by rfl) (fun W hE hN => ?_) ?_
          · have hc := fun b o h => hE.cell (p := ⟨b, o, none⟩) h
            go_simp; refine ⟨Below.refl _ _, ?_⟩; rfl
          simp only [Act.put, List.setIfInBounds_toArray, List.set_cons_zero, List.set_cons_succ]
          refine wpParts_det (by rfl) (fun W hE hN => ?_) ?_
          · have hc := fun b o h => hE.cell (p := ⟨b, o, none⟩) h
            go_simp; refine ⟨Below.refl _ _, ?_⟩; rfl
          simp only [Act.put, List.setIfInBounds_toArray, List.set_cons_zero, List.set_cons_succ]
          refine wpParts_det (by rfl) (fun W hE hN => ?_) ?_
          · go_simp; refine ⟨Below.refl _ _, ?_⟩; have h := Try_nSame B A ya va xa za yl yc vl vc xl xc zl zc _ _ W (HSB3.out.ext hE) (HSA3.out.ext hE); rw [HLF.out, HLG.out, HS2.out] at h; refine h.mono ?_; rintro e w' ⟨rfl, hb⟩; refine ⟨?_, hb⟩; rfl
          simp only [Act.put, List.setIfInBounds_toArray, List.set_cons_zero, List.set_cons_succ]
          refine wpParts_det (by rfl) (fun W hE hN => ?_) ?_
          · go_simp; refine ⟨Below.refl _ _, ?_⟩; rfl
          simp only [Act.put, List.setIfInBounds_toArray, List.set_cons_zero, List.set_cons_succ]
          refine wpParts_det (by rfl) (fun W hE hN => ?_) ?_
          · go_simp; refine ⟨Below.refl _ _, ?_⟩; rfl
          simp only [Act.put, List.setIfInBounds_toArray, List.set_cons_zero, List.set_cons_succ]
          refine wpParts_det (by rfl) (fun W hE hN => ?_) ?_
          · go_simp; refine ⟨Below.refl _ _, ?_⟩; rfl
          simp only [Act.put, List.setIfInBounds_toArray, List.set_cons_zero, List.set_cons_succ]
          refine wpParts_det (by rfl) (fun W hE hN => ?_) ?_
          · go_simp; refine ⟨Below.refl _ _, ?_⟩; rfl
          simp only [Act.put, List.setIfInBounds_toArray, List.set_cons_zero, List.set_cons_succ]
          refine wpParts_det (by rfl) (fun W hE hN => ?_) ?_
          · have hc := fun b o h => hE.cell (p := ⟨b, o, none⟩) h
            go_simp; refine ⟨Below.refl _ _, ?_⟩; rfl
          simp only [Act.put, List.setIfInBounds_toArray, List.set_cons_zero, List.set_cons_succ]
          refine wpParts_det (by rfl) (fun W hE hN => ?_) ?_
          · have hc := fun b o h => hE.cell (p := ⟨b, o, none⟩) h
            go_simp; refine ⟨Below.refl _ _, ?_⟩; rfl
          simp only [Act.put, List.setIfInBounds_toArray, List.set_cons_zero, List.set_cons_succ]
          refine wpParts_any rfl (NodeV.later) (by rfl) (fun W hE hN => ?_) (fun u15 => ?_)
          · go_simp; refine ⟨Below.refl _ _, ?_⟩; have h := Try_own X0 ia ka il ic kl kc _ W (HX6.out.ext hE) (fun b h => by have := HB6.out.size; have := hE.size; omega); rw [HF0.out] at h; refine h.mono ?_; rintro e w' ⟨ja, jl, jc, la, ll, lc, rfl, hS, hb⟩; rw [HAA.out] at hS; exact ⟨_, rfl, hb, ja, jl, jc, la, ll, lc, by rw [HLF.out], hS.mono (fun b h => Nat.zero_le _)⟩
          simp only [Act.put, List.setIfInBounds_toArray, List.set_cons_zero, List.set_cons_succ]
          refine wpParts_det (by rfl) (fun W hE hN => ?_) ?_
          · simp [near, Oper.looksAt, Op.operands, Call.operands] at hN; obtain ⟨pa', pl', pc', pk', pm', pn', rfl, hS⟩ := hN; go_simp; refine ⟨Below.refl _ _, ?_⟩; have h := Try_nSame A A xa za pa' pk' xl xc zl zc pl' pc' pm' pn' _ _ W (HSA3.out.ext hE) hS; rw [HLF.out, HS3.out] at h; rw [HLF.out]; refine h.mono ?_; rintro e w' ⟨rfl, hb⟩; refine ⟨?_, hb⟩; rfl
          simp only [Act.put, List.setIfInBounds_toArray, List.set_cons_zero, List.set_cons_succ]
          refine wpParts_det (by rfl) (fun W hE hN => ?_) ?_
          · go_simp; refine ⟨Below.refl _ _, ?_⟩; rfl
          simp only [Act.put, List.setIfInBounds_toArray, List.set_cons_zero, List.set_cons_succ]
          refine wpParts_det (by rfl) (fun W hE hN => ?_) ?_
          · go_simp; refine ⟨Below.refl _ _, ?_⟩; rfl
          simp only [Act.put, List.setIfInBounds_toArray, List.set_cons_zero, List.set_cons_succ]
          refine wpParts_det (by rfl) (fun W hE hN => ?_) ?_
          · go_simp; refine ⟨Below.refl _ _, ?_⟩; rfl
          simp only [Act.put, List.setIfInBounds_toArray, List.set_cons_zero, List.set_cons_succ]
          refine wpParts_end fun W9 hE9 hG9 => ?_
          have hcW9 := fun b o h => hE9.cell (p := ⟨b, o, none⟩) h
          have hfW9 := fun b o h => hE9.frozen (p := ⟨b, o, none⟩) h
          have HSA4 := Lib.hid (HSA3.out.ext hE9)
          have HBA4 := Lib.hid (HBA3.out.ext hE9)
          have HB7 := Lib.hid (HB6.out.trans (hE9.mono HB6.out.size))
          have e7 := HBA4.out.cells
          have f7 := HBA4.out.marks
          have g7 := HBA4.out.lt
          clear hE9 hG9 hcW9 hfW9 c6 m6 l6 d6 n6 k6 q6 o6 p6
          go_wp2_with fail
          have hfi := Try_First A xa za xl xc zl zc _ W9 HSA4.out
          rw [HLF.out] at hfi
          (with_reducible refine hfi.mono ?_); rintro e w10 ⟨ka', kn', kc', rfl, hKB, hb10⟩
          rw [HR.out] at hKB
          rw [HE.out]
          have hkn := hKB.at_.hlen
          have HKB := Lib.hid hKB.at_
          have HSA5 := Lib.hid (HSA4.out.ext hb10)
          have HBA5 := Lib.hid (HBA4.out.ext hb10)
          have HB8 := Lib.hid (HB7.out.trans (hb10.mono HB7.out.size))
          have hrd := Try_nRed A xa za xl xc zl zc _ w10 HSA5.out
          have e8 := HBA5.out.cells
          have f8 := HBA5.out.marks
          have g8 := HBA5.out.lt
          rw [HLF.out] at hrd
          have HRD := Lib.hid hrd
          have HKN := Lib.hid hkn
          clear hfi hKB hb10 e7 f7 g7 hrd hkn
          go_wp2_with fail
          (with_reducible refine HRD.out.mono ?_); rintro e w11 ⟨rfl, hb11⟩
          have HSA6 := Lib.hid (HSA5.out.ext hb11)
          have HBA6 := Lib.hid (HBA5.out.ext hb11)
          have HKB6 := Lib.hid (HKB.out.ext hb11)
          have HB9 := Lib.hid (HB8.out.trans (hb11.mono HB8.out.size))
          have e9 := HBA6.out.cells
          have f9 := HBA6.out.marks
          have g9 := HBA6.out.lt
          clear hb11 HRD e8 f8 g8
          have hrn := redN_ok HR.out HF3.out.1
          have hfr := fun W (hb : Below w11.heap.size w11 W) => Try_rFirst A xa za xl xc zl zc _ W (HSA6.out.ext hb) HR.out
          have hrr := fun W (hb : Below w11.heap.size w11 W) => Try_rRed A xa za xl xc zl zc _ W (HSA6.out.ext hb) HR.out HF3.out
          rw [HLF.out] at hfr hrr
          obtain ⟨R, hRe⟩ : ∃ R, (redN A).1 = R := ⟨_, rfl⟩
          have hR2 : (redN A).2 = 0 := by rw [hrn]
          rw [hRe] at hrr
          rw [hRe, hR2]
          simp only [redV] at hrr ⊢
          have HFR := Lib.hid hfr
          have HRR := Lib.hid hrr
          obtain ⟨fk, hfk⟩ : ∃ k, firstKey A = k := ⟨_, rfl⟩
          have HKB6 := Lib.hid (show BytesAt w11 ka' kn' kc' fk by rw [← hfk]; simpa using HKB6.out)
          rw [hfk] at HFR
          obtain ⟨WA, hWA⟩ : ∃ WA, w11.alloc (.cells #[.int .i64 R.c, .int .i64 R.n, .int .i64 (hi R.s), .int .u64 (lo R.s), .int .i64 R.l, .int .i64 R.m] 47) = WA := ⟨_, rfl⟩
          have hbA : Below w11.heap.size w11 WA := by rw [← hWA]; exact (Below.refl _ _).alloc (Nat.le_refl _) _
          have HT := Lib.hid (show Blk WA w11.heap.size [.int .i64 R.c, .int .i64 R.n, .int .i64 (hi R.s), .int .u64 (lo R.s), .int .i64 R.l, .int .i64 R.m] 47 by rw [← hWA]; exact Blk.new w11 _ _)
          have HBA7 := Lib.hid (HBA6.out.ext hbA)
          have HKB7 := Lib.hid (HKB6.out.ext hbA)
          have HWB := Lib.hid hbA
          have HBF := Lib.hid (HB9.out.trans (hbA.mono HB9.out.size))
          have HWA := Lib.hid hWA
          clear hrn hfr hrr hRe hR2 hfk hbA hWA
          go_wp2_with fail
          rw [HWA.out]
          have e9 := HBA7.out.cells
          have f9 := HBA7.out.marks
          have g9 := HBA7.out.lt
          have t9 := HT.out.cells
          have v9 := HT.out.marks
          have x9 := HT.out.lt
          clear HWA
          refine' wp_region_seq [.inl _, .inl _, .inl _, .inl _, .inl _, .inl _, .inl _, .inl _, .inl _, .inr (KeyV fk), .inl _, .inl _, .inl _, .inl _, .inl _, .inl _, .inl _, .inl _, .inl _] (by kernel_rfl) (by kernel_rfl) ?main4
          case main4 =>
            refine wpParts_det (by rfl) (fun W hE hN => ?_) ?_
            · go_simp; refine ⟨Below.refl _ _, ?_⟩; rfl
            simp only [Act.put, List.setIfInBounds_toArray, List.set_cons_zero, List.set_cons_succ]
            refine wpParts_det (by rfl) (fun W hE hN => ?_) ?_
            · go_simp; refine ⟨Below.refl _ _, ?_⟩; rfl
            simp only [Act.put, List.setIfInBounds_toArray, List.set_cons_zero, List.set_cons_succ]
            refine wpParts_det (by rfl) (fun W hE hN => ?_) ?_
            · go_simp; refine ⟨Below.refl _ _, ?_⟩; rfl
            simp only [Act.put, List.setIfInBounds_toArray, List.set_cons_zero, List.set_cons_succ]
            refine wpParts_det (by rfl) (fun W hE hN => ?_) ?_
            · go_simp; refine ⟨Below.refl _ _, ?_⟩; rfl
            simp only [Act.put, List.setIfInBounds_toArray, List.set_cons_zero, List.set_cons_succ]
            refine wpParts_det (by rfl) (fun W hE hN => ?_) ?_
            · go_simp; refine ⟨Below.refl _ _, ?_⟩; rfl
            simp only [Act.put, List.setIfInBounds_toArray, List.set_cons_zero, List.set_cons_succ]
            refine wpParts_det (by rfl) (fun W hE hN => ?_) ?_
            · go_simp; refine ⟨Below.refl _ _, ?_⟩; rfl
            simp only [Act.put, List.setIfInBounds_toArray, List.set_cons_zero, List.set_cons_succ]
            refine wpParts_det (by rfl) (fun W hE hN => ?_) ?_
            · go_simp; refine ⟨Below.refl _ _, ?_⟩; rfl
            simp only [Act.put, List.setIfInBounds_toArray, List.set_cons_zero, List.set_cons_succ]
            refine wpParts_det (by rfl) (fun W hE hN => ?_) ?_
            · go_simp; refine ⟨Below.refl _ _, ?_⟩; rfl
            simp only [Act.put, List.setIfInBounds_toArray, List.set_cons_zero, List.set_cons_succ]
            refine wpParts_det (by rfl) (fun W hE hN => ?_) ?_
            · have hc := fun b o h => hE.cell (p := ⟨b, o, none⟩) h
              go_simp; refine ⟨Below.refl _ _, ?_⟩; rfl
            simp only [Act.put, List.setIfInBounds_toArray, List.set_cons_zero, List.set_cons_succ]
            refine wpParts_any rfl (KeyV.later) (by rfl) (fun W hE hN => ?_) (fun u9 => ?_)
            · go_simp; refine ⟨Below.refl _ _, ?_⟩; refine (HFR.out W (HWB.out.trans (hE.mono HWB.out.size))).mono ?_; rintro e w' ⟨ba, bn, bc, rfl, hK, hb⟩; exact ⟨_, rfl, hb, ba, bn, bc, rfl, hK.at_⟩
            simp only [Act.put, List.setIfInBounds_toArray, List.set_cons_zero, List.set_cons_succ]
            refine wpParts_det (by rfl) (fun W hE hN => ?_) ?_
            · simp [near, Oper.looksAt, Op.operands, Call.operands] at hN; obtain ⟨ba, bn, bc, rfl, hK⟩ := hN; go_simp; refine ⟨Below.refl _ _, ?_⟩; have h := Try_bytesEqual _ _ _ _ _ _ _ _ W (HKB7.out.ext hE) hK; rw [decide_eq_true rfl] at h; refine h.mono ?_; rintro e w' ⟨rfl, hb⟩; refine ⟨?_, hb⟩; rfl
            simp only [Act.put, List.setIfInBounds_toArray, List.set_cons_zero, List.set_cons_succ]
            refine wpParts_det (by rfl) (fun W hE hN => ?_) ?_
            · go_simp; refine ⟨Below.refl _ _, ?_⟩; rfl
            simp only [Act.put, List.setIfInBounds_toArray, List.set_cons_zero, List.set_cons_succ]
            refine wpParts_det (by rfl) (fun W hE hN => ?_) ?_
            · go_simp; refine ⟨Below.refl _ _, ?_⟩; rfl
            simp only [Act.put, List.setIfInBounds_toArray, List.set_cons_zero, List.set_cons_succ]
            refine wpParts_det (by rfl) (fun W hE hN => ?_) ?_
            · have hc := fun b o h => hE.cell (p := ⟨b, o, none⟩) h
              go_simp; refine ⟨Below.refl _ _, ?_⟩; rfl
            simp only [Act.put, List.setIfInBounds_toArray, List.set_cons_zero, List.set_cons_succ]
            refine wpParts_det (by rfl) (fun W hE hN => ?_) ?_
            · have hc := fun b o h => hE.cell (p := ⟨b, o, none⟩) h
              go_simp; refine ⟨Below.refl _ _, ?_⟩; rfl
            simp only [Act.put, List.setIfInBounds_toArray, List.set_cons_zero, List.set_cons_succ]
            refine wpParts_det (by rfl) (fun W hE hN => ?_) ?_
            · go_simp; refine ⟨Below.refl _ _, ?_⟩; refine (HRR.out W (HWB.out.trans (hE.mono HWB.out.size))).mono ?_; rintro e w' ⟨rfl, hb⟩; refine ⟨?_, hb⟩; rfl
            simp only [Act.put, List.setIfInBounds_toArray, List.set_cons_zero, List.set_cons_succ]
            refine wpParts_det (by rfl) (fun W hE hN => ?_) ?_
            · go_simp; refine ⟨Below.refl _ _, ?_⟩; rfl
            simp only [Act.put, List.setIfInBounds_toArray, List.set_cons_zero, List.set_cons_succ]
            refine wpParts_det (by rfl) (fun W hE hN => ?_) ?_
            · go_simp; refine ⟨Below.refl _ _, ?_⟩; rfl
            simp only [Act.put, List.setIfInBounds_toArray, List.set_cons_zero, List.set_cons_succ]
            refine wpParts_det (by rfl) (fun W hE hN => ?_) ?_
            · go_simp; refine ⟨Below.refl _ _, ?_⟩; rfl
            simp only [Act.put, List.setIfInBounds_toArray, List.set_cons_zero, List.set_cons_succ]
            refine wpParts_end fun WF hEF hGF => ?_
            have hcWF := fun b o h => hEF.cell (p := ⟨b, o, none⟩) h
            have hfWF := fun b o h => hEF.frozen (p := ⟨b, o, none⟩) h
            have HBG := Lib.hid (HBF.out.trans (hEF.mono HBF.out.size))
            clear hEF hGF hcWF hfWF e9 f9 g9 t9 v9 x9
            go_wp2
            go_ret
            exact ⟨ret_bool (by simp), HBG.out⟩
      | true =>
        have hsm := Try_rSame A B xa za ya va xl xc zl zc yl yc vl vc _ _ w4 HSA4.out HSB4.out
        obtain ⟨s, hs⟩ : ∃ s, sameR A B = s := ⟨_, rfl⟩
        rw [HLF.out, HLG.out, hs] at hsm
        have HS1 := Lib.hid ((sameN_ref HR.out HRB2.out).trans hs)
        have HS2 := Lib.hid ((sameN_comm B A).trans HS1.out)
        have HSM := Lib.hid hsm
        clear hsm hs
        go_wp2_with fail
        (with_reducible refine HSM.out.mono ?_); rintro e w5 ⟨rfl, hb5⟩
        have HSA3 := Lib.hid (HSA4.out.ext hb5)
        have HSB3 := Lib.hid (HSB4.out.ext hb5)
        have HBA3 := Lib.hid (HBA4.out.ext hb5)
        have HBB3 := Lib.hid (HBB4.out.ext hb5)
        have HQ7 := Lib.hid (HQ6.out.ext hb5)
        have HX6 := Lib.hid (HX6.out.ext hb5)
        have HB6 := Lib.hid (HB6.out.trans (hb5.mono HB6.out.size))
        have c7 := HBA3.out.cells
        have m7 := HBA3.out.marks
        have l7 := HBA3.out.lt
        have d7 := HBB3.out.cells
        have n7 := HBB3.out.marks
        have k7 := HBB3.out.lt
        have q7 := HQ7.out.cells
        have o7 := HQ7.out.marks
        have p7 := HQ7.out.lt
        clear hb5 c6 m6 l6 d6 n6 k6
        cases s with
        | true =>
          go_wp2_with fail
          have b1 : (true != true) = false := by simp
          have b2 : (true != true) = false := by simp
          go_wp2_with fail
          refine' wp_region_seq [.inl _, .inl _, .inl _, .inl _, .inl _, .inl _, .inl _, .inl _, .inl _, .inl _, .inl _, .inl _, .inl _, .inl _, .inl _, .inr (NodeV 0 A), .inl _, .inl _, .inl _, .inl _] (by kernel_rfl) (by kernel_rfl) ?main5
          case main5 =>
            refine wpParts_det (by rfl) (fun W hE hN => ?_) ?_
            · have hc := fun b o h => hE.cell (p := ⟨b, o, none⟩) h
              go_simp; refine ⟨Below.refl _ _, ?_⟩; rfl
            simp only [Act.put, List.setIfInBounds_toArray, List.set_cons_zero, List.set_cons_succ]
            refine wpParts_det (by rfl) (fun W hE hN => ?_) ?_
            · have hc := fun b o h => hE.cell (p := ⟨b, o, none⟩) h
              go_simp; refine ⟨Below.refl _ _, ?_⟩; rfl
            simp only [Act.put, List.setIfInBounds_toArray, List.set_cons_zero, List.set_cons_succ]
            refine wpParts_det (by rfl) (fun W hE hN => ?_) ?_
            · go_simp; refine ⟨Below.refl _ _, ?_⟩; have h := Try_nSame A B xa za ya va xl xc zl zc yl yc vl vc _ _ W (HSA3.out.ext hE) (HSB3.out.ext hE); rw [HLF.out, HLG.out, HS1.out] at h; refine h.mono ?_; rintro e w' ⟨rfl, hb⟩; refine ⟨?_, hb⟩; rfl
            simp only [Act.put, List.setIfInBounds_toArray, List.set_cons_zero, List.set_cons_succ]
            refine wpParts_det (by rfl) (fun W hE hN => ?_) ?_
            · go_simp; refine ⟨Below.refl _ _, ?_⟩; rfl
            simp only [Act.put, List.setIfInBounds_toArray, List.set_cons_zero, List.set_cons_succ]
            refine wpParts_det (by rfl) (fun W hE hN => ?_) ?_
            · go_simp; refine ⟨Below.refl _ _, ?_⟩; rfl
            simp only [Act.put, List.setIfInBounds_toArray, List.set_cons_zero, List.set_cons_succ]
            refine wpParts_det (by rfl) (fun W hE hN => ?_) ?_
            · go_simp; refine ⟨Below.refl _ _, ?_⟩; rfl
            simp only [Act.put, List.setIfInBounds_toArray, List.set_cons_zero, List.set_cons_succ]
            refine wpParts_det (by rfl) (fun W hE hN => ?_) ?_
            · have hc := fun b o h => hE.cell (p := ⟨b, o, none⟩) h
              go_simp; refine ⟨Below.refl _ _, ?_⟩; rfl
            simp only [Act.put, List.setIfInBounds_toArray, List.set_cons_zero, List.set_cons_succ]
            refine wpParts_det (by rfl) (fun W hE hN => ?_) ?_
            · have hc := fun b o h => hE.cell (p := ⟨b, o, none⟩) h
              go_simp; refine ⟨Below.refl _ _, ?_⟩; rfl
            simp only [Act.put, List.setIfInBounds_toArray, List.set_cons_zero, List.set_cons_succ]
            refine wpParts_det (by rfl) (fun W hE hN => ?_) ?_
            · go_simp; refine ⟨Below.refl _ _, ?_⟩; have h := Try_nSame B A ya va xa za yl yc vl vc xl xc zl zc _ _ W (HSB3.out.ext hE) (HSA3.out.ext hE); rw [HLF.out, HLG.out, HS2.out] at h; refine h.mono ?_; rintro e w' ⟨rfl, hb⟩; refine ⟨?_, hb⟩; rfl
            simp only [Act.put, List.setIfInBounds_toArray, List.set_cons_zero, List.set_cons_succ]
            refine wpParts_det (by rfl) (fun W hE hN => ?_) ?_
            · go_simp; refine ⟨Below.refl _ _, ?_⟩; rfl
            simp only [Act.put, List.setIfInBounds_toArray, List.set_cons_zero, List.set_cons_succ]
            refine wpParts_det (by rfl) (fun W hE hN => ?_) ?_
            · go_simp; refine ⟨Below.refl _ _, ?_⟩; rfl
            simp only [Act.put, List.setIfInBounds_toArray, List.set_cons_zero, List.set_cons_succ]
            refine wpParts_det (by rfl) (fun W hE hN => ?_) ?_
            · go_simp; refine ⟨Below.refl _ _, ?_⟩; rfl
            simp only [Act.put, List.setIfInBounds_toArray, List.set_cons_zero, List.set_cons_succ]
            refine wpParts_det (by rfl) (fun W hE hN => ?_) ?_
            · go_simp; refine ⟨Below.refl _ _, ?_⟩; rfl
            simp only [Act.put, List.setIfInBounds_toArray, List.set_cons_zero, List.set_cons_succ]
            refine wpParts_det (by rfl) (fun W hE hN => ?_) ?_
            · have hc := fun b o h => hE.cell (p := ⟨b, o, none⟩) h
              go_simp; refine ⟨Below.refl _ _, ?_⟩; rfl
            simp only [Act.put, List.setIfInBounds_toArray, List.set_cons_zero, List.set_cons_succ]
            refine wpParts_det (by rfl) (fun W hE hN => ?_) ?_
            · have hc := fun b o h => hE.cell (p := ⟨b, o, none⟩) h
              go_simp; refine ⟨Below.refl _ _, ?_⟩; rfl
            simp only [Act.put, List.setIfInBounds_toArray, List.set_cons_zero, List.set_cons_succ]
            refine wpParts_any rfl (NodeV.later) (by rfl) (fun W hE hN => ?_) (fun u15 => ?_)
            · go_simp; refine ⟨Below.refl _ _, ?_⟩; have h := Try_own X0 ia ka il ic kl kc _ W (HX6.out.ext hE) (fun b h => by have := HB6.out.size; have := hE.size; omega); rw [HF0.out] at h; refine h.mono ?_; rintro e w' ⟨ja, jl, jc, la, ll, lc, rfl, hS, hb⟩; rw [HAA.out] at hS; exact ⟨_, rfl, hb, ja, jl, jc, la, ll, lc, by rw [HLF.out], hS.mono (fun b h => Nat.zero_le _)⟩
            simp only [Act.put, List.setIfInBounds_toArray, List.set_cons_zero, List.set_cons_succ]
            refine wpParts_det (by rfl) (fun W hE hN => ?_) ?_
            · simp [near, Oper.looksAt, Op.operands, Call.operands] at hN; obtain ⟨pa', pl', pc', pk', pm', pn', rfl, hS⟩ := hN; go_simp; refine ⟨Below.refl _ _, ?_⟩; have h := Try_nSame A A xa za pa' pk' xl xc zl zc pl' pc' pm' pn' _ _ W (HSA3.out.ext hE) hS; rw [HLF.out, HS3.out] at h; rw [HLF.out]; refine h.mono ?_; rintro e w' ⟨rfl, hb⟩; refine ⟨?_, hb⟩; rfl
            simp only [Act.put, List.setIfInBounds_toArray, List.set_cons_zero, List.set_cons_succ]
            refine wpParts_det (by rfl) (fun W hE hN => ?_) ?_
            · go_simp; refine ⟨Below.refl _ _, ?_⟩; rfl
            simp only [Act.put, List.setIfInBounds_toArray, List.set_cons_zero, List.set_cons_succ]
            refine wpParts_det (by rfl) (fun W hE hN => ?_) ?_
            · go_simp; refine ⟨Below.refl _ _, ?_⟩; rfl
            simp only [Act.put, List.setIfInBounds_toArray, List.set_cons_zero, List.set_cons_succ]
            refine wpParts_det (by rfl) (fun W hE hN => ?_) ?_
            · go_simp; refine ⟨Below.refl _ _, ?_⟩; rfl
            simp only [Act.put, List.setIfInBounds_toArray, List.set_cons_zero, List.set_cons_succ]
            refine wpParts_end fun W9 hE9 hG9 => ?_
            have hcW9 := fun b o h => hE9.cell (p := ⟨b, o, none⟩) h
            have hfW9 := fun b o h => hE9.frozen (p := ⟨b, o, none⟩) h
            have HSA4 := Lib.hid (HSA3.out.ext hE9)
            have HBA4 := Lib.hid (HBA3.out.ext hE9)
            have HB7 := Lib.hid (HB6.out.trans (hE9.mono HB6.out.size))
            have e7 := HBA4.out.cells
            have f7 := HBA4.out.marks
            have g7 := HBA4.out.lt
            clear hE9 hG9 hcW9 hfW9 c7 m7 l7 d7 n7 k7 q7 o7 p7
            go_wp2_with fail
            have hfi := Try_First A xa za xl xc zl zc _ W9 HSA4.out
            rw [HLF.out] at hfi
            (with_reducible refine hfi.mono ?_); rintro e w10 ⟨ka', kn', kc', rfl, hKB, hb10⟩
            rw [HR.out] at hKB
            rw [HE.out]
            have hkn := hKB.at_.hlen
            have HKB := Lib.hid hKB.at_
            have HSA5 := Lib.hid (HSA4.out.ext hb10)
            have HBA5 := Lib.hid (HBA4.out.ext hb10)
            have HB8 := Lib.hid (HB7.out.trans (hb10.mono HB7.out.size))
            have hrd := Try_nRed A xa za xl xc zl zc _ w10 HSA5.out
            have e8 := HBA5.out.cells
            have f8 := HBA5.out.marks
            have g8 := HBA5.out.lt
            rw [HLF.out] at hrd
            have HRD := Lib.hid hrd
            have HKN := Lib.hid hkn
            clear hfi hKB hb10 e7 f7 g7 hrd hkn
            go_wp2_with fail
            (with_reducible refine HRD.out.mono ?_); rintro e w11 ⟨rfl, hb11⟩
            have HSA6 := Lib.hid (HSA5.out.ext hb11)
            have HBA6 := Lib.hid (HBA5.out.ext hb11)
            have HKB6 := Lib.hid (HKB.out.ext hb11)
            have HB9 := Lib.hid (HB8.out.trans (hb11.mono HB8.out.size))
            have e9 := HBA6.out.cells
            have f9 := HBA6.out.marks
            have g9 := HBA6.out.lt
            clear hb11 HRD e8 f8 g8
            have hrn := redN_ok HR.out HF3.out.1
            have hfr := fun W (hb : Below w11.heap.size w11 W) => Try_rFirst A xa za xl xc zl zc _ W (HSA6.out.ext hb) HR.out
            have hrr := fun W (hb : Below w11.heap.size w11 W) => Try_rRed A xa za xl xc zl zc _ W (HSA6.out.ext hb) HR.out HF3.out
            rw [HLF.out] at hfr hrr
            obtain ⟨R, hRe⟩ : ∃ R, (redN A).1 = R := ⟨_, rfl⟩
            have hR2 : (redN A).2 = 0 := by rw [hrn]
            rw [hRe] at hrr
            rw [hRe, hR2]
            simp only [redV] at hrr ⊢
            have HFR := Lib.hid hfr
            have HRR := Lib.hid hrr
            obtain ⟨fk, hfk⟩ : ∃ k, firstKey A = k := ⟨_, rfl⟩
            have HKB6 := Lib.hid (show BytesAt w11 ka' kn' kc' fk by rw [← hfk]; simpa using HKB6.out)
            rw [hfk] at HFR
            obtain ⟨WA, hWA⟩ : ∃ WA, w11.alloc (.cells #[.int .i64 R.c, .int .i64 R.n, .int .i64 (hi R.s), .int .u64 (lo R.s), .int .i64 R.l, .int .i64 R.m] 47) = WA := ⟨_, rfl⟩
            have hbA : Below w11.heap.size w11 WA := by rw [← hWA]; exact (Below.refl _ _).alloc (Nat.le_refl _) _
            have HT := Lib.hid (show Blk WA w11.heap.size [.int .i64 R.c, .int .i64 R.n, .int .i64 (hi R.s), .int .u64 (lo R.s), .int .i64 R.l, .int .i64 R.m] 47 by rw [← hWA]; exact Blk.new w11 _ _)
            have HBA7 := Lib.hid (HBA6.out.ext hbA)
            have HKB7 := Lib.hid (HKB6.out.ext hbA)
            have HWB := Lib.hid hbA
            have HBF := Lib.hid (HB9.out.trans (hbA.mono HB9.out.size))
            have HWA := Lib.hid hWA
            clear hrn hfr hrr hRe hR2 hfk hbA hWA
            go_wp2_with fail
            rw [HWA.out]
            have e9 := HBA7.out.cells
            have f9 := HBA7.out.marks
            have g9 := HBA7.out.lt
            have t9 := HT.out.cells
            have v9 := HT.out.marks
            have x9 := HT.out.lt
            clear HWA
            refine' wp_region_seq [.inl _, .inl _, .inl _, .inl _, .inl _, .inl _, .inl _, .inl _, .inl _, .inr (KeyV fk), .inl _, .inl _, .inl _, .inl _, .inl _, .inl _, .inl _, .inl _, .inl _] (by kernel_rfl) (by kernel_rfl) ?main6
            case main6 =>
              refine wpParts_det (by rfl) (fun W hE hN => ?_) ?_
              · go_simp; refine ⟨Below.refl _ _, ?_⟩; rfl
              simp only [Act.put, List.setIfInBounds_toArray, List.set_cons_zero, List.set_cons_succ]
              refine wpParts_det (by rfl) (fun W hE hN => ?_) ?_
              · go_simp; refine ⟨Below.refl _ _, ?_⟩; rfl
              simp only [Act.put, List.setIfInBounds_toArray, List.set_cons_zero, List.set_cons_succ]
              refine wpParts_det (by rfl) (fun W hE hN => ?_) ?_
              · go_simp; refine ⟨Below.refl _ _, ?_⟩; rfl
              simp only [Act.put, List.setIfInBounds_toArray, List.set_cons_zero, List.set_cons_succ]
              refine wpParts_det (by rfl) (fun W hE hN => ?_) ?_
              · go_simp; refine ⟨Below.refl _ _, ?_⟩; rfl
              simp only [Act.put, List.setIfInBounds_toArray, List.set_cons_zero, List.set_cons_succ]
              refine wpParts_det (by rfl) (fun W hE hN => ?_) ?_
              · go_simp; refine ⟨Below.refl _ _, ?_⟩; rfl
              simp only [Act.put, List.setIfInBounds_toArray, List.set_cons_zero, List.set_cons_succ]
              refine wpParts_det (by rfl) (fun W hE hN => ?_) ?_
              · go_simp; refine ⟨Below.refl _ _, ?_⟩; rfl
              simp only [Act.put, List.setIfInBounds_toArray, List.set_cons_zero, List.set_cons_succ]
              refine wpParts_det (by rfl) (fun W hE hN => ?_) ?_
              · go_simp; refine ⟨Below.refl _ _, ?_⟩; rfl
              simp only [Act.put, List.setIfInBounds_toArray, List.set_cons_zero, List.set_cons_succ]
              refine wpParts_det (by rfl) (fun W hE hN => ?_) ?_
              · go_simp; refine ⟨Below.refl _ _, ?_⟩; rfl
              simp only [Act.put, List.setIfInBounds_toArray, List.set_cons_zero, List.set_cons_succ]
              refine wpParts_det (by rfl) (fun W hE hN => ?_) ?_
              · have hc := fun b o h => hE.cell (p := ⟨b, o, none⟩) h
                go_simp; refine ⟨Below.refl _ _, ?_⟩; rfl
              simp only [Act.put, List.setIfInBounds_toArray, List.set_cons_zero, List.set_cons_succ]
              refine wpParts_any rfl (KeyV.later) (by rfl) (fun W hE hN => ?_) (fun u9 => ?_)
              · go_simp; refine ⟨Below.refl _ _, ?_⟩; refine (HFR.out W (HWB.out.trans (hE.mono HWB.out.size))).mono ?_; rintro e w' ⟨ba, bn, bc, rfl, hK, hb⟩; exact ⟨_, rfl, hb, ba, bn, bc, rfl, hK.at_⟩
              simp only [Act.put, List.setIfInBounds_toArray, List.set_cons_zero, List.set_cons_succ]
              refine wpParts_det (by rfl) (fun W hE hN => ?_) ?_
              · simp [near, Oper.looksAt, Op.operands, Call.operands] at hN; obtain ⟨ba, bn, bc, rfl, hK⟩ := hN; go_simp; refine ⟨Below.refl _ _, ?_⟩; have h := Try_bytesEqual _ _ _ _ _ _ _ _ W (HKB7.out.ext hE) hK; rw [decide_eq_true rfl] at h; refine h.mono ?_; rintro e w' ⟨rfl, hb⟩; refine ⟨?_, hb⟩; rfl
              simp only [Act.put, List.setIfInBounds_toArray, List.set_cons_zero, List.set_cons_succ]
              refine wpParts_det (by rfl) (fun W hE hN => ?_) ?_
              · go_simp; refine ⟨Below.refl _ _, ?_⟩; rfl
              simp only [Act.put, List.setIfInBounds_toArray, List.set_cons_zero, List.set_cons_succ]
              refine wpParts_det (by rfl) (fun W hE hN => ?_) ?_
              · go_simp; refine ⟨Below.refl _ _, ?_⟩; rfl
              simp only [Act.put, List.setIfInBounds_toArray, List.set_cons_zero, List.set_cons_succ]
              refine wpParts_det (by rfl) (fun W hE hN => ?_) ?_
              · have hc := fun b o h => hE.cell (p := ⟨b, o, none⟩) h
                go_simp; refine ⟨Below.refl _ _, ?_⟩; rfl
              simp only [Act.put, List.setIfInBounds_toArray, List.set_cons_zero, List.set_cons_succ]
              refine wpParts_det (by rfl) (fun W hE hN => ?_) ?_
              · have hc := fun b o h => hE.cell (p := ⟨b, o, none⟩) h
                go_simp; refine ⟨Below.refl _ _, ?_⟩; rfl
              simp only [Act.put, List.setIfInBounds_toArray, List.set_cons_zero, List.set_cons_succ]
              refine wpParts_det (by rfl) (fun W hE hN => ?_) ?_
              · go_simp; refine ⟨Below.refl _ _, ?_⟩; refine (HRR.out W (HWB.out.trans (hE.mono HWB.out.size))).mono ?_; rintro e w' ⟨rfl, hb⟩; refine ⟨?_, hb⟩; rfl
              simp only [Act.put, List.setIfInBounds_toArray, List.set_cons_zero, List.set_cons_succ]
              refine wpParts_det (by rfl) (fun W hE hN => ?_) ?_
              · go_simp; refine ⟨Below.refl _ _, ?_⟩; rfl
              simp only [Act.put, List.setIfInBounds_toArray, List.set_cons_zero, List.set_cons_succ]
              refine wpParts_det (by rfl) (fun W hE hN => ?_) ?_
              · go_simp; refine ⟨Below.refl _ _, ?_⟩; rfl
              simp only [Act.put, List.setIfInBounds_toArray, List.set_cons_zero, List.set_cons_succ]
              refine wpParts_det (by rfl) (fun W hE hN => ?_) ?_
              · go_simp; refine ⟨Below.refl _ _, ?_⟩; rfl
              simp only [Act.put, List.setIfInBounds_toArray, List.set_cons_zero, List.set_cons_succ]
              refine wpParts_end fun WF hEF hGF => ?_
              have hcWF := fun b o h => hEF.cell (p := ⟨b, o, none⟩) h
              have hfWF := fun b o h => hEF.frozen (p := ⟨b, o, none⟩) h
              have HBG := Lib.hid (HBF.out.trans (hEF.mono HBF.out.size))
              clear hEF hGF hcWF hfWF e9 f9 g9 t9 v9 x9
              go_wp2
              go_ret
              exact ⟨ret_bool (by simp), HBG.out⟩
        | false =>
          go_wp2_with fail
          have b1 : (false != false) = false := by simp
          have b2 : (true != true) = false := by simp
          go_wp2_with fail
          refine' wp_region_seq [.inl _, .inl _, .inl _, .inl _, .inl _, .inl _, .inl _, .inl _, .inl _, .inl _, .inl _, .inl _, .inl _, .inl _, .inl _, .inr (NodeV 0 A), .inl _, .inl _, .inl _, .inl _] (by kernel_rfl) (by kernel_rfl) ?main7
          case main7 =>
            refine wpParts_det (by rfl) (fun W hE hN => ?_) ?_
            · have hc := fun b o h => hE.cell (p := ⟨b, o, none⟩) h
              go_simp; refine ⟨Below.refl _ _, ?_⟩; rfl
            simp only [Act.put, List.setIfInBounds_toArray, List.set_cons_zero, List.set_cons_succ]
            refine wpParts_det (by rfl) (fun W hE hN => ?_) ?_
            · have hc := fun b o h => hE.cell (p := ⟨b, o, none⟩) h
              go_simp; refine ⟨Below.refl _ _, ?_⟩; rfl
            simp only [Act.put, List.setIfInBounds_toArray, List.set_cons_zero, List.set_cons_succ]
            refine wpParts_det (by rfl) (fun W hE hN => ?_) ?_
            · go_simp; refine ⟨Below.refl _ _, ?_⟩; have h := Try_nSame A B xa za ya va xl xc zl zc yl yc vl vc _ _ W (HSA3.out.ext hE) (HSB3.out.ext hE); rw [HLF.out, HLG.out, HS1.out] at h; refine h.mono ?_; rintro e w' ⟨rfl, hb⟩; refine ⟨?_, hb⟩; rfl
            simp only [Act.put, List.setIfInBounds_toArray, List.set_cons_zero, List.set_cons_succ]
            refine wpParts_det (by rfl) (fun W hE hN => ?_) ?_
            · go_simp; refine ⟨Below.refl _ _, ?_⟩; rfl
            simp only [Act.put, List.setIfInBounds_toArray, List.set_cons_zero, List.set_cons_succ]
            refine wpParts_det (by rfl) (fun W hE hN => ?_) ?_
            · go_simp; refine ⟨Below.refl _ _, ?_⟩; rfl
            simp only [Act.put, List.setIfInBounds_toArray, List.set_cons_zero, List.set_cons_succ]
            refine wpParts_det (by rfl) (fun W hE hN => ?_) ?_
            · go_simp; refine ⟨Below.refl _ _, ?_⟩; rfl
            simp only [Act.put, List.setIfInBounds_toArray, List.set_cons_zero, List.set_cons_succ]
            refine wpParts_det (by rfl) (fun W hE hN => ?_) ?_
            · have hc := fun b o h => hE.cell (p := ⟨b, o, none⟩) h
              go_simp; refine ⟨Below.refl _ _, ?_⟩; rfl
            simp only [Act.put, List.setIfInBounds_toArray, List.set_cons_zero, List.set_cons_succ]
            refine wpParts_det (by rfl) (fun W hE hN => ?_) ?_
            · have hc := fun b o h => hE.cell (p := ⟨b, o, none⟩) h
              go_simp; refine ⟨Below.refl _ _, ?_⟩; rfl
            simp only [Act.put, List.setIfInBounds_toArray, List.set_cons_zero, List.set_cons_succ]
            refine wpParts_det (by rfl) (fun W hE hN => ?_) ?_
            · go_simp; refine ⟨Below.refl _ _, ?_⟩; have h := Try_nSame B A ya va xa za yl yc vl vc xl xc zl zc _ _ W (HSB3.out.ext hE) (HSA3.out.ext hE); rw [HLF.out, HLG.out, HS2.out] at h; refine h.mono ?_; rintro e w' ⟨rfl, hb⟩; refine ⟨?_, hb⟩; rfl
            simp only [Act.put, List.setIfInBounds_toArray, List.set_cons_zero, List.set_cons_succ]
            refine wpParts_det (by rfl) (fun W hE hN => ?_) ?_
            · go_simp; refine ⟨Below.refl _ _, ?_⟩; rfl
            simp only [Act.put, List.setIfInBounds_toArray, List.set_cons_zero, List.set_cons_succ]
            refine wpParts_det (by rfl) (fun W hE hN => ?_) ?_
            · go_simp; refine ⟨Below.refl _ _, ?_⟩; rfl
            simp only [Act.put, List.setIfInBounds_toArray, List.set_cons_zero, List.set_cons_succ]
            refine wpParts_det (by rfl) (fun W hE hN => ?_) ?_
            · go_simp; refine ⟨Below.refl _ _, ?_⟩; rfl
            simp only [Act.put, List.setIfInBounds_toArray, List.set_cons_zero, List.set_cons_succ]
            refine wpParts_det (by rfl) (fun W hE hN => ?_) ?_
            · go_simp; refine ⟨Below.refl _ _, ?_⟩; rfl
            simp only [Act.put, List.setIfInBounds_toArray, List.set_cons_zero, List.set_cons_succ]
            refine wpParts_det (by rfl) (fun W hE hN => ?_) ?_
            · have hc := fun b o h => hE.cell (p := ⟨b, o, none⟩) h
              go_simp; refine ⟨Below.refl _ _, ?_⟩; rfl
            simp only [Act.put, List.setIfInBounds_toArray, List.set_cons_zero, List.set_cons_succ]
            refine wpParts_det (by rfl) (fun W hE hN => ?_) ?_
            · have hc := fun b o h => hE.cell (p := ⟨b, o, none⟩) h
              go_simp; refine ⟨Below.refl _ _, ?_⟩; rfl
            simp only [Act.put, List.setIfInBounds_toArray, List.set_cons_zero, List.set_cons_succ]
            refine wpParts_any rfl (NodeV.later) (by rfl) (fun W hE hN => ?_) (fun u15 => ?_)
            · go_simp; refine ⟨Below.refl _ _, ?_⟩; have h := Try_own X0 ia ka il ic kl kc _ W (HX6.out.ext hE) (fun b h => by have := HB6.out.size; have := hE.size; omega); rw [HF0.out] at h; refine h.mono ?_; rintro e w' ⟨ja, jl, jc, la, ll, lc, rfl, hS, hb⟩; rw [HAA.out] at hS; exact ⟨_, rfl, hb, ja, jl, jc, la, ll, lc, by rw [HLF.out], hS.mono (fun b h => Nat.zero_le _)⟩
            simp only [Act.put, List.setIfInBounds_toArray, List.set_cons_zero, List.set_cons_succ]
            refine wpParts_det (by rfl) (fun W hE hN => ?_) ?_
            · simp [near, Oper.looksAt, Op.operands, Call.operands] at hN; obtain ⟨pa', pl', pc', pk', pm', pn', rfl, hS⟩ := hN; go_simp; refine ⟨Below.refl _ _, ?_⟩; have h := Try_nSame A A xa za pa' pk' xl xc zl zc pl' pc' pm' pn' _ _ W (HSA3.out.ext hE) hS; rw [HLF.out, HS3.out] at h; rw [HLF.out]; refine h.mono ?_; rintro e w' ⟨rfl, hb⟩; refine ⟨?_, hb⟩; rfl
            simp only [Act.put, List.setIfInBounds_toArray, List.set_cons_zero, List.set_cons_succ]
            refine wpParts_det (by rfl) (fun W hE hN => ?_) ?_
            · go_simp; refine ⟨Below.refl _ _, ?_⟩; rfl
            simp only [Act.put, List.setIfInBounds_toArray, List.set_cons_zero, List.set_cons_succ]
            refine wpParts_det (by rfl) (fun W hE hN => ?_) ?_
            · go_simp; refine ⟨Below.refl _ _, ?_⟩; rfl
            simp only [Act.put, List.setIfInBounds_toArray, List.set_cons_zero, List.set_cons_succ]
            refine wpParts_det (by rfl) (fun W hE hN => ?_) ?_
            · go_simp; refine ⟨Below.refl _ _, ?_⟩; rfl
            simp only [Act.put, List.setIfInBounds_toArray, List.set_cons_zero, List.set_cons_succ]
            refine wpParts_end fun W9 hE9 hG9 => ?_
            have hcW9 := fun b o h => hE9.cell (p := ⟨b, o, none⟩) h
            have hfW9 := fun b o h => hE9.frozen (p := ⟨b, o, none⟩) h
            have HSA4 := Lib.hid (HSA3.out.ext hE9)
            have HBA4 := Lib.hid (HBA3.out.ext hE9)
            have HB7 := Lib.hid (HB6.out.trans (hE9.mono HB6.out.size))
            have e7 := HBA4.out.cells
            have f7 := HBA4.out.marks
            have g7 := HBA4.out.lt
            clear hE9 hG9 hcW9 hfW9 c7 m7 l7 d7 n7 k7 q7 o7 p7
            go_wp2_with fail
            have hfi := Try_First A xa za xl xc zl zc _ W9 HSA4.out
            rw [HLF.out] at hfi
            (with_reducible refine hfi.mono ?_); rintro e w10 ⟨ka', kn', kc', rfl, hKB, hb10⟩
            rw [HR.out] at hKB
            rw [HE.out]
            have hkn := hKB.at_.hlen
            have HKB := Lib.hid hKB.at_
            have HSA5 := Lib.hid (HSA4.out.ext hb10)
            have HBA5 := Lib.hid (HBA4.out.ext hb10)
            have HB8 := Lib.hid (HB7.out.trans (hb10.mono HB7.out.size))
            have hrd := Try_nRed A xa za xl xc zl zc _ w10 HSA5.out
            have e8 := HBA5.out.cells
            have f8 := HBA5.out.marks
            have g8 := HBA5.out.lt
            rw [HLF.out] at hrd
            have HRD := Lib.hid hrd
            have HKN := Lib.hid hkn
            clear hfi hKB hb10 e7 f7 g7 hrd hkn
            go_wp2_with fail
            (with_reducible refine HRD.out.mono ?_); rintro e w11 ⟨rfl, hb11⟩
            have HSA6 := Lib.hid (HSA5.out.ext hb11)
            have HBA6 := Lib.hid (HBA5.out.ext hb11)
            have HKB6 := Lib.hid (HKB.out.ext hb11)
            have HB9 := Lib.hid (HB8.out.trans (hb11.mono HB8.out.size))
            have e9 := HBA6.out.cells
            have f9 := HBA6.out.marks
            have g9 := HBA6.out.lt
            clear hb11 HRD e8 f8 g8
            have hrn := redN_ok HR.out HF3.out.1
            have hfr := fun W (hb : Below w11.heap.size w11 W) => Try_rFirst A xa za xl xc zl zc _ W (HSA6.out.ext hb) HR.out
            have hrr := fun W (hb : Below w11.heap.size w11 W) => Try_rRed A xa za xl xc zl zc _ W (HSA6.out.ext hb) HR.out HF3.out
            rw [HLF.out] at hfr hrr
            obtain ⟨R, hRe⟩ : ∃ R, (redN A).1 = R := ⟨_, rfl⟩
            have hR2 : (redN A).2 = 0 := by rw [hrn]
            rw [hRe] at hrr
            rw [hRe, hR2]
            simp only [redV] at hrr ⊢
            have HFR := Lib.hid hfr
            have HRR := Lib.hid hrr
            obtain ⟨fk, hfk⟩ : ∃ k, firstKey A = k := ⟨_, rfl⟩
            have HKB6 := Lib.hid (show BytesAt w11 ka' kn' kc' fk by rw [← hfk]; simpa using HKB6.out)
            rw [hfk] at HFR
            obtain ⟨WA, hWA⟩ : ∃ WA, w11.alloc (.cells #[.int .i64 R.c, .int .i64 R.n, .int .i64 (hi R.s), .int .u64 (lo R.s), .int .i64 R.l, .int .i64 R.m] 47) = WA := ⟨_, rfl⟩
            have hbA : Below w11.heap.size w11 WA := by rw [← hWA]; exact (Below.refl _ _).alloc (Nat.le_refl _) _
            have HT := Lib.hid (show Blk WA w11.heap.size [.int .i64 R.c, .int .i64 R.n, .int .i64 (hi R.s), .int .u64 (lo R.s), .int .i64 R.l, .int .i64 R.m] 47 by rw [← hWA]; exact Blk.new w11 _ _)
            have HBA7 := Lib.hid (HBA6.out.ext hbA)
            have HKB7 := Lib.hid (HKB6.out.ext hbA)
            have HWB := Lib.hid hbA
            have HBF := Lib.hid (HB9.out.trans (hbA.mono HB9.out.size))
            have HWA := Lib.hid hWA
            clear hrn hfr hrr hRe hR2 hfk hbA hWA
            go_wp2_with fail
            rw [HWA.out]
            have e9 := HBA7.out.cells
            have f9 := HBA7.out.marks
            have g9 := HBA7.out.lt
            have t9 := HT.out.cells
            have v9 := HT.out.marks
            have x9 := HT.out.lt
            clear HWA
            refine' wp_region_seq [.inl _, .inl _, .inl _, .inl _, .inl _, .inl _, .inl _, .inl _, .inl _, .inr (KeyV fk), .inl _, .inl _, .inl _, .inl _, .inl _, .inl _, .inl _, .inl _, .inl _] (by kernel_rfl) (by kernel_rfl) ?main8
            case main8 =>
              refine wpParts_det (by rfl) (fun W hE hN => ?_) ?_
              · go_simp; refine ⟨Below.refl _ _, ?_⟩; rfl
              simp only [Act.put, List.setIfInBounds_toArray, List.set_cons_zero, List.set_cons_succ]
              refine wpParts_det (by rfl) (fun W hE hN => ?_) ?_
              · go_simp; refine ⟨Below.refl _ _, ?_⟩; rfl
              simp only [Act.put, List.setIfInBounds_toArray, List.set_cons_zero, List.set_cons_succ]
              refine wpParts_det (by rfl) (fun W hE hN => ?_) ?_
              · go_simp; refine ⟨Below.refl _ _, ?_⟩; rfl
              simp only [Act.put, List.setIfInBounds_toArray, List.set_cons_zero, List.set_cons_succ]
              refine wpParts_det (by rfl) (fun W hE hN => ?_) ?_
              · go_simp; refine ⟨Below.refl _ _, ?_⟩; rfl
              simp only [Act.put, List.setIfInBounds_toArray, List.set_cons_zero, List.set_cons_succ]
              refine wpParts_det (by rfl) (fun W hE hN => ?_) ?_
              · go_simp; refine ⟨Below.refl _ _, ?_⟩; rfl
              simp only [Act.put, List.setIfInBounds_toArray, List.set_cons_zero, List.set_cons_succ]
              refine wpParts_det (by rfl) (fun W hE hN => ?_) ?_
              · go_simp; refine ⟨Below.refl _ _, ?_⟩; rfl
              simp only [Act.put, List.setIfInBounds_toArray, List.set_cons_zero, List.set_cons_succ]
              refine wpParts_det (by rfl) (fun W hE hN => ?_) ?_
              · go_simp; refine ⟨Below.refl _ _, ?_⟩; rfl
              simp only [Act.put, List.setIfInBounds_toArray, List.set_cons_zero, List.set_cons_succ]
              refine wpParts_det (by rfl) (fun W hE hN => ?_) ?_
              · go_simp; refine ⟨Below.refl _ _, ?_⟩; rfl
              simp only [Act.put, List.setIfInBounds_toArray, List.set_cons_zero, List.set_cons_succ]
              refine wpParts_det (by rfl) (fun W hE hN => ?_) ?_
              · have hc := fun b o h => hE.cell (p := ⟨b, o, none⟩) h
                go_simp; refine ⟨Below.refl _ _, ?_⟩; rfl
              simp only [Act.put, List.setIfInBounds_toArray, List.set_cons_zero, List.set_cons_succ]
              refine wpParts_any rfl (KeyV.later) (by rfl) (fun W hE hN => ?_) (fun u9 => ?_)
              · go_simp; refine ⟨Below.refl _ _, ?_⟩; refine (HFR.out W (HWB.out.trans (hE.mono HWB.out.size))).mono ?_; rintro e w' ⟨ba, bn, bc, rfl, hK, hb⟩; exact ⟨_, rfl, hb, ba, bn, bc, rfl, hK.at_⟩
              simp only [Act.put, List.setIfInBounds_toArray, List.set_cons_zero, List.set_cons_succ]
              refine wpParts_det (by rfl) (fun W hE hN => ?_) ?_
              · simp [near, Oper.looksAt, Op.operands, Call.operands] at hN; obtain ⟨ba, bn, bc, rfl, hK⟩ := hN; go_simp; refine ⟨Below.refl _ _, ?_⟩; have h := Try_bytesEqual _ _ _ _ _ _ _ _ W (HKB7.out.ext hE) hK; rw [decide_eq_true rfl] at h; refine h.mono ?_; rintro e w' ⟨rfl, hb⟩; refine ⟨?_, hb⟩; rfl
              simp only [Act.put, List.setIfInBounds_toArray, List.set_cons_zero, List.set_cons_succ]
              refine wpParts_det (by rfl) (fun W hE hN => ?_) ?_
              · go_simp; refine ⟨Below.refl _ _, ?_⟩; rfl
              simp only [Act.put, List.setIfInBounds_toArray, List.set_cons_zero, List.set_cons_succ]
              refine wpParts_det (by rfl) (fun W hE hN => ?_) ?_
              · go_simp; refine ⟨Below.refl _ _, ?_⟩; rfl
              simp only [Act.put, List.setIfInBounds_toArray, List.set_cons_zero, List.set_cons_succ]
              refine wpParts_det (by rfl) (fun W hE hN => ?_) ?_
              · have hc := fun b o h => hE.cell (p := ⟨b, o, none⟩) h
                go_simp; refine ⟨Below.refl _ _, ?_⟩; rfl
              simp only [Act.put, List.setIfInBounds_toArray, List.set_cons_zero, List.set_cons_succ]
              refine wpParts_det (by rfl) (fun W hE hN => ?_) ?_
              · have hc := fun b o h => hE.cell (p := ⟨b, o, none⟩) h
                go_simp; refine ⟨Below.refl _ _, ?_⟩; rfl
              simp only [Act.put, List.setIfInBounds_toArray, List.set_cons_zero, List.set_cons_succ]
              refine wpParts_det (by rfl) (fun W hE hN => ?_) ?_
              · go_simp; refine ⟨Below.refl _ _, ?_⟩; refine (HRR.out W (HWB.out.trans (hE.mono HWB.out.size))).mono ?_; rintro e w' ⟨rfl, hb⟩; refine ⟨?_, hb⟩; rfl
              simp only [Act.put, List.setIfInBounds_toArray, List.set_cons_zero, List.set_cons_succ]
              refine wpParts_det (by rfl) (fun W hE hN => ?_) ?_
              · go_simp; refine ⟨Below.refl _ _, ?_⟩; rfl
              simp only [Act.put, List.setIfInBounds_toArray, List.set_cons_zero, List.set_cons_succ]
              refine wpParts_det (by rfl) (fun W hE hN => ?_) ?_
              · go_simp; refine ⟨Below.refl _ _, ?_⟩; rfl
              simp only [Act.put, List.setIfInBounds_toArray, List.set_cons_zero, List.set_cons_succ]
              refine wpParts_det (by rfl) (fun W hE hN => ?_) ?_
              · go_simp; refine ⟨Below.refl _ _, ?_⟩; rfl
              simp only [Act.put, List.setIfInBounds_toArray, List.set_cons_zero, List.set_cons_succ]
              refine wpParts_end fun WF hEF hGF => ?_
              have hcWF := fun b o h => hEF.cell (p := ⟨b, o, none⟩) h
              have hfWF := fun b o h => hEF.frozen (p := ⟨b, o, none⟩) h
              have HBG := Lib.hid (HBF.out.trans (hEF.mono HBF.out.size))
              clear hEF hGF hcWF hfWF e9 f9 g9 t9 v9 x9
              go_wp2
              go_ret
              exact ⟨ret_bool (by simp), HBG.out⟩
end Go.Proofs.Ytfhhcpolicdfpaa
