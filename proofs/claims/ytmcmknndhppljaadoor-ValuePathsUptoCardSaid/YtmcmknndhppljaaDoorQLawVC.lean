/-
  The law ValuePaths, walked.
-/
import Derived.Test.YtmcmknndhppljaaDoorQPthA
namespace Go.Proofs.YtmcmknndhppljaaDoor
set_option linter.unusedVariables false
set_option linter.unusedSimpArgs false
open Go.RowKit Go.Dav
attribute [local go_sem] Gives GivesK ite_val ite_val_true

set_option maxRecDepth 8000 in
set_option maxHeartbeats 16000000 in
theorem Tryd_ValuePaths (d : Nat) (x : ValN d) (v : Value) (pa qa : Option Addr) (pn pc qn qc : Nat) (l m : List ByteArray) (w : World) (hv : ValAt w d v x) (hp : StrsAt w pa pn pc l) (hq : StrsAt w qa qn qc m) (hpn : pn ≤ 1048576) (hqn : qn ≤ 1048576) (hN : GlobAt w 0 [.int .i64 0, .int .i64 0] 143) :
    Calls Tryd.prog 11 #[v, .slice pa pn pc, .slice qa qn qc] w fun e' w' => e' = .returned (.bool true) ∧ Below w.heap.size w w' := by
  obtain ⟨d, rfl⟩ := hv.pos
  obtain ⟨kind, n, s, ka, kl, kc, ra, rl, rc, rfl⟩ := hv.agg
  have hg : ∀ W, Below w.heap.size w W → GlobAt W 0 [.int .i64 0, .int .i64 0] 143 := fun W hb => hN.ext hb
  obtain ⟨r, hr⟩ : ∃ r, rightV (d + 1) x = r := ⟨_, rfl⟩
  obtain ⟨pm, hpm⟩ : ∃ pm, min pn 9 = pm := ⟨_, rfl⟩
  obtain ⟨qm, hqm⟩ : ∃ qm, min qn 9 = qm := ⟨_, rfl⟩
  have hL := hp.take (m := pm) (by omega)
  have hM := hq.take (m := qm) (by omega)
  obtain ⟨L, hLe⟩ : ∃ L, l.take pm = L := ⟨_, rfl⟩
  obtain ⟨M, hMe⟩ : ∃ M, m.take qm = M := ⟨_, rfl⟩
  rw [hLe] at hL
  rw [hMe] at hM
  have e1 : min (pn : Int) 9 = (pm : Int) := by omega
  have e2 : min (qn : Int) 9 = (qm : Int) := by omega
  have p1 : (pm : Int) ≤ 9 := by omega
  have p2 : (qm : Int) ≤ 9 := by omega
  have p3 : pm ≤ pc := by have := hp.hcap; omega
  have p4 : qm ≤ qc := by have := hq.hcap; omega
  have E1 := Lib.hid e1
  have E2 := Lib.hid e2
  have HL := Lib.hid hL
  have HM := Lib.hid hM
  have hLl : L.length = pm := hL.hlen
  have hMl : M.length = qm := hM.hlen
  have HLl := Lib.hid hLl
  have HMl := Lib.hid hMl
  have HSZ := Lib.hid (show ∀ s ∈ L ++ M, s.size ≤ 17592186044416 from fun s hs => by
    rcases List.mem_append.1 hs with h | h
    · exact hL.hsz s h
    · exact hM.hsz s h)
  obtain ⟨g, hgp⟩ : ∃ g, pathR (d + 1) x (L ++ M) = g := ⟨_, rfl⟩
  obtain ⟨k, hkp⟩ : ∃ k, pathR (d + 1) x L = k := ⟨_, rfl⟩
  have HGP := Lib.hid hgp
  have HKP := Lib.hid hkp
  have b0 : Below w.heap.size w (w.alloc (.cells #[.int .i64 kind, .int .i64 n, .string s, .slice ka kl kc, .slice ra rl rc] 39)) := (by repeat (first | (with_reducible exact Below.refl _ _) | (with_reducible exact Below.refl _ _) | (with_reducible refine Below.setCell ?_ (by first | omega | (simp; done) | (simp; omega)) _) | (with_reducible refine Below.alloc ?_ (by first | omega | (simp; done) | (simp; omega)) _) | (with_reducible refine Below.drew ?_) | (with_reducible refine below_drewN ?_ _)))
  have HW := Lib.hid (Tryd_wakes04 _ (hg _ b0))
  have B0 := Lib.hid b0
  have X0 := Lib.hid (Blk.new w [.int .i64 kind, .int .i64 n, .string s, .slice ka kl kc, .slice ra rl rc] 39)
  have HV := Lib.hid hv
  have HG := Lib.hid hg
  have HR := Lib.hid hr
  clear hr hg hv hN b0 hp hq hL hM hLe hMe hpm hqm e1 e2 hLl hMl hgp hkp
  go_enter Tryd.func11, Tryd.ntmps11
  go_wp2_with fail
  refine HW.out.mono ?_; rintro e' w1 ⟨rfl, hb1⟩
  have B1 := Lib.hid (B0.out.trans (hb1.mono B0.out.size))
  have X1 := Lib.hid (X0.out.ext hb1)
  have q1 := X1.out.cells
  have lt1 := X1.out.lt
  clear hb1 HW X0 B0
  go_wp2_with fail
  refine' wp_region_seq [.inr (NilRow w1.heap.size 9), .inl _, .inl _, .inl _, .inl _, .inl _, .inr (OwnC w1.heap.size 9 (strsV L)), .inr (NilRow w1.heap.size 9), .inl _, .inl _, .inl _, .inl _, .inl _, .inr (OwnC w1.heap.size 9 (strsV M))] (by kernel_rfl) (by kernel_rfl) ?main1
  case main1 =>
    refine wpParts_any rfl (NilRow.later) (by rfl) (fun W hE hN => ?_) (fun u0 => ?_)
    · go_simp; exact nilRow_alloc hE.size
    simp only [Act.put, List.setIfInBounds_toArray, List.set_cons_zero, List.set_cons_succ]
    refine wpParts_det (by rfl) (fun W hE hN => ?_) ?_
    · go_simp; refine ⟨Below.refl _ _, ?_⟩; rfl
    simp only [Act.put, List.setIfInBounds_toArray, List.set_cons_zero, List.set_cons_succ]
    refine wpParts_det (by rfl) (fun W hE hN => ?_) ?_
    · go_simp; refine ⟨Below.refl _ _, ?_⟩; rfl
    simp only [Act.put, List.setIfInBounds_toArray, List.set_cons_zero, List.set_cons_succ]
    refine wpParts_det (by rfl) (fun W hE hN => ?_) ?_
    · go_simp; refine ⟨Below.refl _ _, ?_⟩; rfl
    simp only [Act.put, List.setIfInBounds_toArray, List.set_cons_zero, List.set_cons_succ]
    refine wpParts_det (by rfl) (fun W hE hN => ?_) ?_
    · go_simp; refine ⟨Below.refl _ _, ?_⟩; rw [E1.out]
    simp only [Act.put, List.setIfInBounds_toArray, List.set_cons_zero, List.set_cons_succ]
    refine wpParts_det (by rfl) (fun W hE hN => ?_) ?_
    · go_simp; refine ⟨Below.refl _ _, ?_⟩; rfl
    simp only [Act.put, List.setIfInBounds_toArray, List.set_cons_zero, List.set_cons_succ]
    refine wpParts_any rfl (OwnC.later) (by rfl) (fun W hE hN => ?_) (fun u6 => ?_)
    · exact gives_appendNil rfl Tryd_elemStr rfl rfl (show NilRow w1.heap.size 9 u0 W ∧ True from hN).1 (HL.out.ext (B1.out.trans (hE.mono B1.out.size))).cells (strsV_one _) (by unfold maxLen; omega) (by omega) hE.size
    simp only [Act.put, List.setIfInBounds_toArray, List.set_cons_zero, List.set_cons_succ]
    refine wpParts_any rfl (NilRow.later) (by rfl) (fun W hE hN => ?_) (fun u7 => ?_)
    · go_simp; exact nilRow_alloc hE.size
    simp only [Act.put, List.setIfInBounds_toArray, List.set_cons_zero, List.set_cons_succ]
    refine wpParts_det (by rfl) (fun W hE hN => ?_) ?_
    · go_simp; refine ⟨Below.refl _ _, ?_⟩; rfl
    simp only [Act.put, List.setIfInBounds_toArray, List.set_cons_zero, List.set_cons_succ]
    refine wpParts_det (by rfl) (fun W hE hN => ?_) ?_
    · go_simp; refine ⟨Below.refl _ _, ?_⟩; rfl
    simp only [Act.put, List.setIfInBounds_toArray, List.set_cons_zero, List.set_cons_succ]
    refine wpParts_det (by rfl) (fun W hE hN => ?_) ?_
    · go_simp; refine ⟨Below.refl _ _, ?_⟩; rfl
    simp only [Act.put, List.setIfInBounds_toArray, List.set_cons_zero, List.set_cons_succ]
    refine wpParts_det (by rfl) (fun W hE hN => ?_) ?_
    · go_simp; refine ⟨Below.refl _ _, ?_⟩; rw [E2.out]
    simp only [Act.put, List.setIfInBounds_toArray, List.set_cons_zero, List.set_cons_succ]
    refine wpParts_det (by rfl) (fun W hE hN => ?_) ?_
    · go_simp; refine ⟨Below.refl _ _, ?_⟩; rfl
    simp only [Act.put, List.setIfInBounds_toArray, List.set_cons_zero, List.set_cons_succ]
    refine wpParts_any rfl (OwnC.later) (by rfl) (fun W hE hN => ?_) (fun u13 => ?_)
    · exact gives_appendNil rfl Tryd_elemStr rfl rfl (show NilRow w1.heap.size 9 u7 W ∧ True from hN).1 (HM.out.ext (B1.out.trans (hE.mono B1.out.size))).cells (strsV_one _) (by unfold maxLen; omega) (by omega) hE.size
    simp only [Act.put, List.setIfInBounds_toArray, List.set_cons_zero, List.set_cons_succ]
    refine wpParts_end fun w2 hE2 hG2 => ?_
    have hcw2 := fun b o h => hE2.cell (p := ⟨b, o, none⟩) h
    have hfw2 := fun b o h => hE2.frozen (p := ⟨b, o, none⟩) h
    obtain ⟨hM2, _, hL2, _⟩ := (show OwnC w1.heap.size 9 (strsV M) u13 w2 ∧ _ ∧ OwnC w1.heap.size 9 (strsV L) u6 w2 ∧ _ from hG2)
    obtain ⟨a6, c6, rfl, hs6⟩ := strs_of_own hL2 (fun s hs => HSZ.out s (List.mem_append_left _ hs)) (by have := HLl.out; omega)
    obtain ⟨a13, c13, rfl, hs13⟩ := strs_of_own hM2 (fun s hs => HSZ.out s (List.mem_append_right _ hs)) (by have := HMl.out; omega)
    have HS6 := Lib.hid hs6
    have HS13 := Lib.hid hs13
    have B2 := Lib.hid (B1.out.trans (hE2.mono B1.out.size))
    have X2 := Lib.hid (X1.out.ext hE2)
    have q1 := X2.out.cells
    have lt1 := X2.out.lt
    clear hE2 hG2 hM2 hL2 hs6 hs13 hcw2 hfw2
    go_wp2_with fail
    refine' wp_region_seqKF (PreK w2.heap.size 9 L.length) (goes_pre _ _ _) 5 [9] [.inl _, .inr (NilRow w2.heap.size 9), .inl _, .inr (OwnC w2.heap.size 9 (strsV L)), .inl _, .inr (OwnC w2.heap.size 9 (strsV L ++ strsV M)), .inr (fun v _ => ToldS g v w), .inr (fun v _ => ToldS g v w), .inr (fun v _ => ToldP g v w), .inl _, .inr (NewBlk w2.heap.size [.int .i64 0, .int .i64 0, .string ⟨#[]⟩, .slice none 0 0, .slice none 0 0] 39)] (by kernel_rfl) (by kernel_rfl) ?main2
    case main2 =>
      refine wpPartsK_det (by decide) (by rfl) (fun W hE hN => ?_) ?_
      · have q := (X2.out.ext hE.below).cells; go_simp; refine ⟨Below.refl _ _, ?_⟩; rfl
      simp only [Act.put, List.setIfInBounds_toArray, List.set_cons_zero, List.set_cons_succ]
      refine wpPartsK_any (by decide) rfl (NilRow.later) (NilRow.keep) (by rfl) (fun W hE hN => ?_) (fun u1 => ?_)
      · go_simp; exact nilRow_alloc hE.size
      simp only [Act.put, List.setIfInBounds_toArray, List.set_cons_zero, List.set_cons_succ]
      refine wpPartsK_det (by decide) (by rfl) (fun W hE hN => ?_) ?_
      · go_simp; refine ⟨Below.refl _ _, ?_⟩; rfl
      simp only [Act.put, List.setIfInBounds_toArray, List.set_cons_zero, List.set_cons_succ]
      refine wpPartsK_any (by decide) rfl (OwnC.later) (OwnC.keep (by rw [strsV_len])) (by rfl) (fun W hE hN => ?_) (fun u3 => ?_)
      · exact gives_appendNil rfl Tryd_elemStr rfl rfl (show NilRow w2.heap.size 9 u1 W ∧ True from hN).1 (HS6.out.ext hE.below).cells (strsV_one _) (by have := HLl.out; unfold maxLen; omega) (by have := HLl.out; omega) hE.size
      simp only [Act.put, List.setIfInBounds_toArray, List.set_cons_zero, List.set_cons_succ]
      refine wpPartsK_det (by decide) (by rfl) (fun W hE hN => ?_) ?_
      · go_simp; refine ⟨Below.refl _ _, ?_⟩; rfl
      simp only [Act.put, List.setIfInBounds_toArray, List.set_cons_zero, List.set_cons_succ]
      refine wpPartsK_writes (by decide) rfl (OwnC.later) (by rfl) (fun W hE hN => ?_) (fun u5 => ?_)
      · exact givesK_appendPre rfl Tryd_elemStr rfl rfl (show OwnC w2.heap.size 9 (strsV L) u3 W ∧ True from hN).1 (by rw [strsV_len]) (HS13.out.ext hE).cells (strsV_one _) HS13.out.hnil (by rw [strsV_len]; have := HLl.out; have := HMl.out; unfold maxLen; omega) (by rw [strsV_len]; have := HLl.out; have := HMl.out; omega) hE.size
      simp only [Act.put, List.setIfInBounds_toArray, List.set_cons_zero, List.set_cons_succ]
      refine wpPartsK_any (by decide) rfl (fun _ _ _ h _ => h) (fun _ _ _ h _ => h) (by rfl) (fun W hE hN => ?_) (fun u6 => ?_)
      · obtain ⟨a5, c5, rfl, hst⟩ := strs_of_own (l := L ++ M) (by rw [strsV_append]; exact (show OwnC w2.heap.size 9 (strsV L ++ strsV M) u5 W ∧ True from hN).1) HSZ.out (by rw [List.length_append]; have := HLl.out; have := HMl.out; omega); obtain ⟨n5, hn5⟩ : ∃ n5, (L ++ M).length = n5 := ⟨_, rfl⟩; rw [hn5] at hst ⊢; clear hn5; go_simp; refine ⟨Below.refl _ _, ?_⟩; have hbb := B2.out.trans (hE.below.mono B2.out.size); (with_reducible refine (Tryd_Path d x _ a5 n5 c5 (L ++ M) w W HV.out hbb hst (HG.out W hbb)).mono ?_); rw [HGP.out]; rintro e w' ⟨⟨u, rfl, hu⟩, hb⟩; exact ⟨_, rfl, hb, hu⟩
      simp only [Act.put, List.setIfInBounds_toArray, List.set_cons_zero, List.set_cons_succ]
      refine wpPartsK_any (by decide) rfl (fun _ _ _ h _ => h) (fun _ _ _ h _ => h) (by rfl) (fun W hE hN => ?_) (fun u7 => ?_)
      · have h := (show ToldS g u6 w ∧ True from hN).1; go_simp; first | exact ⟨Below.refl _ _, h⟩ | exact Below.refl _ _
      simp only [Act.put, List.setIfInBounds_toArray, List.set_cons_zero, List.set_cons_succ]
      refine wpPartsK_any (by decide) rfl (fun _ _ _ h _ => h) (fun _ _ _ h _ => h) (by rfl) (fun W hE hN => ?_) (fun u8 => ?_)
      · have h := (show ToldS g u7 w ∧ True from hN).1; obtain ⟨a7, rfl, ha7⟩ := h.parts; go_simp; first | exact ⟨Below.refl _ _, ha7⟩ | exact Below.refl _ _
      simp only [Act.put, List.setIfInBounds_toArray, List.set_cons_zero, List.set_cons_succ]
      refine wpPartsK_det (by decide) (by rfl) (fun W hE hN => ?_) ?_
      · have h := (show ToldS g u7 w ∧ True from hN).1; obtain ⟨a7, rfl, ha7⟩ := h.parts; go_simp; refine ⟨Below.refl _ _, ?_⟩; rfl
      simp only [Act.put, List.setIfInBounds_toArray, List.set_cons_zero, List.set_cons_succ]
      refine wpPartsK_any (by decide) rfl (NewBlk.later) (newBlk_pre (by decide)) (by rfl) (fun W hE hN => ?_) (fun u10 => ?_)
      · go_simp; exact newBlk_alloc (cs := [.int .i64 0, .int .i64 0, .string ⟨#[]⟩, .slice none 0 0, .slice none 0 0]) hE.size
      simp only [Act.put, List.setIfInBounds_toArray, List.set_cons_zero, List.set_cons_succ]
      refine wpPartsK_end fun w3 hE3 hG3 => ?_
      obtain ⟨hn10, hp8, _⟩ := (show NewBlk w2.heap.size [.int .i64 0, .int .i64 0, .string ⟨#[]⟩, .slice none 0 0, .slice none 0 0] 39 u10 w3 ∧ ToldP g u8 w ∧ _ from hG3)
      obtain ⟨p10, rfl, hlt10, hbk⟩ := hn10
      obtain ⟨k8, n8, s8, a8, l8, c8, e8, f8, g8, rfl⟩ := hp8.agg
      have HP8 := Lib.hid hp8
      obtain ⟨gi, hgi⟩ : ∃ gi, g.isSome = gi := ⟨_, rfl⟩
      rw [hgi]
      have HGI := Lib.hid hgi
      have hbw3 := hE3.below
      have B3 := Lib.hid (B2.out.trans (hbw3.mono B2.out.size))
      have X3 := Lib.hid (X2.out.ext hbw3)
      have HB23 := Lib.hid hbw3
      have q10 := hbk.cells
      have m10 := hbk.marks
      have l10 := hbk.lt
      have HBK := Lib.hid hbk
      have hlt10' : w2.heap.size ≤ p10 := hlt10
      have hp10 : w.heap.size ≤ p10 := Nat.le_trans B2.out.size hlt10'
      have hne1 : w.heap.size ≠ p10 := by have := X2.out.lt; omega
      have hne2 : p10 ≠ w.heap.size := Ne.symm hne1
      have q3 := X3.out.cells
      have lt3 := X3.out.lt
      clear hE3 hG3 hp8 hbk hbw3 hgi q1 lt1 hlt10
      go_wp2_with fail
      refine noPanic_normal ?_
      go_wp2_with fail
      obtain ⟨W4, hW4⟩ : ∃ W4, ((((w3.setCell ⟨p10, 0, none⟩ (.int .i64 k8)).setCell ⟨p10, 1, none⟩ (.int .i64 n8)).setCell ⟨p10, 2, none⟩ (.string s8)).setCell ⟨p10, 3, none⟩ (.slice a8 l8 c8)).setCell ⟨p10, 4, none⟩ (.slice e8 f8 g8) = W4 := ⟨_, rfl⟩
      have hO4 : Below w2.heap.size w3 W4 := by
        rw [← hW4]
        exact ((((((Below.refl _ _).setCell (p := ⟨p10, 0, none⟩) hlt10' _).setCell (p := ⟨p10, 1, none⟩) hlt10' _).setCell (p := ⟨p10, 2, none⟩) hlt10' _).setCell (p := ⟨p10, 3, none⟩) hlt10' _).setCell (p := ⟨p10, 4, none⟩) hlt10' _)
      have HO4 := Lib.hid hO4
      have X4 := Lib.hid (show Blk W4 w.heap.size [.int .i64 kind, .int .i64 n, .string s, .slice ka kl kc, .slice ra rl rc] 39 from by rw [← hW4]; exact X3.out.fiveS2 hne1 _ _ _ _ _)
      have Y4 := Lib.hid (show Blk W4 p10 [.int .i64 k8, .int .i64 n8, .string s8, .slice a8 l8 c8, .slice e8 f8 g8] 39 from by rw [← hW4]; exact HBK.out.fiveV _ _ _ _ _)
      have B4 := Lib.hid (B3.out.trans (hO4.mono B2.out.size))
      have HT6 := Lib.hid (HS6.out.ext (HB23.out.trans hO4))
      have HT13 := Lib.hid (HS13.out.ext (HB23.out.trans hO4))
      rw [hW4]
      clear hW4 hO4 HO4 HB23 HBK X3 B3 X2 B2 HS6 HS13 q10 m10 l10 hlt10' hp10 hne1 hne2 q3 lt3
      refine (Tryd_Path d x _ a6 L.length c6 L w W4 HV.out B4.out HT6.out (HG.out _ B4.out)).mono ?_
      rw [HKP.out]
      rintro e' w5 ⟨⟨u5', rfl, hu5⟩, hb5⟩
      obtain ⟨u5', rfl, hp5⟩ := hu5.parts
      obtain ⟨k5, n5, s5, a5, l5, c5, e5, f5, g5, rfl⟩ := hp5.agg
      obtain ⟨ki, hki⟩ : ∃ ki, k.isSome = ki := ⟨_, rfl⟩
      rw [hki]
      have HKI := Lib.hid hki
      have HP5 := Lib.hid hp5
      have B5 := Lib.hid (B4.out.trans (hb5.mono B4.out.size))
      have hbA : Below w5.heap.size w5 (w5.alloc (.cells #[.int .i64 k5, .int .i64 n5, .string s5, .slice a5 l5 c5, .slice e5 f5 g5] 39)) := (by repeat (first | (with_reducible exact Below.refl _ _) | (with_reducible exact Below.refl _ _) | (with_reducible refine Below.setCell ?_ (by first | omega | (simp; done) | (simp; omega)) _) | (with_reducible refine Below.alloc ?_ (by first | omega | (simp; done) | (simp; omega)) _) | (with_reducible refine Below.drew ?_) | (with_reducible refine below_drewN ?_ _)))
      have BA := Lib.hid (B5.out.trans (hbA.mono B5.out.size))
      have X5 := Lib.hid ((X4.out.ext hb5).ext hbA)
      have Y5 := Lib.hid ((Y4.out.ext hb5).ext hbA)
      have Z5 := Lib.hid (Blk.new w5 [.int .i64 k5, .int .i64 n5, .string s5, .slice a5 l5 c5, .slice e5 f5 g5] 39)
      have HT13 := Lib.hid ((HT13.out.ext hb5).ext hbA)
      clear hki hp5 hu5 hb5 hbA X4 Y4 B4 HT6
      cases k with
      | none =>
        have hg0 : g = none := by
          rw [← HGP.out]
          have h := HKP.out
          unfold pathR at h ⊢
          by_cases hr : rightV (d + 1) x = true
          · rw [if_pos hr] at h ⊢
            rw [pathV_append, h]
          · rw [if_neg hr]
        have hgi : gi = false := by rw [← HGI.out, hg0]; rfl
        have hki : ki = false := by rw [← HKI.out]; rfl
        subst hgi
        subst hki
        go_wp2
        go_ret
        exact ⟨rfl, BA.out⟩
      | some z =>
        have hki : ki = true := by rw [← HKI.out]; rfl
        subst hki
        obtain ⟨zd, zx⟩ := z
        have hz5 : ValAt w zd _ zx := HP5.out
        obtain ⟨e, rfl⟩ := hz5.pos
        have hkp := HKP.out
        have hgp := HGP.out
        have hrx : rightV (d + 1) x = true := by
          unfold pathR at hkp
          split at hkp
          · assumption
          · cases hkp
        unfold pathR at hkp hgp
        rw [if_pos hrx] at hkp hgp
        rw [pathV_append, hkp] at hgp
        obtain ⟨hrz, hdz⟩ := pathV_right _ _ _ _ hrx hkp
        have hgz : pathR (e + 1) zx M = g := by unfold pathR; rw [if_pos hrz]; exact hgp
        have HY := Lib.hid (show ∀ y, g = some y → rightV y.d y.x = true ∧ depthV y.d y.x + M.length ≤ depthV (e + 1) zx from fun y hy => pathV_right _ _ _ _ hrz (hgp.trans hy))
        have HZ5 := Lib.hid hz5
        have HDZ := Lib.hid hdz
        have HRX := Lib.hid hrx
        have HGZ := Lib.hid hgz
        have qz := Z5.out.cells
        have ltz := Z5.out.lt
        clear hz5 hkp hgp hrx hrz hdz hgz HP5 HKP HGP HKI
        go_wp2_with fail
        refine (Tryd_Path e zx _ a13 M.length c13 M w _ HZ5.out BA.out HT13.out (HG.out _ BA.out)).mono ?_
        rw [HGZ.out]
        rintro e' w6 ⟨⟨u6', rfl, hu6⟩, hb6⟩
        obtain ⟨u6', rfl, hp6⟩ := hu6.parts
        obtain ⟨k6, n6, s6, a6', l6, c6', e6, f6, g6, rfl⟩ := hp6.agg
        rw [HGI.out]
        have HP6 := Lib.hid hp6
        have B6 := Lib.hid (BA.out.trans (hb6.mono BA.out.size))
        have hbB : Below w6.heap.size w6 (w6.alloc (.cells #[.int .i64 k6, .int .i64 n6, .string s6, .slice a6' l6 c6', .slice e6 f6 g6] 39)) := (by repeat (first | (with_reducible exact Below.refl _ _) | (with_reducible exact Below.refl _ _) | (with_reducible refine Below.setCell ?_ (by first | omega | (simp; done) | (simp; omega)) _) | (with_reducible refine Below.alloc ?_ (by first | omega | (simp; done) | (simp; omega)) _) | (with_reducible refine Below.drew ?_) | (with_reducible refine below_drewN ?_ _)))
        have BB := Lib.hid (B6.out.trans (hbB.mono B6.out.size))
        have X6 := Lib.hid (X5.out.ext hb6)
        have Y6 := Lib.hid (Y5.out.ext hb6)
        clear hp6 hu6 hb6 hbB X5 Y5 Z5 B5 BA HT13 qz ltz
        cases g with
        | none =>
          have hgi : gi = false := by rw [← HGI.out]; rfl
          subst hgi
          go_wp2_with fail
          refine' wp_region_seq [(Sum.inl _ : Piece), (Sum.inl _ : Piece), (Sum.inl _ : Piece), (Sum.inl _ : Piece), (Sum.inl _ : Piece), (Sum.inl _ : Piece), (Sum.inl _ : Piece), (Sum.inl undef : Piece), (Sum.inl undef : Piece), (Sum.inl undef : Piece), (Sum.inl undef : Piece), (Sum.inl undef : Piece), (Sum.inl undef : Piece), (Sum.inl undef : Piece), (Sum.inl undef : Piece), (Sum.inl undef : Piece), (Sum.inl undef : Piece), (Sum.inl undef : Piece), (Sum.inl undef : Piece), (Sum.inl undef : Piece), (Sum.inl undef : Piece), (Sum.inl undef : Piece), (Sum.inl undef : Piece), (Sum.inl _ : Piece), (Sum.inl _ : Piece), (Sum.inl _ : Piece)] (by kernel_rfl) (by kernel_rfl) ?main3
          case main3 =>
            refine wpParts_det (by rfl) (fun W hE hN => ?_) ?_
            · go_simp; refine ⟨Below.refl _ _, ?_⟩; rfl
            simp only [Act.put, List.setIfInBounds_toArray, List.set_cons_zero, List.set_cons_succ]
            refine wpParts_det (by rfl) (fun W hE hN => ?_) ?_
            · go_simp; refine ⟨Below.refl _ _, ?_⟩; rfl
            simp only [Act.put, List.setIfInBounds_toArray, List.set_cons_zero, List.set_cons_succ]
            refine wpParts_det (by rfl) (fun W hE hN => ?_) ?_
            · go_simp; refine ⟨Below.refl _ _, ?_⟩; rfl
            simp only [Act.put, List.setIfInBounds_toArray, List.set_cons_zero, List.set_cons_succ]
            refine wpParts_det (by rfl) (fun W hE hN => ?_) ?_
            · go_simp; refine ⟨Below.refl _ _, ?_⟩; rfl
            simp only [Act.put, List.setIfInBounds_toArray, List.set_cons_zero, List.set_cons_succ]
            refine wpParts_det (by rfl) (fun W hE hN => ?_) ?_
            · go_simp; refine ⟨Below.refl _ _, ?_⟩; rfl
            simp only [Act.put, List.setIfInBounds_toArray, List.set_cons_zero, List.set_cons_succ]
            refine wpParts_det (by rfl) (fun W hE hN => ?_) ?_
            · go_simp; refine ⟨Below.refl _ _, ?_⟩; rfl
            simp only [Act.put, List.setIfInBounds_toArray, List.set_cons_zero, List.set_cons_succ]
            refine wpParts_det (by rfl) (fun W hE hN => ?_) ?_
            · go_simp; refine ⟨Below.refl _ _, ?_⟩; rfl
            simp only [Act.put, List.setIfInBounds_toArray, List.set_cons_zero, List.set_cons_succ]
            refine wpParts_skip ?_ ?_
            · rfl
            simp only [Act.put, List.setIfInBounds_toArray, List.set_cons_zero, List.set_cons_succ]
            refine wpParts_skip ?_ ?_
            · rfl
            simp only [Act.put, List.setIfInBounds_toArray, List.set_cons_zero, List.set_cons_succ]
            refine wpParts_skip ?_ ?_
            · rfl
            simp only [Act.put, List.setIfInBounds_toArray, List.set_cons_zero, List.set_cons_succ]
            refine wpParts_skip ?_ ?_
            · rfl
            simp only [Act.put, List.setIfInBounds_toArray, List.set_cons_zero, List.set_cons_succ]
            refine wpParts_skip ?_ ?_
            · rfl
            simp only [Act.put, List.setIfInBounds_toArray, List.set_cons_zero, List.set_cons_succ]
            refine wpParts_skip ?_ ?_
            · rfl
            simp only [Act.put, List.setIfInBounds_toArray, List.set_cons_zero, List.set_cons_succ]
            refine wpParts_skip ?_ ?_
            · rfl
            simp only [Act.put, List.setIfInBounds_toArray, List.set_cons_zero, List.set_cons_succ]
            refine wpParts_skip ?_ ?_
            · rfl
            simp only [Act.put, List.setIfInBounds_toArray, List.set_cons_zero, List.set_cons_succ]
            refine wpParts_skip ?_ ?_
            · rfl
            simp only [Act.put, List.setIfInBounds_toArray, List.set_cons_zero, List.set_cons_succ]
            refine wpParts_skip ?_ ?_
            · rfl
            simp only [Act.put, List.setIfInBounds_toArray, List.set_cons_zero, List.set_cons_succ]
            refine wpParts_skip ?_ ?_
            · rfl
            simp only [Act.put, List.setIfInBounds_toArray, List.set_cons_zero, List.set_cons_succ]
            refine wpParts_skip ?_ ?_
            · rfl
            simp only [Act.put, List.setIfInBounds_toArray, List.set_cons_zero, List.set_cons_succ]
            refine wpParts_skip ?_ ?_
            · rfl
            simp only [Act.put, List.setIfInBounds_toArray, List.set_cons_zero, List.set_cons_succ]
            refine wpParts_skip ?_ ?_
            · rfl
            simp only [Act.put, List.setIfInBounds_toArray, List.set_cons_zero, List.set_cons_succ]
            refine wpParts_skip ?_ ?_
            · rfl
            simp only [Act.put, List.setIfInBounds_toArray, List.set_cons_zero, List.set_cons_succ]
            refine wpParts_skip ?_ ?_
            · rfl
            simp only [Act.put, List.setIfInBounds_toArray, List.set_cons_zero, List.set_cons_succ]
            refine wpParts_det (by rfl) (fun W hE hN => ?_) ?_
            · go_simp; refine ⟨Below.refl _ _, ?_⟩; rfl
            simp only [Act.put, List.setIfInBounds_toArray, List.set_cons_zero, List.set_cons_succ]
            refine wpParts_det (by rfl) (fun W hE hN => ?_) ?_
            · go_simp; refine ⟨Below.refl _ _, ?_⟩; rfl
            simp only [Act.put, List.setIfInBounds_toArray, List.set_cons_zero, List.set_cons_succ]
            refine wpParts_det (by rfl) (fun W hE hN => ?_) ?_
            · go_simp; refine ⟨Below.refl _ _, ?_⟩; rfl
            simp only [Act.put, List.setIfInBounds_toArray, List.set_cons_zero, List.set_cons_succ]
            refine wpParts_end fun W7 hE7 hG7 => ?_
            have hcW7 := fun b o h => hE7.cell (p := ⟨b, o, none⟩) h
            have hfW7 := fun b o h => hE7.frozen (p := ⟨b, o, none⟩) h
            go_wp2
            go_ret
            exact ⟨rfl, BB.out.trans (hE7.mono BB.out.size)⟩
        | some y =>
          have hgi : gi = true := by rw [← HGI.out]; rfl
          subst hgi
          obtain ⟨yd, yx⟩ := y
          have hy8 : ValAt w yd _ yx := HP8.out
          have hy6 : ValAt w yd _ yx := HP6.out
          obtain ⟨hry, hdy⟩ := HY.out _ rfl
          have hry : rightV yd yx = true := hry
          have hdx := (meas_right HRX.out).2.1
          have hdy : depthV yd yx + M.length ≤ depthV (e + 1) zx := hdy
          have hdz : depthV (e + 1) zx + L.length ≤ depthV (d + 1) x := HDZ.out
          obtain ⟨D1, hD1⟩ : ∃ D1, depthV yd yx = D1 := ⟨_, rfl⟩
          obtain ⟨D2, hD2⟩ : ∃ D2, depthV (d + 1) x = D2 := ⟨_, rfl⟩
          rw [hD1] at hdy
          rw [hD2] at hdz hdx
          have HSM := Lib.hid (fun W (hb : Below w.heap.size w W) => by have q := Tryd_vSame yd yd yx yx _ _ W (ValAt.ext hb _ hy8) (ValAt.ext hb _ hy6) (HG.out W hb); rw [sameV_self, hry] at q; exact q)
          have HD1 := Lib.hid (fun W (hb : Below w.heap.size w W) => by have q := Tryd_vDepth yd yx _ W (ValAt.ext hb _ hy8) (HG.out W hb); rw [hry, hD1, show ifR true D1 = (D1 : Int) from rfl] at q; exact q)
          have HD2 := Lib.hid (fun W (hb : Below w.heap.size w W) => by have q := Tryd_vDepth (d + 1) x _ W (ValAt.ext hb _ HV.out) (HG.out W hb); rw [HRX.out, hD2, show ifR true D2 = (D2 : Int) from rfl] at q; exact q)
          have u1 : IntKind.i64.wrap ((D1 : Int) + (L.length : Int)) = (D1 : Int) + (L.length : Int) := IntWalk.i64_in _ (by omega)
          have u2 : IntKind.i64.wrap ((D1 : Int) + (L.length : Int) + (M.length : Int)) = (D1 : Int) + (L.length : Int) + (M.length : Int) := IntWalk.i64_in _ (by omega)
          have u3 : (D1 : Int) + (L.length : Int) + (M.length : Int) ≤ (D2 : Int) := by omega
          have u4 : decide ((D1 : Int) + (L.length : Int) + (M.length : Int) ≤ (D2 : Int)) = true := decide_eq_true u3
          have qx := X6.out.cells
          have ltx := X6.out.lt
          have qy := Y6.out.cells
          have lty := Y6.out.lt
          clear hy8 hy6 hry hdy hdx hdz hD1 hD2 HY HDZ
          go_wp2_with fail
          refine' wp_region_seq [(Sum.inl _ : Piece), (Sum.inl _ : Piece), (Sum.inl _ : Piece), (Sum.inl _ : Piece), (Sum.inl _ : Piece), (Sum.inl _ : Piece), (Sum.inl _ : Piece), (Sum.inl _ : Piece), (Sum.inl _ : Piece), (Sum.inl _ : Piece), (Sum.inl _ : Piece), (Sum.inl _ : Piece), (Sum.inl _ : Piece), (Sum.inl _ : Piece), (Sum.inl _ : Piece), (Sum.inl _ : Piece), (Sum.inl _ : Piece), (Sum.inl _ : Piece), (Sum.inl _ : Piece), (Sum.inl _ : Piece), (Sum.inl _ : Piece), (Sum.inl _ : Piece), (Sum.inl _ : Piece), (Sum.inl _ : Piece), (Sum.inl _ : Piece), (Sum.inl _ : Piece)] (by kernel_rfl) (by kernel_rfl) ?main4
          case main4 =>
            refine wpParts_det (by rfl) (fun W hE hN => ?_) ?_
            · go_simp; refine ⟨Below.refl _ _, ?_⟩; rfl
            simp only [Act.put, List.setIfInBounds_toArray, List.set_cons_zero, List.set_cons_succ]
            refine wpParts_det (by rfl) (fun W hE hN => ?_) ?_
            · go_simp; refine ⟨Below.refl _ _, ?_⟩; rfl
            simp only [Act.put, List.setIfInBounds_toArray, List.set_cons_zero, List.set_cons_succ]
            refine wpParts_det (by rfl) (fun W hE hN => ?_) ?_
            · go_simp; refine ⟨Below.refl _ _, ?_⟩; rfl
            simp only [Act.put, List.setIfInBounds_toArray, List.set_cons_zero, List.set_cons_succ]
            refine wpParts_det (by rfl) (fun W hE hN => ?_) ?_
            · go_simp; refine ⟨Below.refl _ _, ?_⟩; rfl
            simp only [Act.put, List.setIfInBounds_toArray, List.set_cons_zero, List.set_cons_succ]
            refine wpParts_det (by rfl) (fun W hE hN => ?_) ?_
            · go_simp; refine ⟨Below.refl _ _, ?_⟩; rfl
            simp only [Act.put, List.setIfInBounds_toArray, List.set_cons_zero, List.set_cons_succ]
            refine wpParts_det (by rfl) (fun W hE hN => ?_) ?_
            · go_simp; refine ⟨Below.refl _ _, ?_⟩; rfl
            simp only [Act.put, List.setIfInBounds_toArray, List.set_cons_zero, List.set_cons_succ]
            refine wpParts_det (by rfl) (fun W hE hN => ?_) ?_
            · go_simp; refine ⟨Below.refl _ _, ?_⟩; rfl
            simp only [Act.put, List.setIfInBounds_toArray, List.set_cons_zero, List.set_cons_succ]
            refine wpParts_det (by rfl) (fun W hE hN => ?_) ?_
            · have hc := fun b o h => hE.cell (p := ⟨b, o, none⟩) h
              go_simp; refine ⟨Below.refl _ _, ?_⟩; rfl
            simp only [Act.put, List.setIfInBounds_toArray, List.set_cons_zero, List.set_cons_succ]
            refine wpParts_det (by rfl) (fun W hE hN => ?_) ?_
            · have hc := fun b o h => hE.cell (p := ⟨b, o, none⟩) h
              go_simp; refine ⟨Below.refl _ _, ?_⟩; rfl
            simp only [Act.put, List.setIfInBounds_toArray, List.set_cons_zero, List.set_cons_succ]
            refine wpParts_det (by rfl) (fun W hE hN => ?_) ?_
            · go_simp; refine ⟨Below.refl _ _, ?_⟩; refine (HSM.out W (BB.out.trans (hE.mono BB.out.size))).mono ?_; rintro e' w' ⟨rfl, hb⟩; refine ⟨?_, hb⟩; rfl
            simp only [Act.put, List.setIfInBounds_toArray, List.set_cons_zero, List.set_cons_succ]
            refine wpParts_det (by rfl) (fun W hE hN => ?_) ?_
            · go_simp; refine ⟨Below.refl _ _, ?_⟩; rfl
            simp only [Act.put, List.setIfInBounds_toArray, List.set_cons_zero, List.set_cons_succ]
            refine wpParts_det (by rfl) (fun W hE hN => ?_) ?_
            · have hc := fun b o h => hE.cell (p := ⟨b, o, none⟩) h
              go_simp; refine ⟨Below.refl _ _, ?_⟩; rfl
            simp only [Act.put, List.setIfInBounds_toArray, List.set_cons_zero, List.set_cons_succ]
            refine wpParts_det (by rfl) (fun W hE hN => ?_) ?_
            · go_simp; refine ⟨Below.refl _ _, ?_⟩; refine (HD1.out W (BB.out.trans (hE.mono BB.out.size))).mono ?_; rintro e' w' ⟨rfl, hb⟩; refine ⟨?_, hb⟩; rfl
            simp only [Act.put, List.setIfInBounds_toArray, List.set_cons_zero, List.set_cons_succ]
            refine wpParts_det (by rfl) (fun W hE hN => ?_) ?_
            · go_simp; refine ⟨Below.refl _ _, ?_⟩; rfl
            simp only [Act.put, List.setIfInBounds_toArray, List.set_cons_zero, List.set_cons_succ]
            refine wpParts_det (by rfl) (fun W hE hN => ?_) ?_
            · go_simp; refine ⟨Below.refl _ _, ?_⟩; rfl
            simp only [Act.put, List.setIfInBounds_toArray, List.set_cons_zero, List.set_cons_succ]
            refine wpParts_det (by rfl) (fun W hE hN => ?_) ?_
            · go_simp; refine ⟨Below.refl _ _, ?_⟩; rfl
            simp only [Act.put, List.setIfInBounds_toArray, List.set_cons_zero, List.set_cons_succ]
            refine wpParts_det (by rfl) (fun W hE hN => ?_) ?_
            · go_simp; refine ⟨Below.refl _ _, ?_⟩; rfl
            simp only [Act.put, List.setIfInBounds_toArray, List.set_cons_zero, List.set_cons_succ]
            refine wpParts_det (by rfl) (fun W hE hN => ?_) ?_
            · go_simp; refine ⟨Below.refl _ _, ?_⟩; rfl
            simp only [Act.put, List.setIfInBounds_toArray, List.set_cons_zero, List.set_cons_succ]
            refine wpParts_det (by rfl) (fun W hE hN => ?_) ?_
            · go_simp; refine ⟨Below.refl _ _, ?_⟩; rfl
            simp only [Act.put, List.setIfInBounds_toArray, List.set_cons_zero, List.set_cons_succ]
            refine wpParts_det (by rfl) (fun W hE hN => ?_) ?_
            · have hc := fun b o h => hE.cell (p := ⟨b, o, none⟩) h
              go_simp; refine ⟨Below.refl _ _, ?_⟩; rfl
            simp only [Act.put, List.setIfInBounds_toArray, List.set_cons_zero, List.set_cons_succ]
            refine wpParts_det (by rfl) (fun W hE hN => ?_) ?_
            · go_simp; refine ⟨Below.refl _ _, ?_⟩; refine (HD2.out W (BB.out.trans (hE.mono BB.out.size))).mono ?_; rintro e' w' ⟨rfl, hb⟩; refine ⟨?_, hb⟩; rfl
            simp only [Act.put, List.setIfInBounds_toArray, List.set_cons_zero, List.set_cons_succ]
            refine wpParts_det (by rfl) (fun W hE hN => ?_) ?_
            · go_simp; refine ⟨Below.refl _ _, ?_⟩; rfl
            simp only [Act.put, List.setIfInBounds_toArray, List.set_cons_zero, List.set_cons_succ]
            refine wpParts_det (by rfl) (fun W hE hN => ?_) ?_
            · go_simp; refine ⟨Below.refl _ _, ?_⟩; rfl
            simp only [Act.put, List.setIfInBounds_toArray, List.set_cons_zero, List.set_cons_succ]
            refine wpParts_det (by rfl) (fun W hE hN => ?_) ?_
            · go_simp; refine ⟨Below.refl _ _, ?_⟩; rfl
            simp only [Act.put, List.setIfInBounds_toArray, List.set_cons_zero, List.set_cons_succ]
            refine wpParts_det (by rfl) (fun W hE hN => ?_) ?_
            · go_simp; refine ⟨Below.refl _ _, ?_⟩; rfl
            simp only [Act.put, List.setIfInBounds_toArray, List.set_cons_zero, List.set_cons_succ]
            refine wpParts_det (by rfl) (fun W hE hN => ?_) ?_
            · go_simp; refine ⟨Below.refl _ _, ?_⟩; rfl
            simp only [Act.put, List.setIfInBounds_toArray, List.set_cons_zero, List.set_cons_succ]
            refine wpParts_end fun W7 hE7 hG7 => ?_
            have hcW7 := fun b o h => hE7.cell (p := ⟨b, o, none⟩) h
            have hfW7 := fun b o h => hE7.frozen (p := ⟨b, o, none⟩) h
            go_wp2
            go_ret
            exact ⟨rfl, BB.out.trans (hE7.mono BB.out.size)⟩
end Go.Proofs.YtmcmknndhppljaaDoor
