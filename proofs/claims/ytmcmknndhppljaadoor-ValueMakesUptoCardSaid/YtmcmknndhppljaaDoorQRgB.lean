/-
  Layer 4, the reference: Path, Len, walked.
-/
import Derived.Test.YtmcmknndhppljaaDoorQRgA
import Derived.Test.YtmcmknndhppljaaDoorQPthA
namespace Go.Dav
set_option linter.unusedVariables false
set_option linter.unusedSimpArgs false
open Go Go.RowKit
theorem StrsAt.tail_ {W : World} {b o n c : Nat} {k : ByteArray} {l : List ByteArray} (h : StrsAt W (some ⟨b, o, none⟩) (n + 1) (c + 1) (k :: l)) : StrsAt W (some ⟨b, o + 1, none⟩) n c l :=
  ⟨by have := h.hlen; simpa using this, by have := h.hcap; omega, by have := h.hmax; omega, by have := h.hfew; omega, fun i s hs => by
    obtain ⟨b', o', e, h1, h2⟩ := h.hat (i + 1) s (by simpa using hs)
    cases e
    exact ⟨b, o + 1, rfl, h1, by rw [show o + 1 + i = o + (i + 1) by omega]; exact h2⟩, (fun e => by cases e), fun s hs => h.hsz s (by simp [hs])⟩
end Go.Dav
namespace Go.Proofs.YtmcmknndhppljaaDoor
set_option linter.unusedVariables false
set_option linter.unusedSimpArgs false
open Go.RowKit Go.Dav
attribute [local go_sem] Gives ite_val ite_val_true

set_option maxRecDepth 8000 in
set_option maxHeartbeats 8000000 in
theorem Tryd_rPath : ∀ (ks : List ByteArray) (d : Nat) (x : ValN d) (v : Value) (pa : Option Addr) (pn pc : Nat) (w0 w : World), ValAt w0 d v x → rightV d x = true → Below w0.heap.size w0 w → StrsAt w pa pn pc ks →
    Calls Tryd.prog 34 #[v, .slice pa pn pc] w fun e w' => (∃ u, e = .returned u ∧ ToldS (pathV d x ks) u w0) ∧ Below w.heap.size w w'
  | [], d, x, v, pa, pn, pc, w0, w, hv, hr, hw0, hP => by
    obtain ⟨kind, n, s, ka, kl, kc, qa, ql, qc, rfl⟩ := hv.agg
    obtain rfl : 0 = pn := by simpa using hP.hlen
    have HV := Lib.hid hv
    rw [pathV_nil]
    clear hv hr hw0 hP
    go_enter Tryd.func34, Tryd.ntmps34
    go_wp2
    refine bodyPost_ret (v := .tuple #[.agg #[.int .i64 kind, .int .i64 n, .string s, .slice ka kl kc, .slice qa ql qc], .bool true]) (by simp [results, Tryd.results34, go_sem]) rfl ⟨⟨_, rfl, _, rfl, HV.out⟩, (by repeat (first | (with_reducible exact Below.refl _ _) | (with_reducible exact Below.refl _ _) | (with_reducible refine Below.setCell ?_ (by first | omega | (simp; done) | (simp; omega)) _) | (with_reducible refine Below.alloc ?_ (by first | omega | (simp; done) | (simp; omega)) _) | (with_reducible refine Below.drew ?_) | (with_reducible refine below_drewN ?_ _)))⟩
  | key :: ks, d, x, v, pa, pn, pc, w0, w, hv, hr, hw0, hP => by
    obtain ⟨d, rfl⟩ := hv.pos
    obtain ⟨kind, n, s, ka, kl, kc, qa, ql, qc, rfl⟩ := hv.agg
    obtain ⟨b, o, rfl, hlt, hcell⟩ := hP.hat 0 key rfl
    rw [Nat.add_zero] at hcell
    obtain ⟨pn, rfl⟩ : ∃ m, pn = m + 1 := ⟨pn - 1, by have := hP.hlen; simp at this; omega⟩
    obtain ⟨pc, rfl⟩ : ∃ m, pc = m + 1 := ⟨pc - 1, by have := hP.hcap; omega⟩
    have h47 : (pn : Int) ≤ 140737488355328 := by have := hP.hfew; omega
    have d0 : ((pn : Int) + 1 == 0) = false := by rw [beq_eq_false_iff_ne]; omega
    have hpc : pn ≤ pc := by have := hP.hcap; omega
    have hpcm : (pc : Int) ≤ 9223372036854775806 := by have := hP.hmax; unfold maxLen at this; omega
    have IH := Lib.hid (Tryd_rPath ks)
    have HV := Lib.hid hv
    have HR := Lib.hid hr
    obtain ⟨qa2, hqa⟩ : ∃ qa2, (if pc = 0 then some (⟨b, o, none⟩ : Addr) else some ⟨b, o + 1, none⟩) = qa2 := ⟨_, rfl⟩
    have hT : StrsAt w qa2 pn pc ks := by
      rw [← hqa]
      by_cases h0 : pc = 0
      · subst h0
        obtain rfl : pn = 0 := by omega
        have hks : ks = [] := by have := hP.hlen; simp at this; exact this
        subst hks
        rw [if_pos rfl]
        exact ⟨rfl, Nat.le_refl _, by unfold maxLen; omega, by omega, fun i s hs => by simp at hs, (fun e => by cases e), fun s hs => by simp at hs⟩
      · rw [if_neg h0]; exact hP.tail_
    have HQA := Lib.hid hqa
    have HT := Lib.hid hT
    have d1 : (1 : Int) ≤ (pn : Int) + 1 := by omega
    obtain ⟨W0, hW0⟩ : ∃ W0, (w.alloc (.cells #[.int .i64 kind, .int .i64 n, .string s, .slice ka kl kc, .slice qa ql qc] 39)).alloc (.cells #[.int .i64 0, .int .i64 0, .string ⟨#[]⟩, .slice none 0 0, .slice none 0 0] 39) = W0 := ⟨_, rfl⟩
    have bel0 : Below w.heap.size w W0 := by rw [← hW0]; exact (by repeat (first | (with_reducible exact Below.refl _ _) | (with_reducible exact Below.refl _ _) | (with_reducible refine Below.setCell ?_ (by first | omega | (simp; done) | (simp; omega)) _) | (with_reducible refine Below.alloc ?_ (by first | omega | (simp; done) | (simp; omega)) _) | (with_reducible refine Below.drew ?_) | (with_reducible refine below_drewN ?_ _)))
    have hb1 : Blk W0 w.heap.size [.int .i64 kind, .int .i64 n, .string s, .slice ka kl kc, .slice qa ql qc] 39 := by rw [← hW0]; exact (Blk.new _ _ _).alloc _
    have hb2 : Blk W0 (w.heap.size + 1) [.int .i64 0, .int .i64 0, .string ⟨#[]⟩, .slice none 0 0, .slice none 0 0] 39 := by rw [← hW0]; exact Blk.new' _ _ _ (by simp)
    have BEL := Lib.hid bel0
    have HB1 := Lib.hid hb1
    have HB2 := Lib.hid hb2
    have HW0 := Lib.hid (hw0.trans (bel0.mono hw0.size))
    have hcell0 : W0.cell? ⟨b, o, none⟩ = some (.string key) := (bel0.cell (p := ⟨b, o, none⟩) hlt).trans hcell
    have hlt0 : b < W0.heap.size := Nat.lt_of_lt_of_le hlt bel0.size
    have q1 := hb1.cells
    have l1 := hb1.lt
    obtain ⟨g, hg⟩ : ∃ g, getV d x key = g := ⟨_, rfl⟩
    rw [pathV_cons, hg]
    have HG := Lib.hid hg
    clear hv hr hw0 hP bel0 hb1 hb2 hlt hcell hg hT hqa
    go_enter Tryd.func34, Tryd.ntmps34
    go_wp2_with fail
    try rw [hW0]
    clear hW0
    refine' wp_region_seqF [7] [.inl _, .inl _, .inl _, .inl _, .inr (fun v _ => ToldO d g v w0), .inr (fun v _ => ToldO d g v w0), .inr (fun v _ => ToldFst d g v w0), .inl _, .inr (NewBlk W0.heap.size [.int .i64 0, .int .i64 0, .string ⟨#[]⟩, .slice none 0 0, .slice none 0 0] 39)] (by kernel_rfl) (by kernel_rfl) ?main1
    case main1 =>
      refine wpParts_det (by rfl) (fun W hE hN => ?_) ?_
      · have hc := fun b o h => hE.cell (p := ⟨b, o, none⟩) h
        go_simp; refine ⟨Below.refl _ _, ?_⟩; rfl
      simp only [Act.put, List.setIfInBounds_toArray, List.set_cons_zero, List.set_cons_succ]
      refine wpParts_det (by rfl) (fun W hE hN => ?_) ?_
      · go_simp; refine ⟨Below.refl _ _, ?_⟩; rfl
      simp only [Act.put, List.setIfInBounds_toArray, List.set_cons_zero, List.set_cons_succ]
      refine wpParts_det (by rfl) (fun W hE hN => ?_) ?_
      · go_simp; refine ⟨Below.refl _ _, ?_⟩; rfl
      simp only [Act.put, List.setIfInBounds_toArray, List.set_cons_zero, List.set_cons_succ]
      refine wpParts_det (by rfl) (fun W hE hN => ?_) ?_
      · have hc := fun b o h => hE.cell (p := ⟨b, o, none⟩) h
        go_simp; refine ⟨Below.refl _ _, ?_⟩; rfl
      simp only [Act.put, List.setIfInBounds_toArray, List.set_cons_zero, List.set_cons_succ]
      refine wpParts_any rfl (fun _ _ _ h _ => h) (by rfl) (fun W hE hN => ?_) (fun u4 => ?_)
      · go_simp; refine ⟨Below.refl _ _, ?_⟩; refine (Tryd_rGet d x _ key w0 W HV.out (HW0.out.trans (hE.mono HW0.out.size)) HR.out).mono ?_; rw [HG.out]; rintro e w' ⟨⟨u, rfl, hu⟩, hb⟩; exact ⟨_, rfl, hb, hu⟩
      simp only [Act.put, List.setIfInBounds_toArray, List.set_cons_zero, List.set_cons_succ]
      refine wpParts_any rfl (fun _ _ _ h _ => h) (by rfl) (fun W hE hN => ?_) (fun u5 => ?_)
      · have h := (show ToldO d g u4 w0 ∧ True from hN).1; go_simp; first | exact ⟨Below.refl _ _, h⟩ | exact Below.refl _ _
      simp only [Act.put, List.setIfInBounds_toArray, List.set_cons_zero, List.set_cons_succ]
      refine wpParts_any rfl (fun _ _ _ h _ => h) (by rfl) (fun W hE hN => ?_) (fun u6 => ?_)
      · have h := (show ToldO d g u5 w0 ∧ True from hN).1; obtain ⟨a5, rfl, ha5⟩ := h.parts; go_simp; first | exact ⟨Below.refl _ _, ha5⟩ | exact Below.refl _ _
      simp only [Act.put, List.setIfInBounds_toArray, List.set_cons_zero, List.set_cons_succ]
      refine wpParts_det (by rfl) (fun W hE hN => ?_) ?_
      · have h := (show ToldO d g u5 w0 ∧ True from hN).1; obtain ⟨a5, rfl, ha5⟩ := h.parts; go_simp; refine ⟨Below.refl _ _, ?_⟩; rfl
      simp only [Act.put, List.setIfInBounds_toArray, List.set_cons_zero, List.set_cons_succ]
      refine wpParts_any rfl (NewBlk.later) (by rfl) (fun W hE hN => ?_) (fun u8 => ?_)
      · go_simp; exact newBlk_alloc (cs := [.int .i64 0, .int .i64 0, .string ⟨#[]⟩, .slice none 0 0, .slice none 0 0]) hE.size
      simp only [Act.put, List.setIfInBounds_toArray, List.set_cons_zero, List.set_cons_succ]
      refine wpParts_end fun w3 hE3 hG3 => ?_
      have hcw3 := fun b o h => hE3.cell (p := ⟨b, o, none⟩) h
      have hfw3 := fun b o h => hE3.frozen (p := ⟨b, o, none⟩) h
      obtain ⟨hn8, hp6, _⟩ := (show NewBlk W0.heap.size [.int .i64 0, .int .i64 0, .string ⟨#[]⟩, .slice none 0 0, .slice none 0 0] 39 u8 w3 ∧ ToldFst d g u6 w0 ∧ _ from hG3)
      obtain ⟨p8, rfl, hlt8, hbk⟩ := hn8
      obtain ⟨k8, n8, s8, a8, l8, c8, e8, f8, g8, rfl⟩ := hp6.agg
      have HP8 := Lib.hid hp6
      obtain ⟨gi, hgi⟩ : ∃ gi, g.isSome = gi := ⟨_, rfl⟩
      rw [hgi]
      have HGI := Lib.hid hgi
      have B3 := Lib.hid (BEL.out.trans (hE3.mono BEL.out.size))
      have HWW := Lib.hid (HW0.out.trans (hE3.mono HW0.out.size))
      have hlt8' : W0.heap.size ≤ p8 := hlt8
      have q8 := hbk.cells
      have m8 := hbk.marks
      have l8' := hbk.lt
      have HBK := Lib.hid hbk
      have X3 := Lib.hid (HB2.out.ext hE3)
      have q3 := X3.out.cells
      have m3 := X3.out.marks
      have l3 := X3.out.lt
      have hne1 : w.heap.size + 1 ≠ p8 := by have := HB2.out.lt; omega
      have hne2 : p8 ≠ w.heap.size + 1 := Ne.symm hne1
      have hpw : w.heap.size ≤ p8 := by have := BEL.out.size; omega
      have HTT := Lib.hid (HT.out.ext (BEL.out.trans (hE3.mono BEL.out.size)))
      clear hE3 hG3 hp6 hbk hgi q1 l1 hlt8 hcw3 hfw3 hcell0 hlt0
      cases g with
      | none =>
        have hgi : gi = false := by rw [← HGI.out]; rfl
        subst hgi
        go_wp2_with fail
        refine noPanic_normal ?_
        go_wp2
        have c4 := ((X3.out.fiveS2 hne1 (.int .i64 k8) (.int .i64 n8) (.string s8) (.slice a8 l8 c8) (.slice e8 f8 g8)).fiveV (.int .i64 0) (.int .i64 0) (.string ⟨#[]⟩) (.slice none 0 0) (.slice none 0 0)).cells
        refine bodyPost_ret (v := .tuple #[.agg zeroL.toArray, .bool false]) (by simp [results, Tryd.results34, go_sem, c4, zeroL]) rfl ⟨⟨_, rfl, rfl⟩, ?_⟩
        exact below_only (below_only B3.out (Only.fiveV _ _ _ _ _ _ _) B3.out.size hpw) (Only.fiveV _ _ _ _ _ _ _) (by have := B3.out.size; simp; omega) (by omega)
      | some y =>
        have hgi : gi = true := by rw [← HGI.out]; rfl
        subst hgi
        go_wp2_with fail
        refine noPanic_normal ?_
        go_wp2_with fail
        obtain ⟨W4, hW4⟩ : ∃ W4, ((((w3.setCell ⟨p8, 0, none⟩ (.int .i64 k8)).setCell ⟨p8, 1, none⟩ (.int .i64 n8)).setCell ⟨p8, 2, none⟩ (.string s8)).setCell ⟨p8, 3, none⟩ (.slice a8 l8 c8)).setCell ⟨p8, 4, none⟩ (.slice e8 f8 g8) = W4 := ⟨_, rfl⟩
        have hO4 : Below w.heap.size w W4 := by
          rw [← hW4]
          exact below_only B3.out (Only.fiveV _ _ _ _ _ _ _) B3.out.size hpw
        have hO0 : Below w0.heap.size w3 W4 := by
          rw [← hW4]
          exact below_only (Below.refl _ _) (Only.fiveV _ _ _ _ _ _ _) HWW.out.size (by have := HW0.out.size; omega)
        have HWW4 := Lib.hid (HWW.out.trans hO0)
        have B4 := Lib.hid hO4
        have X4 := Lib.hid (show Blk W4 (w.heap.size + 1) [.int .i64 0, .int .i64 0, .string ⟨#[]⟩, .slice none 0 0, .slice none 0 0] 39 from by rw [← hW4]; exact X3.out.fiveS2 hne1 _ _ _ _ _)
        have Y4 := Lib.hid (show Blk W4 p8 [.int .i64 k8, .int .i64 n8, .string s8, .slice a8 l8 c8, .slice e8 f8 g8] 39 from by rw [← hW4]; exact HBK.out.fiveV _ _ _ _ _)
        have HTT := Lib.hid (HT.out.ext hO4)
        try rw [hW4]
        clear hW4 hO4 hO0 HBK X3 B3 q8 m8 l8' q3 m3 l3 HB1 HB2 BEL
        have HRY := Lib.hid (show rightV d y = true from by obtain ⟨_, _, i, hi⟩ := getV_kid HG.out; exact right_kid HR.out hi)
        have hy8 : ValAt w0 d _ y := HP8.out
        have HY8 := Lib.hid hy8
        obtain ⟨g2, hg2⟩ : ∃ g2, pathV d y ks = g2 := ⟨_, rfl⟩
        have HG2 := Lib.hid hg2
        have qy := Y4.out.cells
        have ly := Y4.out.lt
        clear hy8 hg2 HP8 HG
        go_wp2_with fail
        refine' wp_region_seqF [5] [.inl _, .inl _, .inl _, .inr (fun v _ => ToldS g2 v w0), .inr (fun v _ => ToldP g2 v w0), .inl _] (by kernel_rfl) (by kernel_rfl) ?main2
        case main2 =>
          refine wpParts_det (by rfl) (fun W hE hN => ?_) ?_
          · have hc := fun b o h => hE.cell (p := ⟨b, o, none⟩) h
            go_simp; refine ⟨Below.refl _ _, ?_⟩; rfl
          simp only [Act.put, List.setIfInBounds_toArray, List.set_cons_zero, List.set_cons_succ]
          refine wpParts_det (by rfl) (fun W hE hN => ?_) ?_
          · go_simp; refine ⟨Below.refl _ _, ?_⟩; rfl
          simp only [Act.put, List.setIfInBounds_toArray, List.set_cons_zero, List.set_cons_succ]
          refine wpParts_det (by rfl) (fun W hE hN => ?_) ?_
          · go_simp; refine ⟨Below.refl _ _, ?_⟩; rw [HQA.out]
          simp only [Act.put, List.setIfInBounds_toArray, List.set_cons_zero, List.set_cons_succ]
          refine wpParts_any rfl (fun _ _ _ h _ => h) (by rfl) (fun W hE hN => ?_) (fun u3 => ?_)
          · go_simp; refine ⟨Below.refl _ _, ?_⟩; refine (IH.out d y _ qa2 pn pc w0 W HY8.out HRY.out (HWW4.out.trans (hE.mono HWW4.out.size)) (HTT.out.ext hE)).mono ?_; rw [HG2.out]; rintro e w' ⟨⟨u, rfl, hu⟩, hb⟩; exact ⟨_, rfl, hb, hu⟩
          simp only [Act.put, List.setIfInBounds_toArray, List.set_cons_zero, List.set_cons_succ]
          refine wpParts_any rfl (fun _ _ _ h _ => h) (by rfl) (fun W hE hN => ?_) (fun u4 => ?_)
          · have h := (show ToldS g2 u3 w0 ∧ True from hN).1; obtain ⟨a5, rfl, ha5⟩ := h.parts; go_simp; first | exact ⟨Below.refl _ _, ha5⟩ | exact Below.refl _ _
          simp only [Act.put, List.setIfInBounds_toArray, List.set_cons_zero, List.set_cons_succ]
          refine wpParts_det (by rfl) (fun W hE hN => ?_) ?_
          · have h := (show ToldS g2 u3 w0 ∧ True from hN).1; obtain ⟨a5, rfl, ha5⟩ := h.parts; go_simp; refine ⟨Below.refl _ _, ?_⟩; rfl
          simp only [Act.put, List.setIfInBounds_toArray, List.set_cons_zero, List.set_cons_succ]
          refine wpParts_end fun w5 hE5 hG5 => ?_
          have hcw5 := fun b o h => hE5.cell (p := ⟨b, o, none⟩) h
          have hfw5 := fun b o h => hE5.frozen (p := ⟨b, o, none⟩) h
          have hp4 := (show ToldP g2 u4 w0 ∧ _ from hG5).1
          obtain ⟨k9, n9, s9, a9, l9, c9, e9, f9, g9, rfl⟩ := hp4.agg
          obtain ⟨gj, hgj⟩ : ∃ gj, g2.isSome = gj := ⟨_, rfl⟩
          rw [hgj]
          have HGJ := Lib.hid hgj
          have HP9 := Lib.hid hp4
          have X5 := Lib.hid (X4.out.ext hE5)
          have q5 := X5.out.cells
          have m5 := X5.out.marks
          have l5 := X5.out.lt
          have B5 := Lib.hid (B4.out.trans (hE5.mono B4.out.size))
          clear hE5 hG5 hgj hp4 qy ly hcw5 hfw5
          go_wp2_with fail
          refine noPanic_normal ?_
          go_wp2
          have c4 := (X5.out.fiveV (.int .i64 k9) (.int .i64 n9) (.string s9) (.slice a9 l9 c9) (.slice e9 f9 g9)).cells
          refine bodyPost_ret (v := .tuple #[.agg #[.int .i64 k9, .int .i64 n9, .string s9, .slice a9 l9 c9, .slice e9 f9 g9], .bool gj]) (by simp [results, Tryd.results34, go_sem, c4]) rfl ⟨⟨_, rfl, ?_⟩, ?_⟩
          · show ToldS (pathV d y ks) _ w0
            rw [HG2.out, ← HGJ.out]
            have := HP9.out
            cases g2 with
            | none => rw [show _ = _ from this]; rfl
            | some z => exact ⟨_, rfl, this⟩
          · exact below_only B5.out (Only.fiveV _ _ _ _ _ _ _) B5.out.size (by omega)
end Go.Proofs.YtmcmknndhppljaaDoor
