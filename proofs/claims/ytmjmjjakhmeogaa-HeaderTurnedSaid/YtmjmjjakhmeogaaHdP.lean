/-
  Layer 12: the layer does something: wakes, walked.
-/
import Derived.Test.YtmjmjjakhmeogaaHdO
namespace Go.Dav
set_option linter.unusedVariables false
set_option linter.unusedSimpArgs false
open Go Go.RowKit
/-- A file that lies in blocks lies in none that holds an empty file. -/
theorem BytesS.off {W : World} {S : Nat → Prop} {a : Option Addr} {n c p t : Nat} {l : List UInt8} {cs : List Value} (h : BytesS W S a n c l) (hp : Blk W p cs t) (hc : ∀ v ∈ cs, ∀ x, v ≠ .int .u8 x) : BytesS W (fun b => S b ∧ b ≠ p) a n c l :=
  ⟨h.at_, fun k x hk => by
    obtain ⟨b, o, h1, h2⟩ := h.in_ k x hk
    obtain ⟨b', o', h1', _, h3⟩ := h.at_.hat k x hk
    rw [h1] at h1'; cases h1'
    refine ⟨b, o, h1, h2, fun e => ?_⟩
    subst e
    rw [hp.cells] at h3
    exact hc _ (List.mem_of_getElem? h3) _ rfl⟩
theorem LooseS.off {W : World} {S : Nat → Prop} {a : Option Addr} {n c p t : Nat} {L : List (List UInt8)} {cs : List Value} (h : LooseS W S a n c L) (hp : Blk W p cs t) (hc : ∀ v ∈ cs, ∀ x, v ≠ .int .u8 x) (hs : ∀ v ∈ cs, ∀ a n c, v ≠ .slice (some a) n c) (hf : ∀ x ∈ L, x ≠ []) : LooseS W (fun b => S b ∧ b ≠ p) a n c L :=
  ⟨h.hlen, h.hcap, h.hmax, h.hfew, fun k x hk => by
    obtain ⟨b, o, pa, pl, pc, h1, h2, h3, h4, h5⟩ := h.hat k x hk
    refine ⟨b, o, pa, pl, pc, h1, h2, ⟨h3, fun e => ?_⟩, h4, h5.off hp hc⟩
    subst e
    rw [hp.cells] at h4
    obtain ⟨y, hy⟩ : ∃ y, x[0]? = some y := by
      cases x with
      | nil => exact absurd rfl (hf _ (List.mem_of_getElem? hk))
      | cons y ys => exact ⟨y, rfl⟩
    obtain ⟨b', o', h6, _⟩ := h5.at_.hat 0 y hy
    rw [h6] at h4
    exact hs _ (List.mem_of_getElem? h4) _ _ _ rfl, h.hnil⟩
theorem FileS.off {W : World} {S : Nat → Prop} {fa la : Option Addr} {fl fc ll lc p t : Nat} {F : FileD} (h : FileS W S fa fl fc la ll lc F) (hp : Blk W p [.slice none 0 0, .slice none 0 0, .int .i64 0, .int .i64 0, .bool false] t) (hf : F.right = true) : FileS W (fun b => S b ∧ b ≠ p) fa fl fc la ll lc F :=
  ⟨h.firm.off hp (by simp), h.loose.off hp (by simp) (by simp) (fun x hx e => by
    have h1 := (FileD.right_spec.1 hf).1
    unfold FileD.full at h1
    have h2 := List.all_eq_true.1 h1 x hx
    rw [e] at h2; cases h2), h.fuse, h.fault⟩
theorem fileS_none {W : World} {S : Nat → Prop} : FileS W S none 0 0 none 0 0 FileD.none := ⟨BytesS.nil_, LooseS.nil_, by unfold I64'; simp [FileD.none], by unfold I64'; simp [FileD.none]⟩
/-- What is laid over an empty file's block. -/
theorem blk_store5 {W : World} {p t : Nat} {cs : List Value} {v0 v1 v2 v3 v4 : Value} (h : Blk W p cs t) (hl : cs.length = 5) : Blk (((((W.setCell ⟨p, 0, none⟩ v0).setCell ⟨p, 1, none⟩ v1).setCell ⟨p, 2, none⟩ v2).setCell ⟨p, 3, none⟩ v3).setCell ⟨p, 4, none⟩ v4) p [v0, v1, v2, v3, v4] t := by
  match cs, hl with
  | [_, _, _, _, _], _ => exact ((((h.set 0 _).set 1 _).set 2 _).set 3 _).set 4 _
end Go.Dav
namespace Go.Proofs.Ytmjmjjakhmeogaa
set_option linter.unusedVariables false
set_option linter.unusedSimpArgs false
open Go.RowKit Go.Dav
attribute [local go_sem] Gives ite_val ite_val_true

set_option maxRecDepth 100000 in
set_option maxHeartbeats 8000000 in
theorem Try_wakes12 (w : World) : Calls Try.prog 35 #[] w fun e w' => e = .returned (.bool true) ∧ Below w.heap.size w w' := by
  go_enter Try.func35, Try.ntmps35
  go_wp2_with fail
  obtain ⟨W0, hW0⟩ : ∃ W0, w.alloc (.cells #[.int .u64 1, .int .i64 1] 56) = W0 := ⟨_, rfl⟩
  have hb1 : Blk W0 w.heap.size [.int .u64 1, .int .i64 1] 56 := by rw [← hW0]; exact Blk.new _ _ _
  have bel0 : Below w.heap.size w W0 := by rw [← hW0]; exact (by repeat (first | (with_reducible exact Below.refl _ _) | (with_reducible exact Below.refl _ _) | (with_reducible refine Below.setCell ?_ (by first | omega | (simp; done) | (simp; omega)) _) | (with_reducible refine Below.alloc ?_ (by first | omega | (simp; done) | (simp; omega)) _) | (with_reducible refine Below.drew ?_) | (with_reducible refine below_drewN ?_ _)))
  have HB1 := Lib.hid hb1
  have BEL0 := Lib.hid bel0
  have q1 := hb1.cells
  have l1 := hb1.lt
  rw [hW0]
  clear hW0 hb1 bel0
  refine' wp_region_seqF [5] [.inl _, .inl _, .inr (FileTup W0 (fun _ => False) wakeF 0), .inr (FileTup W0 (fun _ => False) wakeF 0), .inr (FileV W0 (fun _ => False) wakeF), .inl _, .inr (NewBlk W0.heap.size [.slice none 0 0, .slice none 0 0, .int .i64 0, .int .i64 0, .bool false] 25)] (by kernel_rfl) (by kernel_rfl) ?main1
  case main1 =>
    refine wpParts_det (by rfl) (fun W hE hN => ?_) ?_
    · go_simp; refine ⟨Below.refl _ _, ?_⟩; refine (Try_New W).mono ?_; rintro e w' ⟨rfl, hb⟩; refine ⟨?_, hb⟩; rfl
    simp only [Act.put, List.setIfInBounds_toArray, List.set_cons_zero, List.set_cons_succ]
    refine wpParts_det (by rfl) (fun W hE hN => ?_) ?_
    · have hc := fun b o h => hE.cell (p := ⟨b, o, none⟩) h
      go_simp; refine ⟨Below.refl _ _, ?_⟩; rfl
    simp only [Act.put, List.setIfInBounds_toArray, List.set_cons_zero, List.set_cons_succ]
    refine wpParts_any rfl (FileTup.later) (by rfl) (fun W hE hN => ?_) (fun u2 => ?_)
    · go_simp; refine ⟨Below.refl _ _, ?_⟩; have hA := Try_Put FileD.none ⟨1, 1⟩ none none 0 0 0 0 W (fun _ => False) ⟨by show 1 < _; omega, by unfold I64'; decide⟩ fileS_none (fun b h => h.elim); rw [wake_put] at hA; refine hA.mono ?_; rintro e w' ⟨ga, gl, gc, ma, ml, mc, rfl, hR, hb⟩; exact ⟨_, rfl, hb, ga, gl, gc, ma, ml, mc, rfl, hR.mono fun b h => h.imp id fun h => Nat.le_trans hE.size h⟩
    simp only [Act.put, List.setIfInBounds_toArray, List.set_cons_zero, List.set_cons_succ]
    refine wpParts_any rfl (FileTup.later) (by rfl) (fun W hE hN => ?_) (fun u3 => ?_)
    · simp [near, Oper.looksAt, Op.operands] at hN; go_simp; exact Below.refl _ _
    simp only [Act.put, List.setIfInBounds_toArray, List.set_cons_zero, List.set_cons_succ]
    refine wpParts_any rfl (FileV.later) (by rfl) (fun W hE hN => ?_) (fun u4 => ?_)
    · simp [near, Oper.looksAt, Op.operands] at hN; obtain ⟨ga, gl, gc, ma, ml, mc, rfl, hR⟩ := hN; go_simp; exact ⟨Below.refl _ _, ga, gl, gc, ma, ml, mc, rfl, hR⟩
    simp only [Act.put, List.setIfInBounds_toArray, List.set_cons_zero, List.set_cons_succ]
    refine wpParts_det (by rfl) (fun W hE hN => ?_) ?_
    · simp [near, Oper.looksAt, Op.operands] at hN; obtain ⟨ga, gl, gc, ma, ml, mc, rfl, hR⟩ := hN; go_simp; refine ⟨Below.refl _ _, ?_⟩; rfl
    simp only [Act.put, List.setIfInBounds_toArray, List.set_cons_zero, List.set_cons_succ]
    refine wpParts_any rfl (NewBlk.later) (by rfl) (fun W hE hN => ?_) (fun u6 => ?_)
    · go_simp; exact newBlk_alloc (cs := [.slice none 0 0, .slice none 0 0, .int .i64 0, .int .i64 0, .bool false]) hE.size
    simp only [Act.put, List.setIfInBounds_toArray, List.set_cons_zero, List.set_cons_succ]
    refine wpParts_end fun W2 hE2 hG2 => ?_
    have hcW2 := fun b o h => hE2.cell (p := ⟨b, o, none⟩) h
    have hfW2 := fun b o h => hE2.frozen (p := ⟨b, o, none⟩) h
    obtain ⟨⟨p2, rfl, hp2, hk2⟩, ⟨ga, gl, gc, ma, ml, mc, rfl, hR⟩, _⟩ := hG2
    have HR := Lib.hid (hR.off hk2 wake_file)
    have HK2 := Lib.hid hk2
    have HB12 := Lib.hid (HB1.out.ext hE2)
    have BEL2 := Lib.hid (BEL0.out.trans (hE2.mono BEL0.out.size))
    have q2 := hk2.cells
    have m2 := hk2.marks
    have l2 := hk2.lt
    have HP2 := Lib.hid (show w.heap.size ≠ p2 ∧ w.heap.size ≤ p2 by have := HB1.out.lt; omega)
    clear hR hk2 hE2 hcW2 hfW2 q1 l1
    go_wp2_with fail
    refine noPanic_normal ?_
    go_wp2_with fail
    obtain ⟨V, hV⟩ : ∃ V, (((((W2.setCell ⟨p2, 0, none⟩ (.slice ga gl gc)).setCell ⟨p2, 1, none⟩ (.slice ma ml mc)).setCell ⟨p2, 2, none⟩ (.int .i64 wakeF.fuse)).setCell ⟨p2, 3, none⟩ (.int .i64 wakeF.fault)).setCell ⟨p2, 4, none⟩ (.bool wakeF.off)) = V := ⟨_, rfl⟩
    have o5 : Only p2 W2 V := by rw [← hV]; exact (by repeat (first | (with_reducible exact Only.refl _ _) | (with_reducible refine Only.set ?_ _ _) | (with_reducible refine Only.alloc ?_ _) | (with_reducible refine Only.drew ?_)))
    have HBF := Lib.hid (show Blk V p2 [.slice ga gl gc, .slice ma ml mc, .int .i64 wakeF.fuse, .int .i64 wakeF.fault, .bool wakeF.off] 25 by rw [← hV]; exact blk_store5 HK2.out rfl)
    have HFV := Lib.hid (HR.out.same o5.size (fun b h hlt => o5.block b hlt h.2))
    have HB1V := Lib.hid (HB12.out.only o5 HP2.out.1)
    have BELV := Lib.hid (below_only BEL2.out o5 BEL2.out.size HP2.out.2)
    rw [hV]
    clear hV o5 q2 m2 l2 HR HK2 HB12 BEL2
    have hA := Try_Find wakeF ga ma gl gc ml mc V _ HFV.out.at_.s (fun b h => h)
    rw [wake_find] at hA
    refine hA.mono ?_; rintro e w3 ⟨rfl, hb3⟩
    clear hA
    have HF1 := Lib.hid (HFV.out.at_.ext hb3)
    have HBF1 := Lib.hid (HBF.out.ext hb3)
    have HB1W := Lib.hid (HB1V.out.ext hb3)
    have BEL3 := Lib.hid (BELV.out.trans (hb3.mono BELV.out.size))
    have q1 := HB1W.out.cells
    have l1 := HB1W.out.lt
    clear hb3 HFV HBF HB1V BELV
    go_wp2_with fail
    obtain ⟨WA, hWA⟩ : ∃ WA, w3.alloc (.cells #[.int .u64 1, .int .i64 1] 56) = WA := ⟨_, rfl⟩
    have hbA : Below w3.heap.size w3 WA := by rw [← hWA]; exact (by repeat (first | (with_reducible exact Below.refl _ _) | (with_reducible exact Below.refl _ _) | (with_reducible refine Below.setCell ?_ (by first | omega | (simp; done) | (simp; omega)) _) | (with_reducible refine Below.alloc ?_ (by first | omega | (simp; done) | (simp; omega)) _) | (with_reducible refine Below.drew ?_) | (with_reducible refine below_drewN ?_ _)))
    have HG := Lib.hid (show Blk WA w3.heap.size [.int .u64 1, .int .i64 1] 56 by rw [← hWA]; exact Blk.new _ _ _)
    rw [hWA]
    have hA := Try_Block ⟨1, 1⟩ ⟨by show 1 < _; omega, by unfold I64'; decide⟩ WA
    rw [show blkOf ⟨1, 1⟩ = blockOf 1 1 from rfl] at hA
    refine hA.mono ?_; rintro e w4 ⟨rfl, hb4⟩
    clear hA
    have hb := hbA.trans (hb4.mono hbA.size)
    have HF2 := Lib.hid (HF1.out.ext hb)
    have HBF2 := Lib.hid (HBF1.out.ext hb)
    have HB12 := Lib.hid (HB1W.out.ext hb)
    have HG2 := Lib.hid (HG.out.ext hb4)
    have BEL4 := Lib.hid (BEL3.out.trans (hb.mono BEL3.out.size))
    clear hb hb4 hbA hWA HF1 HBF1 HB1W HG BEL3 q1 l1
    have HBz := Lib.hid (show Blk (w4.alloc (.cells #[.int .u8 0, .int .u8 0, .int .u8 0, .int .u8 0, .int .u8 0, .int .u8 0, .int .u8 0, .int .u8 0, .int .u8 0, .int .u8 0, .int .u8 0, .int .u8 0, .int .u8 0, .int .u8 0, .int .u8 0, .int .u8 0, .int .u8 0, .int .u8 0, .int .u8 0, .int .u8 0, .int .u8 0, .int .u8 0, .int .u8 0, .int .u8 0, .int .u8 0, .int .u8 0, .int .u8 0, .int .u8 0, .int .u8 0, .int .u8 0, .int .u8 0, .int .u8 0, .int .u8 0, .int .u8 0, .int .u8 0, .int .u8 0, .int .u8 0, .int .u8 0, .int .u8 0, .int .u8 0, .int .u8 0, .int .u8 0, .int .u8 0, .int .u8 0, .int .u8 0, .int .u8 0, .int .u8 0, .int .u8 0, .int .u8 0, .int .u8 0, .int .u8 0, .int .u8 0, .int .u8 0, .int .u8 0, .int .u8 0, .int .u8 0, .int .u8 0, .int .u8 0, .int .u8 0, .int .u8 0, .int .u8 0, .int .u8 0, .int .u8 0, .int .u8 0] 57)) w4.heap.size (u8s (List.replicate 64 0)) 57 from Blk.new w4 _ _)
    have HBx := Lib.hid (show Blk ((w4.alloc (.cells #[.int .u8 0, .int .u8 0, .int .u8 0, .int .u8 0, .int .u8 0, .int .u8 0, .int .u8 0, .int .u8 0, .int .u8 0, .int .u8 0, .int .u8 0, .int .u8 0, .int .u8 0, .int .u8 0, .int .u8 0, .int .u8 0, .int .u8 0, .int .u8 0, .int .u8 0, .int .u8 0, .int .u8 0, .int .u8 0, .int .u8 0, .int .u8 0, .int .u8 0, .int .u8 0, .int .u8 0, .int .u8 0, .int .u8 0, .int .u8 0, .int .u8 0, .int .u8 0, .int .u8 0, .int .u8 0, .int .u8 0, .int .u8 0, .int .u8 0, .int .u8 0, .int .u8 0, .int .u8 0, .int .u8 0, .int .u8 0, .int .u8 0, .int .u8 0, .int .u8 0, .int .u8 0, .int .u8 0, .int .u8 0, .int .u8 0, .int .u8 0, .int .u8 0, .int .u8 0, .int .u8 0, .int .u8 0, .int .u8 0, .int .u8 0, .int .u8 0, .int .u8 0, .int .u8 0, .int .u8 0, .int .u8 0, .int .u8 0, .int .u8 0, .int .u8 0] 57)).setRow w4.heap.size (u8s (blockOf 1 1)).toArray) w4.heap.size (u8s (blockOf 1 1)) 57 from blk_row (ds := u8s (blockOf 1 1)) HBz.out)
    go_wp2_with (first | (refine wpList_store_row rfl 57 (.tmp 7) (.tmp 28) rfl w4.heap.size (u8s (blockOf 1 1)).toArray rfl rfl 57 (u8s (List.replicate 64 0)).toArray HBz.out (Try_size64_of (blockOf_len 1 1)) (by simp [u8s_len, blockOf_len]) (u8s_all _) ?_) | (refine wpList_load_row rfl 57 (.tmp 7) rfl w4.heap.size rfl 57 (u8s (blockOf 1 1)).toArray (0, 0) _ HBx.out Try.underlying57 rfl (Try_size64_of (blockOf_len 1 1)) ?_))
    obtain ⟨WB, hWB⟩ : ∃ WB, (w4.alloc (.cells #[.int .u8 0, .int .u8 0, .int .u8 0, .int .u8 0, .int .u8 0, .int .u8 0, .int .u8 0, .int .u8 0, .int .u8 0, .int .u8 0, .int .u8 0, .int .u8 0, .int .u8 0, .int .u8 0, .int .u8 0, .int .u8 0, .int .u8 0, .int .u8 0, .int .u8 0, .int .u8 0, .int .u8 0, .int .u8 0, .int .u8 0, .int .u8 0, .int .u8 0, .int .u8 0, .int .u8 0, .int .u8 0, .int .u8 0, .int .u8 0, .int .u8 0, .int .u8 0, .int .u8 0, .int .u8 0, .int .u8 0, .int .u8 0, .int .u8 0, .int .u8 0, .int .u8 0, .int .u8 0, .int .u8 0, .int .u8 0, .int .u8 0, .int .u8 0, .int .u8 0, .int .u8 0, .int .u8 0, .int .u8 0, .int .u8 0, .int .u8 0, .int .u8 0, .int .u8 0, .int .u8 0, .int .u8 0, .int .u8 0, .int .u8 0, .int .u8 0, .int .u8 0, .int .u8 0, .int .u8 0, .int .u8 0, .int .u8 0, .int .u8 0, .int .u8 0] 57)).setRow w4.heap.size (u8s (blockOf 1 1)).toArray = WB := ⟨_, rfl⟩
    have hbB : Below w4.heap.size w4 WB := by rw [← hWB]; exact below_only ((Below.refl _ w4).alloc (Nat.le_refl _) _) (only_row _ _ _) (by simp) (Nat.le_refl _)
    have HBxB := Lib.hid (show Blk WB w4.heap.size (u8s (blockOf 1 1)) 57 by rw [← hWB]; exact HBx.out)
    rw [hWB]
    have hA := Try_Says (blockOf 1 1) (blockOf_len 1 1) WB
    rw [saysOf_block (by omega) wake_right] at hA
    refine hA.mono ?_; rintro e w5 ⟨rfl, hb5⟩
    clear hA
    have hb := hbB.trans (hb5.mono hbB.size)
    have HF3 := Lib.hid (HF2.out.ext hb)
    have HBF3 := Lib.hid (HBF2.out.ext hb)
    have HB13 := Lib.hid (HB12.out.ext hb)
    have HG3 := Lib.hid (HG2.out.ext hb)
    have HX3 := Lib.hid (HBxB.out.ext hb5)
    have BEL5 := Lib.hid (BEL4.out.trans (hb.mono BEL4.out.size))
    clear hb hb5 hbB hWB HF2 HBF2 HB12 HG2 HBxB HBx HBz BEL4
    go_wp2_with fail
    obtain ⟨WC, hWC⟩ : ∃ WC, w5.alloc (.cells #[.int .u64 1, .int .i64 1] 56) = WC := ⟨_, rfl⟩
    have hbC : Below w5.heap.size w5 WC := by rw [← hWC]; exact (by repeat (first | (with_reducible exact Below.refl _ _) | (with_reducible exact Below.refl _ _) | (with_reducible refine Below.setCell ?_ (by first | omega | (simp; done) | (simp; omega)) _) | (with_reducible refine Below.alloc ?_ (by first | omega | (simp; done) | (simp; omega)) _) | (with_reducible refine Below.drew ?_) | (with_reducible refine below_drewN ?_ _)))
    have HS := Lib.hid (show Blk WC w5.heap.size [.int .u64 1, .int .i64 1] 56 by rw [← hWC]; exact Blk.new _ _ _)
    rw [hWC]
    have hA := Try_Says (List.replicate 64 0) rfl WC
    rw [saysOf_no isOf_zeros] at hA
    refine (show Calls Try.prog 39 #[.agg #[.int .u8 0, .int .u8 0, .int .u8 0, .int .u8 0, .int .u8 0, .int .u8 0, .int .u8 0, .int .u8 0, .int .u8 0, .int .u8 0, .int .u8 0, .int .u8 0, .int .u8 0, .int .u8 0, .int .u8 0, .int .u8 0, .int .u8 0, .int .u8 0, .int .u8 0, .int .u8 0, .int .u8 0, .int .u8 0, .int .u8 0, .int .u8 0, .int .u8 0, .int .u8 0, .int .u8 0, .int .u8 0, .int .u8 0, .int .u8 0, .int .u8 0, .int .u8 0, .int .u8 0, .int .u8 0, .int .u8 0, .int .u8 0, .int .u8 0, .int .u8 0, .int .u8 0, .int .u8 0, .int .u8 0, .int .u8 0, .int .u8 0, .int .u8 0, .int .u8 0, .int .u8 0, .int .u8 0, .int .u8 0, .int .u8 0, .int .u8 0, .int .u8 0, .int .u8 0, .int .u8 0, .int .u8 0, .int .u8 0, .int .u8 0, .int .u8 0, .int .u8 0, .int .u8 0, .int .u8 0, .int .u8 0, .int .u8 0, .int .u8 0, .int .u8 0]] WC _ from hA).mono ?_; rintro e w6 ⟨rfl, hb6⟩
    clear hA
    have hb := hbC.trans (hb6.mono hbC.size)
    have HF4 := Lib.hid (HF3.out.ext hb)
    have HBF4 := Lib.hid (HBF3.out.ext hb)
    have HB14 := Lib.hid (HB13.out.ext hb)
    have HG4 := Lib.hid (HG3.out.ext hb)
    have HX4 := Lib.hid (HX3.out.ext hb)
    have HS4 := Lib.hid (HS.out.ext hb6)
    have BEL6 := Lib.hid (BEL5.out.trans (hb.mono BEL5.out.size))
    clear hb hb6 hbC hWC HF3 HBF3 HB13 HG3 HX3 HS BEL5
    go_wp2_with fail
    obtain ⟨WD, hWD⟩ : ∃ WD, w6.alloc (.cells #[.int .u64 0, .int .i64 0] 56) = WD := ⟨_, rfl⟩
    have hbD : Below w6.heap.size w6 WD := by rw [← hWD]; exact (by repeat (first | (with_reducible exact Below.refl _ _) | (with_reducible exact Below.refl _ _) | (with_reducible refine Below.setCell ?_ (by first | omega | (simp; done) | (simp; omega)) _) | (with_reducible refine Below.alloc ?_ (by first | omega | (simp; done) | (simp; omega)) _) | (with_reducible refine Below.drew ?_) | (with_reducible refine below_drewN ?_ _)))
    rw [hWD]
    refine (Try_New WD).mono ?_; rintro e w7 ⟨rfl, hb7⟩
    go_wp2_with fail
    have hA := Try_Put FileD.none ⟨0, 0⟩ none none 0 0 0 0 w7 (fun _ => False) ⟨by show 0 < _; omega, by unfold I64'; decide⟩ fileS_none (fun b h => h.elim)
    rw [wake_no] at hA
    refine hA.mono ?_; rintro e w8 ⟨na, nl, nc, oa, ol, oc, rfl, _, hb8⟩
    clear hA
    have hb := (hbD.trans (hb7.mono hbD.size)).trans (hb8.mono (Nat.le_trans hbD.size hb7.size))
    have HF5 := Lib.hid (HF4.out.ext hb)
    have HBF5 := Lib.hid (HBF4.out.ext hb)
    have HB15 := Lib.hid (HB14.out.ext hb)
    have HG5 := Lib.hid (HG4.out.ext hb)
    have HX5 := Lib.hid (HX4.out.ext hb)
    have HS5 := Lib.hid (HS4.out.ext hb)
    have BEL8 := Lib.hid (BEL6.out.trans (hb.mono BEL6.out.size))
    clear hb hb7 hb8 hbD hWD HF4 HBF4 HB14 HG4 HX4 HS4 BEL6
    have q2 := HBF5.out.cells
    have l2 := HBF5.out.lt
    go_wp2_with fail
    obtain ⟨WE, hWE⟩ : ∃ WE, w8.alloc (.cells #[.slice na nl nc, .slice oa ol oc, .int .i64 FileD.none.fuse, .int .i64 FileD.none.fault, .bool FileD.none.off] 25) = WE := ⟨_, rfl⟩
    have hbE : Below w8.heap.size w8 WE := by rw [← hWE]; exact (by repeat (first | (with_reducible exact Below.refl _ _) | (with_reducible exact Below.refl _ _) | (with_reducible refine Below.setCell ?_ (by first | omega | (simp; done) | (simp; omega)) _) | (with_reducible refine Below.alloc ?_ (by first | omega | (simp; done) | (simp; omega)) _) | (with_reducible refine Below.drew ?_) | (with_reducible refine below_drewN ?_ _)))
    rw [hWE]
    have hA := Try_Len wakeF ga ma gl gc ml mc WE (HF5.out.ext hbE)
    rw [if_pos wake_file, wake_many] at hA
    refine hA.mono ?_; rintro e w9 ⟨rfl, hb9⟩
    clear hA
    have hb := hbE.trans (hb9.mono hbE.size)
    have b1 := HB15.out.ext hb
    have b4 := HG5.out.ext hb
    have b7 := HX5.out.ext hb
    have b8 := HS5.out.ext hb
    have BEL9 := Lib.hid (BEL8.out.trans (hb.mono BEL8.out.size))
    have q1 := b1.cells
    have q4 := b4.cells
    have q8 := b8.cells
    have l1 := b1.lt
    have l4 := b4.lt
    have l8 := b8.lt
    have l7 := b7.lt
    have c0 : w9.cell? ⟨w4.heap.size, 0, none⟩ = some (.int .u8 1) := b7.cell 0 (u8s_get wake_0)
    have c8 : w9.cell? ⟨w4.heap.size, 8, none⟩ = some (.int .u8 1) := b7.cell 8 (u8s_get wake_8)
    have c12 : w9.cell? ⟨w4.heap.size, 12, none⟩ = some (.int .u8 1) := b7.cell 12 (u8s_get wake_12)
    have c63 : w9.cell? ⟨w4.heap.size, 63, none⟩ = some (.int .u8 165) := b7.cell 63 (u8s_get (blockOf_last 1 1))
    have hq : ∀ w, (binOp .eql 56 (.agg #[.int .u64 1, .int .i64 1]) (.agg #[.int .u64 1, .int .i64 1])).run Try.prog w = .ok (.bool true) w := fun w => by kernel_rfl
    clear hb hb9 hbE hWE b1 b4 b7 b8 HF5 HBF5 HB15 HG5 HX5 HS5 BEL8 q2 l2
    go_wp2
    go_ret
    exact ⟨rfl, BEL9.out⟩
end Go.Proofs.Ytmjmjjakhmeogaa
