/-
  Layer 11: the layer does something: wakes, walked.
-/
import Derived.Test.YtafigbomcgncnaaFrN
namespace Go.Dav
set_option linter.unusedVariables false
set_option linter.unusedSimpArgs false
open Go Go.RowKit
theorem BytesS.off1 {W : World} {S : Nat → Prop} {a : Option Addr} {n c p t : Nat} {l : List UInt8} {cs : List Value} (h : BytesS W S a n c l) (hp : Blk W p cs t) (hc : ∀ v ∈ cs, ∀ x, v ≠ .int .u8 x) : BytesS W (fun b => S b ∧ b ≠ p) a n c l :=
  ⟨h.at_, fun k x hk => by
    obtain ⟨b, o, h1, h2⟩ := h.in_ k x hk
    obtain ⟨b', o', h1', _, h3⟩ := h.at_.hat k x hk
    rw [h1] at h1'; cases h1'
    refine ⟨b, o, h1, h2, fun e => ?_⟩
    subst e
    rw [hp.cells] at h3
    exact hc _ (List.mem_of_getElem? h3) _ rfl⟩
theorem LooseS.off1 {W : World} {S : Nat → Prop} {a : Option Addr} {n c p t : Nat} {L : List (List UInt8)} {cs : List Value} (h : LooseS W S a n c L) (hp : Blk W p cs t) (hc : ∀ v ∈ cs, ∀ x, v ≠ .int .u8 x) (hs : ∀ v ∈ cs, ∀ a n c, v ≠ .slice (some a) n c) (hf : ∀ x ∈ L, x ≠ []) : LooseS W (fun b => S b ∧ b ≠ p) a n c L :=
  ⟨h.hlen, h.hcap, h.hmax, h.hfew, fun k x hk => by
    obtain ⟨b, o, pa, pl, pc, h1, h2, h3, h4, h5⟩ := h.hat k x hk
    refine ⟨b, o, pa, pl, pc, h1, h2, ⟨h3, fun e => ?_⟩, h4, h5.off1 hp hc⟩
    subst e
    rw [hp.cells] at h4
    obtain ⟨y, hy⟩ : ∃ y, x[0]? = some y := by
      cases x with
      | nil => exact absurd rfl (hf _ (List.mem_of_getElem? hk))
      | cons y ys => exact ⟨y, rfl⟩
    obtain ⟨b', o', h6, _⟩ := h5.at_.hat 0 y hy
    rw [h6] at h4
    exact hs _ (List.mem_of_getElem? h4) _ _ _ rfl, h.hnil⟩
theorem FileS.off1 {W : World} {S : Nat → Prop} {fa la : Option Addr} {fl fc ll lc p t : Nat} {F : FileD} (h : FileS W S fa fl fc la ll lc F) (hp : Blk W p [.slice none 0 0, .slice none 0 0, .int .i64 0, .int .i64 0, .bool false] t) (hf : F.full = true) : FileS W (fun b => S b ∧ b ≠ p) fa fl fc la ll lc F :=
  ⟨h.firm.off1 hp (by simp), h.loose.off1 hp (by simp) (by simp) (fun x hx e => by
    have h1 := hf
    unfold FileD.full at h1
    have h2 := List.all_eq_true.1 h1 x hx
    rw [e] at h2; cases h2), h.fuse, h.fault⟩
theorem fileS_none1 {W : World} {S : Nat → Prop} : FileS W S none 0 0 none 0 0 FileD.none := ⟨BytesS.nil_, LooseS.nil_, by unfold I64'; simp [FileD.none], by unfold I64'; simp [FileD.none]⟩
theorem blk_five {W : World} {p t : Nat} {cs : List Value} {v0 v1 v2 v3 v4 : Value} (h : Blk W p cs t) (hl : cs.length = 5) : Blk (((((W.setCell ⟨p, 0, none⟩ v0).setCell ⟨p, 1, none⟩ v1).setCell ⟨p, 2, none⟩ v2).setCell ⟨p, 3, none⟩ v3).setCell ⟨p, 4, none⟩ v4) p [v0, v1, v2, v3, v4] t := by
  match cs, hl with
  | [_, _, _, _, _], _ => exact ((((h.set 0 _).set 1 _).set 2 _).set 3 _).set 4 _
def FileW (w : World) (S : Nat → Prop) (F : FileD) (v : Value) (W : World) : Prop :=
  ∃ fa fl fc la ll lc, v = .agg #[.slice fa fl fc, .slice la ll lc, .int .i64 F.fuse, .int .i64 F.fault, .bool F.off] ∧ FileS W (Or S w) fa fl fc la ll lc F
def FileTup3 (w : World) (S : Nat → Prop) (F : FileD) (pl : Nat) (err : Int) (v : Value) (W : World) : Prop :=
  ∃ fa fl fc la ll lc, v = .tuple #[.agg #[.slice fa fl fc, .slice la ll lc, .int .i64 F.fuse, .int .i64 F.fault, .bool F.off], .int .i64 (pl : Int), .int .i64 err] ∧ FileS W (Or S w) fa fl fc la ll lc F
theorem FileW.later {w : World} {S : Nat → Prop} {F : FileD} : ∀ v W W', FileW w S F v W → Below W.heap.size W W' → FileW w S F v W' :=
  fun _ _ _ ⟨fa, fl, fc, la, ll, lc, h1, h2⟩ hb => ⟨fa, fl, fc, la, ll, lc, h1, h2.ext hb⟩
theorem FileTup3.later {w : World} {S : Nat → Prop} {F : FileD} {pl : Nat} {err : Int} : ∀ v W W', FileTup3 w S F pl err v W → Below W.heap.size W W' → FileTup3 w S F pl err v W' :=
  fun _ _ _ ⟨fa, fl, fc, la, ll, lc, h1, h2⟩ hb => ⟨fa, fl, fc, la, ll, lc, h1, h2.ext hb⟩
theorem LooseS.bound {W : World} {S : Nat → Prop} {a : Option Addr} {n c : Nat} {L : List (List UInt8)} (h : LooseS W S a n c L) : LooseS W (fun b => S b ∧ b < W.heap.size) a n c L :=
  ⟨h.hlen, h.hcap, h.hmax, h.hfew, fun k x hk => by
    obtain ⟨b, o, pa, pl, pc, h1, h2, h3, h4, h5⟩ := h.hat k x hk
    exact ⟨b, o, pa, pl, pc, h1, h2, ⟨h3, h2⟩, h4, h5.bound⟩, h.hnil⟩
theorem FileS.bound {W : World} {S : Nat → Prop} {fa la : Option Addr} {fl fc ll lc : Nat} {F : FileD} (h : FileS W S fa fl fc la ll lc F) : FileS W (fun b => S b ∧ b < W.heap.size) fa fl fc la ll lc F := ⟨h.firm.bound, h.loose.bound, h.fuse, h.fault⟩
def wakeR1 : List UInt8 := outOf (List.replicate 60 0)
def wakeR2 : List UInt8 := outOf [7, 8, 9]
def wakeA : FileD := ⟨[], [pieceOf [] wakeR1], -1, -1, false⟩
def wakeB : FileD := ⟨[], [pieceOf [] wakeR1, pieceOf (pieceOf [] wakeR1) wakeR2], -1, -1, false⟩
theorem wakeA_put : FileD.none.fput (List.replicate 60 0) = (wakeA, 1, 0) := by kernel_rfl
theorem wakeB_put : wakeA.fput [7, 8, 9] = (wakeB, 68, 0) := by kernel_rfl
theorem wakeB_no : wakeB.fput [] = (wakeB, 0, 2) := by kernel_rfl
theorem wakeA_many : wakeA.many = 68 := by kernel_rfl
theorem wakeB_many : wakeB.many = 77 := by kernel_rfl
theorem wakeA_right : wakeA.right = true := by kernel_rfl
theorem wakeB_right : wakeB.right = true := by kernel_rfl
theorem wakeB_get : frameOf (pastAll wakeB.all 68) = some ([7, 8, 9], 77) := by kernel_rfl
theorem wakeB_get2 : frameOf (pastAll wakeB.all 2) = none := by kernel_rfl
end Go.Dav
namespace Go.Proofs.Ytafigbomcgncnaa
set_option linter.unusedVariables false
set_option linter.unusedSimpArgs false
open Go.RowKit Go.Dav
attribute [local go_sem] Gives ite_val ite_val_true

set_option maxRecDepth 100000 in
set_option maxHeartbeats 8000000 in
theorem Try_wakes11 (w : World) : Calls Try.prog 8 #[] w fun e w' => e = .returned (.bool true) ∧ Below w.heap.size w w' := by
  have HZ := Lib.hid (show ∀ W, (Instr.makeSlice 22 (.int .i64 60) (.int .i64 60)).run Try.prog W = .ok (.slice (some ⟨W.heap.size, 0, none⟩) 60 60) (W.alloc (.cells (u8s (List.replicate 60 0)).toArray 5)) from fun W => Try_makeZ 60 (by omega) W)
  go_enter Try.func8, Try.ntmps8
  go_wp2_with fail
  refine' wp_region_seqF [5, 6] [.inl _, .inr (AnyRow1 (List.replicate 60 0)), .inr (FileTup3 w (fun _ => False) wakeA 1 0), .inr (FileTup3 w (fun _ => False) wakeA 1 0), .inr (FileW w (fun _ => False) wakeA), .inl _, .inl _, .inr (NewBlk w.heap.size [.slice none 0 0, .slice none 0 0, .int .i64 0, .int .i64 0, .bool false] 25)] (by kernel_rfl) (by kernel_rfl) ?main1
  case main1 =>
    refine wpParts_det (by rfl) (fun W hE hN => ?_) ?_
    · go_simp; refine ⟨Below.refl _ _, ?_⟩; refine (Try_New W).mono ?_; rintro e w' ⟨rfl, hb⟩; refine ⟨?_, hb⟩; rfl
    simp only [Act.put, List.setIfInBounds_toArray, List.set_cons_zero, List.set_cons_succ]
    refine wpParts_any rfl (AnyRow1.later) (by rfl) (fun W hE hN => ?_) (fun u1 => ?_)
    · have kz := HZ.out W; go_simp; exact ⟨(by repeat (first | (with_reducible exact Below.refl _ _) | (with_reducible exact Below.refl _ _) | (with_reducible refine Below.setCell ?_ (by first | omega | (simp; done) | (simp; omega)) _) | (with_reducible refine Below.alloc ?_ (by first | omega | (simp; done) | (simp; omega)) _) | (with_reducible refine Below.drew ?_) | (with_reducible refine below_drewN ?_ _))), _, _, _, rfl, Try_zeroS 60 W (by omega)⟩
    simp only [Act.put, List.setIfInBounds_toArray, List.set_cons_zero, List.set_cons_succ]
    refine wpParts_any rfl (FileTup3.later) (by rfl) (fun W hE hN => ?_) (fun u2 => ?_)
    · simp [near, Oper.looksAt, Op.operands, Call.operands] at hN; obtain ⟨ca, cl, cc, rfl, hB⟩ := hN; go_simp; refine ⟨Below.refl _ _, ?_⟩; have hA := Try_fPut FileD.none none none ca 0 0 0 0 cl cc (List.replicate 60 0) W (fun _ => False) _ fileS_none1 (fun b h => h.elim) hB; rw [wakeA_put] at hA; refine hA.mono ?_; rintro e w' ⟨ga, gl, gc, ma, ml, mc, rfl, hR, hb⟩; exact ⟨_, rfl, hb, ga, gl, gc, ma, ml, mc, rfl, hR.mono fun b h => h.imp id fun h => Nat.le_trans hE.size h⟩
    simp only [Act.put, List.setIfInBounds_toArray, List.set_cons_zero, List.set_cons_succ]
    refine wpParts_any rfl (FileTup3.later) (by rfl) (fun W hE hN => ?_) (fun u3 => ?_)
    · simp [near, Oper.looksAt, Op.operands] at hN; go_simp; exact Below.refl _ _
    simp only [Act.put, List.setIfInBounds_toArray, List.set_cons_zero, List.set_cons_succ]
    refine wpParts_any rfl (FileW.later) (by rfl) (fun W hE hN => ?_) (fun u4 => ?_)
    · simp [near, Oper.looksAt, Op.operands] at hN; obtain ⟨ga, gl, gc, ma, ml, mc, rfl, hR⟩ := hN; go_simp; exact ⟨Below.refl _ _, ga, gl, gc, ma, ml, mc, rfl, hR⟩
    simp only [Act.put, List.setIfInBounds_toArray, List.set_cons_zero, List.set_cons_succ]
    refine wpParts_det (by rfl) (fun W hE hN => ?_) ?_
    · simp [near, Oper.looksAt, Op.operands] at hN; obtain ⟨ga, gl, gc, ma, ml, mc, rfl, hR⟩ := hN; go_simp; refine ⟨Below.refl _ _, ?_⟩; rfl
    simp only [Act.put, List.setIfInBounds_toArray, List.set_cons_zero, List.set_cons_succ]
    refine wpParts_det (by rfl) (fun W hE hN => ?_) ?_
    · simp [near, Oper.looksAt, Op.operands] at hN; obtain ⟨ga, gl, gc, ma, ml, mc, rfl, hR⟩ := hN; go_simp; refine ⟨Below.refl _ _, ?_⟩; rfl
    simp only [Act.put, List.setIfInBounds_toArray, List.set_cons_zero, List.set_cons_succ]
    refine wpParts_any rfl (NewBlk.later) (by rfl) (fun W hE hN => ?_) (fun u7 => ?_)
    · go_simp; exact newBlk_alloc (cs := [.slice none 0 0, .slice none 0 0, .int .i64 0, .int .i64 0, .bool false]) hE.size
    simp only [Act.put, List.setIfInBounds_toArray, List.set_cons_zero, List.set_cons_succ]
    refine wpParts_end fun W2 hE2 hG2 => ?_
    have hcW2 := fun b o h => hE2.cell (p := ⟨b, o, none⟩) h
    have hfW2 := fun b o h => hE2.frozen (p := ⟨b, o, none⟩) h
    obtain ⟨⟨p2, rfl, hp2, hk2⟩, ⟨ga, gl, gc, ma, ml, mc, rfl, hR⟩, _⟩ := hG2
    have HR := Lib.hid (hR.off1 hk2 (FileD.right_spec.1 wakeA_right).1)
    have HK2 := Lib.hid hk2
    have BEL2 := Lib.hid hE2
    have q2 := hk2.cells
    have m2 := hk2.marks
    have l2 := hk2.lt
    clear hR hk2 hE2 hcW2 hfW2
    go_wp2_with fail
    refine noPanic_normal ?_
    go_wp2_with fail
    obtain ⟨V, hV⟩ : ∃ V, (((((W2.setCell ⟨p2, 0, none⟩ (.slice ga gl gc)).setCell ⟨p2, 1, none⟩ (.slice ma ml mc)).setCell ⟨p2, 2, none⟩ (.int .i64 wakeA.fuse)).setCell ⟨p2, 3, none⟩ (.int .i64 wakeA.fault)).setCell ⟨p2, 4, none⟩ (.bool wakeA.off)) = V := ⟨_, rfl⟩
    have o5 : Only p2 W2 V := by rw [← hV]; exact (by repeat (first | (with_reducible exact Only.refl _ _) | (with_reducible refine Only.set ?_ _ _) | (with_reducible refine Only.alloc ?_ _) | (with_reducible refine Only.drew ?_)))
    have HBF := Lib.hid (show Blk V p2 [.slice ga gl gc, .slice ma ml mc, .int .i64 wakeA.fuse, .int .i64 wakeA.fault, .bool wakeA.off] 25 by rw [← hV]; exact blk_five HK2.out rfl)
    have HFV := Lib.hid (HR.out.same o5.size (fun b h hlt => o5.block b hlt h.2))
    have BELV := Lib.hid (below_only BEL2.out o5 BEL2.out.size hp2)
    rw [hV]
    clear hV o5 q2 m2 l2 HR HK2 BEL2
    have hA := Try_Len wakeA ga ma gl gc ml mc V HFV.out.at_
    rw [if_pos wakeA_right, wakeA_many] at hA
    refine hA.mono ?_; rintro e w3 ⟨rfl, hb3⟩
    clear hA
    have HF3 := Lib.hid ((HFV.out.ext hb3).mono (T := fun b => b ≠ p2) fun b h => h.2)
    have HBF3 := Lib.hid (HBF.out.ext hb3)
    have BEL3 := Lib.hid (BELV.out.trans (hb3.mono BELV.out.size))
    have q2 := HBF3.out.cells
    have l2 := HBF3.out.lt
    clear hb3 HFV HBF BELV
    go_wp2_with fail
    obtain ⟨WA, hWA⟩ : ∃ WA, w3.alloc (.cells #[.int .u8 7, .int .u8 8, .int .u8 9] 5) = WA := ⟨_, rfl⟩
    have hbA : Below w3.heap.size w3 WA := by rw [← hWA]; exact (by repeat (first | (with_reducible exact Below.refl _ _) | (with_reducible exact Below.refl _ _) | (with_reducible refine Below.setCell ?_ (by first | omega | (simp; done) | (simp; omega)) _) | (with_reducible refine Below.alloc ?_ (by first | omega | (simp; done) | (simp; omega)) _) | (with_reducible refine Below.drew ?_) | (with_reducible refine below_drewN ?_ _)))
    have HX := Lib.hid (show BytesS WA (fun _ => True) (some ⟨w3.heap.size, 0, none⟩) 3 3 [7, 8, 9] by
      have h := cells_of_blk' (show Blk WA w3.heap.size (u8s [7, 8, 9]) 5 by rw [← hWA]; exact Blk.new _ _ _)
      exact BytesS.of_cells (h.mono fun _ _ => trivial) (Nat.le_refl _) (by unfold maxLen; omega) (by omega) (fun e => by cases e))
    rw [hWA]
    have HFA := Lib.hid ((HF3.out.ext hbA).bound)
    have HBFA := Lib.hid (HBF3.out.ext hbA)
    have BELA := Lib.hid (BEL3.out.trans (hbA.mono BEL3.out.size))
    clear hbA hWA HF3 HBF3 BEL3 q2 l2
    have hA := Try_fPut wakeA ga ma _ gl gc ml mc 3 3 [7, 8, 9] WA _ _ HFA.out (fun b h => h.2) HX.out
    rw [wakeB_put] at hA
    refine hA.mono ?_; rintro e w4 ⟨ha, hl, hc, na, nl, nc, rfl, hR4, hb4⟩
    clear hA
    have HR4 := Lib.hid (hR4.mono (T := fun b => b ≠ p2) fun b h => by
      rcases h with h | h
      · exact h.1
      · have := HBFA.out.lt; omega)
    have HBF4 := Lib.hid (HBFA.out.ext hb4)
    have BEL4 := Lib.hid (BELA.out.trans (hb4.mono BELA.out.size))
    have q2 := HBF4.out.cells
    have m2 := HBF4.out.marks
    have l2 := HBF4.out.lt
    clear hb4 hR4 HX HFA HBFA BELA
    go_wp2_with fail
    obtain ⟨V, hV⟩ : ∃ V, (((((w4.setCell ⟨p2, 0, none⟩ (.slice ha hl hc)).setCell ⟨p2, 1, none⟩ (.slice na nl nc)).setCell ⟨p2, 2, none⟩ (.int .i64 wakeB.fuse)).setCell ⟨p2, 3, none⟩ (.int .i64 wakeB.fault)).setCell ⟨p2, 4, none⟩ (.bool wakeB.off)) = V := ⟨_, rfl⟩
    have o5 : Only p2 w4 V := by rw [← hV]; exact (by repeat (first | (with_reducible exact Only.refl _ _) | (with_reducible refine Only.set ?_ _ _) | (with_reducible refine Only.alloc ?_ _) | (with_reducible refine Only.drew ?_)))
    have HBV := Lib.hid (show Blk V p2 [.slice ha hl hc, .slice na nl nc, .int .i64 wakeB.fuse, .int .i64 wakeB.fault, .bool wakeB.off] 25 by rw [← hV]; exact blk_five HBF4.out rfl)
    have HFV := Lib.hid (HR4.out.same o5.size (fun b h hlt => o5.block b hlt h))
    have BELV := Lib.hid (below_only BEL4.out o5 BEL4.out.size hp2)
    rw [hV]
    clear hV o5 q2 m2 l2 HR4 HBF4 BEL4
    have hA := Try_Len wakeB ha na hl hc nl nc V HFV.out.at_
    rw [if_pos wakeB_right, wakeB_many] at hA
    refine hA.mono ?_; rintro e w5 ⟨rfl, hb5⟩
    clear hA
    have HF5 := Lib.hid (HFV.out.ext hb5)
    have HBF5 := Lib.hid (HBV.out.ext hb5)
    have BEL5 := Lib.hid (BELV.out.trans (hb5.mono BELV.out.size))
    have q2 := HBF5.out.cells
    have l2 := HBF5.out.lt
    clear hb5 HFV HBV BELV
    go_wp2_with fail
    have hA := Try_Get wakeB ha na hl hc nl nc 68 w5 _ HF5.out.bound (fun b h => h.2) wakeB_right (by unfold I64'; omega)
    refine hA.mono ?_; rintro e w6 (⟨gp, gn, hfr, xa, xn, xc, rfl, hX, hb6⟩ | ⟨hfr, _⟩)
    case inr => rw [wakeB_get] at hfr; cases hfr
    rw [wakeB_get] at hfr
    cases hfr
    clear hA
    have HX := Lib.hid hX
    have HF6 := Lib.hid (HF5.out.ext hb6)
    have HBF6 := Lib.hid (HBF5.out.ext hb6)
    have BEL6 := Lib.hid (BEL5.out.trans (hb6.mono BEL5.out.size))
    clear hb6 hX HF5 HBF5 BEL5 q2 l2
    have q2 := HBF6.out.cells
    have l2 := HBF6.out.lt
    go_wp2_with fail
    have hA := Try_Get wakeB ha na hl hc nl nc 2 w6 _ HF6.out.bound (fun b h => h.2) wakeB_right (by unfold I64'; omega)
    refine hA.mono ?_; rintro e w7 (⟨gp, gn, hfr, _⟩ | ⟨hfr, rfl, hb7⟩)
    case inl => rw [wakeB_get2] at hfr; cases hfr
    clear hA hfr
    have HX7 := Lib.hid (HX.out.ext hb7)
    have HF7 := Lib.hid (HF6.out.ext hb7)
    have HBF7 := Lib.hid (HBF6.out.ext hb7)
    have BEL7 := Lib.hid (BEL6.out.trans (hb7.mono BEL6.out.size))
    clear hb7 HX HF6 HBF6 BEL6 q2 l2
    have q2 := HBF7.out.cells
    have l2 := HBF7.out.lt
    go_wp2_with fail
    have hA := Try_fPut wakeB ha na none hl hc nl nc 0 0 [] w7 _ (fun _ => True) HF7.out.bound (fun b h => h.2) BytesS.nil_
    rw [wakeB_no] at hA
    refine hA.mono ?_; rintro e w8 ⟨ia, il, ic, ja, jl, jc, rfl, _, hb8⟩
    clear hA
    have HX8 := Lib.hid (HX7.out.ext hb8)
    have BEL8 := Lib.hid (BEL7.out.trans (hb8.mono BEL7.out.size))
    clear hb8 HX7 HF7 HBF7 BEL7 q2 l2
    go_wp2_with fail
    obtain ⟨WE, hWE⟩ : ∃ WE, (w8.alloc (.cells [.slice ia il ic, .slice ja jl jc, .int .i64 wakeB.fuse, .int .i64 wakeB.fault, .bool wakeB.off].toArray 25)).alloc (.cells #[.int .u8 7, .int .u8 8, .int .u8 9] 5) = WE := ⟨_, rfl⟩
    have hbE : Below w8.heap.size w8 WE := by rw [← hWE]; exact (by repeat (first | (with_reducible exact Below.refl _ _) | (with_reducible exact Below.refl _ _) | (with_reducible refine Below.setCell ?_ (by first | omega | (simp; done) | (simp; omega)) _) | (with_reducible refine Below.alloc ?_ (by first | omega | (simp; done) | (simp; omega)) _) | (with_reducible refine Below.drew ?_) | (with_reducible refine below_drewN ?_ _)))
    have HY := Lib.hid (show BytesS WE (fun _ => True) (some ⟨w8.heap.size + 1, 0, none⟩) 3 3 [7, 8, 9] by
      have h := cells_of_blk' (show Blk WE (w8.heap.size + 1) (u8s [7, 8, 9]) 5 by rw [← hWE]; exact Blk.new' _ _ _ (by simp))
      exact BytesS.of_cells (h.mono fun _ _ => trivial) (Nat.le_refl _) (by unfold maxLen; omega) (by omega) (fun e => by cases e))
    have HXE := Lib.hid (HX8.out.ext hbE)
    have BELE := Lib.hid (BEL8.out.trans (hbE.mono BEL8.out.size))
    rw [show _ = WE from hWE]
    clear hbE hWE HX8 BEL8
    have hA := Try_slicesEqual xa _ xn xc 3 3 [7, 8, 9] [7, 8, 9] WE HXE.out HY.out.at_
    rw [show decide (([7, 8, 9] : List UInt8) = [7, 8, 9]) = true from rfl] at hA
    refine hA.mono ?_; rintro e w9 ⟨rfl, hb9⟩
    have BEL9 := Lib.hid (BELE.out.trans (hb9.mono BELE.out.size))
    clear hb9 hA HXE HY BELE
    go_wp2
    go_ret
    exact ⟨rfl, BEL9.out⟩
end Go.Proofs.Ytafigbomcgncnaa
