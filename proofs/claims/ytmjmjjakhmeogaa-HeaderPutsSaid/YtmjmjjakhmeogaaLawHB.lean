/-
  HeaderPuts, walked.
-/
import Derived.Test.YtmjmjjakhmeogaaLawHA
import Derived.Test.YtmjmjjakhmeogaaFilM
namespace Go.Dav
set_option linter.unusedVariables false
set_option linter.unusedSimpArgs false
open Go Go.RowKit
theorem FileS.offF {W : World} {S : Nat → Prop} {fa la : Option Addr} {fl fc ll lc p t : Nat} {F : FileD} (h : FileS W S fa fl fc la ll lc F) (hp : Blk W p [.slice none 0 0, .slice none 0 0, .int .i64 0, .int .i64 0, .bool false] t) (hf : F.full = true) : FileS W (fun b => S b ∧ b ≠ p) fa fl fc la ll lc F :=
  ⟨h.firm.off hp (by simp), h.loose.off hp (by simp) (by simp) (fun x hx e => by
    unfold FileD.full at hf
    have h2 := List.all_eq_true.1 hf x hx
    rw [e] at h2; cases h2), h.fuse, h.fault⟩
theorem FileD.append_op {F : FileD} {x : List UInt8} (hx : x ≠ []) : F.append x = F.op x.length fun G => { G with loose := G.loose ++ [x] } := by
  unfold FileD.append; rw [if_neg (fun h => hx h.2)]
theorem FileD.asked_loose (F : FileD) (more : Int) : (F.asked more).1.loose = F.loose := by
  unfold FileD.asked
  repeat' split
  all_goals rfl
theorem FileD.append_full {F : FileD} {x : List UInt8} (hr : F.full = true) (hx : x ≠ []) : (F.append x).1.full = true := by
  rw [FileD.append_op hx]
  unfold FileD.op
  split
  · split
    · unfold FileD.full at *
      dsimp only
      rw [FileD.asked_loose, List.all_append, hr]
      cases x with
      | nil => exact absurd rfl hx
      | cons y ys => rfl
    · unfold FileD.full at *
      rw [FileD.asked_loose]; exact hr
  · exact hr
theorem laidOf_ne (n g a : Nat) : laidOf n g a ≠ [] := fun h => by have := laidOf_len n g a; rw [h] at this; simp at this
end Go.Dav
namespace Go.Proofs.Ytmjmjjakhmeogaa
set_option linter.unusedVariables false
set_option linter.unusedSimpArgs false
open Go.RowKit Go.Dav
attribute [local go_sem] Gives ite_val ite_val_true

set_option maxRecDepth 100000 in
set_option maxHeartbeats 8000000 in
theorem Try_HeaderPuts (F : FileD) (h : HeadD) (fa la : Option Addr) (fl fc ll lc : Nat) (w : World) (hF : FileAt w fa fl fc la ll lc F) (hh : h.Fits) :
    Calls Try.prog 10 #[.agg #[.slice fa fl fc, .slice la ll lc, .int .i64 F.fuse, .int .i64 F.fault, .bool F.off], .agg #[.int .u64 (h.gen : Int), .int .i64 h.at_]] w fun e w' => e = .returned (.bool true) ∧ Below w.heap.size w w' := by
  obtain ⟨W0, hW0⟩ : ∃ W0, (w.alloc (.cells [.slice fa fl fc, .slice la ll lc, .int .i64 F.fuse, .int .i64 F.fault, .bool F.off].toArray 25)).alloc (.cells #[.int .u64 (h.gen : Int), .int .i64 h.at_] 56) = W0 := ⟨_, rfl⟩
  have bel0 : Below w.heap.size w W0 := by rw [← hW0]; exact (by repeat (first | (with_reducible exact Below.refl _ _) | (with_reducible exact Below.refl _ _) | (with_reducible refine Below.setCell ?_ (by first | omega | (simp; done) | (simp; omega)) _) | (with_reducible refine Below.alloc ?_ (by first | omega | (simp; done) | (simp; omega)) _) | (with_reducible refine Below.drew ?_) | (with_reducible refine below_drewN ?_ _)))
  have HB1 := Lib.hid (show Blk W0 w.heap.size [.slice fa fl fc, .slice la ll lc, .int .i64 F.fuse, .int .i64 F.fault, .bool F.off] 25 by rw [← hW0]; exact (Blk.new w [.slice fa fl fc, .slice la ll lc, .int .i64 F.fuse, .int .i64 F.fault, .bool F.off] _).alloc _)
  have HB2 := Lib.hid (show Blk W0 (w.heap.size + 1) [.int .u64 (h.gen : Int), .int .i64 h.at_] 56 by rw [← hW0]; exact Blk.new' _ _ _ (by simp))
  have BEL0 := Lib.hid bel0
  have HF := Lib.hid ((hF.s).ext bel0)
  have HH := Lib.hid hh
  have HW0 := Lib.hid hW0
  clear hF bel0 hh hW0
  go_enter Try.func10, Try.ntmps10
  go_wp2_with fail
  rw [HW0.out]
  refine (Try_wakes12 W0).mono ?_; rintro e w1 ⟨rfl, hb1⟩
  have HB11 := Lib.hid (HB1.out.ext hb1)
  have HB21 := Lib.hid (HB2.out.ext hb1)
  have HF1 := Lib.hid (HF.out.ext hb1)
  have BEL1 := Lib.hid (BEL0.out.trans (hb1.mono BEL0.out.size))
  have q1 := HB11.out.cells
  have l1 := HB11.out.lt
  have q2 := HB21.out.cells
  have l2 := HB21.out.lt
  clear hb1 HB1 HB2 HF BEL0 HW0
  go_wp2_with fail
  obtain ⟨F7, e7, hV⟩ : ∃ F7 e7, F.put h = (F7, e7) := ⟨_, _, rfl⟩
  have hA := Try_Put F h fa la fl fc ll lc w1 _ HH.out HF1.out (fun b hb => by have := BEL1.out.size; omega)
  rw [hV] at hA
  have HV := Lib.hid hV
  clear hV
  refine hA.mono ?_; rintro e w2 ⟨ga, gl, gc, ma, ml, mc, rfl, hR, hb2⟩
  clear hA q1 l1 q2 l2
  have HB12 := Lib.hid (HB11.out.ext hb2)
  have HB22 := Lib.hid (HB21.out.ext hb2)
  have HF2 := Lib.hid (HF1.out.ext hb2)
  have BEL2 := Lib.hid (BEL1.out.trans (hb2.mono BEL1.out.size))
  have HG2 := Lib.hid hR.at_
  have q1 := HB12.out.cells
  have l1 := HB12.out.lt
  clear hb2 HB11 HB21 HF1 BEL1 hR
  go_wp2_with fail
  obtain ⟨W3, hW3⟩ : ∃ W3, w2.alloc (.cells [.slice ga gl gc, .slice ma ml mc, .int .i64 F7.fuse, .int .i64 F7.fault, .bool F7.off].toArray 25) = W3 := ⟨_, rfl⟩
  have hb3 : Below w2.heap.size w2 W3 := by rw [← hW3]; exact (by repeat (first | (with_reducible exact Below.refl _ _) | (with_reducible exact Below.refl _ _) | (with_reducible refine Below.setCell ?_ (by first | omega | (simp; done) | (simp; omega)) _) | (with_reducible refine Below.alloc ?_ (by first | omega | (simp; done) | (simp; omega)) _) | (with_reducible refine Below.drew ?_) | (with_reducible refine below_drewN ?_ _)))
  have HG := Lib.hid (show Blk W3 w2.heap.size [.slice ga gl gc, .slice ma ml mc, .int .i64 F7.fuse, .int .i64 F7.fault, .bool F7.off] 25 by rw [← hW3]; exact Blk.new w2 [.slice ga gl gc, .slice ma ml mc, .int .i64 F7.fuse, .int .i64 F7.fault, .bool F7.off] _)
  have HB13 := Lib.hid (HB12.out.ext hb3)
  have HB23 := Lib.hid (HB22.out.ext hb3)
  have HF3 := Lib.hid (HF2.out.ext hb3)
  have HG3 := Lib.hid (HG2.out.ext hb3)
  have BEL3 := Lib.hid (BEL2.out.trans (hb3.mono BEL2.out.size))
  rw [hW3]
  clear hb3 hW3 HB12 HB22 HF2 HG2 BEL2 q1 l1
  refine (Try_Right F fa la fl fc ll lc W3 HF3.out.at_).mono ?_; rintro e w4 ⟨rfl, hb4⟩
  have HG4 := Lib.hid (HG.out.ext hb4)
  have HB14 := Lib.hid (HB13.out.ext hb4)
  have HB24 := Lib.hid (HB23.out.ext hb4)
  have HF4 := Lib.hid (HF3.out.ext hb4)
  have HGF4 := Lib.hid (HG3.out.ext hb4)
  have BEL4 := Lib.hid (BEL3.out.trans (hb4.mono BEL3.out.size))
  have q1 := HB14.out.cells
  have l1 := HB14.out.lt
  have q2 := HB24.out.cells
  have l2 := HB24.out.lt
  have q5 := HG4.out.cells
  have l5 := HG4.out.lt
  clear hb4 HG HB13 HB23 HF3 HG3 BEL3
  cases hr : F.right with
  | false =>
    have hv := HV.out
    rw [show F.put h = (F, 200) by unfold FileD.put; rw [if_neg (by rw [hr]; decide)]] at hv
    cases hv
    clear hr
    go_wp2_with fail
    refine (Try_refSame F F ga ma fa la gl gc ml mc fl fc ll lc w4 HGF4.out HF4.out.at_).mono ?_; rintro e w9 ⟨rfl, hb9⟩
    rw [FileD.one_self]
    have BEL9 := Lib.hid (BEL4.out.trans (hb9.mono BEL4.out.size))
    clear hb9
    go_wp2
    go_ret
    exact ⟨rfl, BEL9.out⟩
  | true =>
    go_wp2_with fail
    refine (Try_hRight h w4).mono ?_; rintro e w5 ⟨rfl, hb5⟩
    clear q1 l1 q2 l2 q5 l5
    have HG5 := Lib.hid (HG4.out.ext hb5)
    have HB15 := Lib.hid (HB14.out.ext hb5)
    have HB25 := Lib.hid (HB24.out.ext hb5)
    have HF5 := Lib.hid (HF4.out.ext hb5)
    have HGF5 := Lib.hid (HGF4.out.ext hb5)
    have BEL5 := Lib.hid (BEL4.out.trans (hb5.mono BEL4.out.size))
    have q1 := HB15.out.cells
    have l1 := HB15.out.lt
    have q2 := HB25.out.cells
    have l2 := HB25.out.lt
    have q5 := HG5.out.cells
    have l5 := HG5.out.lt
    clear hb5 HG4 HB14 HB24 HF4 HGF4 BEL4
    cases hhr : h.right with
    | false =>
      have hv := HV.out
      rw [show F.put h = (F, 220) by unfold FileD.put; rw [if_pos hr, if_neg (by rw [hhr]; decide)]] at hv
      cases hv
      clear hr hhr
      go_wp2_with fail
      refine (Try_refSame F F ga ma fa la gl gc ml mc fl fc ll lc w5 HGF5.out HF5.out.at_).mono ?_; rintro e w9 ⟨rfl, hb9⟩
      rw [FileD.one_self]
      have BEL9 := Lib.hid (BEL5.out.trans (hb9.mono BEL5.out.size))
      clear hb9
      go_wp2
      go_ret
      exact ⟨rfl, BEL9.out⟩
    | true =>
      obtain ⟨a, ha⟩ : ∃ a : Nat, h.at_ = (a : Int) := Int.eq_ofNat_of_zero_le (HeadD.right_spec.1 hhr).2.1
      have hal : a < 524288 := by have := (HeadD.right_spec.1 hhr).2.2; omega
      have hmx := (FileD.right_spec.1 hr).2.2.2.2
      have hfull := (FileD.right_spec.1 hr).1
      have hv := HV.out
      rw [show F.put h = F.append (laidOf F.many h.gen a) by unfold FileD.put; rw [if_pos hr, if_pos hhr, ha]; rfl] at hv
      have hful7 : F7.full = true := by have h1 := FileD.append_full (x := laidOf F.many h.gen a) hfull (laidOf_ne _ _ _); rw [hv] at h1; exact h1
      rw [FileD.append_op (laidOf_ne _ _ _)] at hv
      have HOP := Lib.hid hv
      have HLAID := Lib.hid (fun W => Try_refLaidH F.many h.gen a W (by omega) HH.out.gen hal)
      have HAA := Lib.hid ha
      have HMX := Lib.hid hmx
      have HRR := Lib.hid hr
      have HF7 := Lib.hid hful7
      clear hv hr hhr ha hal hmx hfull hful7
      go_wp2_with fail
      refine' wp_region_seqF [8] [.inl _, .inl _, .inl _, .inl _, .inr (AnyRow (laidOf F.many h.gen a)), .inr (FileTup w5 (fun b => b < w.heap.size) F7 e7), .inr (FileTup w5 (fun b => b < w.heap.size) F7 e7), .inr (FileV w5 (fun b => b < w.heap.size) F7), .inl _, .inr (NewBlk w5.heap.size [.slice none 0 0, .slice none 0 0, .int .i64 0, .int .i64 0, .bool false] 25)] (by kernel_rfl) (by kernel_rfl) ?main1
      case main1 =>
        refine wpParts_det (by rfl) (fun W hE hN => ?_) ?_
        · have hc := fun b o h => hE.cell (p := ⟨b, o, none⟩) h
          go_simp; refine ⟨Below.refl _ _, ?_⟩; rfl
        simp only [Act.put, List.setIfInBounds_toArray, List.set_cons_zero, List.set_cons_succ]
        refine wpParts_det (by rfl) (fun W hE hN => ?_) ?_
        · have hc := fun b o h => hE.cell (p := ⟨b, o, none⟩) h
          go_simp; refine ⟨Below.refl _ _, ?_⟩; rfl
        simp only [Act.put, List.setIfInBounds_toArray, List.set_cons_zero, List.set_cons_succ]
        refine wpParts_det (by rfl) (fun W hE hN => ?_) ?_
        · go_simp; refine ⟨Below.refl _ _, ?_⟩; refine (Try_Long F fa la fl fc ll lc W (HF5.out.ext hE).at_).mono ?_; rintro e w' ⟨n, rfl, hn1, _, _, hb⟩; obtain rfl := hn1 HMX.out; refine ⟨?_, hb⟩; rfl
        simp only [Act.put, List.setIfInBounds_toArray, List.set_cons_zero, List.set_cons_succ]
        refine wpParts_det (by rfl) (fun W hE hN => ?_) ?_
        · have hc := fun b o h => hE.cell (p := ⟨b, o, none⟩) h
          go_simp; refine ⟨Below.refl _ _, ?_⟩; rfl
        simp only [Act.put, List.setIfInBounds_toArray, List.set_cons_zero, List.set_cons_succ]
        refine wpParts_any rfl (AnyRow.later) (by rfl) (fun W hE hN => ?_) (fun u4 => ?_)
        · rw [HAA.out]; go_simp; refine ⟨Below.refl _ _, ?_⟩; refine (HLAID.out W).mono ?_; rintro e w' ⟨ba, bm, bc, rfl, hB, hb⟩; exact ⟨_, rfl, hb, ba, bm, bc, rfl, hB.mono fun _ _ => trivial⟩
        simp only [Act.put, List.setIfInBounds_toArray, List.set_cons_zero, List.set_cons_succ]
        refine wpParts_any rfl (FileTup.later) (by rfl) (fun W hE hN => ?_) (fun u5 => ?_)
        · simp [near, Oper.looksAt, Op.operands, Call.operands] at hN; obtain ⟨ba, bm, bc, rfl, hB⟩ := hN; go_simp; refine ⟨Below.refl _ _, ?_⟩; have hA := Try_refAppend F fa la ba fl fc ll lc bm bc (laidOf F.many h.gen a) W _ (fun _ => True) (HF5.out.ext hE) (fun b h => by have := hE.size; have := BEL5.out.size; omega) HRR.out hB; rw [HOP.out] at hA; refine hA.mono ?_; rintro e w' ⟨ra, rl, rc, sa, sl, sc, rfl, hR, hb⟩; exact ⟨_, rfl, hb, ra, rl, rc, sa, sl, sc, rfl, hR.mono fun b h => h.imp id fun h => Nat.le_trans hE.size h⟩
        simp only [Act.put, List.setIfInBounds_toArray, List.set_cons_zero, List.set_cons_succ]
        refine wpParts_any rfl (FileTup.later) (by rfl) (fun W hE hN => ?_) (fun u6 => ?_)
        · simp [near, Oper.looksAt, Op.operands] at hN; go_simp; exact Below.refl _ _
        simp only [Act.put, List.setIfInBounds_toArray, List.set_cons_zero, List.set_cons_succ]
        refine wpParts_any rfl (FileV.later) (by rfl) (fun W hE hN => ?_) (fun u7 => ?_)
        · simp [near, Oper.looksAt, Op.operands] at hN; obtain ⟨ra, rl, rc, sa, sl, sc, rfl, hR⟩ := hN; go_simp; exact ⟨Below.refl _ _, ra, rl, rc, sa, sl, sc, rfl, hR⟩
        simp only [Act.put, List.setIfInBounds_toArray, List.set_cons_zero, List.set_cons_succ]
        refine wpParts_det (by rfl) (fun W hE hN => ?_) ?_
        · simp [near, Oper.looksAt, Op.operands] at hN; obtain ⟨ra, rl, rc, sa, sl, sc, rfl, hR⟩ := hN; go_simp; refine ⟨Below.refl _ _, ?_⟩; rfl
        simp only [Act.put, List.setIfInBounds_toArray, List.set_cons_zero, List.set_cons_succ]
        refine wpParts_any rfl (NewBlk.later) (by rfl) (fun W hE hN => ?_) (fun u9 => ?_)
        · go_simp; exact newBlk_alloc (cs := [.slice none 0 0, .slice none 0 0, .int .i64 0, .int .i64 0, .bool false]) hE.size
        simp only [Act.put, List.setIfInBounds_toArray, List.set_cons_zero, List.set_cons_succ]
        refine wpParts_end fun W6 hE6 hG6 => ?_
        have hcW6 := fun b o h => hE6.cell (p := ⟨b, o, none⟩) h
        have hfW6 := fun b o h => hE6.frozen (p := ⟨b, o, none⟩) h
        obtain ⟨⟨p7, rfl, hp7, hk7⟩, ⟨ra, rl, rc, sa, sl, sc, rfl, hR⟩, _⟩ := hG6
        have HR := Lib.hid (hR.offF hk7 HF7.out)
        have HK7 := Lib.hid hk7
        have HG6 := Lib.hid (HG5.out.ext hE6)
        have HGF6 := Lib.hid (HGF5.out.s.ext hE6)
        have BEL6 := Lib.hid (BEL5.out.trans (hE6.mono BEL5.out.size))
        have q7 := hk7.cells
        have m7 := hk7.marks
        have l7 := hk7.lt
        have HP7 := Lib.hid (show w2.heap.size ≠ p7 ∧ w.heap.size ≤ p7 ∧ w5.heap.size ≤ p7 by have := HG5.out.lt; have := BEL5.out.size; omega)
        clear hR hk7 hE6 hcW6 hfW6 q1 l1 q2 l2 q5 l5
        go_wp2_with fail
        refine noPanic_normal ?_
        have o7 := (((((Only.refl p7 W6).set 0 (.slice ra rl rc)).set 1 (.slice sa sl sc)).set 2 (.int .i64 F7.fuse)).set 3 (.int .i64 F7.fault)).set 4 (.bool F7.off)
        obtain ⟨V, hV⟩ : ∃ V, (((((W6.setCell ⟨p7, 0, none⟩ (.slice ra rl rc)).setCell ⟨p7, 1, none⟩ (.slice sa sl sc)).setCell ⟨p7, 2, none⟩ (.int .i64 F7.fuse)).setCell ⟨p7, 3, none⟩ (.int .i64 F7.fault)).setCell ⟨p7, 4, none⟩ (.bool F7.off)) = V := ⟨_, rfl⟩
        rw [hV] at o7
        have HK := Lib.hid (show Blk V p7 [.slice ra rl rc, .slice sa sl sc, .int .i64 F7.fuse, .int .i64 F7.fault, .bool F7.off] 25 by rw [← hV]; exact blk_store5 HK7.out rfl)
        have HFR := Lib.hid (HR.out.same o7.size (fun b h hlt => o7.block b hlt h.2))
        have HGV := Lib.hid (HG6.out.only o7 HP7.out.1)
        have HGFV := Lib.hid (HGF6.out.same o7.size (fun b h hlt => o7.block b hlt (by have := HP7.out.2.2; omega)))
        have BELV := Lib.hid (below_only BEL6.out o7 BEL6.out.size HP7.out.2.1)
        have q5 := HGV.out.cells
        have l5 := HGV.out.lt
        have q7 := HK.out.cells
        have l7 := HK.out.lt
        rw [hV]
        clear hV o7 HR HK7 HG6 HGF6 BEL6
        go_wp2_with fail
        refine (Try_refSame F7 F7 ga ma ra sa gl gc ml mc rl rc sl sc V HGFV.out.at_ HFR.out.at_).mono ?_; rintro e w9 ⟨rfl, hb9⟩
        rw [FileD.one_self]
        have BEL9 := Lib.hid (BELV.out.trans (hb9.mono BELV.out.size))
        clear hb9 q5 l5 q7 l7
        go_wp2
        go_ret
        exact ⟨rfl, BEL9.out⟩
end Go.Proofs.Ytmjmjjakhmeogaa
