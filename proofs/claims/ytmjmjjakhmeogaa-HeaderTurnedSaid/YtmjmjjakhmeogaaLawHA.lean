/-
  HeaderCodes, walked.
-/
import Derived.Test.YtmjmjjakhmeogaaHdP
namespace Go.Dav
set_option linter.unusedVariables false
set_option linter.unusedSimpArgs false
open Go Go.RowKit
theorem exec_eql_bytes {P : Program} {o : Oper} {a : Act} (w : World) (t e rt : TypeId) (n : Nat) (x y : Operand) (ho : o.op = .binOp .eql t x y rt) (ht : P.underlying t = some (.array n e)) (he : P.underlying e = some (.int .u8)) (hsz : ∀ w, (sizeOf e).run P w = .ok 1 w) (hm : P.eqGuardType P.depth t = false)
    (xs ys : List UInt8) (hx : a.eval x = .agg (u8s xs).toArray) (hy : a.eval y = .agg (u8s ys).toArray) (hlx : xs.length = n) (hly : ys.length = n) :
    (execOp a.eval o).run P w = .ok (.value (.bool (xs == ys))) w := by
  have h1 := run_equalIn_bytes (P := P) w 9998 t e n ht he hsz xs ys hlx hly
  have h2 : (Op.equalIn 10000 t (.agg (u8s xs).toArray) (.agg (u8s ys).toArray)).run P w = .ok (xs == ys) w := h1
  unfold execOp
  simp [ho, hx, hy, run_eqGuard_agg _ _ _ _ _ _ _ hm, run_eql_struct, h2]
theorem HeadD.err_zero (h : HeadD) : (h.err == 0) = h.right := by
  unfold HeadD.err; cases h.right <;> rfl
end Go.Dav
namespace Go.Proofs.Ytmjmjjakhmeogaa
set_option linter.unusedVariables false
set_option linter.unusedSimpArgs false
open Go.RowKit Go.Dav
attribute [local go_sem] Gives ite_val ite_val_true

theorem Try_eqHead (x y : Int) (w : World) : (binOp .eql 56 (.agg #[.int .u64 x, .int .i64 y]) (.agg #[.int .u64 x, .int .i64 y])).run Try.prog w = .ok (.bool true) w := by
  go_simp

set_option maxRecDepth 100000 in
set_option maxHeartbeats 8000000 in
theorem Try_HeaderCodes (h : HeadD) (l : List UInt8) (w : World) (hf : h.Fits) (hl : l.length = 64) : Calls Try.prog 9 #[.agg #[.int .u64 (h.gen : Int), .int .i64 h.at_], .agg (u8s l).toArray] w fun e w' => e = .returned (.bool true) ∧ Below w.heap.size w w' := by
  obtain ⟨W0, hW0⟩ : ∃ W0, (w.alloc (.cells #[.int .u64 (h.gen : Int), .int .i64 h.at_] 56)).alloc (.cells (u8s l).toArray 57) = W0 := ⟨_, rfl⟩
  have HB1 := Lib.hid (show Blk W0 w.heap.size [.int .u64 (h.gen : Int), .int .i64 h.at_] 56 by rw [← hW0]; exact (Blk.new w _ _).alloc _)
  have HB2 := Lib.hid (show Blk W0 (w.heap.size + 1) (u8s l) 57 by rw [← hW0]; exact Blk.new' _ _ _ (by simp))
  have BEL0 := Lib.hid (show Below w.heap.size w W0 by rw [← hW0]; exact (by repeat (first | (with_reducible exact Below.refl _ _) | (with_reducible exact Below.refl _ _) | (with_reducible refine Below.setCell ?_ (by first | omega | (simp; done) | (simp; omega)) _) | (with_reducible refine Below.alloc ?_ (by first | omega | (simp; done) | (simp; omega)) _) | (with_reducible refine Below.drew ?_) | (with_reducible refine below_drewN ?_ _))))
  have HF := Lib.hid hf
  have HL := Lib.hid hl
  have HW0 := Lib.hid hW0
  clear hf hl hW0
  go_enter Try.func9, Try.ntmps9
  go_wp2_with fail
  rw [HW0.out]
  refine (Try_wakes12 W0).mono ?_; rintro e w1 ⟨rfl, hb1⟩
  have HB11 := Lib.hid (HB1.out.ext hb1)
  have HB21 := Lib.hid (HB2.out.ext hb1)
  have BEL1 := Lib.hid (BEL0.out.trans (hb1.mono BEL0.out.size))
  have q1 := HB11.out.cells
  have l1 := HB11.out.lt
  clear hb1 HB1 HB2 BEL0
  go_wp2_with fail
  refine (Try_hRight h w1).mono ?_; rintro e w2 ⟨rfl, hb2⟩
  clear q1 l1
  have HB12 := Lib.hid (HB11.out.ext hb2)
  have HB22 := Lib.hid (HB21.out.ext hb2)
  have BEL2 := Lib.hid (BEL1.out.trans (hb2.mono BEL1.out.size))
  have q1 := HB12.out.cells
  have l1 := HB12.out.lt
  clear hb2 HB11 HB21 BEL1
  go_wp2_with fail
  refine (Try_hCheck h w2).mono ?_; rintro e w3 ⟨rfl, hb3⟩
  clear q1 l1
  have HB13 := Lib.hid (HB12.out.ext hb3)
  have HB23 := Lib.hid (HB22.out.ext hb3)
  have BEL3 := Lib.hid (BEL2.out.trans (hb3.mono BEL2.out.size))
  have q1 := HB13.out.cells
  have l1 := HB13.out.lt
  clear hb3 HB12 HB22 BEL2
  have HBz0 := Lib.hid (show Blk (w3.alloc (.cells #[.int .u8 0, .int .u8 0, .int .u8 0, .int .u8 0, .int .u8 0, .int .u8 0, .int .u8 0, .int .u8 0, .int .u8 0, .int .u8 0, .int .u8 0, .int .u8 0, .int .u8 0, .int .u8 0, .int .u8 0, .int .u8 0, .int .u8 0, .int .u8 0, .int .u8 0, .int .u8 0, .int .u8 0, .int .u8 0, .int .u8 0, .int .u8 0, .int .u8 0, .int .u8 0, .int .u8 0, .int .u8 0, .int .u8 0, .int .u8 0, .int .u8 0, .int .u8 0, .int .u8 0, .int .u8 0, .int .u8 0, .int .u8 0, .int .u8 0, .int .u8 0, .int .u8 0, .int .u8 0, .int .u8 0, .int .u8 0, .int .u8 0, .int .u8 0, .int .u8 0, .int .u8 0, .int .u8 0, .int .u8 0, .int .u8 0, .int .u8 0, .int .u8 0, .int .u8 0, .int .u8 0, .int .u8 0, .int .u8 0, .int .u8 0, .int .u8 0, .int .u8 0, .int .u8 0, .int .u8 0, .int .u8 0, .int .u8 0, .int .u8 0, .int .u8 0] 57)) w3.heap.size (u8s (List.replicate 64 0)) 57 from Blk.new w3 _ _)
  obtain ⟨WZ, hWZ⟩ : ∃ WZ, (w3.alloc (.cells #[.int .u8 0, .int .u8 0, .int .u8 0, .int .u8 0, .int .u8 0, .int .u8 0, .int .u8 0, .int .u8 0, .int .u8 0, .int .u8 0, .int .u8 0, .int .u8 0, .int .u8 0, .int .u8 0, .int .u8 0, .int .u8 0, .int .u8 0, .int .u8 0, .int .u8 0, .int .u8 0, .int .u8 0, .int .u8 0, .int .u8 0, .int .u8 0, .int .u8 0, .int .u8 0, .int .u8 0, .int .u8 0, .int .u8 0, .int .u8 0, .int .u8 0, .int .u8 0, .int .u8 0, .int .u8 0, .int .u8 0, .int .u8 0, .int .u8 0, .int .u8 0, .int .u8 0, .int .u8 0, .int .u8 0, .int .u8 0, .int .u8 0, .int .u8 0, .int .u8 0, .int .u8 0, .int .u8 0, .int .u8 0, .int .u8 0, .int .u8 0, .int .u8 0, .int .u8 0, .int .u8 0, .int .u8 0, .int .u8 0, .int .u8 0, .int .u8 0, .int .u8 0, .int .u8 0, .int .u8 0, .int .u8 0, .int .u8 0, .int .u8 0, .int .u8 0] 57)).setRow w3.heap.size (u8s (List.replicate 64 0)).toArray = WZ := ⟨_, rfl⟩
  have hbZ : Below w3.heap.size w3 WZ := by rw [← hWZ]; exact below_only ((Below.refl _ w3).alloc (Nat.le_refl _) _) (only_row _ _ _) (by simp) (Nat.le_refl _)
  have HBz := Lib.hid (show Blk WZ w3.heap.size (u8s (List.replicate 64 0)) 57 by rw [← hWZ]; exact blk_row (ds := u8s (List.replicate 64 0)) HBz0.out)
  have HB14 := Lib.hid (HB13.out.ext hbZ)
  have HB24 := Lib.hid (HB23.out.ext hbZ)
  have BEL4 := Lib.hid (BEL3.out.trans (hbZ.mono BEL3.out.size))
  have HWZ := Lib.hid hWZ
  have S3 := Lib.hid (show w.heap.size + 1 < w3.heap.size from HB23.out.lt)
  have hsz := hbZ.size
  have hpw : w3.heap.size < WZ.heap.size := HBz.out.lt
  clear hWZ hbZ BEL3 q1 l1
  have q1 := HB14.out.cells
  have l1 := HB14.out.lt
  cases hr : h.right with
  | false =>
    have he : h.err = 220 := by unfold HeadD.err; rw [if_neg (by rw [hr]; decide)]
    have HBK := Lib.hid (show blkOf h = List.replicate 64 0 by unfold blkOf; rw [if_neg (by rw [hr]; decide)])
    rw [he]
    clear hr he
    have HBW := Lib.hid (show Blk WZ w3.heap.size (u8s (blkOf h)) 57 by rw [HBK.out]; exact HBz.out)
    have HB2L := Lib.hid HB24.out
    go_wp2_with (first | (refine wpList_store_row rfl 57 (.tmp 7) (.tmp 30) rfl w3.heap.size (u8s (List.replicate 64 0)).toArray rfl rfl 57 (u8s (List.replicate 64 0)).toArray HBz0.out (Try_size64_of rfl) rfl (u8s_all _) ?_; rw [HWZ.out]) | (refine wpList_load_row rfl 57 (.tmp 3) rfl (w.heap.size + 1) rfl 57 (u8s l).toArray (0, 0) _ HB2L.out Try.underlying57 rfl (Try_size64_of HL.out) ?_))
    clear q1 l1 HB2L HBz HBK HB13 HB23
    clear hpw hsz
    refine (Try_Says l HL.out WZ).mono ?_; rintro e w5 ⟨rfl, hb5⟩
    rw [saysOf_eq]
    have HB15 := Lib.hid (HB14.out.ext hb5)
    have HB25 := Lib.hid (HB24.out.ext hb5)
    have HBW5 := Lib.hid (HBW.out.ext hb5)
    have BEL5 := Lib.hid (BEL4.out.trans (hb5.mono BEL4.out.size))
    clear hb5 HB14 HB24 HBW BEL4
    obtain ⟨WA, hWA⟩ : ∃ WA, w5.alloc (.cells #[.int .u64 (sayG l : Int), .int .i64 (sayA l : Int)] 56) = WA := ⟨_, rfl⟩
    have hbA : Below w5.heap.size w5 WA := by rw [← hWA]; exact (by repeat (first | (with_reducible exact Below.refl _ _) | (with_reducible exact Below.refl _ _) | (with_reducible refine Below.setCell ?_ (by first | omega | (simp; done) | (simp; omega)) _) | (with_reducible refine Below.alloc ?_ (by first | omega | (simp; done) | (simp; omega)) _) | (with_reducible refine Below.drew ?_) | (with_reducible refine below_drewN ?_ _)))
    have HG := Lib.hid (show Blk WA w5.heap.size [.int .u64 (sayG l : Int), .int .i64 (sayA l : Int)] 56 by rw [← hWA]; exact Blk.new _ _ _)
    have HB2L := Lib.hid (show Blk (w5.alloc (.cells #[.int .u64 (sayG l : Int), .int .i64 (sayA l : Int)] 56)) (w.heap.size + 1) (u8s l) 57 from HB25.out.alloc _)
    have HWA := Lib.hid hWA
    have HBA := Lib.hid hbA
    clear hWA hbA
    go_wp2_with (first | (refine wpList_load_row rfl 57 (.tmp 3) rfl (w.heap.size + 1) rfl 57 (u8s l).toArray (0, 0) _ HB2L.out Try.underlying57 rfl (Try_size64_of HL.out) ?_))
    rw [HWA.out]
    refine (Try_refSays l HL.out WA).mono ?_; rintro e w6 ⟨rfl, hb6⟩
    rw [saysOf_eq]
    go_wp2_with fail
    obtain ⟨WB, hWB⟩ : ∃ WB, w6.alloc (.cells #[.int .u64 (sayG l : Int), .int .i64 (sayA l : Int)] 56) = WB := ⟨_, rfl⟩
    have hbB : Below w6.heap.size w6 WB := by rw [← hWB]; exact (by repeat (first | (with_reducible exact Below.refl _ _) | (with_reducible exact Below.refl _ _) | (with_reducible refine Below.setCell ?_ (by first | omega | (simp; done) | (simp; omega)) _) | (with_reducible refine Below.alloc ?_ (by first | omega | (simp; done) | (simp; omega)) _) | (with_reducible refine Below.drew ?_) | (with_reducible refine below_drewN ?_ _)))
    have HG2 := Lib.hid (show Blk WB w6.heap.size [.int .u64 (sayG l : Int), .int .i64 (sayA l : Int)] 56 by rw [← hWB]; exact Blk.new _ _ _)
    rw [hWB]
    have hb := HBA.out.trans ((hb6.trans (hbB.mono hb6.size)).mono HBA.out.size)
    have hbg := hb6.trans (hbB.mono hb6.size)
    have HB16 := Lib.hid (HB15.out.ext hb)
    have HBW6 := Lib.hid (HBW5.out.ext hb)
    have HG6 := Lib.hid (HG.out.ext hbg)
    have BEL6 := Lib.hid (BEL5.out.trans (hb.mono BEL5.out.size))
    have q1 := HB16.out.cells
    have l1 := HB16.out.lt
    have q8 := HG6.out.cells
    have l8 := HG6.out.lt
    have q10 := HG2.out.cells
    have l10 := HG2.out.lt
    have hq := Try_eqHead (sayG l : Int) (sayA l : Int)
    clear hb hbg hb6 hbB hWB HB15 HB25 HBW5 HG BEL5 HB2L HWA HBA
    refine' wp_region_seq [.inl _, .inl _, .inl _, .inl _, .inl _, .inl _, .inl _, .inl _, .inl _, .inl _, .inl _, .inl _, .inl _, .inl _] (by kernel_rfl) (by kernel_rfl) ?main1
    case main1 =>
      refine wpParts_det (by rfl) (fun W hE hN => ?_) ?_
      · have hc := fun b o h => hE.cell (p := ⟨b, o, none⟩) h
        go_simp; refine ⟨Below.refl _ _, ?_⟩; rfl
      simp only [Act.put, List.setIfInBounds_toArray, List.set_cons_zero, List.set_cons_succ]
      refine wpParts_det (by rfl) (fun W hE hN => ?_) ?_
      · go_simp; refine ⟨Below.refl _ _, ?_⟩; refine (Try_Block h HF.out W).mono ?_; rintro e w' ⟨rfl, hb⟩; refine ⟨?_, hb⟩; rfl
      simp only [Act.put, List.setIfInBounds_toArray, List.set_cons_zero, List.set_cons_succ]
      refine wpParts_det (by rfl) (fun W hE hN => ?_) ?_
      · unfold Gives; rw [exec_load_cells W ⟨w3.heap.size, 0, none⟩ 57 _ rfl rfl (u8s (blkOf h)) _ ((cells_of_blk (HBW6.out.ext hE)).from_) Try.underlying57 rfl (by rw [Try_size64, u8s_len, blkOf_len])]; dsimp only; refine ⟨Below.refl _ _, ?_⟩; rfl
      simp only [Act.put, List.setIfInBounds_toArray, List.set_cons_zero, List.set_cons_succ]
      refine wpParts_det (by rfl) (fun W hE hN => ?_) ?_
      · unfold Gives; rw [exec_eql_bytes W 57 5 _ 64 _ _ rfl Try.underlying57 Try.underlying5 Try_sizeU8 Try_guard64 (blkOf h) (blkOf h) rfl rfl (blkOf_len _) (blkOf_len _), show (blkOf h == blkOf h) = true by simp]; dsimp only; refine ⟨Below.refl _ _, ?_⟩; rfl
      simp only [Act.put, List.setIfInBounds_toArray, List.set_cons_zero, List.set_cons_succ]
      refine wpParts_det (by rfl) (fun W hE hN => ?_) ?_
      · go_simp; refine ⟨Below.refl _ _, ?_⟩; rfl
      simp only [Act.put, List.setIfInBounds_toArray, List.set_cons_zero, List.set_cons_succ]
      refine wpParts_det (by rfl) (fun W hE hN => ?_) ?_
      · go_simp; refine ⟨Below.refl _ _, ?_⟩; rfl
      simp only [Act.put, List.setIfInBounds_toArray, List.set_cons_zero, List.set_cons_succ]
      refine wpParts_det (by rfl) (fun W hE hN => ?_) ?_
      · go_simp; refine ⟨Below.refl _ _, ?_⟩; rfl
      simp only [Act.put, List.setIfInBounds_toArray, List.set_cons_zero, List.set_cons_succ]
      refine wpParts_det (by rfl) (fun W hE hN => ?_) ?_
      · go_simp; refine ⟨Below.refl _ _, ?_⟩; rfl
      simp only [Act.put, List.setIfInBounds_toArray, List.set_cons_zero, List.set_cons_succ]
      refine wpParts_det (by rfl) (fun W hE hN => ?_) ?_
      · go_simp; refine ⟨Below.refl _ _, ?_⟩; rfl
      simp only [Act.put, List.setIfInBounds_toArray, List.set_cons_zero, List.set_cons_succ]
      refine wpParts_det (by rfl) (fun W hE hN => ?_) ?_
      · go_simp; refine ⟨Below.refl _ _, ?_⟩; rfl
      simp only [Act.put, List.setIfInBounds_toArray, List.set_cons_zero, List.set_cons_succ]
      refine wpParts_det (by rfl) (fun W hE hN => ?_) ?_
      · have hc := fun b o h => hE.cell (p := ⟨b, o, none⟩) h
        go_simp; refine ⟨Below.refl _ _, ?_⟩; rfl
      simp only [Act.put, List.setIfInBounds_toArray, List.set_cons_zero, List.set_cons_succ]
      refine wpParts_det (by rfl) (fun W hE hN => ?_) ?_
      · have hc := fun b o h => hE.cell (p := ⟨b, o, none⟩) h
        go_simp; refine ⟨Below.refl _ _, ?_⟩; rfl
      simp only [Act.put, List.setIfInBounds_toArray, List.set_cons_zero, List.set_cons_succ]
      refine wpParts_det (by rfl) (fun W hE hN => ?_) ?_
      · go_simp; refine ⟨Below.refl _ _, ?_⟩; rfl
      simp only [Act.put, List.setIfInBounds_toArray, List.set_cons_zero, List.set_cons_succ]
      refine wpParts_det (by rfl) (fun W hE hN => ?_) ?_
      · go_simp; refine ⟨Below.refl _ _, ?_⟩; rfl
      simp only [Act.put, List.setIfInBounds_toArray, List.set_cons_zero, List.set_cons_succ]
      refine wpParts_end fun W7 hE7 hG7 => ?_
      have hcW7 := fun b o h => hE7.cell (p := ⟨b, o, none⟩) h
      have hfW7 := fun b o h => hE7.frozen (p := ⟨b, o, none⟩) h
      have BEL7 := Lib.hid (BEL6.out.trans (hE7.mono BEL6.out.size))
      clear hE7 hG7 hcW7 hfW7
      go_wp2
      go_ret
      exact ⟨rfl, BEL7.out⟩
  | true =>
    have he : h.err = 0 := by unfold HeadD.err; rw [if_pos hr]
    rw [he]
    obtain ⟨a, ha⟩ : ∃ a : Nat, h.at_ = (a : Int) := Int.eq_ofNat_of_zero_le (HeadD.right_spec.1 hr).2.1
    have HBK := Lib.hid (show blkOf h = blockOf h.gen a by unfold blkOf; rw [if_pos hr, ha]; rfl)
    have hal : a < 524288 := by have := (HeadD.right_spec.1 hr).2.2; omega
    have HHA := Lib.hid ha
    have hA : Calls Try.prog 38 #[.agg #[.int .u64 (h.gen : Int), .int .i64 h.at_]] WZ fun e w' => e = .returned (.agg (u8s (blkOf h)).toArray) ∧ Below WZ.heap.size WZ w' := by
      rw [HBK.out, ha]; exact Try_refBlock h.gen a WZ HF.out.gen hal
    have HA := Lib.hid hA
    clear hr he ha hal hA
    go_wp2_with (first | (refine wpList_store_row rfl 57 (.tmp 7) (.tmp 30) rfl w3.heap.size (u8s (List.replicate 64 0)).toArray rfl rfl 57 (u8s (List.replicate 64 0)).toArray HBz0.out (Try_size64_of rfl) rfl (u8s_all _) ?_; rw [HWZ.out]))
    refine HA.out.mono ?_; rintro e w4 ⟨rfl, hb4⟩
    have hlB := blkOf_len h
    have HBz4 := Lib.hid (HBz.out.ext hb4)
    obtain ⟨WY, hWY⟩ : ∃ WY, w4.setRow w3.heap.size (u8s (blkOf h)).toArray = WY := ⟨_, rfl⟩
    have oY : Only w3.heap.size w4 WY := by rw [← hWY]; exact only_row _ _ _
    have HWY := Lib.hid hWY
    have HBW := Lib.hid (show Blk WY w3.heap.size (u8s (blkOf h)) 57 by rw [← hWY]; exact blk_row (ds := u8s (blkOf h)) HBz4.out)
    have HB1Y := Lib.hid ((HB14.out.ext hb4).only oY (by have := S3.out; omega))
    have HB2Y := Lib.hid ((HB24.out.ext hb4).only oY (by have := S3.out; omega))
    have BELY := Lib.hid (below_only (BEL4.out.trans (hb4.mono BEL4.out.size)) oY (Nat.le_trans BEL4.out.size hb4.size) (by have := S3.out; omega))
    have HLB := Lib.hid hlB
    clear hb4 hWY oY q1 l1 hlB HBz HB14 HB24 BEL4 HA HBK HHA hpw hsz
    go_wp2_with (first | (refine wpList_store_row rfl 57 (.tmp 7) (.tmp 33) rfl w3.heap.size (u8s (blkOf h)).toArray rfl rfl 57 (u8s (List.replicate 64 0)).toArray HBz4.out (Try_size64_of HLB.out) (by simp [u8s_len, HLB.out]) (u8s_all _) ?_; rw [HWY.out]) | (refine wpList_load_row rfl 57 (.tmp 3) rfl (w.heap.size + 1) rfl 57 (u8s l).toArray (0, 0) _ HB2Y.out Try.underlying57 rfl (Try_size64_of HL.out) ?_))
    refine (Try_Says l HL.out WY).mono ?_; rintro e w5 ⟨rfl, hb5⟩
    rw [saysOf_eq]
    have HB15 := Lib.hid (HB1Y.out.ext hb5)
    have HB25 := Lib.hid (HB2Y.out.ext hb5)
    have HBW5 := Lib.hid (HBW.out.ext hb5)
    have BEL5 := Lib.hid (BELY.out.trans (hb5.mono BELY.out.size))
    clear hb5 HB1Y HB2Y HBW BELY
    obtain ⟨WA, hWA⟩ : ∃ WA, w5.alloc (.cells #[.int .u64 (sayG l : Int), .int .i64 (sayA l : Int)] 56) = WA := ⟨_, rfl⟩
    have hbA : Below w5.heap.size w5 WA := by rw [← hWA]; exact (by repeat (first | (with_reducible exact Below.refl _ _) | (with_reducible exact Below.refl _ _) | (with_reducible refine Below.setCell ?_ (by first | omega | (simp; done) | (simp; omega)) _) | (with_reducible refine Below.alloc ?_ (by first | omega | (simp; done) | (simp; omega)) _) | (with_reducible refine Below.drew ?_) | (with_reducible refine below_drewN ?_ _)))
    have HG := Lib.hid (show Blk WA w5.heap.size [.int .u64 (sayG l : Int), .int .i64 (sayA l : Int)] 56 by rw [← hWA]; exact Blk.new _ _ _)
    have HB2L := Lib.hid (show Blk (w5.alloc (.cells #[.int .u64 (sayG l : Int), .int .i64 (sayA l : Int)] 56)) (w.heap.size + 1) (u8s l) 57 from HB25.out.alloc _)
    have HWA := Lib.hid hWA
    have HBA := Lib.hid hbA
    clear hWA hbA
    go_wp2_with (first | (refine wpList_load_row rfl 57 (.tmp 3) rfl (w.heap.size + 1) rfl 57 (u8s l).toArray (0, 0) _ HB2L.out Try.underlying57 rfl (Try_size64_of HL.out) ?_))
    rw [HWA.out]
    refine (Try_refSays l HL.out WA).mono ?_; rintro e w6 ⟨rfl, hb6⟩
    rw [saysOf_eq]
    go_wp2_with fail
    obtain ⟨WB, hWB⟩ : ∃ WB, w6.alloc (.cells #[.int .u64 (sayG l : Int), .int .i64 (sayA l : Int)] 56) = WB := ⟨_, rfl⟩
    have hbB : Below w6.heap.size w6 WB := by rw [← hWB]; exact (by repeat (first | (with_reducible exact Below.refl _ _) | (with_reducible exact Below.refl _ _) | (with_reducible refine Below.setCell ?_ (by first | omega | (simp; done) | (simp; omega)) _) | (with_reducible refine Below.alloc ?_ (by first | omega | (simp; done) | (simp; omega)) _) | (with_reducible refine Below.drew ?_) | (with_reducible refine below_drewN ?_ _)))
    have HG2 := Lib.hid (show Blk WB w6.heap.size [.int .u64 (sayG l : Int), .int .i64 (sayA l : Int)] 56 by rw [← hWB]; exact Blk.new _ _ _)
    rw [hWB]
    have hb := HBA.out.trans ((hb6.trans (hbB.mono hb6.size)).mono HBA.out.size)
    have hbg := hb6.trans (hbB.mono hb6.size)
    have HB16 := Lib.hid (HB15.out.ext hb)
    have HBW6 := Lib.hid (HBW5.out.ext hb)
    have HG6 := Lib.hid (HG.out.ext hbg)
    have BEL6 := Lib.hid (BEL5.out.trans (hb.mono BEL5.out.size))
    have q1 := HB16.out.cells
    have l1 := HB16.out.lt
    have q8 := HG6.out.cells
    have l8 := HG6.out.lt
    have q10 := HG2.out.cells
    have l10 := HG2.out.lt
    have hq := Try_eqHead (sayG l : Int) (sayA l : Int)
    clear hb hbg hb6 hbB hWB HB15 HB25 HBW5 HG BEL5 HB2L HWA HBA
    refine' wp_region_seq [.inl _, .inl _, .inl _, .inl _, .inl _, .inl _, .inl _, .inl _, .inl _, .inl _, .inl _, .inl _, .inl _, .inl _] (by kernel_rfl) (by kernel_rfl) ?main2
    case main2 =>
      refine wpParts_det (by rfl) (fun W hE hN => ?_) ?_
      · have hc := fun b o h => hE.cell (p := ⟨b, o, none⟩) h
        go_simp; refine ⟨Below.refl _ _, ?_⟩; rfl
      simp only [Act.put, List.setIfInBounds_toArray, List.set_cons_zero, List.set_cons_succ]
      refine wpParts_det (by rfl) (fun W hE hN => ?_) ?_
      · go_simp; refine ⟨Below.refl _ _, ?_⟩; refine (Try_Block h HF.out W).mono ?_; rintro e w' ⟨rfl, hb⟩; refine ⟨?_, hb⟩; rfl
      simp only [Act.put, List.setIfInBounds_toArray, List.set_cons_zero, List.set_cons_succ]
      refine wpParts_det (by rfl) (fun W hE hN => ?_) ?_
      · unfold Gives; rw [exec_load_cells W ⟨w3.heap.size, 0, none⟩ 57 _ rfl rfl (u8s (blkOf h)) _ ((cells_of_blk (HBW6.out.ext hE)).from_) Try.underlying57 rfl (by rw [Try_size64, u8s_len, blkOf_len])]; dsimp only; refine ⟨Below.refl _ _, ?_⟩; rfl
      simp only [Act.put, List.setIfInBounds_toArray, List.set_cons_zero, List.set_cons_succ]
      refine wpParts_det (by rfl) (fun W hE hN => ?_) ?_
      · unfold Gives; rw [exec_eql_bytes W 57 5 _ 64 _ _ rfl Try.underlying57 Try.underlying5 Try_sizeU8 Try_guard64 (blkOf h) (blkOf h) rfl rfl (blkOf_len _) (blkOf_len _), show (blkOf h == blkOf h) = true by simp]; dsimp only; refine ⟨Below.refl _ _, ?_⟩; rfl
      simp only [Act.put, List.setIfInBounds_toArray, List.set_cons_zero, List.set_cons_succ]
      refine wpParts_det (by rfl) (fun W hE hN => ?_) ?_
      · go_simp; refine ⟨Below.refl _ _, ?_⟩; rfl
      simp only [Act.put, List.setIfInBounds_toArray, List.set_cons_zero, List.set_cons_succ]
      refine wpParts_det (by rfl) (fun W hE hN => ?_) ?_
      · go_simp; refine ⟨Below.refl _ _, ?_⟩; rfl
      simp only [Act.put, List.setIfInBounds_toArray, List.set_cons_zero, List.set_cons_succ]
      refine wpParts_det (by rfl) (fun W hE hN => ?_) ?_
      · go_simp; refine ⟨Below.refl _ _, ?_⟩; rfl
      simp only [Act.put, List.setIfInBounds_toArray, List.set_cons_zero, List.set_cons_succ]
      refine wpParts_det (by rfl) (fun W hE hN => ?_) ?_
      · go_simp; refine ⟨Below.refl _ _, ?_⟩; rfl
      simp only [Act.put, List.setIfInBounds_toArray, List.set_cons_zero, List.set_cons_succ]
      refine wpParts_det (by rfl) (fun W hE hN => ?_) ?_
      · go_simp; refine ⟨Below.refl _ _, ?_⟩; rfl
      simp only [Act.put, List.setIfInBounds_toArray, List.set_cons_zero, List.set_cons_succ]
      refine wpParts_det (by rfl) (fun W hE hN => ?_) ?_
      · go_simp; refine ⟨Below.refl _ _, ?_⟩; rfl
      simp only [Act.put, List.setIfInBounds_toArray, List.set_cons_zero, List.set_cons_succ]
      refine wpParts_det (by rfl) (fun W hE hN => ?_) ?_
      · have hc := fun b o h => hE.cell (p := ⟨b, o, none⟩) h
        go_simp; refine ⟨Below.refl _ _, ?_⟩; rfl
      simp only [Act.put, List.setIfInBounds_toArray, List.set_cons_zero, List.set_cons_succ]
      refine wpParts_det (by rfl) (fun W hE hN => ?_) ?_
      · have hc := fun b o h => hE.cell (p := ⟨b, o, none⟩) h
        go_simp; refine ⟨Below.refl _ _, ?_⟩; rfl
      simp only [Act.put, List.setIfInBounds_toArray, List.set_cons_zero, List.set_cons_succ]
      refine wpParts_det (by rfl) (fun W hE hN => ?_) ?_
      · go_simp; refine ⟨Below.refl _ _, ?_⟩; rfl
      simp only [Act.put, List.setIfInBounds_toArray, List.set_cons_zero, List.set_cons_succ]
      refine wpParts_det (by rfl) (fun W hE hN => ?_) ?_
      · go_simp; refine ⟨Below.refl _ _, ?_⟩; rfl
      simp only [Act.put, List.setIfInBounds_toArray, List.set_cons_zero, List.set_cons_succ]
      refine wpParts_end fun W7 hE7 hG7 => ?_
      have hcW7 := fun b o h => hE7.cell (p := ⟨b, o, none⟩) h
      have hfW7 := fun b o h => hE7.frozen (p := ⟨b, o, none⟩) h
      have BEL7 := Lib.hid (BEL6.out.trans (hE7.mono BEL6.out.size))
      clear hE7 hG7 hcW7 hfW7
      go_wp2
      go_ret
      exact ⟨rfl, BEL7.out⟩
end Go.Proofs.Ytmjmjjakhmeogaa
