/-
  HeaderTurned, walked.
-/
import Derived.Test.YtmjmjjakhmeogaaLawHA
import Derived.Test.YtmjmjjakhmeogaaTurnA
namespace Go.Dav
set_option linter.unusedVariables false
set_option linter.unusedSimpArgs false
open Go Go.RowKit
theorem bits_xor_u8b {a b : Nat} (ha : a < 256) (hb : b < 256) : bits .xor .u8 (a : Int) (b : Int) = ((a ^^^ b : Nat) : Int) :=
  bits_xor_nat .u8 8 (by decide) (fun n h0 h1 => by rw [IntKind.wrap_u8]; omega) a b ha hb
end Go.Dav
namespace Go.Proofs.Ytmjmjjakhmeogaa
set_option linter.unusedVariables false
set_option linter.unusedSimpArgs false
open Go.RowKit Go.Dav
attribute [local go_sem] Gives ite_val ite_val_true

theorem Try_neHead (x y : Int) (w : World) : (binOp .neq 56 (.agg #[.int .u64 x, .int .i64 y]) (.agg #[.int .u64 x, .int .i64 y])).run Try.prog w = .ok (.bool false) w := by
  go_simp

set_option maxRecDepth 100000 in
set_option maxHeartbeats 8000000 in
theorem Try_HeaderTurned (h : HeadD) (at_ : Int) (bits_ : Nat) (w : World) (hf : h.Fits) (hat : I64' at_) (hbt : bits_ < 4294967296) : Calls Try.prog 12 #[.agg #[.int .u64 (h.gen : Int), .int .i64 h.at_], .int .i64 at_, .int .u32 (bits_ : Int)] w fun e w' => e = .returned (.bool true) ∧ Below w.heap.size w w' := by
  obtain ⟨W0, hW0⟩ : ∃ W0, w.alloc (.cells #[.int .u64 (h.gen : Int), .int .i64 h.at_] 56) = W0 := ⟨_, rfl⟩
  have HB1 := Lib.hid (show Blk W0 w.heap.size [.int .u64 (h.gen : Int), .int .i64 h.at_] 56 by rw [← hW0]; exact Blk.new w _ _)
  have BEL0 := Lib.hid (show Below w.heap.size w W0 by rw [← hW0]; exact (by repeat (first | (with_reducible exact Below.refl _ _) | (with_reducible exact Below.refl _ _) | (with_reducible refine Below.setCell ?_ (by first | omega | (simp; done) | (simp; omega)) _) | (with_reducible refine Below.alloc ?_ (by first | omega | (simp; done) | (simp; omega)) _) | (with_reducible refine Below.drew ?_) | (with_reducible refine below_drewN ?_ _))))
  have HF := Lib.hid hf
  have HW0 := Lib.hid hW0
  clear hf hW0
  go_enter Try.func12, Try.ntmps12
  go_wp2_with fail
  rw [HW0.out]
  refine (Try_wakes12 W0).mono ?_; rintro e w1 ⟨rfl, hb1⟩
  have HB11 := Lib.hid (HB1.out.ext hb1)
  have BEL1 := Lib.hid (BEL0.out.trans (hb1.mono BEL0.out.size))
  have q1 := HB11.out.cells
  have l1 := HB11.out.lt
  clear hb1 HB1 BEL0 HW0
  go_wp2_with fail
  refine (Try_Block h HF.out w1).mono ?_; rintro e w2 ⟨rfl, hb2⟩
  have HB12 := Lib.hid (HB11.out.ext hb2)
  have BEL2 := Lib.hid (BEL1.out.trans (hb2.mono BEL1.out.size))
  have HBz := Lib.hid (show Blk (w2.alloc (.cells #[.int .u8 0, .int .u8 0, .int .u8 0, .int .u8 0, .int .u8 0, .int .u8 0, .int .u8 0, .int .u8 0, .int .u8 0, .int .u8 0, .int .u8 0, .int .u8 0, .int .u8 0, .int .u8 0, .int .u8 0, .int .u8 0, .int .u8 0, .int .u8 0, .int .u8 0, .int .u8 0, .int .u8 0, .int .u8 0, .int .u8 0, .int .u8 0, .int .u8 0, .int .u8 0, .int .u8 0, .int .u8 0, .int .u8 0, .int .u8 0, .int .u8 0, .int .u8 0, .int .u8 0, .int .u8 0, .int .u8 0, .int .u8 0, .int .u8 0, .int .u8 0, .int .u8 0, .int .u8 0, .int .u8 0, .int .u8 0, .int .u8 0, .int .u8 0, .int .u8 0, .int .u8 0, .int .u8 0, .int .u8 0, .int .u8 0, .int .u8 0, .int .u8 0, .int .u8 0, .int .u8 0, .int .u8 0, .int .u8 0, .int .u8 0, .int .u8 0, .int .u8 0, .int .u8 0, .int .u8 0, .int .u8 0, .int .u8 0, .int .u8 0, .int .u8 0] 57)) w2.heap.size (u8s (List.replicate 64 0)) 57 from Blk.new w2 _ _)
  obtain ⟨bk, hbk⟩ : ∃ bk, blkOf h = bk := ⟨_, rfl⟩
  have hbkl : bk.length = 64 := by rw [← hbk]; exact blkOf_len _
  rw [hbk]
  obtain ⟨WB, hWB⟩ : ∃ WB, (w2.alloc (.cells #[.int .u8 0, .int .u8 0, .int .u8 0, .int .u8 0, .int .u8 0, .int .u8 0, .int .u8 0, .int .u8 0, .int .u8 0, .int .u8 0, .int .u8 0, .int .u8 0, .int .u8 0, .int .u8 0, .int .u8 0, .int .u8 0, .int .u8 0, .int .u8 0, .int .u8 0, .int .u8 0, .int .u8 0, .int .u8 0, .int .u8 0, .int .u8 0, .int .u8 0, .int .u8 0, .int .u8 0, .int .u8 0, .int .u8 0, .int .u8 0, .int .u8 0, .int .u8 0, .int .u8 0, .int .u8 0, .int .u8 0, .int .u8 0, .int .u8 0, .int .u8 0, .int .u8 0, .int .u8 0, .int .u8 0, .int .u8 0, .int .u8 0, .int .u8 0, .int .u8 0, .int .u8 0, .int .u8 0, .int .u8 0, .int .u8 0, .int .u8 0, .int .u8 0, .int .u8 0, .int .u8 0, .int .u8 0, .int .u8 0, .int .u8 0, .int .u8 0, .int .u8 0, .int .u8 0, .int .u8 0, .int .u8 0, .int .u8 0, .int .u8 0, .int .u8 0] 57)).setRow w2.heap.size (u8s bk).toArray = WB := ⟨_, rfl⟩
  have hbB : Below w2.heap.size w2 WB := by rw [← hWB]; exact below_only ((Below.refl _ w2).alloc (Nat.le_refl _) _) (only_row _ _ _) (by simp) (Nat.le_refl _)
  have HKB := Lib.hid (show Blk WB w2.heap.size (u8s bk) 57 by rw [← hWB]; exact blk_row (ds := u8s bk) HBz.out)
  have HB1B := Lib.hid (HB12.out.ext hbB)
  have BELB := Lib.hid (BEL2.out.trans (hbB.mono BEL2.out.size))
  have HWB := Lib.hid hWB
  have HBKL := Lib.hid hbkl
  have HBKE := Lib.hid hbk
  have hsw2 : w.heap.size < w2.heap.size := HB12.out.lt
  clear hb2 hbB hWB hbkl hbk q1 l1 HB11 BEL1 HB12 BEL2
  go_wp2_with (first | (refine wpList_store_row rfl 57 (.tmp 7) (.tmp 14) rfl w2.heap.size (u8s bk).toArray rfl rfl 57 (u8s (List.replicate 64 0)).toArray HBz.out (Try_size64_of HBKL.out) (by simp [u8s_len, HBKL.out]) (u8s_all _) ?_; rw [HWB.out]) | (refine wpList_load_row rfl 57 (.tmp 7) rfl w2.heap.size rfl 57 (u8s bk).toArray (0, 0) _ HKB.out Try.underlying57 rfl (Try_size64_of HBKL.out) ?_))
  refine (Try_Says bk HBKL.out WB).mono ?_; rintro e w3 ⟨rfl, hb3⟩
  rw [saysOf_eq]
  have HB13 := Lib.hid (HB1B.out.ext hb3)
  have HK3 := Lib.hid (HKB.out.ext hb3)
  have BEL3 := Lib.hid (BELB.out.trans (hb3.mono BELB.out.size))
  have hs3 : w2.heap.size < w3.heap.size := HK3.out.lt
  clear hb3 HB1B HKB BELB HBz HWB
  cases hr : h.right with
  | false =>
    have hz : bk = List.replicate 64 0 := by rw [← HBKE.out]; unfold blkOf; rw [if_neg (by rw [hr]; decide)]
    have hi : isOf bk = false := by rw [hz]; exact isOf_zeros
    have he : h.err = 220 := by unfold HeadD.err; rw [if_neg (by rw [hr]; decide)]
    rw [hi]
    obtain ⟨WA, hWA⟩ : ∃ WA, w3.alloc (.cells #[.int .u64 (sayG bk : Int), .int .i64 (sayA bk : Int)] 56) = WA := ⟨_, rfl⟩
    have hbA : Below w3.heap.size w3 WA := by rw [← hWA]; exact (by repeat (first | (with_reducible exact Below.refl _ _) | (with_reducible exact Below.refl _ _) | (with_reducible refine Below.setCell ?_ (by first | omega | (simp; done) | (simp; omega)) _) | (with_reducible refine Below.alloc ?_ (by first | omega | (simp; done) | (simp; omega)) _) | (with_reducible refine Below.drew ?_) | (with_reducible refine below_drewN ?_ _)))
    have q1 := HB13.out.cells
    have l1 := HB13.out.lt
    have HE := Lib.hid he
    have BELA := Lib.hid (BEL3.out.trans (hbA.mono BEL3.out.size))
    have HWA := Lib.hid hWA
    clear hz hi he hr hbA hWA
    go_wp2_with fail
    rw [HWA.out]
    refine (Try_hCheck h WA).mono ?_; rintro e w4 ⟨rfl, hb4⟩
    rw [HE.out]
    have BEL4 := Lib.hid (BELA.out.trans (hb4.mono BELA.out.size))
    clear hb4 q1 l1
    go_wp2
    go_ret
    exact ⟨rfl, BEL4.out⟩
  | true =>
    have he : h.err = 0 := by unfold HeadD.err; rw [if_pos hr]
    obtain ⟨a, ha⟩ : ∃ a : Nat, h.at_ = (a : Int) := Int.eq_ofNat_of_zero_le (HeadD.right_spec.1 hr).2.1
    have hal : a < 524288 := by have := (HeadD.right_spec.1 hr).2.2; omega
    have hbe : bk = blockOf h.gen a := by rw [← HBKE.out]; unfold blkOf; rw [if_pos hr, ha]; rfl
    have hra : (HeadD.mk h.gen (a : Int)).right = true := by rw [← ha]; exact hr
    have hi : isOf bk = true := by rw [hbe]; exact isOf_block HF.out.gen hra
    have hsg : sayG bk = h.gen := by unfold sayG; rw [if_pos hi, hbe]; exact genOf_block HF.out.gen
    have hsa : (sayA bk : Int) = h.at_ := by unfold sayA; rw [if_pos hi, hbe, atOf_block (by omega), ha]
    rw [hi, hsg, hsa]
    obtain ⟨WA, hWA⟩ : ∃ WA, w3.alloc (.cells #[.int .u64 (h.gen : Int), .int .i64 h.at_] 56) = WA := ⟨_, rfl⟩
    have hbA : Below w3.heap.size w3 WA := by rw [← hWA]; exact (by repeat (first | (with_reducible exact Below.refl _ _) | (with_reducible exact Below.refl _ _) | (with_reducible refine Below.setCell ?_ (by first | omega | (simp; done) | (simp; omega)) _) | (with_reducible refine Below.alloc ?_ (by first | omega | (simp; done) | (simp; omega)) _) | (with_reducible refine Below.drew ?_) | (with_reducible refine below_drewN ?_ _)))
    have HSA := Lib.hid (show Blk WA w3.heap.size [.int .u64 (h.gen : Int), .int .i64 h.at_] 56 by rw [← hWA]; exact Blk.new _ _ _)
    have q1 := HB13.out.cells
    have l1 := HB13.out.lt
    have HE := Lib.hid he
    have HI := Lib.hid hi
    have HB1A := Lib.hid (HB13.out.ext hbA)
    have HKA := Lib.hid (HK3.out.ext hbA)
    have BELA := Lib.hid (BEL3.out.trans (hbA.mono BEL3.out.size))
    have HWA := Lib.hid hWA
    clear he ha hal hbe hra hi hsg hsa hr hbA hWA HB13 HK3 BEL3
    go_wp2_with fail
    rw [HWA.out]
    refine (Try_hCheck h WA).mono ?_; rintro e w4 ⟨rfl, hb4⟩
    rw [HE.out]
    have HB14 := Lib.hid (HB1A.out.ext hb4)
    have HK4 := Lib.hid (HKA.out.ext hb4)
    have HS4 := Lib.hid (HSA.out.ext hb4)
    have BEL4 := Lib.hid (BELA.out.trans (hb4.mono BELA.out.size))
    clear hb4 q1 l1 HB1A HKA HSA BELA HWA
    have q1 := HB14.out.cells
    have l1 := HB14.out.lt
    have q8 := HS4.out.cells
    have l8 := HS4.out.lt
    have hq := Try_neHead (h.gen : Int) h.at_
    by_cases hb0 : bits_ = 0
    · subst hb0
      go_wp2
      go_ret
      exact ⟨rfl, BEL4.out⟩
    · have hb0' : ((bits_ : Int) == 0) = false := by simp [hb0]
      obtain ⟨at0, hat0, hat1⟩ : ∃ n : Nat, (IntKind.u64.wrap at_).tmod 481 = (n : Int) ∧ n ≤ 480 := by
        have h1 : 0 ≤ IntKind.u64.wrap at_ := by rw [IntKind.wrap_u64]; omega
        refine ⟨((IntKind.u64.wrap at_).tmod 481).toNat, ?_, ?_⟩
        · rw [Int.tmod_eq_emod_of_nonneg h1]; omega
        · rw [Int.tmod_eq_emod_of_nonneg h1]; omega
      have hw0 : IntKind.i64.wrap (at0 : Int) = (at0 : Int) := IntWalk.i64_in _ (by omega)
      have HB0 := Lib.hid hb0
      have HBT := Lib.hid hbt
      clear hb0 hbt
      go_wp2_with fail
      clear hat0
      go_loopw [43] (fun ix wr => ∃ k : Nat, k ≤ 32 ∧ ix = .int .i64 (k : Int) ∧ Blk wr w2.heap.size (u8s (turnAt bk (turnTo bits_ at0 k))) 57 ∧ Below w.heap.size w wr) (fun ix _ => 32 - (intOf ix).toNat)
      case atStart => exact ⟨0, by omega, by go_num, by rw [turnTo_zero, turnAt_zero]; exact HK4.out, BEL4.out⟩
      case round =>
        obtain ⟨k, hk, rfl, hkb, hbl⟩ := hrel
        have HKR := Lib.hid hkb
        have HBL := Lib.hid hbl
        have hkI : (k : Int) ≤ 32 := by omega
        clear hkb hbl
        by_cases hlt : k < 32
        · have hlt' : (k : Int) < 32 := by omega
          have hdv : bits_ / 2 ^ k < 4294967296 := Nat.lt_of_le_of_lt (Nat.div_le_self _ _) HBT.out
          have hv0 : bits .and .u32 ((bits_ : Int) / 2 ^ k) 1 = ((bits_ / 2 ^ k % 2 : Nat) : Int) := by
            have h := bits_and_one hdv
            rw [Int.natCast_ediv, Int.natCast_pow] at h
            exact h
          have HLT := Lib.hid hlt
          rcases Nat.mod_two_eq_zero_or_one (bits_ / 2 ^ k) with hb | hb
          · have hv : bits .and .u32 ((bits_ : Int) / 2 ^ k) 1 = 0 := by rw [hv0, hb]; rfl
            have HTN := Lib.hid (turnTo_no (at_ := at0) hb)
            clear hv0 hdv hb hlt hk
            go_wp2_with fail
            go_roundw
            case rel => exact ⟨k + 1, HLT.out, by go_num, by rw [HTN.out]; exact HKR.out, HBL.out⟩
            case measure => simp [intOf]; omega
          · have hv : bits .and .u32 ((bits_ : Int) / 2 ^ k) 1 = 1 := by rw [hv0, hb]; rfl
            have HTN := Lib.hid (turnTo_yes (at_ := at0) hb)
            obtain ⟨i, hi⟩ : ∃ i, (at0 + k) / 8 = i := ⟨_, rfl⟩
            obtain ⟨e, he⟩ : ∃ e, (at0 + k) % 8 = e := ⟨_, rfl⟩
            have hi64 : i < 64 := by omega
            have k1 : IntKind.i64.wrap ((at0 : Int) + (k : Int)) = (at0 : Int) + (k : Int) := IntWalk.i64_in _ (by omega)
            have k2 : ((at0 : Int) + (k : Int)).tdiv 8 = (i : Int) := by rw [Int.tdiv_eq_ediv_of_nonneg (by omega)]; omega
            have k2' : IntKind.i64.wrap (i : Int) = (i : Int) := IntWalk.i64_in _ (by omega)
            have k3 : ((at0 : Int) + (k : Int)).tmod 8 = (e : Int) := by rw [Int.tmod_eq_emod_of_nonneg (by omega)]; omega
            have hiI : (i : Int) < 64 := by omega
            have heI : (e : Int) < 8 := by omega
            obtain ⟨c, hc⟩ : ∃ c, (turnAt bk (turnTo bits_ at0 k))[i]? = some c := ⟨_, List.getElem?_eq_getElem (by rw [turnAt_len, HBKL.out]; exact hi64)⟩
            have cx : wr.cell? ⟨w2.heap.size, i, none⟩ = some (.int .u8 (c.toNat : Int)) := HKR.out.cell i (u8s_get hc)
            have l7 := HKR.out.lt
            have m7 := HKR.out.marks
            obtain ⟨y, hy⟩ : ∃ y, c ^^^ bitByte (at0 + k) = y := ⟨_, rfl⟩
            have hxy : bits .xor .u8 (c.toNat : Int) (IntKind.u8.wrap (2 ^ e)) = (y.toNat : Int) := by
              have h1 : 2 ^ e < 256 := Nat.pow_lt_pow_right (a := 2) (n := 8) (by omega) (by omega)
              have h2 : IntKind.u8.wrap (2 ^ e) = ((2 ^ e : Nat) : Int) := by
                rw [IntKind.wrap_u8, show (2 : Int) ^ e = ((2 ^ e : Nat) : Int) by rw [Int.natCast_pow]; rfl]
                generalize 2 ^ e = p at h1
                omega
              rw [h2, bits_xor_u8b c.toNat_lt h1, ← hy, UInt8.toNat_xor, bitByte_nat, he]
            have HC := Lib.hid hc
            have HY := Lib.hid hy
            have HIE := Lib.hid (And.intro hi he)
            clear hv0 hdv hb hlt hk hc hi he hy
            go_wp2_with fail
            refine' wp_region_seq [.inl _, .inl _, .inl _, .inl _, .inl _, .inl _, .inl _, .inl _, .inl _, .inl _, .inl _, .inl _, .inl _] (by kernel_rfl) (by kernel_rfl) ?main1
            case main1 =>
              refine wpParts_det (by rfl) (fun W hE hN => ?_) ?_
              · go_simp; refine ⟨Below.refl _ _, ?_⟩; rfl
              simp only [Act.put, List.setIfInBounds_toArray, List.set_cons_zero, List.set_cons_succ]
              refine wpParts_det (by rfl) (fun W hE hN => ?_) ?_
              · go_simp; refine ⟨Below.refl _ _, ?_⟩; rfl
              simp only [Act.put, List.setIfInBounds_toArray, List.set_cons_zero, List.set_cons_succ]
              refine wpParts_det (by rfl) (fun W hE hN => ?_) ?_
              · go_simp; refine ⟨Below.refl _ _, ?_⟩; rfl
              simp only [Act.put, List.setIfInBounds_toArray, List.set_cons_zero, List.set_cons_succ]
              refine wpParts_det (by rfl) (fun W hE hN => ?_) ?_
              · go_simp; refine ⟨Below.refl _ _, ?_⟩; rfl
              simp only [Act.put, List.setIfInBounds_toArray, List.set_cons_zero, List.set_cons_succ]
              refine wpParts_det (by rfl) (fun W hE hN => ?_) ?_
              · go_simp; refine ⟨Below.refl _ _, ?_⟩; rfl
              simp only [Act.put, List.setIfInBounds_toArray, List.set_cons_zero, List.set_cons_succ]
              refine wpParts_det (by rfl) (fun W hE hN => ?_) ?_
              · have hc := fun b o h => hE.cell (p := ⟨b, o, none⟩) h
                go_simp; refine ⟨Below.refl _ _, ?_⟩; rfl
              simp only [Act.put, List.setIfInBounds_toArray, List.set_cons_zero, List.set_cons_succ]
              refine wpParts_det (by rfl) (fun W hE hN => ?_) ?_
              · go_simp; refine ⟨Below.refl _ _, ?_⟩; rfl
              simp only [Act.put, List.setIfInBounds_toArray, List.set_cons_zero, List.set_cons_succ]
              refine wpParts_det (by rfl) (fun W hE hN => ?_) ?_
              · go_simp; refine ⟨Below.refl _ _, ?_⟩; rfl
              simp only [Act.put, List.setIfInBounds_toArray, List.set_cons_zero, List.set_cons_succ]
              refine wpParts_det (by rfl) (fun W hE hN => ?_) ?_
              · go_simp; refine ⟨Below.refl _ _, ?_⟩; rfl
              simp only [Act.put, List.setIfInBounds_toArray, List.set_cons_zero, List.set_cons_succ]
              refine wpParts_det (by rfl) (fun W hE hN => ?_) ?_
              · go_simp; refine ⟨Below.refl _ _, ?_⟩; rfl
              simp only [Act.put, List.setIfInBounds_toArray, List.set_cons_zero, List.set_cons_succ]
              refine wpParts_det (by rfl) (fun W hE hN => ?_) ?_
              · go_simp; refine ⟨Below.refl _ _, ?_⟩; rfl
              simp only [Act.put, List.setIfInBounds_toArray, List.set_cons_zero, List.set_cons_succ]
              refine wpParts_det (by rfl) (fun W hE hN => ?_) ?_
              · go_simp; refine ⟨Below.refl _ _, ?_⟩; rfl
              simp only [Act.put, List.setIfInBounds_toArray, List.set_cons_zero, List.set_cons_succ]
              refine wpParts_det (by rfl) (fun W hE hN => ?_) ?_
              · go_simp; refine ⟨Below.refl _ _, ?_⟩; rfl
              simp only [Act.put, List.setIfInBounds_toArray, List.set_cons_zero, List.set_cons_succ]
              refine wpParts_end fun W5 hE5 hG5 => ?_
              have hcW5 := fun b o h => hE5.cell (p := ⟨b, o, none⟩) h
              have hfW5 := fun b o h => hE5.frozen (p := ⟨b, o, none⟩) h
              have hk5 := HKR.out.ext hE5
              have HK5 := Lib.hid hk5
              have HBL5 := Lib.hid (HBL.out.trans (hE5.mono HBL.out.size))
              have m75 := hk5.marks
              have l75 := hk5.lt
              have cx5 : W5.cell? ⟨w2.heap.size, i, none⟩ = some (.int .u8 (c.toNat : Int)) := (hE5.cell (p := ⟨w2.heap.size, i, none⟩) HKR.out.lt).trans cx
              have HFL := Lib.hid (turnAt_flip (m := at0 + k) (by rw [HIE.out.1]; exact HC.out))
              clear hE5 hG5 hcW5 hfW5 hk5 cx m7 l7 q1 l1 q8 l8
              go_wp2_with fail
              go_roundw
              case rel =>
                refine ⟨k + 1, HLT.out, by go_num, ?_, HBL5.out.setCell (by show w.heap.size ≤ w2.heap.size; omega) _⟩
                have h := HFL.out
                rw [HIE.out.1, HY.out] at h
                rw [HTN.out, ← h, ← u8s_setB]
                exact HK5.out.set i _
              case measure => simp [intOf]; omega
        · obtain rfl : k = 32 := by omega
          have HNO := Lib.hid (turned_not HBKL.out HI.out HB0.out HBT.out hat1)
          have HKT := Lib.hid (show Blk wr w2.heap.size (u8s (turnAt bk (bits_ * 2 ^ at0))) 57 by rw [← turnTo_all HBT.out]; exact HKR.out)
          obtain ⟨tk, htk⟩ : ∃ tk, turnAt bk (bits_ * 2 ^ at0) = tk := ⟨_, rfl⟩
          have HTL := Lib.hid (show tk.length = 64 by rw [← htk, turnAt_len]; exact HBKL.out)
          rw [htk] at HNO HKT
          clear htk hlt hk q1 l1 q8 l8
          go_wp2_with (first | (refine wpList_load_row rfl 57 (.tmp 7) rfl w2.heap.size rfl 57 (u8s tk).toArray (0, 0) _ HKT.out Try.underlying57 rfl (Try_size64_of HTL.out) ?_))
          refine (Try_Says tk HTL.out wr).mono ?_; rintro e w9 ⟨rfl, hb9⟩
          rw [saysOf_no HNO.out]
          have BEL9 := Lib.hid (HBL.out.trans (hb9.mono HBL.out.size))
          clear hb9
          go_wp2
          go_ret
          exact ⟨rfl, BEL9.out⟩
end Go.Proofs.Ytmjmjjakhmeogaa
