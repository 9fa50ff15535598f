/-
  FrameFree, walked.
-/
import Derived.Test.YtafigbomcgncnaaFrS
namespace Go.Proofs.Ytafigbomcgncnaa
set_option linter.unusedVariables false
set_option linter.unusedSimpArgs false
open Go.RowKit Go.Dav
attribute [local go_sem] Gives ite_val ite_val_true

set_option maxRecDepth 100000 in
set_option maxHeartbeats 8000000 in
theorem Try_FrameFree (ya : Option Addr) (yn yc : Nat) (y : List UInt8) (mark : UInt8) (cut : Int) (w : World) (hy : BytesAt w ya yn yc y) (hc : I64' cut) :
    Calls Try.prog 7 #[.slice ya yn yc, .int .u8 (mark.toNat : Int), .int .i64 cut] w fun e w' => e = .returned (.bool true) ∧ Below w.heap.size w w' := by
  have HY := Lib.hid hy.s
  clear hy hc
  go_enter Try.func7, Try.ntmps7
  go_wp2_with fail
  refine (Try_wakes11 w).mono ?_; rintro e w1 ⟨rfl, hb1⟩
  have BEL1 := Lib.hid hb1
  clear hb1
  go_wp2_with fail
  obtain ⟨A, hA⟩ : ∃ A, y.take 300 = A := ⟨_, rfl⟩
  have hal : A.length ≤ 500 := by rw [← hA, List.length_take]; omega
  have HAY := Lib.hid hA
  have hC := Try_few ya yn yc 300 y w1 _ (HY.out.ext BEL1.out) (by omega)
  rw [hA] at hC
  refine (show Calls Try.prog 15 #[.slice ya yn yc, .int .i64 300] w1 _ from hC).mono ?_; rintro e w2 ⟨v2, rfl, ho2, hb2⟩
  obtain ⟨aa, ac, rfl, hA2⟩ := own_bytes ho2 (by omega)
  have HAB := Lib.hid hA2
  have BEL2 := Lib.hid (BEL1.out.trans (hb2.mono BEL1.out.size))
  clear hC hA2 ho2 hb2 BEL1 hA
  go_wp2_with fail
  refine (Try_firm aa A.length ac w2).mono ?_; rintro e w3 ⟨rfl, hb3⟩
  have HA3 := Lib.hid (HAB.out.ext hb3)
  have BEL3 := Lib.hid (BEL2.out.trans (hb3.mono BEL2.out.size))
  clear hb3 HAB BEL2
  obtain ⟨cu, hcu⟩ : ∃ cu : Nat, IntKind.u64.wrap cut = (cu : Int) := ⟨(IntKind.u64.wrap cut).toNat, by rw [IntKind.wrap_u64]; omega⟩
  obtain ⟨r, hr⟩ : ∃ r, cu % 600 = r := ⟨_, rfl⟩
  have hr6 : r < 600 := by rw [← hr]; exact Nat.mod_lt _ (by omega)
  have u4 : (cu : Int).tmod 600 = (r : Int) := by rw [← hr]; rfl
  have u5 : IntKind.i64.wrap (r : Int) = (r : Int) := IntWalk.i64_in _ (by omega)
  have u6 : IntKind.i64.wrap (1 + (r : Int)) = 1 + (r : Int) := IntWalk.i64_in _ (by omega)
  clear hr
  go_wp2_with fail
  obtain ⟨V, hV⟩ : ∃ V, (w3.alloc (.cells #[.slice aa A.length ac, .slice none 0 0, .int .i64 (-1), .int .i64 (-1), .bool false] 25)).alloc (.cells #[.int .u8 (mark.toNat : Int)] 5) = V := ⟨_, rfl⟩
  have hbV : Below w3.heap.size w3 V := by rw [← hV]; exact (by repeat (first | (with_reducible exact Below.refl _ _) | (with_reducible exact Below.refl _ _) | (with_reducible refine Below.setCell ?_ (by first | omega | (simp; done) | (simp; omega)) _) | (with_reducible refine Below.alloc ?_ (by first | omega | (simp; done) | (simp; omega)) _) | (with_reducible refine Below.drew ?_) | (with_reducible refine below_drewN ?_ _)))
  have HKF := Lib.hid (show Blk V w3.heap.size [.slice aa A.length ac, .slice none 0 0, .int .i64 (-1), .int .i64 (-1), .bool false] 25 by rw [← hV]; exact (Blk.new _ _ _).alloc _)
  have HKM := Lib.hid (show Blk V (w3.heap.size + 1) [.int .u8 (mark.toNat : Int)] 5 by rw [← hV]; exact Blk.new' _ _ _ (by simp))
  have HFV := Lib.hid ((firmS (HA3.out.ext hbV)).bound)
  have BELV := Lib.hid (BEL3.out.trans (hbV.mono BEL3.out.size))
  rw [show _ = V from hV]
  clear hbV hV HA3 BEL3
  have hC := Try_Repeat (w3.heap.size + 1) 0 1 (1 + r) mark V (HKM.out.cell 0 rfl) HKM.out.lt (by omega) (by omega)
  rw [show ((1 + r : Nat) : Int) = 1 + (r : Int) by omega] at hC
  refine hC.mono ?_; rintro e w4 ⟨gb, rfl, hB4, hb4⟩
  obtain ⟨b, hb⟩ : ∃ b, List.replicate (1 + r) mark = b := ⟨_, rfl⟩
  rw [hb] at hB4
  have hbl : b.length = 1 + r := by rw [← hb, List.length_replicate]
  obtain ⟨bl, hbl2⟩ : ∃ bl, 1 + r = bl := ⟨_, rfl⟩
  rw [hbl2] at hbl hB4 ⊢
  have hbl600 : bl ≤ 600 := by omega
  have hb1 : 1 ≤ bl := by omega
  have HB4 := Lib.hid hB4
  have HF4 := Lib.hid ((HFV.out.ext hb4).bound)
  have HK4 := Lib.hid (HKF.out.ext hb4)
  have BEL4 := Lib.hid (BELV.out.trans (hb4.mono BELV.out.size))
  have q1 := HK4.out.cells
  have l1 := HK4.out.lt
  clear hC hB4 hb4 hb hbl2 HFV HKF HKM BELV u4 u5 u6 hcu hr6
  have hpw := pieceOf_len (F := firmF A) (outOf b) (by rw [outOf_len]; omega)
  rw [firmF_all] at hpw
  have HPUT := Lib.hid (laidF_put (A := A) (b := b) (by omega) (by omega) (by omega))
  have HLALL := Lib.hid (laidF_all A b)
  have HLR := Lib.hid (laidF_right (A := A) (b := b) (by omega) (by omega))
  have HFM := Lib.hid (firmF_many A)
  have HFR := Lib.hid (firmF_right (A := A) (by omega))
  have HMARK := Lib.hid (fun i => laid_mark A (outOf b) (i := i))
  obtain ⟨X, hX⟩ : ∃ X, A ++ pieceOf A (outOf b) = X := ⟨_, rfl⟩
  have hXl : X.length = A.length + (pieceOf A (outOf b)).length := by rw [← hX, List.length_append]
  have HXA := Lib.hid (show ∀ i, i < A.length → X[i]? = y[i]? from fun i hi => by
    rw [← hX, List.getElem?_append_left hi, ← HAY.out, List.getElem?_take, if_pos (by have h := hi; rw [← HAY.out, List.length_take] at h; omega)])
  rw [hX] at HLALL HMARK
  obtain ⟨tot, htot⟩ : ∃ z, X.length = z := ⟨_, rfl⟩
  have htl : tot ≤ 30000 := by omega
  have HTOT := Lib.hid htot
  obtain ⟨at_, hat⟩ : ∃ z, placeOf A (outOf b) = z := ⟨_, rfl⟩
  rw [hat] at HPUT
  clear hX hXl htot hat hpw
  go_wp2_with fail
  have hA := Try_fPut (firmF A) aa none (some ⟨gb, 0, none⟩) A.length ac 0 0 bl bl b w4 _ _ HF4.out (fun b h => h.2) HB4.out
  rw [HPUT.out] at hA
  refine (show Calls Try.prog 16 #[.agg #[.slice aa A.length ac, .slice none 0 0, .int .i64 (-1), .int .i64 (-1), .bool false], .slice (some ⟨gb, 0, none⟩) bl bl] w4 _ from hA).mono ?_; rintro e w5 ⟨ga, gl, gc, ma, ml, mc, rfl, hR, hb5⟩
  have HG5 := Lib.hid hR
  have HK5 := Lib.hid (HK4.out.ext hb5)
  have HF5 := Lib.hid (HF4.out.ext hb5)
  have BEL5 := Lib.hid (BEL4.out.trans (hb5.mono BEL4.out.size))
  clear hA hR hb5 HB4 HK4 HF4 BEL4 q1 l1 HPUT
  have q1 := HK5.out.cells
  have l1 := HK5.out.lt
  go_wp2_with fail
  obtain ⟨U, hU⟩ : ∃ U, w5.alloc (.cells #[.slice ga gl gc, .slice ma ml mc, .int .i64 (laidF A b).fuse, .int .i64 (laidF A b).fault, .bool (laidF A b).off] 25) = U := ⟨_, rfl⟩
  have hbU : Below w5.heap.size w5 U := by rw [← hU]; exact (by repeat (first | (with_reducible exact Below.refl _ _) | (with_reducible exact Below.refl _ _) | (with_reducible refine Below.setCell ?_ (by first | omega | (simp; done) | (simp; omega)) _) | (with_reducible refine Below.alloc ?_ (by first | omega | (simp; done) | (simp; omega)) _) | (with_reducible refine Below.drew ?_) | (with_reducible refine below_drewN ?_ _)))
  have HGU := Lib.hid ((HG5.out.ext hbU).bound)
  have HKG := Lib.hid (show Blk U w5.heap.size [.slice ga gl gc, .slice ma ml mc, .int .i64 (laidF A b).fuse, .int .i64 (laidF A b).fault, .bool (laidF A b).off] 25 by rw [← hU]; exact Blk.new _ _ _)
  have HKU := Lib.hid (HK5.out.ext hbU)
  have HFU := Lib.hid (HF5.out.ext hbU)
  have BELU := Lib.hid (BEL5.out.trans (hbU.mono BEL5.out.size))
  rw [show _ = U from hU]
  clear hbU hU HG5 HK5 HF5 BEL5
  have hC := Try_Len (firmF A) aa none A.length ac 0 0 U HFU.out.at_
  rw [if_pos HFR.out, HFM.out] at hC
  refine (show Calls Try.prog 24 #[.agg #[.slice aa A.length ac, .slice none 0 0, .int .i64 (-1), .int .i64 (-1), .bool false]] U _ from hC).mono ?_; rintro e w6 ⟨rfl, hb6⟩
  have HG6 := Lib.hid ((HGU.out.ext hb6).bound)
  have HKG6 := Lib.hid (HKG.out.ext hb6)
  have BEL6 := Lib.hid (BELU.out.trans (hb6.mono BELU.out.size))
  clear hC hb6 HGU HKU HFU HKG BELU q1 l1
  have q1 := HKG6.out.cells
  have l1 := HKG6.out.lt
  go_wp2_with fail
  refine (Try_said (laidF A b) ga ma gl gc ml mc w6 _ HG6.out (fun b h => h.2) HLR.out).mono ?_; rintro e w7 ⟨v7, rfl, ho7, hb7⟩
  rw [HLALL.out, HTOT.out] at ho7
  obtain ⟨sa, sc, rfl, hS⟩ := own_bytes ho7 (by omega)
  have HS := Lib.hid hS
  have BEL7 := Lib.hid (BEL6.out.trans (hb7.mono BEL6.out.size))
  have HYW := Lib.hid (HY.out.ext BEL7.out)
  clear ho7 hS hb7 HG6 HKG6 BEL6 HLR HLALL q1 l1
  go_wp2_with fail
  go_loopw [42] (fun ix wr => ∃ i : Nat, i ≤ tot ∧ ix = .int .i64 (i : Int) ∧ wr = w7) (fun ix _ => tot - (intOf ix).toNat)
  case atStart => exact ⟨0, Nat.zero_le _, by go_num, rfl⟩
  case round =>
    obtain ⟨i, hi, rfl, rfl⟩ := hrel
    by_cases hin : i < tot
    · have hin' : (i : Int) < (tot : Int) := by omega
      obtain ⟨x, hx⟩ : ∃ x, X[i]? = some x := ⟨_, List.getElem?_eq_getElem (by rw [HTOT.out]; exact hin)⟩
      obtain ⟨sb, so, rfl, _, hcx⟩ := HS.out.at_.hat i x hx
      have t2 : (i : Int).tmod 64 = (i : Int) % 64 := Int.tmod_eq_emod_of_nonneg (by omega)
      by_cases hA2 : i < A.length
      · have d2 : (i : Int) < (A.length : Int) := by omega
        have d2' : ¬ (A.length : Int) ≤ (i : Int) := by omega
        have hyx : y[i]? = some x := by rw [← HXA.out i hA2]; exact hx
        obtain ⟨yb, yo, rfl, _, hcy⟩ := HYW.out.at_.hat i x hyx
        have hiy : (i : Int) < (yn : Int) := by have h := HYW.out.at_.hlen; have h2 := (List.getElem?_eq_some_iff.1 hyx).1; omega
        by_cases h64 : i % 64 = 0
        · have d1 : ((i : Int) % 64 == 0) = true := by rw [beq_iff_eq]; omega
          clear h64 hx hyx hA2
          go_wp2_with fail
          go_roundw
          case rel => exact ⟨i + 1, hin, by go_num, by first | trivial | rfl⟩
          case measure => simp [intOf]; omega
        · have d1 : ((i : Int) % 64 == 0) = false := by rw [beq_eq_false_iff_ne]; omega
          clear h64 hx hyx hA2
          go_wp2_with fail
          go_roundw
          case rel => exact ⟨i + 1, hin, by go_num, by first | trivial | rfl⟩
          case measure => simp [intOf]; omega
      · have d2 : ¬ (i : Int) < (A.length : Int) := by omega
        have d2' : (A.length : Int) ≤ (i : Int) := by omega
        by_cases h64 : i % 64 = 0
        · have d1 : ((i : Int) % 64 == 0) = true := by rw [beq_iff_eq]; omega
          have hx0 : x = 0 := by
            have h := HMARK.out i (by omega) h64 (by rw [HTOT.out]; exact hin)
            rw [hx] at h; exact Option.some.inj h
          subst hx0
          have hcz : wr.cell? ⟨sb, so + i, none⟩ = some (.int .u8 0) := hcx
          clear h64 hx hA2 hcx
          go_wp2_with fail
          go_roundw
          case rel => exact ⟨i + 1, hin, by go_num, by first | trivial | rfl⟩
          case measure => simp [intOf]; omega
        · have d1 : ((i : Int) % 64 == 0) = false := by rw [beq_eq_false_iff_ne]; omega
          clear h64 hx hA2
          go_wp2_with fail
          go_roundw
          case rel => exact ⟨i + 1, hin, by go_num, by first | trivial | rfl⟩
          case measure => simp [intOf]; omega
    · have hin' : ¬ (i : Int) < (tot : Int) := by omega
      clear hin
      go_wp2
      go_ret
      exact ⟨rfl, BEL7.out⟩
end Go.Proofs.Ytafigbomcgncnaa
