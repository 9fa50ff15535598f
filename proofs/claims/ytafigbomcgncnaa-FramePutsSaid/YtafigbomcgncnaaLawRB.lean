/-
  FramePuts, walked.
-/
import Derived.Test.YtafigbomcgncnaaFrO
namespace Go.Dav
set_option linter.unusedVariables false
set_option linter.unusedSimpArgs false
open Go Go.RowKit
theorem FileD.fput_no {F : FileD} (h : F.right = false) (p : List UInt8) : F.fput p = (F, 0, 200) := by unfold FileD.fput; rw [if_neg (by rw [h]; decide)]
theorem FileD.fput_arg {F : FileD} (h : F.right = true) {p : List UInt8} (hp : ¬ (1 ≤ p.length ∧ p.length ≤ 4096)) : F.fput p = (F, 0, 2) := by unfold FileD.fput; rw [if_pos h, if_neg hp]
theorem FileD.fput_yes {F : FileD} (h : F.right = true) {p : List UInt8} (hp : 1 ≤ p.length ∧ p.length ≤ 4096) : F.fput p = ((F.append (pieceOf F.all (outOf p))).1, if (F.append (pieceOf F.all (outOf p))).2 = 0 then placeOf F.all (outOf p) else 0, (F.append (pieceOf F.all (outOf p))).2) := by unfold FileD.fput; rw [if_pos h, if_pos hp]
theorem FileD.fsize_no {F : FileD} {n : Nat} (h : ¬ (F.right = true ∧ 1 ≤ n ∧ n ≤ 4096)) : F.fsize (n : Int) = 0 := by unfold FileD.fsize; rw [if_neg (fun h2 => h ⟨h2.1, by omega, by omega⟩)]
theorem FileD.fsize_yes {F : FileD} (h : F.right = true) {p : List UInt8} (hp : 1 ≤ p.length ∧ p.length ≤ 4096) : F.fsize (p.length : Int) = (pieceOf F.all (outOf p)).length := by
  unfold FileD.fsize
  rw [if_pos ⟨h, by omega, by omega⟩, Int.toNat_natCast]
  exact pieceOf_len_eq _ (by rw [List.length_replicate, outOf_len])
end Go.Dav
namespace Go.Proofs.Ytafigbomcgncnaa
set_option linter.unusedVariables false
set_option linter.unusedSimpArgs false
open Go.RowKit Go.Dav
attribute [local go_sem] Gives ite_val ite_val_true

set_option maxRecDepth 100000 in
set_option maxHeartbeats 8000000 in
theorem Try_FramePuts (F : FileD) (fa la pa : Option Addr) (fl fc ll lc pl pc : Nat) (p : List UInt8) (w : World) (hF : FileAt w fa fl fc la ll lc F) (hp : BytesAt w pa pl pc p) :
    Calls Try.prog 4 #[.agg #[.slice fa fl fc, .slice la ll lc, .int .i64 F.fuse, .int .i64 F.fault, .bool F.off], .slice pa pl pc] w fun e w' => e = .returned (.bool true) ∧ Below w.heap.size w w' := by
  obtain ⟨W0, hW0⟩ : ∃ W0, w.alloc (.cells [.slice fa fl fc, .slice la ll lc, .int .i64 F.fuse, .int .i64 F.fault, .bool F.off].toArray 25) = W0 := ⟨_, rfl⟩
  have bel0 : Below w.heap.size w W0 := by rw [← hW0]; exact (by repeat (first | (with_reducible exact Below.refl _ _) | (with_reducible exact Below.refl _ _) | (with_reducible refine Below.setCell ?_ (by first | omega | (simp; done) | (simp; omega)) _) | (with_reducible refine Below.alloc ?_ (by first | omega | (simp; done) | (simp; omega)) _) | (with_reducible refine Below.drew ?_) | (with_reducible refine below_drewN ?_ _)))
  have HB1 := Lib.hid (show Blk W0 w.heap.size [.slice fa fl fc, .slice la ll lc, .int .i64 F.fuse, .int .i64 F.fault, .bool F.off] 25 by rw [← hW0]; exact Blk.new w [.slice fa fl fc, .slice la ll lc, .int .i64 F.fuse, .int .i64 F.fault, .bool F.off] _)
  have BEL0 := Lib.hid bel0
  have HF := Lib.hid ((hF.s).ext bel0)
  have HP0 := Lib.hid hp.s
  have HW0 := Lib.hid hW0
  clear hF bel0 hp hW0
  go_enter Try.func4, Try.ntmps4
  go_wp2_with fail
  rw [HW0.out]
  refine (Try_wakes11 W0).mono ?_; rintro e w1 ⟨rfl, hb1⟩
  have HB11 := Lib.hid (HB1.out.ext hb1)
  have HF1 := Lib.hid (HF.out.ext hb1)
  have BEL1 := Lib.hid (BEL0.out.trans (hb1.mono BEL0.out.size))
  have q1 := HB11.out.cells
  have l1 := HB11.out.lt
  clear hb1 HB1 HF BEL0 HW0
  go_wp2_with fail
  obtain ⟨G, hG⟩ : ∃ G, F.some = G := ⟨_, rfl⟩
  have hA := Try_some F fa la fl fc ll lc w1 _ HF1.out
  rw [hG] at hA
  refine hA.mono ?_; rintro e w2 ⟨ga, gl, gc, ma, ml, mc, rfl, hR, hb2⟩
  have HR := Lib.hid hR
  have BEL2 := Lib.hid (BEL1.out.trans (hb2.mono BEL1.out.size))
  clear hA hR hb2 q1 l1 HB11 HF1 BEL1 hG
  go_wp2_with fail
  obtain ⟨b, hb⟩ : ∃ b, p.take 4097 = b := ⟨_, rfl⟩
  have HBT := Lib.hid hb
  have hbl : b.length ≤ 4097 := by rw [← hb, List.length_take]; omega
  have hA := Try_few pa pl pc 4097 p w2 _ (HP0.out.ext BEL2.out) (by omega)
  rw [hb] at hA
  refine (show Calls Try.prog 15 #[.slice pa pl pc, .int .i64 4097] w2 _ from hA).mono ?_; rintro e w3 ⟨v3, rfl, ho3, hb3⟩
  obtain ⟨ba, bc, rfl, hB3⟩ := own_bytes ho3 (by omega)
  have HBY := Lib.hid hB3
  have HR3 := Lib.hid ((HR.out.ext hb3).bound)
  have BEL3 := Lib.hid (BEL2.out.trans (hb3.mono BEL2.out.size))
  clear hA hB3 ho3 hb3 HR BEL2 hb
  go_wp2_with fail
  obtain ⟨V, hV⟩ : ∃ V, w3.alloc (.cells [.slice ga gl gc, .slice ma ml mc, .int .i64 G.fuse, .int .i64 G.fault, .bool G.off].toArray 25) = V := ⟨_, rfl⟩
  have hbV : Below w3.heap.size w3 V := by rw [← hV]; exact (by repeat (first | (with_reducible exact Below.refl _ _) | (with_reducible exact Below.refl _ _) | (with_reducible refine Below.setCell ?_ (by first | omega | (simp; done) | (simp; omega)) _) | (with_reducible refine Below.alloc ?_ (by first | omega | (simp; done) | (simp; omega)) _) | (with_reducible refine Below.drew ?_) | (with_reducible refine below_drewN ?_ _)))
  have HK5 := Lib.hid (show Blk V w3.heap.size [.slice ga gl gc, .slice ma ml mc, .int .i64 G.fuse, .int .i64 G.fault, .bool G.off] 25 by rw [← hV]; exact Blk.new w3 [.slice ga gl gc, .slice ma ml mc, .int .i64 G.fuse, .int .i64 G.fault, .bool G.off] _)
  have HFV := Lib.hid ((HR3.out.ext hbV).bound)
  have HBV := Lib.hid (HBY.out.ext hbV)
  have BELV := Lib.hid (BEL3.out.trans (hbV.mono BEL3.out.size))
  rw [show _ = V from hV]
  clear hbV hV HR3 HBY BEL3
  obtain ⟨H, hpl, he, hV0⟩ : ∃ H hpl he, G.fput b = (H, hpl, he) := ⟨_, _, _, rfl⟩
  have HV0 := Lib.hid hV0
  have hA := Try_fPut G ga ma ba gl gc ml mc b.length bc b V _ _ HFV.out (fun b h => h.2) HBV.out
  rw [hV0] at hA
  refine hA.mono ?_; rintro e w4 ⟨ha, hl, hc, na, nl, nc, rfl, hR4, hb4⟩
  have HH4 := Lib.hid hR4
  have HK54 := Lib.hid (HK5.out.ext hb4)
  have HF4 := Lib.hid (HFV.out.ext hb4)
  have HB4 := Lib.hid (HBV.out.ext hb4)
  have BEL4 := Lib.hid (BELV.out.trans (hb4.mono BELV.out.size))
  have q1 := HK54.out.cells
  have l1 := HK54.out.lt
  clear hA hR4 hb4 HK5 HFV HBV BELV hV0
  go_wp2_with fail
  obtain ⟨U, hU⟩ : ∃ U, w4.alloc (.cells [.slice ha hl hc, .slice na nl nc, .int .i64 H.fuse, .int .i64 H.fault, .bool H.off].toArray 25) = U := ⟨_, rfl⟩
  have hbU : Below w4.heap.size w4 U := by rw [← hU]; exact (by repeat (first | (with_reducible exact Below.refl _ _) | (with_reducible exact Below.refl _ _) | (with_reducible refine Below.setCell ?_ (by first | omega | (simp; done) | (simp; omega)) _) | (with_reducible refine Below.alloc ?_ (by first | omega | (simp; done) | (simp; omega)) _) | (with_reducible refine Below.drew ?_) | (with_reducible refine below_drewN ?_ _)))
  have HK7 := Lib.hid (show Blk U w4.heap.size [.slice ha hl hc, .slice na nl nc, .int .i64 H.fuse, .int .i64 H.fault, .bool H.off] 25 by rw [← hU]; exact Blk.new w4 [.slice ha hl hc, .slice na nl nc, .int .i64 H.fuse, .int .i64 H.fault, .bool H.off] _)
  have HHU := Lib.hid (HH4.out.ext hbU)
  have HK5U := Lib.hid (HK54.out.ext hbU)
  have HFU := Lib.hid ((HF4.out.ext hbU).bound)
  have HBU := Lib.hid (HB4.out.ext hbU)
  have BELU := Lib.hid (BEL4.out.trans (hbU.mono BEL4.out.size))
  rw [show _ = U from hU]
  clear hbU hU HH4 HK54 HF4 HB4 BEL4 q1 l1
  refine (Try_Size G ga ma gl gc ml mc (b.length : Int) U _ HFU.out (fun b h => h.2) (by unfold I64'; omega)).mono ?_; rintro e w5 ⟨rfl, hb5⟩
  have HK75 := Lib.hid (HK7.out.ext hb5)
  have HH5 := Lib.hid (HHU.out.ext hb5)
  have HK55 := Lib.hid (HK5U.out.ext hb5)
  have HF5 := Lib.hid (HFU.out.ext hb5)
  have HB5 := Lib.hid (HBU.out.ext hb5)
  have BEL5 := Lib.hid (BELU.out.trans (hb5.mono BELU.out.size))
  have q1 := HK55.out.cells
  have l1 := HK55.out.lt
  clear hb5 HK7 HHU HK5U HFU HBU BELU
  go_wp2_with fail
  obtain ⟨err, herr⟩ : ∃ err, G.err = err := ⟨_, rfl⟩
  have hC := Try_Check G ga ma gl gc ml mc w5 HF5.out.at_
  rw [herr] at hC
  refine hC.mono ?_; rintro e w6 ⟨rfl, hb6⟩
  have HK76 := Lib.hid (HK75.out.ext hb6)
  have HH6 := Lib.hid (HH5.out.ext hb6)
  have HK56 := Lib.hid (HK55.out.ext hb6)
  have HF6 := Lib.hid (HF5.out.ext hb6)
  have HB6 := Lib.hid (HB5.out.ext hb6)
  have BEL6 := Lib.hid (BEL5.out.trans (hb6.mono BEL5.out.size))
  clear q1 l1 hb6 hC HK75 HH5 HK55 HF5 HB5 BEL5
  have q1 := HK56.out.cells
  have l1 := HK56.out.lt
  have q2 := HK76.out.cells
  have l2 := HK76.out.lt
  cases hr : G.right with
  | false =>
    obtain rfl : err = 200 := by rw [← herr]; unfold FileD.err; rw [if_neg (by rw [hr]; decide)]
    have hv := HV0.out
    rw [FileD.fput_no hr] at hv
    cases hv
    rw [FileD.fsize_no (fun h => by rw [hr] at h; cases h.1)]
    clear hr herr HV0
    go_wp2_with fail
    refine (Try_refSame G G ha na ga ma hl hc nl nc gl gc ml mc w6 HH6.out.at_ HF6.out.at_).mono ?_; rintro e w9 ⟨rfl, hb9⟩
    rw [FileD.one_self]
    have BEL9 := Lib.hid (BEL6.out.trans (hb9.mono BEL6.out.size))
    clear hb9
    go_wp2
    go_ret
    exact ⟨rfl, BEL9.out⟩
  | true =>
    obtain rfl : err = 0 := by rw [← herr]; unfold FileD.err; rw [if_pos hr]
    by_cases hlen : 1 ≤ b.length ∧ b.length ≤ 4096
    · have hv := HV0.out
      rw [FileD.fput_yes hr hlen] at hv
      rw [FileD.fsize_yes hr hlen]
      have d1 : ((b.length : Int) == 0) = false := by rw [beq_eq_false_iff_ne]; omega
      have d2 : ¬ (4096 : Int) < (b.length : Int) := by omega
      have hmx := (FileD.right_spec.1 hr).2.2.2.2
      obtain ⟨x, hx⟩ : ∃ x, pieceOf G.all (outOf b) = x := ⟨_, rfl⟩
      obtain ⟨plc, hplc⟩ : ∃ z, placeOf G.all (outOf b) = z := ⟨_, rfl⟩
      obtain ⟨A7, a7, hA7⟩ : ∃ A7 a7, G.append x = (A7, a7) := ⟨_, _, rfl⟩
      rw [hx, hplc, hA7] at hv
      dsimp only at hv
      obtain ⟨pz, hpz⟩ : ∃ z, (if a7 = 0 then plc else 0) = z := ⟨_, rfl⟩
      rw [hpz] at hv
      have HPZ := Lib.hid hpz
      clear hpz
      obtain ⟨e1, e2, e3⟩ : A7 = H ∧ pz = hpl ∧ a7 = he := by cases hv; exact ⟨rfl, rfl, rfl⟩
      subst e1 e2 e3
      clear hv
      rw [hx]
      have hxl : x.length ≤ 20000 := by rw [← hx]; exact pieceOf_len _ (by rw [outOf_len]; omega)
      have hol := outOf_len b
      have HR := Lib.hid hr
      have HMX := Lib.hid hmx
      have HX := Lib.hid hx
      have HPLC := Lib.hid hplc
      have HAP := Lib.hid hA7
      have HOL := Lib.hid hol
      have hb1 := hlen.2
      clear hr herr HV0 hmx hx hplc hA7 hol hlen
      go_wp2_with fail
      refine (Try_refBytes G ga ma gl gc ml mc w6 HF6.out.at_ (by have := HMX.out; omega)).mono ?_; rintro e w7 ⟨ya, yn, yc, rfl, hY, hb7⟩
      have HY7 := Lib.hid hY.at_
      have HBW := Lib.hid hb7
      have HB7 := Lib.hid (HB6.out.ext hb7)
      clear hY hb7
      go_wp2_with fail
      refine (Try_refOut ba b.length bc b w7 _ HB7.out (by omega)).mono ?_; rintro e w8 ⟨v8, rfl, ho8, hb8⟩
      obtain ⟨oa, oc, rfl, hO⟩ := own_bytes ho8 (by omega)
      have HO8 := Lib.hid hO.at_
      have HY8 := Lib.hid (HY7.out.ext hb8)
      have HB8 := Lib.hid (HB7.out.ext hb8)
      have HBW8 := Lib.hid (HBW.out.trans (hb8.mono HBW.out.size))
      clear ho8 hO hb8 HY7 HB7 HBW
      go_wp2_with fail
      have hyn := HY8.out.hlen
      rw [G.all_length] at hyn
      have hA := Try_refLay ya oa yn yc (6 + b.length) oc G.all (outOf b) w8 HY8.out HO8.out (by have := HMX.out; omega) (by omega) (by omega)
      rw [HX.out, HPLC.out] at hA
      refine hA.mono ?_; rintro e w9 ⟨v9, rfl, ho9, hb9⟩
      obtain ⟨xa, xc, rfl, hX9⟩ := own_bytes ho9 (by omega)
      have HX9 := Lib.hid hX9
      have HBW9 := Lib.hid (HBW8.out.trans (hb9.mono HBW8.out.size))
      have HK79 := Lib.hid (HK76.out.ext HBW9.out)
      have HH9 := Lib.hid (HH6.out.ext HBW9.out)
      have HK59 := Lib.hid (HK56.out.ext HBW9.out)
      have HF9 := Lib.hid ((HF6.out.ext HBW9.out).bound)
      have HB9 := Lib.hid (HB6.out.ext HBW9.out)
      have BEL9 := Lib.hid (BEL6.out.trans (HBW9.out.mono BEL6.out.size))
      clear q1 l1 q2 l2 hyn hA ho9 hX9 hb9 HY8 HO8 HB8 HBW8 HBW9 HK76 HH6 HK56 HF6 HB6 BEL6
      have q1 := HK59.out.cells
      have l1 := HK59.out.lt
      go_wp2_with fail
      have hA := Try_Append G ga ma xa gl gc ml mc x.length xc x w9 _ _ HF9.out (fun b h => h.2) HX9.out
      rw [HAP.out] at hA
      refine hA.mono ?_; rintro e w10 ⟨ia, il, ic, ja, jl, jc, rfl, hR10, hb10⟩
      have HI := Lib.hid hR10
      have HK710 := Lib.hid (HK79.out.ext hb10)
      have HH10 := Lib.hid (HH9.out.ext hb10)
      have HB10 := Lib.hid (HB9.out.ext hb10)
      have BEL10 := Lib.hid (BEL9.out.trans (hb10.mono BEL9.out.size))
      clear hA hR10 hb10 q1 l1 HK79 HH9 HK59 HF9 HB9 BEL9 HX9
      have q2 := HK710.out.cells
      have l2 := HK710.out.lt
      by_cases hz : a7 = 0
      · obtain rfl : plc = pz := by rw [← HPZ.out, if_pos hz]
        subst hz
        go_wp2_with fail
        obtain ⟨U, hU⟩ : ∃ U, w10.alloc (.cells [.slice ia il ic, .slice ja jl jc, .int .i64 A7.fuse, .int .i64 A7.fault, .bool A7.off].toArray 25) = U := ⟨_, rfl⟩
        have hbU : Below w10.heap.size w10 U := by rw [← hU]; exact (by repeat (first | (with_reducible exact Below.refl _ _) | (with_reducible exact Below.refl _ _) | (with_reducible refine Below.setCell ?_ (by first | omega | (simp; done) | (simp; omega)) _) | (with_reducible refine Below.alloc ?_ (by first | omega | (simp; done) | (simp; omega)) _) | (with_reducible refine Below.drew ?_) | (with_reducible refine below_drewN ?_ _)))
        rw [show _ = U from hU]
        refine (Try_refSame A7 A7 ha na ia ja hl hc nl nc il ic jl jc U (HH10.out.at_.ext hbU) (HI.out.at_.ext hbU)).mono ?_; rintro e w11 ⟨rfl, hb11⟩
        rw [FileD.one_self]
        have hbx := hbU.trans (hb11.mono hbU.size)
        have HB11 := Lib.hid (HB10.out.ext hbx)
        have BEL11 := Lib.hid (BEL10.out.trans (hbx.mono BEL10.out.size))
        clear hb11 hbx hbU hU q2 l2 HK710 HH10 HB10 BEL10 HI
        go_wp2_with fail
        have hA := Try_few pa pl pc 4097 p w11 _ (HP0.out.ext BEL11.out) (by omega)
        rw [HBT.out] at hA
        refine (show Calls Try.prog 15 #[.slice pa pl pc, .int .i64 4097] w11 _ from hA).mono ?_; rintro e w12 ⟨v12, rfl, ho12, hb12⟩
        obtain ⟨ka, kc, rfl, hK⟩ := own_bytes ho12 (by omega)
        have HKB := Lib.hid hK.at_
        have HB12 := Lib.hid (HB11.out.ext hb12)
        have BEL12 := Lib.hid (BEL11.out.trans (hb12.mono BEL11.out.size))
        clear hA ho12 hb12 hK HB11 BEL11
        go_wp2_with fail
        have hA := Try_slicesEqual ba ka b.length bc b.length kc b b w12 HB12.out.at_ HKB.out
        rw [show decide (b = b) = true by simp] at hA
        refine hA.mono ?_; rintro e w13 ⟨rfl, hb13⟩
        have BEL13 := Lib.hid (BEL12.out.trans (hb13.mono BEL12.out.size))
        clear hb13 hA HKB HB12 BEL12
        go_wp2
        go_ret
        exact ⟨rfl, BEL13.out⟩
      · have hz' : (a7 != 0) = true := by simpa using hz
        obtain rfl : pz = 0 := by rw [← HPZ.out, if_neg hz]
        clear hz
        go_wp2_with fail
        obtain ⟨U, hU⟩ : ∃ U, w10.alloc (.cells [.slice ia il ic, .slice ja jl jc, .int .i64 A7.fuse, .int .i64 A7.fault, .bool A7.off].toArray 25) = U := ⟨_, rfl⟩
        have hbU : Below w10.heap.size w10 U := by rw [← hU]; exact (by repeat (first | (with_reducible exact Below.refl _ _) | (with_reducible exact Below.refl _ _) | (with_reducible refine Below.setCell ?_ (by first | omega | (simp; done) | (simp; omega)) _) | (with_reducible refine Below.alloc ?_ (by first | omega | (simp; done) | (simp; omega)) _) | (with_reducible refine Below.drew ?_) | (with_reducible refine below_drewN ?_ _)))
        rw [show _ = U from hU]
        refine (Try_refSame A7 A7 ha na ia ja hl hc nl nc il ic jl jc U (HH10.out.at_.ext hbU) (HI.out.at_.ext hbU)).mono ?_; rintro e w11 ⟨rfl, hb11⟩
        rw [FileD.one_self]
        have hbx := hbU.trans (hb11.mono hbU.size)
        have HB11 := Lib.hid (HB10.out.ext hbx)
        have BEL11 := Lib.hid (BEL10.out.trans (hbx.mono BEL10.out.size))
        clear hb11 hbx hbU hU q2 l2 HK710 HH10 HB10 BEL10 HI
        go_wp2_with fail
        have hA := Try_few pa pl pc 4097 p w11 _ (HP0.out.ext BEL11.out) (by omega)
        rw [HBT.out] at hA
        refine (show Calls Try.prog 15 #[.slice pa pl pc, .int .i64 4097] w11 _ from hA).mono ?_; rintro e w12 ⟨v12, rfl, ho12, hb12⟩
        obtain ⟨ka, kc, rfl, hK⟩ := own_bytes ho12 (by omega)
        have HKB := Lib.hid hK.at_
        have HB12 := Lib.hid (HB11.out.ext hb12)
        have BEL12 := Lib.hid (BEL11.out.trans (hb12.mono BEL11.out.size))
        clear hA ho12 hb12 hK HB11 BEL11
        go_wp2_with fail
        have hA := Try_slicesEqual ba ka b.length bc b.length kc b b w12 HB12.out.at_ HKB.out
        rw [show decide (b = b) = true by simp] at hA
        refine hA.mono ?_; rintro e w13 ⟨rfl, hb13⟩
        have BEL13 := Lib.hid (BEL12.out.trans (hb13.mono BEL12.out.size))
        clear hb13 hA HKB HB12 BEL12
        go_wp2
        go_ret
        exact ⟨rfl, BEL13.out⟩
    · have hv := HV0.out
      rw [FileD.fput_arg hr hlen] at hv
      cases hv
      rw [FileD.fsize_no (fun h => hlen h.2)]
      by_cases h0 : b.length = 0
      · have d1 : ((b.length : Int) == 0) = true := by rw [h0]; rfl
        clear hr herr HV0 hlen
        go_wp2_with fail
        refine (Try_refSame G G ha na ga ma hl hc nl nc gl gc ml mc w6 HH6.out.at_ HF6.out.at_).mono ?_; rintro e w9 ⟨rfl, hb9⟩
        rw [FileD.one_self]
        have BEL9 := Lib.hid (BEL6.out.trans (hb9.mono BEL6.out.size))
        clear hb9
        go_wp2
        go_ret
        exact ⟨rfl, BEL9.out⟩
      · have d1 : ((b.length : Int) == 0) = false := by rw [beq_eq_false_iff_ne]; omega
        have d2 : (4096 : Int) < (b.length : Int) := by omega
        clear hr herr HV0 hlen h0
        go_wp2_with fail
        refine (Try_refSame G G ha na ga ma hl hc nl nc gl gc ml mc w6 HH6.out.at_ HF6.out.at_).mono ?_; rintro e w9 ⟨rfl, hb9⟩
        rw [FileD.one_self]
        have BEL9 := Lib.hid (BEL6.out.trans (hb9.mono BEL6.out.size))
        clear hb9
        go_wp2
        go_ret
        exact ⟨rfl, BEL9.out⟩
end Go.Proofs.Ytafigbomcgncnaa
