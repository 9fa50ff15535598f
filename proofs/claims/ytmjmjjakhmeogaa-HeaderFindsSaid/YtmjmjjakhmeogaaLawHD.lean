/-
  HeaderFinds, walked.
-/
import Derived.Test.YtmjmjjakhmeogaaLawHC
namespace Go.Proofs.Ytmjmjjakhmeogaa
set_option linter.unusedVariables false
set_option linter.unusedSimpArgs false
open Go.RowKit Go.Dav
attribute [local go_sem] Gives ite_val ite_val_true

set_option maxRecDepth 100000 in
set_option maxHeartbeats 8000000 in
theorem Try_HeaderFinds (F : FileD) (L : List SpotV) (fa la sa : Option Addr) (fl fc ll lc sl sc : Nat) (w : World) (hF : FileAt w fa fl fc la ll lc F) (hL : SpotsAt w sa L) (hLl : L.length = sl) (hsc : sl ≤ sc) (hsl : sl ≤ 140737488355328) (hsn : sa = none → sc = 0) :
    Calls Try.prog 11 #[.agg #[.slice fa fl fc, .slice la ll lc, .int .i64 F.fuse, .int .i64 F.fault, .bool F.off], .slice sa sl sc] w fun e w' => e = .returned (.bool true) ∧ Below w.heap.size w w' := by
  obtain ⟨W0, hW0⟩ : ∃ W0, w.alloc (.cells [.slice fa fl fc, .slice la ll lc, .int .i64 F.fuse, .int .i64 F.fault, .bool F.off].toArray 25) = W0 := ⟨_, rfl⟩
  have bel0 : Below w.heap.size w W0 := by rw [← hW0]; exact (by repeat (first | (with_reducible exact Below.refl _ _) | (with_reducible exact Below.refl _ _) | (with_reducible refine Below.setCell ?_ (by first | omega | (simp; done) | (simp; omega)) _) | (with_reducible refine Below.alloc ?_ (by first | omega | (simp; done) | (simp; omega)) _) | (with_reducible refine Below.drew ?_) | (with_reducible refine below_drewN ?_ _)))
  have HB1 := Lib.hid (show Blk W0 w.heap.size [.slice fa fl fc, .slice la ll lc, .int .i64 F.fuse, .int .i64 F.fault, .bool F.off] 25 by rw [← hW0]; exact Blk.new w [.slice fa fl fc, .slice la ll lc, .int .i64 F.fuse, .int .i64 F.fault, .bool F.off] _)
  have BEL0 := Lib.hid bel0
  have HF := Lib.hid (hF.ext bel0)
  have HF0 := Lib.hid hF
  have HL0 := Lib.hid hL
  have HLl := Lib.hid hLl
  have HW0 := Lib.hid hW0
  have HSN := Lib.hid hsn
  clear hF bel0 hL hLl hW0 hsn
  go_enter Try.func11, Try.ntmps11
  go_wp2_with fail
  rw [HW0.out]
  refine (Try_wakes12 W0).mono ?_; rintro e w1 ⟨rfl, hb1⟩
  have HB11 := Lib.hid (HB1.out.ext hb1)
  have HF1 := Lib.hid (HF.out.ext hb1)
  have BEL1 := Lib.hid (BEL0.out.trans (hb1.mono BEL0.out.size))
  have q1 := HB11.out.cells
  have l1 := HB11.out.lt
  obtain ⟨n, hn⟩ : ∃ n, min fl 4000 = n := ⟨_, rfl⟩
  have hfc := HF1.out.firm.hcap
  have hn1 : n ≤ fl := by omega
  have hn2 : (n : Int) ≤ (fc : Int) := by omega
  have hn3 : n ≤ fc := by omega
  have hmin : (if (4000 : Int) < (fl : Int) then (4000 : Int) else (fl : Int)) = (n : Int) := by split <;> omega
  have hn4 : n ≤ 4000 := by omega
  clear hb1 HB1 HF BEL0 HW0 hn
  go_wp2_with fail
  refine (Try_CloneOwn fa n fc (F.firm.take n) _ w1 (HF1.out.firm.take hn1).s).mono ?_; rintro e w2 ⟨fv, rfl, hown, hb2⟩
  rw [show (F.firm.take n).length = n by rw [List.length_take, HF1.out.firm.hlen]; omega] at hown
  have HB12 := Lib.hid (HB11.out.ext hb2)
  have BEL2 := Lib.hid (BEL1.out.trans (hb2.mono BEL1.out.size))
  have hs1 : w.heap.size < w1.heap.size := HB11.out.lt
  have hs2 := hb2.size
  clear q1 l1
  have q1 := HB12.out.cells
  have m1 := HB12.out.marks
  have l1 := HB12.out.lt
  obtain ⟨ra, rc, rfl, hrn, hrm, hrz, _⟩ := own_cells hown
  have HO2 := Lib.hid hown
  clear hb2 hown HB11 HF1 BEL1 hn1 hn2 hn3 hmin hfc
  go_wp2_with fail
  obtain ⟨W3, hW3⟩ : ∃ W3, w2.setCell ⟨w.heap.size, 0, none⟩ (.slice ra n rc) = W3 := ⟨_, rfl⟩
  have o3 : Only w.heap.size w2 W3 := by rw [← hW3]; exact (by repeat (first | (with_reducible exact Only.refl _ _) | (with_reducible refine Only.set ?_ _ _) | (with_reducible refine Only.alloc ?_ _) | (with_reducible refine Only.drew ?_)))
  have hbx : Blk W3 w.heap.size [.slice ra n rc, .slice la ll lc, .int .i64 F.fuse, .int .i64 F.fault, .bool F.off] 25 := by rw [← hW3]; exact HB12.out.set 0 _
  have hown3 : W3.ownsRow w1.heap.size 5 1 (.slice ra n rc) n (u8s (F.firm.take n)) := by rw [← hW3]; exact ownsRow_set_other HO2.out HB12.out (by decide)
  have bel3 : Below w.heap.size w W3 := below_only BEL2.out o3 BEL2.out.size (Nat.le_refl _)
  have HBX := Lib.hid hbx
  have HO3 := Lib.hid hown3
  have BEL3 := Lib.hid bel3
  have s3 := o3.size
  have HS3 := Lib.hid (show w1.heap.size ≤ W3.heap.size by omega)
  rw [show _ = W3 from hW3]
  clear hW3 o3 hbx hown3 bel3 q1 m1 l1 HB12 HO2 BEL2
  have hlen0 : (F.firm.take n).length = n := by have := HO3.out.1; rw [u8s_len] at this; omega
  have HLEN0 := Lib.hid hlen0
  have hs4 : w.heap.size < W3.heap.size := by omega
  clear hlen0
  go_wp2_with fail
  go_loopw [27] (fun ix wr => ∃ (k : Nat) (B : List UInt8), k ≤ sl ∧ ix = .int .i64 (k : Int) ∧ B.length = n ∧ Blk wr w.heap.size [.slice ra n rc, .slice la ll lc, .int .i64 F.fuse, .int .i64 F.fault, .bool F.off] 25 ∧ wr.ownsRow w1.heap.size 5 1 (.slice ra n rc) n (u8s B) ∧ Below w.heap.size w wr ∧ w1.heap.size ≤ wr.heap.size) (fun ix _ => sl - (intOf ix).toNat)
  case atStart => exact ⟨0, F.firm.take n, Nat.zero_le _, by go_num, HLEN0.out, HBX.out, HO3.out, BEL3.out, HS3.out⟩
  case round =>
    obtain ⟨k, B, hk, rfl, hBl, hbx, hown, hbl, hsr⟩ := hrel
    have HBXr := Lib.hid hbx
    have HOr := Lib.hid hown
    have HBLr := Lib.hid hbl
    have HBl := Lib.hid hBl
    have HSr := Lib.hid hsr
    have HBLr0 := Lib.hid hbx.lt
    have q1 := hbx.cells
    have m1 := hbx.marks
    have l1 := hbx.lt
    clear hbx hown hbl hBl hsr HBX HO3 BEL3
    by_cases hlt : k < sl
    · obtain ⟨d, hd⟩ : ∃ d, L[k]? = some d := ⟨_, List.getElem?_eq_getElem (by have := HLl.out; omega)⟩
      obtain ⟨b, o, rfl, hb, hcs, hX⟩ := HL0.out k d hd
      have hd0 := hcs 0 _ rfl
      have hd1 := hcs 1 _ rfl
      have hd2 := hcs 2 _ rfl
      have hd3 := hcs 3 _ rfl
      have hd4 := hcs 4 _ rfl
      rw [Nat.add_zero] at hd0
      have hcw := fun j => HBLr.out.cell (p := ⟨b, o + k * 5 + j, none⟩) hb
      have hc0 := (HBLr.out.cell (p := ⟨b, o + k * 5, none⟩) hb).trans hd0
      have hc1 := (hcw 1).trans hd1
      have hc2 := (hcw 2).trans hd2
      have hc3 := (hcw 3).trans hd3
      have hc4 := (hcw 4).trans hd4
      have HX := Lib.hid hX
      have hkl : (k : Int) < (sl : Int) := by omega
      have HLT := Lib.hid hlt
      clear hd hcs hX hd0 hd1 hd2 hd3 hd4 hcw hlt hk hb
      by_cases h20 : k = 20
      · have h20' : ((k : Int) == 20) = true := by simp [h20]
        clear h20
        go_wp2_with fail
        obtain ⟨V, hV⟩ : ∃ V, (wr.alloc (.cells #[.int .i64 d.at_, .int .i64 d.byte_, .int .u64 (d.h.gen : Int), .int .i64 d.h.at_, .int .u8 (d.turned : Int)] 71)) = V := ⟨_, rfl⟩
        have hbe : Below wr.heap.size wr V := by rw [← hV]; exact (by repeat (first | (with_reducible exact Below.refl _ _) | (with_reducible exact Below.refl _ _) | (with_reducible refine Below.setCell ?_ (by first | omega | (simp; done) | (simp; omega)) _) | (with_reducible refine Below.alloc ?_ (by first | omega | (simp; done) | (simp; omega)) _) | (with_reducible refine Below.drew ?_) | (with_reducible refine below_drewN ?_ _)))
        have HBXv := Lib.hid (HBXr.out.ext hbe)
        have HOv := Lib.hid (ownsRow_ext HOr.out hbe)
        have HBLv := Lib.hid (HBLr.out.trans (hbe.mono HBLr.out.size))
        have hga : FileAt V ra n rc la ll lc { F with firm := B } := by
          obtain ⟨_, _, e, hb⟩ := Dav.own_bytes HOv.out (by omega)
          cases e
          have h := HF0.out.ext HBLv.out
          exact ⟨hb, h.loose, h.fuse, h.fault⟩
        obtain ⟨g0, a0, p0, f0, hval⟩ : ∃ g0 a0 p0 f0, findOf (FileD.said { F with firm := B }) = .tuple #[.agg #[.int .u64 g0, .int .i64 a0], .int .i64 p0, .bool f0] := ⟨_, _, _, _, rfl⟩
        have hA := Try_Find { F with firm := B } ra la n rc ll lc V _ hga.s (fun b h => h)
        rw [hval] at hA
        have HVAL := Lib.hid hval
        have HGA := Lib.hid hga
        rw [hV]
        clear hV hbe hga hval q1 m1 l1
        refine hA.mono ?_; rintro e w5 ⟨rfl, hb5⟩
        clear hA
        have HBX5 := Lib.hid (HBXv.out.ext hb5)
        have HGA5 := Lib.hid (HGA.out.ext hb5)
        have HBL5 := Lib.hid (HBLv.out.trans (hb5.mono HBLv.out.size))
        have q1 := HBX5.out.cells
        have l1 := HBX5.out.lt
        clear hb5 HBXv HOv HBLv HGA
        go_wp2_with fail
        obtain ⟨V6, hV6⟩ : ∃ V6, w5.alloc (.cells #[.int .u64 g0, .int .i64 a0] 56) = V6 := ⟨_, rfl⟩
        have hb6 : Below w5.heap.size w5 V6 := by rw [← hV6]; exact (by repeat (first | (with_reducible exact Below.refl _ _) | (with_reducible exact Below.refl _ _) | (with_reducible refine Below.setCell ?_ (by first | omega | (simp; done) | (simp; omega)) _) | (with_reducible refine Below.alloc ?_ (by first | omega | (simp; done) | (simp; omega)) _) | (with_reducible refine Below.drew ?_) | (with_reducible refine below_drewN ?_ _)))
        have HH6 := Lib.hid (show Blk V6 w5.heap.size [.int .u64 g0, .int .i64 a0] 56 by rw [← hV6]; exact Blk.new _ _ _)
        rw [hV6]
        clear q1 l1
        refine (Try_Right { F with firm := B } ra la n rc ll lc V6 (HGA5.out.ext hb6)).mono ?_; rintro e w7 ⟨rfl, hb7⟩
        have hb := hb6.trans (hb7.mono hb6.size)
        have HBX7 := Lib.hid (HBX5.out.ext hb)
        have HGA7 := Lib.hid (HGA5.out.ext hb)
        have HBL7 := Lib.hid (HBL5.out.trans (hb.mono HBL5.out.size))
        have HH7 := Lib.hid (HH6.out.ext hb7)
        have q1 := HBX7.out.cells
        have l1 := HBX7.out.lt
        have q2 := HH7.out.cells
        have l2 := HH7.out.lt
        clear hb hb6 hb7 hV6 HBX5 HGA5 HBL5 HH6
        cases hr : FileD.right { F with firm := B } with
        | false =>
          have hv := HVAL.out
          rw [show FileD.said { F with firm := B } = [] by unfold FileD.said; rw [if_neg (by rw [hr]; decide)], find_none rfl] at hv
          simp only [Value.tuple.injEq, Value.agg.injEq, Value.int.injEq, Value.bool.injEq, Array.mk.injEq, List.cons.injEq, and_true, true_and] at hv
          obtain ⟨⟨rfl, rfl⟩, rfl, rfl⟩ := hv
          have hq := Try_eqHead 0 0
          clear hr
          go_wp2
          go_ret
          exact ⟨rfl, HBL7.out⟩
        | true =>
          have hv := HVAL.out
          rw [show FileD.said { F with firm := B } = FileD.all { F with firm := B } by unfold FileD.said; rw [if_pos hr]] at hv
          have hB := Try_refFind { F with firm := B } ra la n rc ll lc w7 HGA7.out (FileD.right_spec.1 hr).2.2.2.2
          rw [hv] at hB
          have HB := Lib.hid hB
          clear hr hv hB
          go_wp2_with fail
          refine HB.out.mono ?_; rintro e w8 ⟨rfl, hb8⟩
          have HBL8 := Lib.hid (HBL7.out.trans (hb8.mono HBL7.out.size))
          have HH8 := Lib.hid (HH7.out.ext hb8)
          clear q1 l1 q2 l2 hb8
          have q2 := HH8.out.cells
          have l2 := HH8.out.lt
          have hq := Try_eqHead g0 a0
          have hbz : Below w.heap.size w (w8.alloc (.cells #[.int .u64 g0, .int .i64 a0] 56)) := HBL8.out.alloc HBL8.out.size _
          have HBZ := Lib.hid hbz
          clear hbz
          go_wp2
          go_ret
          exact ⟨rfl, HBZ.out⟩
      · have h20' : ((k : Int) == 20) = false := by simp; omega
        clear h20
        by_cases h64 : n < 64
        · have h64' : (n : Int) < 64 := by omega
          clear h64
          go_wp2_with fail
          obtain ⟨V, hV⟩ : ∃ V, (wr.alloc (.cells #[.int .i64 d.at_, .int .i64 d.byte_, .int .u64 (d.h.gen : Int), .int .i64 d.h.at_, .int .u8 (d.turned : Int)] 71)) = V := ⟨_, rfl⟩
          have hbe : Below wr.heap.size wr V := by rw [← hV]; exact (by repeat (first | (with_reducible exact Below.refl _ _) | (with_reducible exact Below.refl _ _) | (with_reducible refine Below.setCell ?_ (by first | omega | (simp; done) | (simp; omega)) _) | (with_reducible refine Below.alloc ?_ (by first | omega | (simp; done) | (simp; omega)) _) | (with_reducible refine Below.drew ?_) | (with_reducible refine below_drewN ?_ _)))
          have HBXv := Lib.hid (HBXr.out.ext hbe)
          have HOv := Lib.hid (ownsRow_ext HOr.out hbe)
          have HBLv := Lib.hid (HBLr.out.trans (hbe.mono HBLr.out.size))
          have hga : FileAt V ra n rc la ll lc { F with firm := B } := by
            obtain ⟨_, _, e, hb⟩ := Dav.own_bytes HOv.out (by omega)
            cases e
            have h := HF0.out.ext HBLv.out
            exact ⟨hb, h.loose, h.fuse, h.fault⟩
          obtain ⟨g0, a0, p0, f0, hval⟩ : ∃ g0 a0 p0 f0, findOf (FileD.said { F with firm := B }) = .tuple #[.agg #[.int .u64 g0, .int .i64 a0], .int .i64 p0, .bool f0] := ⟨_, _, _, _, rfl⟩
          have hA := Try_Find { F with firm := B } ra la n rc ll lc V _ hga.s (fun b h => h)
          rw [hval] at hA
          have HVAL := Lib.hid hval
          have HGA := Lib.hid hga
          rw [hV]
          clear hV hbe hga hval q1 m1 l1
          refine hA.mono ?_; rintro e w5 ⟨rfl, hb5⟩
          clear hA
          have HBX5 := Lib.hid (HBXv.out.ext hb5)
          have HGA5 := Lib.hid (HGA.out.ext hb5)
          have HBL5 := Lib.hid (HBLv.out.trans (hb5.mono HBLv.out.size))
          have q1 := HBX5.out.cells
          have l1 := HBX5.out.lt
          clear hb5 HBXv HOv HBLv HGA
          go_wp2_with fail
          obtain ⟨V6, hV6⟩ : ∃ V6, w5.alloc (.cells #[.int .u64 g0, .int .i64 a0] 56) = V6 := ⟨_, rfl⟩
          have hb6 : Below w5.heap.size w5 V6 := by rw [← hV6]; exact (by repeat (first | (with_reducible exact Below.refl _ _) | (with_reducible exact Below.refl _ _) | (with_reducible refine Below.setCell ?_ (by first | omega | (simp; done) | (simp; omega)) _) | (with_reducible refine Below.alloc ?_ (by first | omega | (simp; done) | (simp; omega)) _) | (with_reducible refine Below.drew ?_) | (with_reducible refine below_drewN ?_ _)))
          have HH6 := Lib.hid (show Blk V6 w5.heap.size [.int .u64 g0, .int .i64 a0] 56 by rw [← hV6]; exact Blk.new _ _ _)
          rw [hV6]
          clear q1 l1
          refine (Try_Right { F with firm := B } ra la n rc ll lc V6 (HGA5.out.ext hb6)).mono ?_; rintro e w7 ⟨rfl, hb7⟩
          have hb := hb6.trans (hb7.mono hb6.size)
          have HBX7 := Lib.hid (HBX5.out.ext hb)
          have HGA7 := Lib.hid (HGA5.out.ext hb)
          have HBL7 := Lib.hid (HBL5.out.trans (hb.mono HBL5.out.size))
          have HH7 := Lib.hid (HH6.out.ext hb7)
          have q1 := HBX7.out.cells
          have l1 := HBX7.out.lt
          have q2 := HH7.out.cells
          have l2 := HH7.out.lt
          clear hb hb6 hb7 hV6 HBX5 HGA5 HBL5 HH6
          cases hr : FileD.right { F with firm := B } with
          | false =>
            have hv := HVAL.out
            rw [show FileD.said { F with firm := B } = [] by unfold FileD.said; rw [if_neg (by rw [hr]; decide)], find_none rfl] at hv
            simp only [Value.tuple.injEq, Value.agg.injEq, Value.int.injEq, Value.bool.injEq, Array.mk.injEq, List.cons.injEq, and_true, true_and] at hv
            obtain ⟨⟨rfl, rfl⟩, rfl, rfl⟩ := hv
            have hq := Try_eqHead 0 0
            clear hr
            go_wp2
            go_ret
            exact ⟨rfl, HBL7.out⟩
          | true =>
            have hv := HVAL.out
            rw [show FileD.said { F with firm := B } = FileD.all { F with firm := B } by unfold FileD.said; rw [if_pos hr]] at hv
            have hB := Try_refFind { F with firm := B } ra la n rc ll lc w7 HGA7.out (FileD.right_spec.1 hr).2.2.2.2
            rw [hv] at hB
            have HB := Lib.hid hB
            clear hr hv hB
            go_wp2_with fail
            refine HB.out.mono ?_; rintro e w8 ⟨rfl, hb8⟩
            have HBL8 := Lib.hid (HBL7.out.trans (hb8.mono HBL7.out.size))
            have HH8 := Lib.hid (HH7.out.ext hb8)
            clear q1 l1 q2 l2 hb8
            have q2 := HH8.out.cells
            have l2 := HH8.out.lt
            have hq := Try_eqHead g0 a0
            have hbz : Below w.heap.size w (w8.alloc (.cells #[.int .u64 g0, .int .i64 a0] 56)) := HBL8.out.alloc HBL8.out.size _
            have HBZ := Lib.hid hbz
            clear hbz
            go_wp2
            go_ret
            exact ⟨rfl, HBZ.out⟩
        · have h64' : ¬ (n : Int) < 64 := by omega
          clear h64
          go_wp2_with fail
          obtain ⟨WS, hWS⟩ : ∃ WS, wr.alloc (.cells #[.int .i64 d.at_, .int .i64 d.byte_, .int .u64 (d.h.gen : Int), .int .i64 d.h.at_, .int .u8 (d.turned : Int)] 71) = WS := ⟨_, rfl⟩
          have hbS : Below wr.heap.size wr WS := by rw [← hWS]; exact (by repeat (first | (with_reducible exact Below.refl _ _) | (with_reducible exact Below.refl _ _) | (with_reducible refine Below.setCell ?_ (by first | omega | (simp; done) | (simp; omega)) _) | (with_reducible refine Below.alloc ?_ (by first | omega | (simp; done) | (simp; omega)) _) | (with_reducible refine Below.drew ?_) | (with_reducible refine below_drewN ?_ _)))
          have hSp : Blk WS wr.heap.size d.cells 71 := by rw [← hWS]; exact Blk.new wr d.cells _
          rw [hWS]
          refine (Try_Block d.h HX.out.h WS).mono ?_; rintro e w2b ⟨rfl, hb2⟩
          obtain ⟨bk, hbk⟩ : ∃ bk, blkOf d.h = bk := ⟨_, rfl⟩
          have hbkl : bk.length = 64 := by rw [← hbk]; exact blkOf_len _
          rw [hbk]
          have hb := hbS.trans (hb2.mono hbS.size)
          have HBX2 := Lib.hid (HBXr.out.ext hb)
          have HO2 := Lib.hid (ownsRow_ext HOr.out hb)
          have HBL2 := Lib.hid (HBLr.out.trans (hb.mono HBLr.out.size))
          have HSP2 := Lib.hid (hSp.ext hb2)
          have hsw2 := hb.size
          have hsw3 := HSP2.out.lt
          have HBK := Lib.hid hbkl
          have HBz := Lib.hid (show Blk (w2b.alloc (.cells #[.int .u8 0, .int .u8 0, .int .u8 0, .int .u8 0, .int .u8 0, .int .u8 0, .int .u8 0, .int .u8 0, .int .u8 0, .int .u8 0, .int .u8 0, .int .u8 0, .int .u8 0, .int .u8 0, .int .u8 0, .int .u8 0, .int .u8 0, .int .u8 0, .int .u8 0, .int .u8 0, .int .u8 0, .int .u8 0, .int .u8 0, .int .u8 0, .int .u8 0, .int .u8 0, .int .u8 0, .int .u8 0, .int .u8 0, .int .u8 0, .int .u8 0, .int .u8 0, .int .u8 0, .int .u8 0, .int .u8 0, .int .u8 0, .int .u8 0, .int .u8 0, .int .u8 0, .int .u8 0, .int .u8 0, .int .u8 0, .int .u8 0, .int .u8 0, .int .u8 0, .int .u8 0, .int .u8 0, .int .u8 0, .int .u8 0, .int .u8 0, .int .u8 0, .int .u8 0, .int .u8 0, .int .u8 0, .int .u8 0, .int .u8 0, .int .u8 0, .int .u8 0, .int .u8 0, .int .u8 0, .int .u8 0, .int .u8 0, .int .u8 0, .int .u8 0] 57)) w2b.heap.size (u8s (List.replicate 64 0)) 57 from Blk.new w2b _ _)
          obtain ⟨WB, hWB⟩ : ∃ WB, (w2b.alloc (.cells #[.int .u8 0, .int .u8 0, .int .u8 0, .int .u8 0, .int .u8 0, .int .u8 0, .int .u8 0, .int .u8 0, .int .u8 0, .int .u8 0, .int .u8 0, .int .u8 0, .int .u8 0, .int .u8 0, .int .u8 0, .int .u8 0, .int .u8 0, .int .u8 0, .int .u8 0, .int .u8 0, .int .u8 0, .int .u8 0, .int .u8 0, .int .u8 0, .int .u8 0, .int .u8 0, .int .u8 0, .int .u8 0, .int .u8 0, .int .u8 0, .int .u8 0, .int .u8 0, .int .u8 0, .int .u8 0, .int .u8 0, .int .u8 0, .int .u8 0, .int .u8 0, .int .u8 0, .int .u8 0, .int .u8 0, .int .u8 0, .int .u8 0, .int .u8 0, .int .u8 0, .int .u8 0, .int .u8 0, .int .u8 0, .int .u8 0, .int .u8 0, .int .u8 0, .int .u8 0, .int .u8 0, .int .u8 0, .int .u8 0, .int .u8 0, .int .u8 0, .int .u8 0, .int .u8 0, .int .u8 0, .int .u8 0, .int .u8 0, .int .u8 0, .int .u8 0] 57)).setRow w2b.heap.size (u8s bk).toArray = WB := ⟨_, rfl⟩
          have hbB : Below w2b.heap.size w2b WB := by rw [← hWB]; exact below_only ((Below.refl _ w2b).alloc (Nat.le_refl _) _) (only_row _ _ _) (by simp) (Nat.le_refl _)
          have HKB := Lib.hid (show Blk WB w2b.heap.size (u8s bk) 57 by rw [← hWB]; exact blk_row (ds := u8s bk) HBz.out)
          have HBXB := Lib.hid (HBX2.out.ext hbB)
          have HOB := Lib.hid (ownsRow_ext HO2.out hbB)
          have HBLB := Lib.hid (HBL2.out.trans (hbB.mono HBL2.out.size))
          have HSPB := Lib.hid (HSP2.out.ext hbB)
          have HWB := Lib.hid hWB
          have hsB := hbB.size
          clear hWS hbS hSp hb2 hbk hbkl hb hWB hbB HBXr HOr HBLr HBX2 HO2 HBL2 HSP2 q1 m1 l1 hc0 hc1 hc2 hc3 hc4
          go_wp2_with (first | (refine wpList_store_row rfl 57 (.tmp 7) (.tmp 42) rfl w2b.heap.size (u8s bk).toArray rfl rfl 57 (u8s (List.replicate 64 0)).toArray HBz.out (Try_size64_of HBK.out) (by simp [u8s_len, HBK.out]) (u8s_all _) ?_; rw [HWB.out]))
          have q6 : ∀ i, WB.cell? ⟨wr.heap.size, i, none⟩ = [Value.int .i64 d.at_, .int .i64 d.byte_, .int .u64 (d.h.gen : Int), .int .i64 d.h.at_, .int .u8 (d.turned : Int)][i]? := HSPB.out.cells
          have l6 := HSPB.out.lt
          have l7 := HKB.out.lt
          obtain ⟨i, hi, hi64⟩ : ∃ i : Nat, (IntKind.u64.wrap d.byte_).tmod 64 = (i : Int) ∧ i < 64 := by
            have h1 : 0 ≤ IntKind.u64.wrap d.byte_ := by rw [IntKind.wrap_u64]; omega
            refine ⟨((IntKind.u64.wrap d.byte_).tmod 64).toNat, ?_, ?_⟩
            · rw [Int.tmod_eq_emod_of_nonneg h1]; omega
            · rw [Int.tmod_eq_emod_of_nonneg h1]; omega
          obtain ⟨x, hx⟩ : ∃ x, bk[i]? = some x := ⟨_, List.getElem?_eq_getElem (by rw [HBK.out]; omega)⟩
          have cx : WB.cell? ⟨w2b.heap.size, i, none⟩ = some (.int .u8 (x.toNat : Int)) := HKB.out.cell i (u8s_get hx)
          obtain ⟨y, hy⟩ : ∃ y : UInt8, bits .xor .u8 (x.toNat : Int) (d.turned : Int) = (y.toNat : Int) := by
            have h1 := xor8_lt x.toNat_lt HX.out.turned
            refine ⟨UInt8.ofNat (x.toNat ^^^ d.turned), ?_⟩
            rw [bits_xor_u8 x.toNat_lt HX.out.turned, UInt8.toNat_ofNat', Nat.mod_eq_of_lt h1]
          have hiI : (i : Int) < 64 := by omega
          have m7 := HKB.out.marks
          clear hx
          refine' wp_region_seq [.inl _, .inl _, .inl _, .inl _, .inl _, .inl _, .inl _, .inl _, .inl _, .inl _] (by kernel_rfl) (by kernel_rfl) ?main1
          case main1 =>
            refine wpParts_det (by rfl) (fun W hE hN => ?_) ?_
            · go_simp; refine ⟨Below.refl _ _, ?_⟩; rfl
            simp only [Act.put, List.setIfInBounds_toArray, List.set_cons_zero, List.set_cons_succ]
            refine wpParts_det (by rfl) (fun W hE hN => ?_) ?_
            · have hc := fun b o h => hE.cell (p := ⟨b, o, none⟩) h
              go_simp; refine ⟨Below.refl _ _, ?_⟩; rfl
            simp only [Act.put, List.setIfInBounds_toArray, List.set_cons_zero, List.set_cons_succ]
            refine wpParts_det (by rfl) (fun W hE hN => ?_) ?_
            · go_simp; refine ⟨Below.refl _ _, ?_⟩; rfl
            simp only [Act.put, List.setIfInBounds_toArray, List.set_cons_zero, List.set_cons_succ]
            refine wpParts_det (by rfl) (fun W hE hN => ?_) ?_
            · go_simp; refine ⟨Below.refl _ _, ?_⟩; rfl
            simp only [Act.put, List.setIfInBounds_toArray, List.set_cons_zero, List.set_cons_succ]
            refine wpParts_det (by rfl) (fun W hE hN => ?_) ?_
            · go_simp; refine ⟨Below.refl _ _, ?_⟩; rfl
            simp only [Act.put, List.setIfInBounds_toArray, List.set_cons_zero, List.set_cons_succ]
            refine wpParts_det (by rfl) (fun W hE hN => ?_) ?_
            · have hc := fun b o h => hE.cell (p := ⟨b, o, none⟩) h
              go_simp; refine ⟨Below.refl _ _, ?_⟩; rfl
            simp only [Act.put, List.setIfInBounds_toArray, List.set_cons_zero, List.set_cons_succ]
            refine wpParts_det (by rfl) (fun W hE hN => ?_) ?_
            · go_simp; refine ⟨Below.refl _ _, ?_⟩; rfl
            simp only [Act.put, List.setIfInBounds_toArray, List.set_cons_zero, List.set_cons_succ]
            refine wpParts_det (by rfl) (fun W hE hN => ?_) ?_
            · have hc := fun b o h => hE.cell (p := ⟨b, o, none⟩) h
              go_simp; refine ⟨Below.refl _ _, ?_⟩; rfl
            simp only [Act.put, List.setIfInBounds_toArray, List.set_cons_zero, List.set_cons_succ]
            refine wpParts_det (by rfl) (fun W hE hN => ?_) ?_
            · go_simp; refine ⟨Below.refl _ _, ?_⟩; rfl
            simp only [Act.put, List.setIfInBounds_toArray, List.set_cons_zero, List.set_cons_succ]
            refine wpParts_det (by rfl) (fun W hE hN => ?_) ?_
            · go_simp; refine ⟨Below.refl _ _, ?_⟩; rfl
            simp only [Act.put, List.setIfInBounds_toArray, List.set_cons_zero, List.set_cons_succ]
            refine wpParts_end fun W4 hE4 hG4 => ?_
            have hcW4 := fun b o h => hE4.cell (p := ⟨b, o, none⟩) h
            have hfW4 := fun b o h => hE4.frozen (p := ⟨b, o, none⟩) h
            have HBX4 := Lib.hid (HBXB.out.ext hE4)
            have HO4 := Lib.hid (ownsRow_ext HOB.out hE4)
            have HBL4 := Lib.hid (HBLB.out.trans (hE4.mono HBLB.out.size))
            have HSP4 := Lib.hid (HSPB.out.ext hE4)
            have hkb4 := HKB.out.ext hE4
            have HKB4 := Lib.hid hkb4
            have hs4' := hE4.size
            have q7 := hkb4.cells
            have m74 := hkb4.marks
            have l74 := hkb4.lt
            have cx4 : W4.cell? ⟨w2b.heap.size, i, none⟩ = some (.int .u8 (x.toNat : Int)) := (hE4.cell (p := ⟨w2b.heap.size, i, none⟩) HKB.out.lt).trans cx
            clear hE4 hG4 hcW4 hfW4 hkb4 q6 l6 l7 cx m7 q7 HBXB HOB HBLB HSPB HKB
            go_wp2_with fail
            obtain ⟨W5, hW5⟩ : ∃ W5, W4.setCell ⟨w2b.heap.size, i, none⟩ (.int .u8 (y.toNat : Int)) = W5 := ⟨_, rfl⟩
            have o5 : Only w2b.heap.size W4 W5 := by rw [← hW5]; exact (Only.refl _ _).set _ _
            obtain ⟨bb, hbb⟩ : ∃ bb, bk.set i y = bb := ⟨_, rfl⟩
            have hbbl : bb.length = 64 := by rw [← hbb, List.length_set]; exact HBK.out
            have HK5 := Lib.hid (show Blk W5 w2b.heap.size (u8s bb) 57 by rw [← hW5, ← hbb, ← u8s_setB]; exact HKB4.out.set i _)
            have HBX5 := Lib.hid (HBX4.out.only o5 (by have := HBX4.out.lt; have := HBLr0.out; omega))
            have HO5 := Lib.hid (show W5.ownsRow w1.heap.size 5 1 (.slice ra n rc) n (u8s B) by rw [← hW5]; exact ownsRow_set_other HO4.out HKB4.out (by decide))
            have HBL5 := Lib.hid (below_only HBL4.out o5 HBL4.out.size (by have := HBLr0.out; omega))
            have HSP5 := Lib.hid (HSP4.out.only o5 (by omega))
            have hs5 := o5.size
            have HBBL := Lib.hid hbbl
            first | rw [hW5] | rw [show _ = W5 from hW5]
            clear hW5 o5 hbb hbbl HBX4 HO4 HBL4 HSP4 HKB4 m74 l74 cx4
            have q1 := HBX5.out.cells
            have l1 := HBX5.out.lt
            have q6 : ∀ i, W5.cell? ⟨wr.heap.size, i, none⟩ = [Value.int .i64 d.at_, .int .i64 d.byte_, .int .u64 (d.h.gen : Int), .int .i64 d.h.at_, .int .u8 (d.turned : Int)][i]? := HSP5.out.cells
            have l6 := HSP5.out.lt
            obtain ⟨m, hm⟩ : ∃ m, n / 64 = m := ⟨_, rfl⟩
            have hm1 : 1 ≤ m := by omega
            have g1 : (n : Int).tdiv 64 = (m : Int) := by rw [Int.tdiv_eq_ediv_of_nonneg (by omega)]; omega
            have g2 : IntKind.u64.wrap (m : Int) = (m : Int) := by rw [IntKind.wrap_u64]; omega
            have g1' : IntKind.i64.wrap (m : Int) = (m : Int) := IntWalk.i64_in _ (by omega)
            have g3 : ¬ m = 0 := by omega
            obtain ⟨r, hr, hrm⟩ : ∃ r : Nat, (IntKind.u64.wrap d.at_).tmod (m : Int) = (r : Int) ∧ r < m := by
              have h1 : 0 ≤ IntKind.u64.wrap d.at_ := by rw [IntKind.wrap_u64]; omega
              have h2 : 0 ≤ (IntKind.u64.wrap d.at_) % (m : Int) := Int.emod_nonneg _ (by omega)
              have h3 : (IntKind.u64.wrap d.at_) % (m : Int) < (m : Int) := Int.emod_lt_of_pos _ (by omega)
              refine ⟨((IntKind.u64.wrap d.at_) % (m : Int)).toNat, ?_, ?_⟩
              · rw [Int.tmod_eq_emod_of_nonneg h1]; omega
              · omega
            have g4 : IntKind.i64.wrap (r : Int) = (r : Int) := IntWalk.i64_in _ (by omega)
            obtain ⟨q, hq⟩ : ∃ q, r * 64 = q := ⟨_, rfl⟩
            have hqn : q + 64 ≤ n := by omega
            have g5 : IntKind.i64.wrap ((r : Int) * 64) = (q : Int) := by rw [IntWalk.i64_in _ (by omega)]; omega
            have g6 : (q : Int) ≤ (n : Int) := by omega
            have g6' : q ≤ n := by omega
            have g7 : (n : Int) ≤ (rc : Int) := by omega
            have g8 : ¬ rc = q := by omega
            have hRA : ∃ g, ra = some ⟨g, 0, none⟩ := by
              rcases HO5.out.2 with ⟨h, h0⟩ | ⟨g, cap, cur, h, _⟩
              · omega
              · cases h; exact ⟨g, rfl⟩
            obtain ⟨g, rfl⟩ := hRA
            have HQ := Lib.hid hqn
            clear hm hm1 hrm hq hqn
            refine' wp_region_seq [.inl _, .inl _, .inl _, .inl _, .inl _, .inl _, .inl _, .inl _, .inl _, .inl _, .inl _, .inl _, .inl _, .inl _, .inl _] (by kernel_rfl) (by kernel_rfl) ?main2
            case main2 =>
              refine wpParts_det (by rfl) (fun W hE hN => ?_) ?_
              · go_simp; refine ⟨Below.refl _ _, ?_⟩; rfl
              simp only [Act.put, List.setIfInBounds_toArray, List.set_cons_zero, List.set_cons_succ]
              refine wpParts_det (by rfl) (fun W hE hN => ?_) ?_
              · have hc := fun b o h => hE.cell (p := ⟨b, o, none⟩) h
                go_simp; refine ⟨Below.refl _ _, ?_⟩; rfl
              simp only [Act.put, List.setIfInBounds_toArray, List.set_cons_zero, List.set_cons_succ]
              refine wpParts_det (by rfl) (fun W hE hN => ?_) ?_
              · go_simp; refine ⟨Below.refl _ _, ?_⟩; rfl
              simp only [Act.put, List.setIfInBounds_toArray, List.set_cons_zero, List.set_cons_succ]
              refine wpParts_det (by rfl) (fun W hE hN => ?_) ?_
              · have hc := fun b o h => hE.cell (p := ⟨b, o, none⟩) h
                go_simp; refine ⟨Below.refl _ _, ?_⟩; rfl
              simp only [Act.put, List.setIfInBounds_toArray, List.set_cons_zero, List.set_cons_succ]
              refine wpParts_det (by rfl) (fun W hE hN => ?_) ?_
              · go_simp; refine ⟨Below.refl _ _, ?_⟩; rfl
              simp only [Act.put, List.setIfInBounds_toArray, List.set_cons_zero, List.set_cons_succ]
              refine wpParts_det (by rfl) (fun W hE hN => ?_) ?_
              · go_simp; refine ⟨Below.refl _ _, ?_⟩; rfl
              simp only [Act.put, List.setIfInBounds_toArray, List.set_cons_zero, List.set_cons_succ]
              refine wpParts_det (by rfl) (fun W hE hN => ?_) ?_
              · have hc := fun b o h => hE.cell (p := ⟨b, o, none⟩) h
                go_simp; refine ⟨Below.refl _ _, ?_⟩; rfl
              simp only [Act.put, List.setIfInBounds_toArray, List.set_cons_zero, List.set_cons_succ]
              refine wpParts_det (by rfl) (fun W hE hN => ?_) ?_
              · go_simp; refine ⟨Below.refl _ _, ?_⟩; rfl
              simp only [Act.put, List.setIfInBounds_toArray, List.set_cons_zero, List.set_cons_succ]
              refine wpParts_det (by rfl) (fun W hE hN => ?_) ?_
              · go_simp; refine ⟨Below.refl _ _, ?_⟩; rfl
              simp only [Act.put, List.setIfInBounds_toArray, List.set_cons_zero, List.set_cons_succ]
              refine wpParts_det (by rfl) (fun W hE hN => ?_) ?_
              · go_simp; refine ⟨Below.refl _ _, ?_⟩; rfl
              simp only [Act.put, List.setIfInBounds_toArray, List.set_cons_zero, List.set_cons_succ]
              refine wpParts_det (by rfl) (fun W hE hN => ?_) ?_
              · go_simp; refine ⟨Below.refl _ _, ?_⟩; rfl
              simp only [Act.put, List.setIfInBounds_toArray, List.set_cons_zero, List.set_cons_succ]
              refine wpParts_det (by rfl) (fun W hE hN => ?_) ?_
              · go_simp; refine ⟨Below.refl _ _, ?_⟩; rfl
              simp only [Act.put, List.setIfInBounds_toArray, List.set_cons_zero, List.set_cons_succ]
              refine wpParts_det (by rfl) (fun W hE hN => ?_) ?_
              · go_simp; refine ⟨Below.refl _ _, ?_⟩; rfl
              simp only [Act.put, List.setIfInBounds_toArray, List.set_cons_zero, List.set_cons_succ]
              refine wpParts_det (by rfl) (fun W hE hN => ?_) ?_
              · go_simp; refine ⟨Below.refl _ _, ?_⟩; rfl
              simp only [Act.put, List.setIfInBounds_toArray, List.set_cons_zero, List.set_cons_succ]
              refine wpParts_det (by rfl) (fun W hE hN => ?_) ?_
              · go_simp; refine ⟨Below.refl _ _, ?_⟩; rfl
              simp only [Act.put, List.setIfInBounds_toArray, List.set_cons_zero, List.set_cons_succ]
              refine wpParts_end fun W7 hE7 hG7 => ?_
              have hcW7 := fun b o h => hE7.cell (p := ⟨b, o, none⟩) h
              have hfW7 := fun b o h => hE7.frozen (p := ⟨b, o, none⟩) h
              have hown7 := ownsRow_ext HO5.out hE7
              have hbx7 := HBX5.out.ext hE7
              have hbl7 := HBL5.out.trans (hE7.mono HBL5.out.size)
              have hk7 := HK5.out.ext hE7
              have hs7 := hE7.size
              clear hE7 hG7 hcW7 hfW7 q1 l1 q6 l6 HO5 HBX5 HBL5 HK5 HSP5
              rcases hown7.2 with ⟨h, _⟩ | ⟨g', cap, cur, hv, hgb, hgc, hnc, hcm, hcs, htk⟩
              · cases h
              cases hv
              have hgl : g < W7.heap.size := (Array.getElem?_eq_some_iff.1 hgc).1
              have HOVL := Lib.hid (overAt_len (l := B) (b := bb) (o := q) (by rw [HBBL.out, HBl.out]; exact HQ.out))
              have hcur : cur.toList.take B.length = u8s B := by rw [HBl.out]; rw [Nat.mul_one] at htk; exact htk
              have hsp := splice_u8s (o := q) (b := bb) hcur (by rw [HBl.out]; simp [hcs]; omega) (by rw [HBBL.out, HBl.out]; exact HQ.out)
              have HSPL := Lib.hid hsp
              have hcl : cur.toList.length = rc := by simpa using hcs
              have HCL := Lib.hid hcl
              have hsl2 := length_splice cur.toList q (u8s bb) (by rw [u8s_len, HBBL.out, hcl]; have := HQ.out; omega)
              have HSL2 := Lib.hid hsl2
              have HGC := Lib.hid (show W7.heap[g]? = some (.cells cur.toList.toArray 5 (0, 0)) from hgc)
              have HCB := Lib.hid (cells_of_blk hk7)
              have HHN := Lib.hid (show (u8s bb).length = Nat.min 64 (n - q) by rw [u8s_len, HBBL.out]; have := HQ.out; show 64 = min 64 (n - q); omega)
              have HHP := Lib.hid (show 0 < (u8s bb).length → (some (⟨g, q, none⟩ : Addr)) = some ⟨g, q, none⟩ ∧ ∃ ad, (some (⟨w2b.heap.size, 0, none⟩ : Addr)) = some ad ∧ ∀ j v, (u8s bb)[j]? = some v → W7.cell? (ad.add j) = some v from fun _ => ⟨rfl, _, rfl, HCB.out.from_⟩)
              have HHF := Lib.hid (show q + (u8s bb).length ≤ cur.toList.length by rw [u8s_len, HBBL.out, hcl]; have := HQ.out; omega)
              have HBX7 := Lib.hid hbx7
              have HBL7 := Lib.hid hbl7
              have HGB := Lib.hid hgb
              have HNC := Lib.hid (And.intro hnc hcm)
              clear hown7 hbx7 hbl7 hk7 hgb hgc hnc hcm hcs htk hcur hsp hcl hsl2
              refine wpList_copy_splice rfl (.tmp 66) (.tmp 67) 22 22 rfl 5 Try.underlying22 (by kernel_rfl) (some ⟨g, q, none⟩) (some ⟨w2b.heap.size, 0, none⟩) (n - q) (rc - q) 64 64 rfl rfl g q cur.toList 5 HGC.out (u8s bb) HHN.out HHP.out HHF.out (u8s_one bb) w1.heap.size W7 (Below.refl _ _) HGB.out ?_
              intro w' hcell hb'
              have HB' := Lib.hid hb'
              clear hb'
              go_wp2_with fail
              go_roundw
              case rel =>
                refine ⟨k + 1, overAt B q bb, HLT.out, by go_num, HOVL.out.trans HBl.out, HBX7.out.below HB'.out hs1, ?_, HBL7.out.trans (HB'.out.mono (by omega)), by have := HB'.out.size; have := HSr.out; omega⟩
                refine ⟨by rw [u8s_len, HOVL.out, HBl.out]; omega, .inr ⟨g, _, _, rfl, HGB.out, hcell.out, HNC.out.1, HNC.out.2, ?_, ?_⟩⟩
                · simp only [List.size_toArray]; rw [HSL2.out, HCL.out]; omega
                · have h := HSPL.out; rw [HBl.out] at h; rw [Nat.mul_one]; exact h
              case measure => have := HLT.out; simp [intOf]; omega
    · have hkl : ¬ (k : Int) < (sl : Int) := by omega
      clear hlt hk
      go_wp2_with fail
      obtain ⟨V, hV⟩ : ∃ V, wr = V := ⟨_, rfl⟩
      have hbe : Below wr.heap.size wr V := by rw [← hV]; exact (by repeat (first | (with_reducible exact Below.refl _ _) | (with_reducible exact Below.refl _ _) | (with_reducible refine Below.setCell ?_ (by first | omega | (simp; done) | (simp; omega)) _) | (with_reducible refine Below.alloc ?_ (by first | omega | (simp; done) | (simp; omega)) _) | (with_reducible refine Below.drew ?_) | (with_reducible refine below_drewN ?_ _)))
      have HBXv := Lib.hid (HBXr.out.ext hbe)
      have HOv := Lib.hid (ownsRow_ext HOr.out hbe)
      have HBLv := Lib.hid (HBLr.out.trans (hbe.mono HBLr.out.size))
      have hga : FileAt V ra n rc la ll lc { F with firm := B } := by
        obtain ⟨_, _, e, hb⟩ := Dav.own_bytes HOv.out (by omega)
        cases e
        have h := HF0.out.ext HBLv.out
        exact ⟨hb, h.loose, h.fuse, h.fault⟩
      obtain ⟨g0, a0, p0, f0, hval⟩ : ∃ g0 a0 p0 f0, findOf (FileD.said { F with firm := B }) = .tuple #[.agg #[.int .u64 g0, .int .i64 a0], .int .i64 p0, .bool f0] := ⟨_, _, _, _, rfl⟩
      have hA := Try_Find { F with firm := B } ra la n rc ll lc V _ hga.s (fun b h => h)
      rw [hval] at hA
      have HVAL := Lib.hid hval
      have HGA := Lib.hid hga
      rw [hV]
      clear hV hbe hga hval q1 m1 l1
      refine hA.mono ?_; rintro e w5 ⟨rfl, hb5⟩
      clear hA
      have HBX5 := Lib.hid (HBXv.out.ext hb5)
      have HGA5 := Lib.hid (HGA.out.ext hb5)
      have HBL5 := Lib.hid (HBLv.out.trans (hb5.mono HBLv.out.size))
      have q1 := HBX5.out.cells
      have l1 := HBX5.out.lt
      clear hb5 HBXv HOv HBLv HGA
      go_wp2_with fail
      obtain ⟨V6, hV6⟩ : ∃ V6, w5.alloc (.cells #[.int .u64 g0, .int .i64 a0] 56) = V6 := ⟨_, rfl⟩
      have hb6 : Below w5.heap.size w5 V6 := by rw [← hV6]; exact (by repeat (first | (with_reducible exact Below.refl _ _) | (with_reducible exact Below.refl _ _) | (with_reducible refine Below.setCell ?_ (by first | omega | (simp; done) | (simp; omega)) _) | (with_reducible refine Below.alloc ?_ (by first | omega | (simp; done) | (simp; omega)) _) | (with_reducible refine Below.drew ?_) | (with_reducible refine below_drewN ?_ _)))
      have HH6 := Lib.hid (show Blk V6 w5.heap.size [.int .u64 g0, .int .i64 a0] 56 by rw [← hV6]; exact Blk.new _ _ _)
      rw [hV6]
      clear q1 l1
      refine (Try_Right { F with firm := B } ra la n rc ll lc V6 (HGA5.out.ext hb6)).mono ?_; rintro e w7 ⟨rfl, hb7⟩
      have hb := hb6.trans (hb7.mono hb6.size)
      have HBX7 := Lib.hid (HBX5.out.ext hb)
      have HGA7 := Lib.hid (HGA5.out.ext hb)
      have HBL7 := Lib.hid (HBL5.out.trans (hb.mono HBL5.out.size))
      have HH7 := Lib.hid (HH6.out.ext hb7)
      have q1 := HBX7.out.cells
      have l1 := HBX7.out.lt
      have q2 := HH7.out.cells
      have l2 := HH7.out.lt
      clear hb hb6 hb7 hV6 HBX5 HGA5 HBL5 HH6
      cases hr : FileD.right { F with firm := B } with
      | false =>
        have hv := HVAL.out
        rw [show FileD.said { F with firm := B } = [] by unfold FileD.said; rw [if_neg (by rw [hr]; decide)], find_none rfl] at hv
        simp only [Value.tuple.injEq, Value.agg.injEq, Value.int.injEq, Value.bool.injEq, Array.mk.injEq, List.cons.injEq, and_true, true_and] at hv
        obtain ⟨⟨rfl, rfl⟩, rfl, rfl⟩ := hv
        have hq := Try_eqHead 0 0
        clear hr
        go_wp2
        go_ret
        exact ⟨rfl, HBL7.out⟩
      | true =>
        have hv := HVAL.out
        rw [show FileD.said { F with firm := B } = FileD.all { F with firm := B } by unfold FileD.said; rw [if_pos hr]] at hv
        have hB := Try_refFind { F with firm := B } ra la n rc ll lc w7 HGA7.out (FileD.right_spec.1 hr).2.2.2.2
        rw [hv] at hB
        have HB := Lib.hid hB
        clear hr hv hB
        go_wp2_with fail
        refine HB.out.mono ?_; rintro e w8 ⟨rfl, hb8⟩
        have HBL8 := Lib.hid (HBL7.out.trans (hb8.mono HBL7.out.size))
        have HH8 := Lib.hid (HH7.out.ext hb8)
        clear q1 l1 q2 l2 hb8
        have q2 := HH8.out.cells
        have l2 := HH8.out.lt
        have hq := Try_eqHead g0 a0
        have hbz : Below w.heap.size w (w8.alloc (.cells #[.int .u64 g0, .int .i64 a0] 56)) := HBL8.out.alloc HBL8.out.size _
        have HBZ := Lib.hid hbz
        clear hbz
        go_wp2
        go_ret
        exact ⟨rfl, HBZ.out⟩
end Go.Proofs.Ytmjmjjakhmeogaa
