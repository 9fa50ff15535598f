/-
  Layer 12: the reference's Find, walked.
-/
import Derived.Test.YtmjmjjakhmeogaaHdM
namespace Go.Dav
set_option linter.unusedVariables false
set_option linter.unusedSimpArgs false
open Go Go.RowKit
/-- What stands behind the first k blocks. -/
def lastG (l : List UInt8) (k : Nat) : Nat := match lastIs l k with | some i => genOf (blockAt l i) | none => 0
def lastA (l : List UInt8) (k : Nat) : Nat := match lastIs l k with | some i => atOf (blockAt l i) | none => 0
def lastP (l : List UInt8) (k : Nat) : Nat := match lastIs l k with | some i => i * 64 | none => 0
def lastF (l : List UInt8) (k : Nat) : Bool := (lastIs l k).isSome
theorem findOf_last (l : List UInt8) : findOf l = .tuple #[.agg #[.int .u64 (lastG l (l.length / 64) : Int), .int .i64 (lastA l (l.length / 64) : Int)], .int .i64 (lastP l (l.length / 64) : Int), .bool (lastF l (l.length / 64))] := rfl
theorem lastIs_yes {l : List UInt8} {k : Nat} (h : isOf (blockAt l k) = true) : lastIs l (k + 1) = some k := by rw [lastIs, if_pos h]
theorem lastIs_no {l : List UInt8} {k : Nat} (h : isOf (blockAt l k) = false) : lastIs l (k + 1) = lastIs l k := by rw [lastIs, if_neg (by rw [h]; decide)]
theorem last_yes {l : List UInt8} {k : Nat} (h : isOf (blockAt l k) = true) : lastG l (k + 1) = sayG (blockAt l k) ∧ lastA l (k + 1) = sayA (blockAt l k) ∧ lastP l (k + 1) = k * 64 ∧ lastF l (k + 1) = true := by
  unfold lastG lastA lastP lastF sayG sayA
  rw [lastIs_yes h, if_pos h, if_pos h]; exact ⟨rfl, rfl, rfl, rfl⟩
theorem last_no {l : List UInt8} {k : Nat} (h : isOf (blockAt l k) = false) : lastG l (k + 1) = lastG l k ∧ lastA l (k + 1) = lastA l k ∧ lastP l (k + 1) = lastP l k ∧ lastF l (k + 1) = lastF l k := by
  unfold lastG lastA lastP lastF
  rw [lastIs_no h]; exact ⟨rfl, rfl, rfl, rfl⟩
end Go.Dav
namespace Go.Proofs.Ytmjmjjakhmeogaa
set_option linter.unusedVariables false
set_option linter.unusedSimpArgs false
open Go.RowKit Go.Dav
attribute [local go_sem] Gives ite_val ite_val_true

set_option maxRecDepth 100000 in
set_option maxHeartbeats 8000000 in
theorem Try_refFind (F : FileD) (fa la : Option Addr) (fl fc ll lc : Nat) (w : World) (hF : FileAt w fa fl fc la ll lc F) (hm : F.many ≤ 524288) :
    Calls Try.prog 48 #[.agg #[.slice fa fl fc, .slice la ll lc, .int .i64 F.fuse, .int .i64 F.fault, .bool F.off]] w fun e w' => e = .returned (findOf F.all) ∧ Below w.heap.size w w' := by
  have hW : Below w.heap.size w ((w.alloc (.cells [.slice fa fl fc, .slice la ll lc, .int .i64 F.fuse, .int .i64 F.fault, .bool F.off].toArray 25)).alloc (.cells #[.int .u64 0, .int .i64 0] 56)) := (by repeat (first | (with_reducible exact Below.refl _ _) | (with_reducible exact Below.refl _ _) | (with_reducible refine Below.setCell ?_ (by first | omega | (simp; done) | (simp; omega)) _) | (with_reducible refine Below.alloc ?_ (by first | omega | (simp; done) | (simp; omega)) _) | (with_reducible refine Below.drew ?_) | (with_reducible refine below_drewN ?_ _)))
  have HF := Lib.hid (hF.ext hW)
  have hb2 := Blk.new' (w.alloc (.cells [.slice fa fl fc, .slice la ll lc, .int .i64 F.fuse, .int .i64 F.fault, .bool F.off].toArray 25)) [.int .u64 0, .int .i64 0] 56 (p := w.heap.size + 1) (by simp)
  have HB2 := Lib.hid hb2
  have HM := Lib.hid hm
  have HW := Lib.hid hW
  clear hF hW hb2 hm
  go_enter Try.func48, Try.ntmps48
  go_wp2_with fail
  refine (Try_All F fa la fl fc ll lc _ HF.out (by have := HM.out; omega)).mono ?_; rintro e w1 ⟨ra, rl, rc, rfl, hR, hb1⟩
  have HB21 := Lib.hid (HB2.out.ext hb1)
  have HR1 := Lib.hid hR.at_.s
  have BEL1 := Lib.hid (HW.out.trans (hb1.mono HW.out.size))
  have hs1 := hb1.size
  simp only [World.size_alloc] at hs1
  have hlen := hR.at_.hlen
  have hal := F.all_length
  obtain ⟨sd, hsd⟩ : ∃ sd, F.all = sd := ⟨_, rfl⟩
  rw [hsd] at HR1 hlen hal
  have HSD := Lib.hid hsd
  have HLN := Lib.hid hlen
  have hrl : rl ≤ 524288 := by have := HM.out; omega
  have hcap := hR.at_.hcap
  clear hR hb1 HB2 HF hal hsd hlen
  go_wp2_with fail
  have HB6 := Lib.hid (Blk.new w1 [.int .u64 0, .int .i64 0] 56)
  have HB22 := Lib.hid (HB21.out.alloc (.cells #[.int .u64 0, .int .i64 0] 56))
  have bel2 : Below w.heap.size w (w1.alloc (.cells #[.int .u64 0, .int .i64 0] 56)) := (by repeat (first | (with_reducible exact Below.refl _ _) | (with_reducible exact Below.refl _ _) | (with_reducible refine Below.setCell ?_ (by first | omega | (simp; done) | (simp; omega)) _) | (with_reducible refine Below.alloc ?_ (by first | omega | (simp; done) | (simp; omega)) _) | (with_reducible refine Below.drew ?_) | (with_reducible refine below_drewN ?_ _) | (with_reducible refine Below.trans ?_ (BEL1.out.mono (by first | omega | (simp; done) | (simp; omega))))))
  have BEL2 := Lib.hid bel2
  have HR2 := Lib.hid (HR1.out.ext ((Below.refl _ w1).alloc (Nat.le_refl _) (.cells #[.int .u64 0, .int .i64 0] 56)))
  clear bel2
  go_loopw [9, 7, 8] (fun atv pv fv wr => ∃ k : Nat, k ≤ rl / 64 ∧ atv = .int .i64 ((k * 64 : Nat) : Int) ∧ pv = .int .i64 (lastP sd k : Int) ∧ fv = .bool (lastF sd k) ∧ Blk wr w1.heap.size [.int .u64 (lastG sd k : Int), .int .i64 (lastA sd k : Int)] 56 ∧ Blk wr (w.heap.size + 1) [.int .u64 0, .int .i64 0] 56 ∧ BytesS wr (fun b => b < w1.heap.size) ra rl rc sd ∧ Below w.heap.size w wr) (fun atv _ _ _ => rl - (intOf atv).toNat)
  case atStart => exact ⟨0, Nat.zero_le _, by go_num, rfl, rfl, HB6.out, HB22.out, HR2.out, BEL2.out⟩
  case round =>
    obtain ⟨k, hk, rfl, rfl, rfl, hb6, hb2, hby, hbl⟩ := hrel
    have H6 := Lib.hid hb6
    have H2 := Lib.hid hb2
    have HBY := Lib.hid hby
    have HBL := Lib.hid hbl
    have q6 := hb6.cells
    have m6 := hb6.marks
    have l6 := hb6.lt
    obtain ⟨m, hm⟩ : ∃ m, k * 64 = m := ⟨_, rfl⟩
    rw [hm]
    have hmi : (m : Int) ≤ 524288 := by omega
    by_cases hlt : k < rl / 64
    · have k1 : (m : Int) + 64 ≤ (rl : Int) := by omega
      have kr : m + 64 ≤ rl := by omega
      have hbl0 : (blockAt sd k).length = 64 := blockAt_len (by have := HLN.out; omega)
      have hsl0 : 0 < sd.length := by have := HLN.out; omega
      obtain ⟨b0, o0, rfl⟩ : ∃ b0 o0, ra = some ⟨b0, o0, none⟩ := by
        obtain ⟨c0, hc0⟩ : ∃ c0, sd[0]? = some c0 := ⟨_, List.getElem?_eq_getElem hsl0⟩
        obtain ⟨b0, o0, h1, _⟩ := HBY.out.at_.hat 0 c0 hc0
        exact ⟨b0, o0, h1⟩
      have hcs := HBY.out.cells.part (lo := m) (hi := m + 64) (by omega) kr
      have e1 : ((u8s sd).take (m + 64)).drop m = u8s (blockAt sd k) := by
        unfold blockAt
        rw [u8s_part, hm, List.drop_take, Nat.add_sub_cancel_left]
      rw [e1] at hcs
      have HCS := Lib.hid hcs
      have HB0 := Lib.hid hbl0
      have HLT := Lib.hid hlt
      have HMM := Lib.hid hm
      have kw : IntKind.i64.wrap ((m : Int) + 64) = (m : Int) + 64 := IntWalk.i64_in _ (by omega)
      have k3 : (m : Int) ≤ (m : Int) + 64 := by omega
      have k4 : (m : Int) + 64 ≤ (rc : Int) := by omega
      have k4' : m + 64 ≤ rc := by omega
      have k5 : ¬ rc = m := by omega
      have k6 : ((m : Int) + 64 - (m : Int)).toNat = 64 := by omega
      have k8 : ∀ w c, (Instr.arrayAt 57 (.slice (some ⟨b0, o0 + m, none⟩) 64 c)).run Try.prog w = .ok (.pointer (some ⟨b0, o0 + m, none⟩)) w := fun w c => run_arrayAt (P := Try.prog) (w := w) 57 5 64 _ _ _ Try.underlying57 (Nat.le_refl _)
      clear hb6 hb2 hby hbl hbl0 hsl0 hcs e1 hlt hm hk
      go_wp2_with (first | (refine wpList_run rfl (exec_load_cells _ ⟨b0, o0 + m, none⟩ 57 (.tmp 28) rfl rfl (u8s (blockAt sd k)) _ HCS.out.from_ Try.underlying57 rfl (by rw [Try_size64, u8s_len, HB0.out])) ?_))
      refine (Try_refSays (blockAt sd k) HB0.out wr).mono ?_; rintro e W2 ⟨rfl, hb2⟩
      rw [saysOf_eq]
      have H62 := Lib.hid (H6.out.ext hb2)
      have H22 := Lib.hid (H2.out.ext hb2)
      have HBY2 := Lib.hid (HBY.out.ext hb2)
      have HBL2 := Lib.hid (HBL.out.trans (hb2.mono HBL.out.size))
      have q62 := H62.out.cells
      have m62 := H62.out.marks
      have l62 := H62.out.lt
      clear hb2 q6 m6 l6
      obtain ⟨WX, hWX⟩ : ∃ WX, W2.alloc (.cells #[.int .u64 (sayG (blockAt sd k) : Int), .int .i64 (sayA (blockAt sd k) : Int)] 56) = WX := ⟨_, rfl⟩
      have hbx2 : Below W2.heap.size W2 WX := by rw [← hWX]; exact (Below.refl _ _).alloc (Nat.le_refl _) _
      have hbx : Below w.heap.size w WX := HBL2.out.trans (hbx2.mono HBL2.out.size)
      have HBX := Lib.hid hbx
      have HWX := Lib.hid hWX
      have HBY3 := Lib.hid (HBY2.out.ext hbx2)
      have H63 := Lib.hid (H62.out.ext hbx2)
      have H23 := Lib.hid (H22.out.ext hbx2)
      have hsw := HBL2.out.size
      clear hbx hbx2 hWX
      cases hv : isOf (blockAt sd k) with
      | true =>
        have hlast := last_yes hv
        have HLS := Lib.hid hlast
        have HV := Lib.hid hv
        clear hv hlast
        have hne : w1.heap.size ≠ W2.heap.size := by omega
        go_wp2
        have ho := (((Only.refl w1.heap.size W2).set 0 (.int .u64 (sayG (blockAt sd k) : Int))).set 1 (.int .i64 (sayA (blockAt sd k) : Int))).alloc (.cells #[.int .u64 (sayG (blockAt sd k) : Int), .int .i64 (sayA (blockAt sd k) : Int)] 56)
        go_roundw
        case rel =>
          refine ⟨k + 1, by have := HLT.out; omega, by rw [← HMM.out]; go_num, by rw [HLS.out.2.2.1, HMM.out], by rw [HLS.out.2.2.2], ?_, ?_, ?_, ?_⟩
          · rw [HLS.out.1, HLS.out.2.1]; exact ((H62.out.set 0 _).set 1 _).alloc _
          · exact ((H22.out.other (by omega) _ _).other (by omega) _ _).alloc _
          · exact HBY2.out.same ho.size (fun b h hlt => ho.block b hlt (by omega))
          · exact below_only HBL2.out ho HBL2.out.size (by omega)
        case measure => have := HLT.out; have := HMM.out; simp [intOf]; omega
      | false =>
        have hlast := last_no hv
        have HLS := Lib.hid hlast
        have HV := Lib.hid hv
        clear hv hlast
        go_wp2
        rw [HWX.out]
        go_roundw
        case rel =>
          refine ⟨k + 1, by have := HLT.out; omega, by rw [← HMM.out]; go_num, by rw [HLS.out.2.2.1], by rw [HLS.out.2.2.2], ?_, H23.out, HBY3.out, HBX.out⟩
          rw [HLS.out.1, HLS.out.2.1]; exact H63.out
        case measure => have := HLT.out; have := HMM.out; simp [intOf]; omega
    · have hkE : k = rl / 64 := by omega
      have k1 : ¬ (m : Int) + 64 ≤ (rl : Int) := by omega
      have kw : IntKind.i64.wrap ((m : Int) + 64) = (m : Int) + 64 := IntWalk.i64_in _ (by omega)
      have HKE := Lib.hid (show k = sd.length / 64 by rw [HLN.out]; exact hkE)
      have q2 := H2.out.cells
      have l2 := H2.out.lt
      have m2 := H2.out.marks
      clear hb6 hb2 hby hbl hlt hk hkE hm
      go_wp2
      have c2 := ((H2.out.set 0 (.int .u64 (lastG sd k : Int))).set 1 (.int .i64 (lastA sd k : Int))).cells
      refine bodyPost_ret (v := .tuple #[.agg #[.int .u64 (lastG sd k : Int), .int .i64 (lastA sd k : Int)], .int .i64 (lastP sd k : Int), .bool (lastF sd k)]) (by simp [results, Try.results48, go_sem, c2]) rfl ⟨by rw [HSD.out, findOf_last, ← HKE.out], ?_⟩
      exact (by repeat (first | (with_reducible exact Below.refl _ _) | (with_reducible exact Below.refl _ _) | (with_reducible refine Below.setCell ?_ (by first | omega | (simp; done) | (simp; omega)) _) | (with_reducible refine Below.alloc ?_ (by first | omega | (simp; done) | (simp; omega)) _) | (with_reducible refine Below.drew ?_) | (with_reducible refine below_drewN ?_ _) | (with_reducible refine Below.trans ?_ (HBL.out.mono (by first | omega | (simp; done) | (simp; omega))))))
end Go.Proofs.Ytmjmjjakhmeogaa
