/-
  A sum laid in four bytes behind what it is of: the program's Lay, the reference's Laid, walked.
-/
import Derived.Test.YtmjmjjakhmeogaaCrcB
import Derived.Test.YtmjmjjakhmeogaaFilI
import Derived.Laws.CopyOwn
import Derived.Laws.MakeOwn
import Derived.Laws.OwnMore
namespace Go.Dav
set_option linter.unusedVariables false
set_option linter.unusedSimpArgs false
open Go Go.RowKit

/-- A sum in four bytes, the lowest first. -/
def crcFour (s : Nat) : List UInt8 := [UInt8.ofNat s, UInt8.ofNat (s / 256), UInt8.ofNat (s / 65536), UInt8.ofNat (s / 16777216)]
theorem crcFour_cells (s : Nat) : u8s (crcFour s) = [.int .u8 ((s : Int) % 256), .int .u8 ((s : Int) / 256 % 256), .int .u8 ((s : Int) / 65536 % 256), .int .u8 ((s : Int) / 16777216 % 256)] := by
  simp [u8s, crcFour]
/-- The sum of bytes. -/
def crcSum (l : List UInt8) : Nat := 4294967295 - crcOf 4294967295 l
theorem crcSum_lt (l : List UInt8) : crcSum l < 4294967296 := by unfold crcSum; omega
/-- Bytes, and their sum behind them. -/
def crcLay (l : List UInt8) : List UInt8 := l ++ crcFour (crcSum l)
end Go.Dav
namespace Go.Proofs.Ytmjmjjakhmeogaa
set_option linter.unusedVariables false
set_option linter.unusedSimpArgs false
open Go.RowKit Go.Dav
attribute [local go_sem] Gives ite_val ite_val_true

set_option maxRecDepth 8000 in
set_option maxHeartbeats 4000000 in
theorem Try_refLaid (s : Nat) (hs : s < 4294967296) (w : World) :
    Calls Try.prog 65 #[.int .u32 (s : Int)] w fun e w' => ∃ p, e = .returned (.slice (some ⟨p, 0, none⟩) 4 4) ∧ w.heap.size ≤ p ∧ Blk w' p (u8s (crcFour s)) 5 ∧ Below w.heap.size w w' := by
  have HS := Lib.hid hs
  have t1 : (s : Int).tmod 256 = (s : Int) % 256 := Int.tmod_eq_emod_of_nonneg (by omega)
  have t2 : ((s : Int) / 256 % 4294967296).tmod 256 = (s : Int) / 256 % 256 := by rw [Int.tmod_eq_emod_of_nonneg (by omega)]; omega
  have t3 : ((s : Int) / 65536 % 4294967296).tmod 256 = (s : Int) / 65536 % 256 := by rw [Int.tmod_eq_emod_of_nonneg (by omega)]; omega
  have t4 : (s : Int) / 16777216 % 4294967296 = (s : Int) / 16777216 := by omega
  clear hs
  go_enter Try.func65, Try.ntmps65
  go_wp2
  go_ret
  exact ⟨_, rfl, Nat.le_refl _, by rw [crcFour_cells]; exact Blk.new _ _ _, (by repeat (first | (with_reducible exact Below.refl _ _) | (with_reducible exact Below.refl _ _) | (with_reducible refine Below.setCell ?_ (by first | omega | (simp; done) | (simp; omega)) _) | (with_reducible refine Below.alloc ?_ (by first | omega | (simp; done) | (simp; omega)) _) | (with_reducible refine Below.drew ?_) | (with_reducible refine below_drewN ?_ _)))⟩

theorem Try_make4 (n : Nat) (hn : n ≤ 1048576) (W : World) : (Instr.makeSlice 22 (.int .i64 (n : Int)) (.int .i64 ((n : Int) + 4))).run Try.prog W = .ok (.slice (some ⟨W.heap.size, 0, none⟩) n (n + 4)) (W.alloc (.cells (madeCells #[.int .u8 0] (n + 4)) 5)) := by
  have hinfo : (Try.prog.info? 5).map (fun i => (i.zero, i.size, i.bytes)) = some (some (.int .u8 0), 1, 1) := by kernel_rfl
  obtain ⟨i, hi, hz, hs, hb⟩ := info_parts hinfo
  have h := run_make (P := Try.prog) (w := W) 22 5 i (.int .u8 0) Try.underlying22 hi hz .i64 .i64 (n : Int) ((n : Int) + 4) (by omega) (by omega) (by rw [hb]; omega) (by omega)
  rw [hs] at h
  simp only [Int.toNat_natCast, show ((n : Int) + 4).toNat = n + 4 by omega, Nat.mul_one] at h
  exact h
set_option maxRecDepth 8000 in
set_option maxHeartbeats 4000000 in
theorem Try_crcLay (a : Option Addr) (n c : Nat) (l : List UInt8) (w : World) (hl : BytesAt w a n c l) (hn : n ≤ 1048576) :
    Calls Try.prog 69 #[.slice a n c] w fun e w' => ∃ p, e = .returned (.slice (some ⟨p, 0, none⟩) (n + 4) (n + 4)) ∧ CellsS w' (fun b => w.heap.size ≤ b) (some ⟨p, 0, none⟩) (n + 4) (u8s (crcLay l)) ∧ Below w.heap.size w w' := by
  have hinfo : (Try.prog.info? 5).map (fun i => (i.zero, i.size, i.bytes)) = some (some (.int .u8 0), 1, 1) := by kernel_rfl
  obtain ⟨i0, hi0, _, hs0, _⟩ := info_parts hinfo
  have HI0 := Lib.hid hi0
  have HS0 := Lib.hid hs0
  clear hinfo hi0 hs0
  have HL := Lib.hid hl
  have hmk := Try_make4 n hn
  have hn' : (n : Int) ≤ 1048576 := by omega
  have hcs := (hl.ext ((Below.refl _ w).alloc (Nat.le_refl _) (.cells (madeCells #[.int .u8 0] (n + 4)) 5))).s.cells
  have HCS := Lib.hid hcs
  have hg0 : (w.alloc (.cells (madeCells #[.int .u8 0] (n + 4)) 5)).heap[w.heap.size]? = some (.cells (List.replicate (n + 4) (.int .u8 0)).toArray 5 (0, 0)) := by
    rw [← toList_madeCells_one]
    unfold World.alloc
    simp
  have HG0 := Lib.hid hg0
  have hlen := hl.hlen
  have HLN := Lib.hid hlen
  have HN := Lib.hid hn
  have HB0 := Lib.hid (show Below w.heap.size w (w.alloc (.cells (madeCells #[.int .u8 0] (n + 4)) 5)) from (by repeat (first | (with_reducible exact Below.refl _ _) | (with_reducible exact Below.refl _ _) | (with_reducible refine Below.setCell ?_ (by first | omega | (simp; done) | (simp; omega)) _) | (with_reducible refine Below.alloc ?_ (by first | omega | (simp; done) | (simp; omega)) _) | (with_reducible refine Below.drew ?_) | (with_reducible refine below_drewN ?_ _))))
  have HH1 := Lib.hid (show (u8s l).length = Nat.min n n by rw [u8s_len, hlen]; exact (Nat.min_self n).symm)
  have HH2 := Lib.hid (show 0 + (u8s l).length ≤ (List.replicate (n + 4) (Value.int .u8 0)).length by simp [u8s_len, hlen])
  have HH3 := Lib.hid (show 0 < (u8s l).length → (some (⟨w.heap.size, 0, none⟩ : Addr)) = some ⟨w.heap.size, 0, none⟩ ∧ ∃ ad, a = some ad ∧ ∀ j v, (u8s l)[j]? = some v → (w.alloc (.cells (madeCells #[.int .u8 0] (n + 4)) 5)).cell? (ad.add j) = some v by
    intro h0
    refine ⟨rfl, ?_⟩
    have hl0 : 0 < l.length := by rw [u8s_len] at h0; exact h0
    obtain ⟨b, o, rfl, _⟩ := hl.hat 0 _ (List.getElem?_eq_getElem hl0)
    exact ⟨_, rfl, hcs.from_⟩)
  have hlay : crcSum l = 4294967295 - crcOf 4294967295 l := rfl
  have HSL := Lib.hid (crcSum_lt l)
  obtain ⟨s, hs⟩ : ∃ s, crcSum l = s := ⟨_, rfl⟩
  have HSS := Lib.hid hs
  have hnm := hl.hmax
  have HNM := Lib.hid hnm
  clear hl hcs hg0 hlen hlay hs hnm
  go_enter Try.func69, Try.ntmps69
  go_wp2_with (refine wpList_copy_splice rfl (.tmp 12) (.tmp 13) 22 22 rfl 5 Try.underlying22 (by kernel_rfl) (some ⟨w.heap.size, 0, none⟩) a n (n + 4) n c rfl rfl w.heap.size 0 (List.replicate (n + 4) (.int .u8 0)) 5 HG0.out (u8s l) HH1.out HH3.out HH2.out (u8s_one l) w.heap.size w HB0.out (Nat.le_refl _) ?_; intro w1 hcell hb1; clear hmk)
  have hown : w1.ownsRow w.heap.size 5 1 (.slice (some ⟨w.heap.size, 0, none⟩) n (n + 4)) n (u8s l) := by
    refine ⟨by rw [u8s_len, HLN.out]; omega, .inr ⟨_, _, _, rfl, Nat.le_refl _, hcell.out, by omega, by unfold maxLen; omega, ?_, ?_⟩⟩
    · have h := length_splice (List.replicate (n + 4) (Value.int .u8 0)) 0 (u8s l) HH2.out
      simpa using h
    · show ((splice (List.replicate (n + 4) (Value.int .u8 0)) 0 (u8s l))).take (n * 1) = u8s l
      unfold splice
      rw [List.take_zero, List.nil_append, Nat.mul_one, List.take_left' (by rw [u8s_len, HLN.out])]
  have HOWN := Lib.hid hown
  have HB1 := Lib.hid hb1
  have HL1 := Lib.hid (HL.out.ext (hb1.mono (Nat.le_refl _)))
  clear hown hb1 hcell
  have hA := Try_crcSum a n c l w1 HL1.out
  rw [show 4294967295 - crcOf 4294967295 l = s from HSS.out] at hA
  with_reducible refine hA.mono ?_
  rintro e w2 ⟨rfl, hb⟩
  have HO2 := Lib.hid (ownsRow_ext HOWN.out hb)
  have HB2 := Lib.hid (HB1.out.trans (hb.mono HB1.out.size))
  clear hA hb
  go_wp2_with fail
  go_loopg [3, 5] 4 (fun g vx ix wr => ∃ k : Nat, k ≤ 4 ∧ g = 4 - k ∧ ix = .int .i64 k ∧ vx = .slice (some ⟨w.heap.size, 0, none⟩) (n + k) (n + 4) ∧ wr.ownsRow w.heap.size 5 1 vx (n + k) (u8s (l ++ (crcFour s).take k)) ∧ Below w.heap.size w wr)
  case atStart => exact ⟨0, by omega, rfl, rfl, rfl, by simpa using HO2.out, HB2.out⟩
  case round =>
    obtain ⟨k, hk, rfl, rfl, rfl, ho, hbl⟩ := hrel
    have HO := Lib.hid ho
    have HBL := Lib.hid hbl
    have hsl := HSL.out
    rw [HSS.out] at hsl
    have HSL2 := Lib.hid hsl
    clear ho hbl hsl
    by_cases hk4 : k < 4
    · have h4 : k = 0 ∨ k = 1 ∨ k = 2 ∨ k = 3 := by omega
      rcases h4 with rfl | rfl | rfl | rfl
      ·
        have HOx := Lib.hid (ownsRow_ext HO.out ((Below.refl _ wr).alloc (Nat.le_refl _) (.cells #[.int .u8 ((s : Int) % 256)] 5)))
        have HCx := Lib.hid (cells_one (S := fun b => b = wr.heap.size) (g := wr.heap.size) (v := .int .u8 ((s : Int) % 256)) rfl (by simp) (Blk.new wr [.int .u8 ((s : Int) % 256)] 5 |>.cell 0 rfl))
        go_wp2_with (at_builtin; refine wpList_append_fits _ rfl (.tmp 21) (.tmp 27) 22 rfl w.heap.size 5 i0 1 Try.underlying22 HI0.out HS0.out w.heap.size (n + 0) (n + 4) (u8s (l ++ (crcFour s).take 0)) rfl HOx.out ⟨wr.heap.size, 0, none⟩ 1 1 [.int .u8 ((s : Int) % 256)] rfl rfl HCx.out.from_ (fun u hu => by simp at hu; subst hu; rfl) (by omega) ?_; intro w' hown' hgrow)
        go_wp2_with fail
        go_roundg (4 - (0 + 1))
        case measure => omega
        case rel =>
          refine ⟨0 + 1, by omega, rfl, by go_num, rfl, ?_, below_own (HBL.out.alloc HBL.out.size _) (by have := HBL.out.size; simp; omega) HOx.out (Nat.le_refl _) hgrow⟩
          have e : u8s (l ++ (crcFour s).take (0 + 1)) = u8s (l ++ (crcFour s).take 0) ++ [.int .u8 ((s : Int) % 256)] := by simp [u8s, crcFour]
          rw [e]
          exact hown'
      ·
        have HOx := Lib.hid (ownsRow_ext HO.out ((Below.refl _ wr).alloc (Nat.le_refl _) (.cells #[.int .u8 ((s : Int) / 256 % 256)] 5)))
        have HCx := Lib.hid (cells_one (S := fun b => b = wr.heap.size) (g := wr.heap.size) (v := .int .u8 ((s : Int) / 256 % 256)) rfl (by simp) (Blk.new wr [.int .u8 ((s : Int) / 256 % 256)] 5 |>.cell 0 rfl))
        go_wp2_with (at_builtin; refine wpList_append_fits _ rfl (.tmp 21) (.tmp 27) 22 rfl w.heap.size 5 i0 1 Try.underlying22 HI0.out HS0.out w.heap.size (n + 1) (n + 4) (u8s (l ++ (crcFour s).take 1)) rfl HOx.out ⟨wr.heap.size, 0, none⟩ 1 1 [.int .u8 ((s : Int) / 256 % 256)] rfl rfl HCx.out.from_ (fun u hu => by simp at hu; subst hu; rfl) (by omega) ?_; intro w' hown' hgrow)
        go_wp2_with fail
        go_roundg (4 - (1 + 1))
        case measure => omega
        case rel =>
          refine ⟨1 + 1, by omega, rfl, by go_num, rfl, ?_, below_own (HBL.out.alloc HBL.out.size _) (by have := HBL.out.size; simp; omega) HOx.out (Nat.le_refl _) hgrow⟩
          have e : u8s (l ++ (crcFour s).take (1 + 1)) = u8s (l ++ (crcFour s).take 1) ++ [.int .u8 ((s : Int) / 256 % 256)] := by simp [u8s, crcFour]
          rw [e]
          exact hown'
      ·
        have HOx := Lib.hid (ownsRow_ext HO.out ((Below.refl _ wr).alloc (Nat.le_refl _) (.cells #[.int .u8 ((s : Int) / 65536 % 256)] 5)))
        have HCx := Lib.hid (cells_one (S := fun b => b = wr.heap.size) (g := wr.heap.size) (v := .int .u8 ((s : Int) / 65536 % 256)) rfl (by simp) (Blk.new wr [.int .u8 ((s : Int) / 65536 % 256)] 5 |>.cell 0 rfl))
        go_wp2_with (at_builtin; refine wpList_append_fits _ rfl (.tmp 21) (.tmp 27) 22 rfl w.heap.size 5 i0 1 Try.underlying22 HI0.out HS0.out w.heap.size (n + 2) (n + 4) (u8s (l ++ (crcFour s).take 2)) rfl HOx.out ⟨wr.heap.size, 0, none⟩ 1 1 [.int .u8 ((s : Int) / 65536 % 256)] rfl rfl HCx.out.from_ (fun u hu => by simp at hu; subst hu; rfl) (by omega) ?_; intro w' hown' hgrow)
        go_wp2_with fail
        go_roundg (4 - (2 + 1))
        case measure => omega
        case rel =>
          refine ⟨2 + 1, by omega, rfl, by go_num, rfl, ?_, below_own (HBL.out.alloc HBL.out.size _) (by have := HBL.out.size; simp; omega) HOx.out (Nat.le_refl _) hgrow⟩
          have e : u8s (l ++ (crcFour s).take (2 + 1)) = u8s (l ++ (crcFour s).take 2) ++ [.int .u8 ((s : Int) / 65536 % 256)] := by simp [u8s, crcFour]
          rw [e]
          exact hown'
      ·
        have HOx := Lib.hid (ownsRow_ext HO.out ((Below.refl _ wr).alloc (Nat.le_refl _) (.cells #[.int .u8 ((s : Int) / 16777216 % 256)] 5)))
        have HCx := Lib.hid (cells_one (S := fun b => b = wr.heap.size) (g := wr.heap.size) (v := .int .u8 ((s : Int) / 16777216 % 256)) rfl (by simp) (Blk.new wr [.int .u8 ((s : Int) / 16777216 % 256)] 5 |>.cell 0 rfl))
        go_wp2_with (at_builtin; refine wpList_append_fits _ rfl (.tmp 21) (.tmp 27) 22 rfl w.heap.size 5 i0 1 Try.underlying22 HI0.out HS0.out w.heap.size (n + 3) (n + 4) (u8s (l ++ (crcFour s).take 3)) rfl HOx.out ⟨wr.heap.size, 0, none⟩ 1 1 [.int .u8 ((s : Int) / 16777216 % 256)] rfl rfl HCx.out.from_ (fun u hu => by simp at hu; subst hu; rfl) (by omega) ?_; intro w' hown' hgrow)
        go_wp2_with fail
        go_roundg (4 - (3 + 1))
        case measure => omega
        case rel =>
          refine ⟨3 + 1, by omega, rfl, by go_num, rfl, ?_, below_own (HBL.out.alloc HBL.out.size _) (by have := HBL.out.size; simp; omega) HOx.out (Nat.le_refl _) hgrow⟩
          have e : u8s (l ++ (crcFour s).take (3 + 1)) = u8s (l ++ (crcFour s).take 3) ++ [.int .u8 ((s : Int) / 16777216 % 256)] := by simp [u8s, crcFour]
          rw [e]
          exact hown'
    · obtain rfl : k = 4 := by omega
      clear hk4
      go_wp2
      go_ret
      refine ⟨_, rfl, ?_, HBL.out⟩
      have h := HO.out
      rw [show (crcFour s).take 4 = crcFour s from rfl] at h
      unfold crcLay
      rw [HSS.out]
      obtain ⟨a', c', e', _, _, _, h5⟩ := own_cells h
      cases e'
      exact h5
end Go.Proofs.Ytmjmjjakhmeogaa
