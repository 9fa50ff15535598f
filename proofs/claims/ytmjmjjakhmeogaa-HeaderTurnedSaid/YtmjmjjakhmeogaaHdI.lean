/-
  Layer 12: what is appended for a header: the reference's Laid, walked.
-/
import Derived.Test.YtmjmjjakhmeogaaHdH
namespace Go.Dav
set_option linter.unusedVariables false
set_option linter.unusedSimpArgs false
open Go Go.RowKit
def padOf (n : Nat) : Nat := (64 - n % 64) % 64
def laidOf (n g a : Nat) : List UInt8 := List.replicate (padOf n) 0 ++ blockOf g a
end Go.Dav
namespace Go.Proofs.Ytmjmjjakhmeogaa
set_option linter.unusedVariables false
set_option linter.unusedSimpArgs false
open Go.RowKit Go.Dav
attribute [local go_sem] Gives ite_val ite_val_true

set_option maxRecDepth 100000 in
set_option maxHeartbeats 8000000 in
theorem Try_refLaidH (n g a : Nat) (w : World) (hn : n ≤ 1048576) (hg : g < 18446744073709551616) (ha : a < 524288) :
    Calls Try.prog 44 #[.int .i64 (n : Int), .agg #[.int .u64 (g : Int), .int .i64 (a : Int)]] w fun e w' => ∃ b m c, e = .returned (.slice b m c) ∧ BytesS w' (fun b => w.heap.size ≤ b) b m c (laidOf n g a) ∧ Below w.heap.size w w' := by
  have HB1 := Lib.hid (Blk.new w [.int .u64 (g : Int), .int .i64 (a : Int)] 56)
  have HG := Lib.hid hg
  have HA := Lib.hid ha
  have hn' : (n : Int) ≤ 1048576 := by omega
  clear hg ha
  go_enter Try.func44, Try.ntmps44
  go_wp2_with fail
  go_loopg [5] (padOf n) (fun m vx wr => ∃ k : Nat, k ≤ padOf n ∧ m = padOf n - k ∧ wr.ownsRow (w.heap.size + 1) 5 1 vx k (u8s (List.replicate k 0)) ∧ Blk wr w.heap.size [.int .u64 (g : Int), .int .i64 (a : Int)] 56 ∧ Below w.heap.size w wr ∧ w.heap.size + 1 ≤ wr.heap.size)
  case atStart => exact ⟨0, Nat.zero_le _, rfl, World.ownsRow_nil _ _ _ _, HB1.out, (by repeat (first | (with_reducible exact Below.refl _ _) | (with_reducible exact Below.refl _ _) | (with_reducible refine Below.setCell ?_ (by first | omega | (simp; done) | (simp; omega)) _) | (with_reducible refine Below.alloc ?_ (by first | omega | (simp; done) | (simp; omega)) _) | (with_reducible refine Below.drew ?_) | (with_reducible refine below_drewN ?_ _))), by simp⟩
  case round =>
    obtain ⟨k, hk, rfl, ho, hb, hbl, hs⟩ := hrel
    have hk64 : k < 64 := by unfold padOf at hk; omega
    obtain ⟨ra, rc, rfl, hrb⟩ := Dav.own_bytes ho (by omega)
    have HOR := Lib.hid ho
    have HBR := Lib.hid hb
    have HBL := Lib.hid hbl
    have HS := Lib.hid hs
    have q1 := hb.cells
    have l1 := hb.lt
    have hki : (k : Int) < 64 := by omega
    have htm : ((n : Int) + (k : Int)).tmod 64 = ((n : Int) + (k : Int)) % 64 := Int.tmod_eq_emod_of_nonneg (by omega)
    clear ho hb hbl hs hrb
    by_cases hkp : k < padOf n
    · have hc : (((n : Int) + (k : Int)) % 64 != 0) = true := by
        unfold padOf at hkp
        simp; omega
      have HOx := Lib.hid (ownsRow_ext HOR.out ((Below.refl _ wr).alloc (Nat.le_refl _) (.cells #[.int .u8 0] 5)))
      have HCx := Lib.hid (cells_one (S := fun b => b = wr.heap.size) (g := wr.heap.size) (v := .int .u8 0) rfl (by simp) (Blk.new wr [.int .u8 0] 5 |>.cell 0 rfl))
      have HSx := Lib.hid (show w.heap.size + 1 ≤ (wr.alloc (.cells #[.int .u8 0] 5)).heap.size by have := HS.out; simp; omega)
      go_wp2_with (at_builtin; refine wpList_append_rowS rfl (.tmp 13) (.tmp 14) 22 rfl Try_elemU8 (w.heap.size + 1) _ k (u8s (List.replicate k 0)) rfl HOx.out (fun b => b = wr.heap.size) (some ⟨wr.heap.size, 0, none⟩) 1 1 [.int .u8 0] rfl HCx.out (fun u hu => by simp at hu; subst hu; rfl) (fun h => by cases h) (by unfold maxLen; omega) (by omega) HSx.out ?_; intro v' w' hown' hgrow)
      go_wp2_with fail
      have e1 : u8s (List.replicate (k + 1) 0) = u8s (List.replicate k 0) ++ [.int .u8 0] := by rw [List.replicate_succ', u8s_append]; rfl
      have hgw := Grew.of_own HOx.out hgrow
      go_roundg (padOf n - (k + 1))
      case measure => omega
      case rel =>
        refine ⟨k + 1, by omega, rfl, by rw [e1]; exact hown', hgw.blk (HBR.out.alloc _) (by decide), ?_, Nat.le_trans HSx.out hgw.size⟩
        exact below_own (HBL.out.alloc HBL.out.size _) (by have := HBL.out.size; simp; omega) HOx.out (by omega) hgrow
    · obtain rfl : k = padOf n := by omega
      have hc : (((n : Int) + (padOf n : Int)) % 64 != 0) = false := by
        simp
        unfold padOf
        omega
      clear hkp hk
      go_wp2_with fail
      refine (Try_refBlock g a wr HG.out HA.out).mono ?_; rintro e w1 ⟨rfl, hb⟩
      have HO1 := Lib.hid (ownsRow_ext HOR.out hb)
      have BEL1 := Lib.hid (HBL.out.trans (hb.mono HBL.out.size))
      have HS1 := Lib.hid (Nat.le_trans HS.out hb.size)
      have HBz := Lib.hid (show Blk (w1.alloc (.cells #[.int .u8 0, .int .u8 0, .int .u8 0, .int .u8 0, .int .u8 0, .int .u8 0, .int .u8 0, .int .u8 0, .int .u8 0, .int .u8 0, .int .u8 0, .int .u8 0, .int .u8 0, .int .u8 0, .int .u8 0, .int .u8 0, .int .u8 0, .int .u8 0, .int .u8 0, .int .u8 0, .int .u8 0, .int .u8 0, .int .u8 0, .int .u8 0, .int .u8 0, .int .u8 0, .int .u8 0, .int .u8 0, .int .u8 0, .int .u8 0, .int .u8 0, .int .u8 0, .int .u8 0, .int .u8 0, .int .u8 0, .int .u8 0, .int .u8 0, .int .u8 0, .int .u8 0, .int .u8 0, .int .u8 0, .int .u8 0, .int .u8 0, .int .u8 0, .int .u8 0, .int .u8 0, .int .u8 0, .int .u8 0, .int .u8 0, .int .u8 0, .int .u8 0, .int .u8 0, .int .u8 0, .int .u8 0, .int .u8 0, .int .u8 0, .int .u8 0, .int .u8 0, .int .u8 0, .int .u8 0, .int .u8 0, .int .u8 0, .int .u8 0, .int .u8 0] 57)) w1.heap.size (u8s (List.replicate 64 0)) 57 from Blk.new w1 _ _)
      clear hb q1 l1
      have bx : Below w1.heap.size w1 ((w1.alloc (.cells #[.int .u8 0, .int .u8 0, .int .u8 0, .int .u8 0, .int .u8 0, .int .u8 0, .int .u8 0, .int .u8 0, .int .u8 0, .int .u8 0, .int .u8 0, .int .u8 0, .int .u8 0, .int .u8 0, .int .u8 0, .int .u8 0, .int .u8 0, .int .u8 0, .int .u8 0, .int .u8 0, .int .u8 0, .int .u8 0, .int .u8 0, .int .u8 0, .int .u8 0, .int .u8 0, .int .u8 0, .int .u8 0, .int .u8 0, .int .u8 0, .int .u8 0, .int .u8 0, .int .u8 0, .int .u8 0, .int .u8 0, .int .u8 0, .int .u8 0, .int .u8 0, .int .u8 0, .int .u8 0, .int .u8 0, .int .u8 0, .int .u8 0, .int .u8 0, .int .u8 0, .int .u8 0, .int .u8 0, .int .u8 0, .int .u8 0, .int .u8 0, .int .u8 0, .int .u8 0, .int .u8 0, .int .u8 0, .int .u8 0, .int .u8 0, .int .u8 0, .int .u8 0, .int .u8 0, .int .u8 0, .int .u8 0, .int .u8 0, .int .u8 0, .int .u8 0] 57)).setRow w1.heap.size (u8s (blockOf g a)).toArray) := below_only ((Below.refl _ w1).alloc (Nat.le_refl _) _) (only_row _ _ _) (by simp) (Nat.le_refl _)
      have HOX := Lib.hid (ownsRow_ext HO1.out bx)
      have HCX := Lib.hid (show CellsS ((w1.alloc (.cells #[.int .u8 0, .int .u8 0, .int .u8 0, .int .u8 0, .int .u8 0, .int .u8 0, .int .u8 0, .int .u8 0, .int .u8 0, .int .u8 0, .int .u8 0, .int .u8 0, .int .u8 0, .int .u8 0, .int .u8 0, .int .u8 0, .int .u8 0, .int .u8 0, .int .u8 0, .int .u8 0, .int .u8 0, .int .u8 0, .int .u8 0, .int .u8 0, .int .u8 0, .int .u8 0, .int .u8 0, .int .u8 0, .int .u8 0, .int .u8 0, .int .u8 0, .int .u8 0, .int .u8 0, .int .u8 0, .int .u8 0, .int .u8 0, .int .u8 0, .int .u8 0, .int .u8 0, .int .u8 0, .int .u8 0, .int .u8 0, .int .u8 0, .int .u8 0, .int .u8 0, .int .u8 0, .int .u8 0, .int .u8 0, .int .u8 0, .int .u8 0, .int .u8 0, .int .u8 0, .int .u8 0, .int .u8 0, .int .u8 0, .int .u8 0, .int .u8 0, .int .u8 0, .int .u8 0, .int .u8 0, .int .u8 0, .int .u8 0, .int .u8 0, .int .u8 0] 57)).setRow w1.heap.size (u8s (blockOf g a)).toArray) (fun b => b = w1.heap.size) (some ⟨w1.heap.size, 0, none⟩) 64 (u8s (blockOf g a)) by have h := cells_of_blk (blk_row (ds := u8s (blockOf g a)) HBz.out); rw [blockOf_len] at h; exact h)
      have BELX := Lib.hid (BEL1.out.trans (bx.mono BEL1.out.size))
      have HSX := Lib.hid (Nat.le_trans HS1.out bx.size)
      clear bx
      go_wp2_with (first | (refine wpList_store_row rfl 57 (.tmp 6) (.tmp 17) rfl w1.heap.size (u8s (blockOf g a)).toArray rfl rfl 57 (u8s (List.replicate 64 0)).toArray HBz.out (Try_size64_of (blockOf_len g a)) (by simp [u8s_len, blockOf_len]) (u8s_all _) ?_) | (at_builtin; refine wpList_append_rowS rfl (.tmp 18) (.tmp 19) 22 rfl Try_elemU8 (w.heap.size + 1) _ (padOf n) (u8s (List.replicate (padOf n) 0)) rfl HOX.out (fun b => b = w1.heap.size) (some ⟨w1.heap.size, 0, none⟩) 64 64 (u8s (blockOf g a)) rfl HCX.out (u8s_one _) (fun h => by cases h) (by unfold maxLen; omega) (by omega) HSX.out ?_; intro v' w3 hown3 hgrow3; have HO3 := Lib.hid hown3; have BEL3 := Lib.hid (below_own BELX.out BELX.out.size HOX.out (by omega) hgrow3); clear hown3 hgrow3))
      go_ret
      have e2 : u8s (laidOf n g a) = u8s (List.replicate (padOf n) 0) ++ u8s (blockOf g a) := by unfold laidOf; rw [u8s_append]
      have h3 := HO3.out
      rw [← e2] at h3
      obtain ⟨b, c, h1, h2, h3', h4, h5⟩ := own_cells h3
      refine ⟨b, _, c, congrArg Ending.returned h1, (BytesS.of_cells h5 h2 h3' (by omega) h4).mono fun x hx => by omega, BEL3.out⟩
end Go.Proofs.Ytmjmjjakhmeogaa
