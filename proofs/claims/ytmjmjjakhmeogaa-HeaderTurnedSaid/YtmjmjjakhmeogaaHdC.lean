/-
  Layer 12: headers: may one be? Both ways, walked.
-/
import Derived.Test.YtmjmjjakhmeogaaHdB
import Derived.Laws.Rows
import Derived.Laws.Tables
namespace Go.Dav
set_option linter.unusedVariables false
set_option linter.unusedSimpArgs false
open Go Go.RowKit
structure HeadD where
  gen : Nat
  at_ : Int
structure HeadD.Fits (h : HeadD) : Prop where
  gen : h.gen < 18446744073709551616
  at_ : I64' h.at_
def HeadD.right (h : HeadD) : Bool := decide (1 ≤ h.gen) && (decide (0 ≤ h.at_) && decide (h.at_ < 524288))
def HeadD.err (h : HeadD) : Int := if h.right = true then 0 else 220
theorem HeadD.right_spec {h : HeadD} : h.right = true ↔ 1 ≤ h.gen ∧ 0 ≤ h.at_ ∧ h.at_ < 524288 := by simp [HeadD.right]
end Go.Dav
namespace Go.Proofs.Ytmjmjjakhmeogaa
set_option linter.unusedVariables false
set_option linter.unusedSimpArgs false
open Go.RowKit Go.Dav
attribute [local go_sem] Gives ite_val ite_val_true

set_option maxRecDepth 8000 in
theorem Try_hRight (h : HeadD) (w : World) : Calls Try.prog 36 #[.agg #[.int .u64 (h.gen : Int), .int .i64 h.at_]] w fun e w' => e = .returned (.bool h.right) ∧ Below w.heap.size w w' := by
  obtain ⟨g, a⟩ := h
  dsimp only
  by_cases h1 : 1 ≤ g
  · have h1' : (1 : Int) ≤ (g : Int) := by omega
    by_cases h2 : 0 ≤ a
    · by_cases h3 : a < 524288
      · have HV := Lib.hid (show (HeadD.mk g a).right = true by simp [HeadD.right, h1, h2, h3])
        clear h1
        go_enter Try.func36, Try.ntmps36
        go_wp2
        go_ret
        exact ⟨by rw [HV.out]; rfl, (by repeat (first | (with_reducible exact Below.refl _ _) | (with_reducible exact Below.refl _ _) | (with_reducible refine Below.setCell ?_ (by first | omega | (simp; done) | (simp; omega)) _) | (with_reducible refine Below.alloc ?_ (by first | omega | (simp; done) | (simp; omega)) _) | (with_reducible refine Below.drew ?_) | (with_reducible refine below_drewN ?_ _)))⟩
      · have HV := Lib.hid (show (HeadD.mk g a).right = false by simp [HeadD.right, h1, h2]; omega)
        clear h1
        go_enter Try.func36, Try.ntmps36
        go_wp2
        go_ret
        exact ⟨by rw [HV.out]; first | rfl | (simp; omega), (by repeat (first | (with_reducible exact Below.refl _ _) | (with_reducible exact Below.refl _ _) | (with_reducible refine Below.setCell ?_ (by first | omega | (simp; done) | (simp; omega)) _) | (with_reducible refine Below.alloc ?_ (by first | omega | (simp; done) | (simp; omega)) _) | (with_reducible refine Below.drew ?_) | (with_reducible refine below_drewN ?_ _)))⟩
    · have HV := Lib.hid (show (HeadD.mk g a).right = false by simp [HeadD.right, h1, h2])
      clear h1
      go_enter Try.func36, Try.ntmps36
      go_wp2
      go_ret
      exact ⟨by rw [HV.out]; first | rfl | (simp; omega), (by repeat (first | (with_reducible exact Below.refl _ _) | (with_reducible exact Below.refl _ _) | (with_reducible refine Below.setCell ?_ (by first | omega | (simp; done) | (simp; omega)) _) | (with_reducible refine Below.alloc ?_ (by first | omega | (simp; done) | (simp; omega)) _) | (with_reducible refine Below.drew ?_) | (with_reducible refine below_drewN ?_ _)))⟩
  · have h1' : ¬ (1 : Int) ≤ (g : Int) := by omega
    have HV := Lib.hid (show (HeadD.mk g a).right = false by simp [HeadD.right]; omega)
    clear h1
    go_enter Try.func36, Try.ntmps36
    go_wp2
    go_ret
    exact ⟨by rw [HV.out]; first | rfl | (simp; omega), (by repeat (first | (with_reducible exact Below.refl _ _) | (with_reducible exact Below.refl _ _) | (with_reducible refine Below.setCell ?_ (by first | omega | (simp; done) | (simp; omega)) _) | (with_reducible refine Below.alloc ?_ (by first | omega | (simp; done) | (simp; omega)) _) | (with_reducible refine Below.drew ?_) | (with_reducible refine below_drewN ?_ _)))⟩

set_option maxRecDepth 8000 in
theorem Try_hCheck (h : HeadD) (w : World) : Calls Try.prog 37 #[.agg #[.int .u64 (h.gen : Int), .int .i64 h.at_]] w fun e w' => e = .returned (.int .i64 h.err) ∧ Below w.heap.size w w' := by
  obtain ⟨g, a⟩ := h
  dsimp only
  by_cases h1 : g = 0
  · have HV := Lib.hid (show (HeadD.mk g a).err = 220 by simp [HeadD.err, HeadD.right, h1])
    subst h1
    go_enter Try.func37, Try.ntmps37
    go_wp2
    go_ret
    exact ⟨by rw [HV.out]; rfl, (by repeat (first | (with_reducible exact Below.refl _ _) | (with_reducible exact Below.refl _ _) | (with_reducible refine Below.setCell ?_ (by first | omega | (simp; done) | (simp; omega)) _) | (with_reducible refine Below.alloc ?_ (by first | omega | (simp; done) | (simp; omega)) _) | (with_reducible refine Below.drew ?_) | (with_reducible refine below_drewN ?_ _)))⟩
  · have h1' : ((g : Int) == 0) = false := by simp [h1]
    by_cases h2 : a < 0
    · have HV := Lib.hid (show (HeadD.mk g a).err = 220 by simp [HeadD.err, HeadD.right]; omega)
      clear h1
      go_enter Try.func37, Try.ntmps37
      go_wp2
      go_ret
      exact ⟨by rw [HV.out]; rfl, (by repeat (first | (with_reducible exact Below.refl _ _) | (with_reducible exact Below.refl _ _) | (with_reducible refine Below.setCell ?_ (by first | omega | (simp; done) | (simp; omega)) _) | (with_reducible refine Below.alloc ?_ (by first | omega | (simp; done) | (simp; omega)) _) | (with_reducible refine Below.drew ?_) | (with_reducible refine below_drewN ?_ _)))⟩
    · by_cases h3 : 524288 ≤ a
      · have HV := Lib.hid (show (HeadD.mk g a).err = 220 by simp [HeadD.err, HeadD.right]; omega)
        clear h1
        go_enter Try.func37, Try.ntmps37
        go_wp2
        go_ret
        exact ⟨by rw [HV.out]; rfl, (by repeat (first | (with_reducible exact Below.refl _ _) | (with_reducible exact Below.refl _ _) | (with_reducible refine Below.setCell ?_ (by first | omega | (simp; done) | (simp; omega)) _) | (with_reducible refine Below.alloc ?_ (by first | omega | (simp; done) | (simp; omega)) _) | (with_reducible refine Below.drew ?_) | (with_reducible refine below_drewN ?_ _)))⟩
      · have HV := Lib.hid (show (HeadD.mk g a).err = 0 by simp [HeadD.err, HeadD.right]; omega)
        clear h1
        go_enter Try.func37, Try.ntmps37
        go_wp2
        go_ret
        exact ⟨by rw [HV.out]; rfl, (by repeat (first | (with_reducible exact Below.refl _ _) | (with_reducible exact Below.refl _ _) | (with_reducible refine Below.setCell ?_ (by first | omega | (simp; done) | (simp; omega)) _) | (with_reducible refine Below.alloc ?_ (by first | omega | (simp; done) | (simp; omega)) _) | (with_reducible refine Below.drew ?_) | (with_reducible refine below_drewN ?_ _)))⟩
theorem Try_size64 : (Try.prog.info? 57).map (·.size) = some 64 := by kernel_rfl
theorem Try_size64_of {l : List UInt8} (h : l.length = 64) : (Try.prog.info? 57).map (·.size) = some (u8s l).toArray.size := by rw [Try_size64]; simp [u8s_len, h]
theorem u8s_all (l : List UInt8) : (u8s l).toArray.all (·.oneCell') = true := by
  rw [Array.all_eq_true_iff_forall_mem]
  intro v hv
  exact u8s_one l v (by simpa using hv)
theorem blk_row {W : World} {g : Nat} {cs ds : List Value} {t : TypeId} (h : Blk W g cs t) : Blk (W.setRow g ds.toArray) g ds t := by
  unfold Blk at *
  exact setRow_heap W g _ _ t _ h
theorem only_row (W : World) (g : Nat) (cs : Array Value) : Only g W (W.setRow g cs) := ⟨rfl, rfl, rfl, by simp [World.setRow], fun k hk hne => setRow_other W g k cs hne⟩
set_option maxRecDepth 8000 in
set_option maxHeartbeats 4000000 in
theorem Try_BlockNo (h : HeadD) (w : World) (hr : h.right = false) : Calls Try.prog 41 #[.agg #[.int .u64 (h.gen : Int), .int .i64 h.at_]] w fun e w' => e = .returned (.agg (u8s (List.replicate 64 0)).toArray) ∧ Below w.heap.size w w' := by
  have HE := Lib.hid (show h.err = 220 by unfold HeadD.err; rw [if_neg (by rw [hr]; decide)])
  obtain ⟨W0, hW0⟩ : ∃ W0, (w.alloc (.cells #[.int .u64 (h.gen : Int), .int .i64 h.at_] 56)).alloc (.cells #[.int .u8 0, .int .u8 0, .int .u8 0, .int .u8 0, .int .u8 0, .int .u8 0, .int .u8 0, .int .u8 0, .int .u8 0, .int .u8 0, .int .u8 0, .int .u8 0, .int .u8 0, .int .u8 0, .int .u8 0, .int .u8 0, .int .u8 0, .int .u8 0, .int .u8 0, .int .u8 0, .int .u8 0, .int .u8 0, .int .u8 0, .int .u8 0, .int .u8 0, .int .u8 0, .int .u8 0, .int .u8 0, .int .u8 0, .int .u8 0, .int .u8 0, .int .u8 0, .int .u8 0, .int .u8 0, .int .u8 0, .int .u8 0, .int .u8 0, .int .u8 0, .int .u8 0, .int .u8 0, .int .u8 0, .int .u8 0, .int .u8 0, .int .u8 0, .int .u8 0, .int .u8 0, .int .u8 0, .int .u8 0, .int .u8 0, .int .u8 0, .int .u8 0, .int .u8 0, .int .u8 0, .int .u8 0, .int .u8 0, .int .u8 0, .int .u8 0, .int .u8 0, .int .u8 0, .int .u8 0, .int .u8 0, .int .u8 0, .int .u8 0, .int .u8 0] 57) = W0 := ⟨_, rfl⟩
  have hb2 : Blk W0 (w.heap.size + 1) (u8s (List.replicate 64 0)) 57 := by rw [← hW0]; exact Blk.new' _ _ _ (by simp)
  have bel0 : Below w.heap.size w W0 := by rw [← hW0]; exact (by repeat (first | (with_reducible exact Below.refl _ _) | (with_reducible exact Below.refl _ _) | (with_reducible refine Below.setCell ?_ (by first | omega | (simp; done) | (simp; omega)) _) | (with_reducible refine Below.alloc ?_ (by first | omega | (simp; done) | (simp; omega)) _) | (with_reducible refine Below.drew ?_) | (with_reducible refine below_drewN ?_ _)))
  have hb1 : Blk W0 w.heap.size [.int .u64 (h.gen : Int), .int .i64 h.at_] 56 := by rw [← hW0]; exact (Blk.new w _ _).alloc _
  have HW0 := Lib.hid hW0
  have HB2 := Lib.hid hb2
  have HB1 := Lib.hid hb1
  have BEL0 := Lib.hid bel0
  clear hr hW0 hb2 bel0 hb1
  go_enter Try.func41, Try.ntmps41
  go_wp2_with fail
  rw [HW0.out]
  refine (Try_hCheck h W0).mono ?_; rintro e w1 ⟨rfl, hb⟩
  rw [HE.out]
  have HB21 := Lib.hid (HB2.out.ext hb)
  have BEL1 := Lib.hid (BEL0.out.trans (hb.mono BEL0.out.size))
  have l21 := (HB2.out.ext hb).lt
  clear hb
  go_wp2_with (first | (refine wpList_load_row rfl 57 (.tmp 2) rfl (w.heap.size + 1) rfl 57 (u8s (List.replicate 64 0)).toArray (0, 0) _ HB21.out Try.underlying57 rfl (Try_size64_of rfl) ?_) | (refine wpList_store_row rfl 57 (.tmp 2) (.tmp 7) rfl (w.heap.size + 1) (u8s (List.replicate 64 0)).toArray rfl rfl 57 (u8s (List.replicate 64 0)).toArray HB21.out (Try_size64_of rfl) rfl (u8s_all _) ?_))
  refine bodyPost_ret (results_cell_row rfl _ _ (w.heap.size + 1) 57 (u8s (List.replicate 64 0)).toArray (0, 0) _ rfl (blk_row HB21.out) Try.underlying57 rfl (Try_size64_of rfl)) rfl ⟨rfl, ?_⟩
  exact below_only BEL1.out (only_row _ _ _) BEL1.out.size (by omega)
end Go.Proofs.Ytmjmjjakhmeogaa
