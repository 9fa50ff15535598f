/-
  Layer 14: a kid read, walked. (Its lines were printed by a program.)
-/
import Derived.Test.YtfhhcpolicdfpaaNdG
namespace Go.Dav
set_option linter.unusedVariables false
set_option linter.unusedSimpArgs false
open Go Go.RowKit
/-- The states while a kid is read. -/
def k2 (s : TkSt) : TkSt := s.skip.next 4
def k3 (s : TkSt) : TkSt := (k2 s).next 4
def k4 (s : TkSt) : TkSt := (k3 s).next 4
def k5 (s : TkSt) : TkSt := (k4 s).next 8
def k6 (s : TkSt) : TkSt := (k5 s).next 8
def k7 (s : TkSt) : TkSt := (k6 s).next 8
def rdKidS (s : TkSt) : TkSt := (k7 s).next 8
def rdKid (s : TkSt) : KidD := ⟨s.cnt, (s.skip.num 4 : Nat), ⟨((k2 s).num 4 : Nat), ((k3 s).num 4 : Nat), wrap64 ((k4 s).num 8 : Nat) * 18446744073709551616 + ((k5 s).num 8 : Nat), wrap64 ((k6 s).num 8 : Nat), wrap64 ((k7 s).num 8 : Nat)⟩⟩
end Go.Dav
namespace Go.Proofs.Ytfhhcpolicdfpaa
set_option linter.unusedVariables false
set_option linter.unusedSimpArgs false
open Go.RowKit Go.Dav
attribute [local go_sem] Gives GivesC ite_val ite_val_true
def TryRdKid (S : Nat → Prop) (pT pN pR pO : Nat) (w : World) (s : TkSt) (e : Ending) (w' : World) : Prop :=
  e = .returned (.tuple #[.agg #[cntV s, .int .i64 (s.skip.num 4 : Nat), .int .i64 ((k2 s).num 4 : Nat), .int .i64 ((k3 s).num 4 : Nat), .int .i64 (wrap64 ((k4 s).num 8 : Nat)), .int .u64 ((k5 s).num 8 : Nat), .int .i64 (wrap64 ((k6 s).num 8 : Nat)), .int .i64 (wrap64 ((k7 s).num 8 : Nat))], .bool (rdKidS s).ok]) ∧ StAt 22 4 w' S pR pO (rdKidS s) ∧ OnlyS (TwoS pR pO) w w'
set_option maxRecDepth 8000 in
set_option maxHeartbeats 8000000 in
theorem Try_rdKid (S : Nat → Prop) (pT pN pR pO : Nat) (s : TkSt) (w : World) (hst : StAt 22 4 w S pR pO s) (hT : Blk w pT [TryTakeV pR pO] 62) (hN : Blk w pN [TryNumV pT] 63) (ha : TryApart S pT pN pR pO) (hS : ∀ b, S b → b < w.heap.size) :
    Calls Try.prog 38 #[.pointer (some ⟨pT, 0, none⟩), .pointer (some ⟨pN, 0, none⟩), .pointer (some ⟨pO, 0, none⟩)] w (TryRdKid S pT pN pR pO w s) := by
  have hb0 : Below w.heap.size w (w.alloc (.cells #[.slice none 0 0, .int .i64 0, .int .i64 0, .int .i64 0, .int .i64 0, .int .u64 0, .int .i64 0, .int .i64 0] 58)) := (by repeat (first | (with_reducible exact Below.refl _ _) | (with_reducible exact Below.refl _ _) | (with_reducible refine Below.setCell ?_ (by first | omega | (simp; done) | (simp; omega)) _) | (with_reducible refine Below.alloc ?_ (by first | omega | (simp; done) | (simp; omega)) _) | (with_reducible refine Below.drew ?_) | (with_reducible refine below_drewN ?_ _)))
  have hd0 : TryDecAt S pT pN pR pO w.heap.size 58 w s [.slice none 0 0, .int .i64 0, .int .i64 0, .int .i64 0, .int .i64 0, .int .u64 0, .int .i64 0, .int .i64 0] (w.alloc (.cells #[.slice none 0 0, .int .i64 0, .int .i64 0, .int .i64 0, .int .i64 0, .int .u64 0, .int .i64 0, .int .i64 0] 58)) :=
    ⟨hst.ext hb0, hT.ext hb0, hN.ext hb0, Blk.new w _ _, OnlyS.of_below hb0⟩
  have lt := hT.lt
  have ln := hN.lt
  have lr := hst.hR.lt
  have lo := hst.hO.lt
  have hp : ¬ TwoS pR pO w.heap.size := by unfold TwoS; omega
  have hpT : w.heap.size ≠ pT := by omega
  have hpN : w.heap.size ≠ pN := by omega
  have hSp : ¬ S w.heap.size := fun h => by have := hS _ h; omega
  have hent := fun args W => Try_en_take args W
  have henn := fun args W => Try_en_num args W
  have HD0 := Lib.hid hd0
  have HA := Lib.hid ha
  have HP := Lib.hid hp
  have HPT := Lib.hid hpT
  have HPN := Lib.hid hpN
  have HSP := Lib.hid hSp
  have hkl1 : s.num 1 ≤ 255 := numOf_one_le _ (bytes_len s 1)
  have hkl2 : ((s.num 1 : Nat) : Int) ≤ 255 := by omega
  have hwk : IntKind.i64.wrap ((s.num 1 : Nat) : Int) = ((s.num 1 : Nat) : Int) := by rw [i64_wrap_def]; omega
  have e1 : IntKind.i64.wrap ((s.skip.num 4 : Nat) : Int) = ((s.skip.num 4 : Nat) : Int) := by have : s.skip.num 4 < _ := numOf_4_le _ (bytes_len s.skip 4); rw [i64_wrap_def]; omega
  have e2 : IntKind.i64.wrap (((k2 s).num 4 : Nat) : Int) = (((k2 s).num 4 : Nat) : Int) := by have : (k2 s).num 4 < _ := numOf_4_le _ (bytes_len (k2 s) 4); rw [i64_wrap_def]; omega
  have e3 : IntKind.i64.wrap (((k3 s).num 4 : Nat) : Int) = (((k3 s).num 4 : Nat) : Int) := by have : (k3 s).num 4 < _ := numOf_4_le _ (bytes_len (k3 s) 4); rw [i64_wrap_def]; omega
  have e4 : ∀ x : Int, IntKind.i64.wrap x = wrap64 x := fun x => by rw [i64_wrap_def, wrap64_def]
  have E1 := Lib.hid e1
  have E2 := Lib.hid e2
  have E3 := Lib.hid e3
  have E4 := Lib.hid e4
  clear hst hT hN ha hS hb0 hd0 hp hpT hpN hSp lt ln lr lo e1 e2 e3 e4
  go_enter Try.func38, Try.ntmps38
  go_wp2_with fail
  refine' wp_region_chain (fun c => TryDecAt S pT pN pR pO w.heap.size 58 w (if c = 0 then s else if c = 1 then TkSt.next s 1 else TkSt.skip s) (if c = 3 then [cntV s, .int .i64 0, .int .i64 0, .int .i64 0, .int .i64 0, .int .u64 0, .int .i64 0, .int .i64 0] else [.slice none 0 0, .int .i64 0, .int .i64 0, .int .i64 0, .int .i64 0, .int .u64 0, .int .i64 0, .int .i64 0])) [2, 4, 6] [_, _, _, _, _, _, _] (by kernel_rfl) (by kernel_rfl) (fun c W W' h hb => h.ext hb) (HD0.out) ?main1
  case main1 =>
    refine wpChain_det (by decide) (by decide) (by rfl) (fun cc W hlo hhi hI => ?_) ?_
    · have q1 := hI.tk.cells; have q2 := hI.nm.cells; unfold TryTakeV at q1; unfold TryNumV at q2; go_simp; refine ⟨Below.refl _ _, ?_⟩; rfl
    simp only [Act.put, List.setIfInBounds_toArray, List.set_cons_zero, List.set_cons_succ]
    refine wpChain_det (by decide) (by decide) (by rfl) (fun cc W hlo hhi hI => ?_) ?_
    · have q1 := hI.tk.cells; have q2 := hI.nm.cells; unfold TryTakeV at q1; unfold TryNumV at q2; go_simp; refine ⟨Below.refl _ _, ?_⟩; rfl
    simp only [Act.put, List.setIfInBounds_toArray, List.set_cons_zero, List.set_cons_succ]
    refine wpChain_writes (by decide) (by rfl) (fun W hI => ?_) ?_
    · have hI := (show TryDecAt S pT pN pR pO w.heap.size 58 w s [.slice none 0 0, .int .i64 0, .int .i64 0, .int .i64 0, .int .i64 0, .int .u64 0, .int .i64 0, .int .i64 0] W from hI); go_simp; refine (Try_num_1 hI HA.out HP.out).mono ?_; rintro e w' ⟨rfl, h2⟩; refine ⟨?_, h2⟩; rfl
    simp only [Act.put, List.setIfInBounds_toArray, List.set_cons_zero, List.set_cons_succ]
    refine wpChain_det (by decide) (by decide) (by rfl) (fun cc W hlo hhi hI => ?_) ?_
    · go_simp; refine ⟨Below.refl _ _, ?_⟩; rfl
    simp only [Act.put, List.setIfInBounds_toArray, List.set_cons_zero, List.set_cons_succ]
    refine wpChain_writes (by decide) (by rfl) (fun W hI => ?_) ?_
    · have hI := (show TryDecAt S pT pN pR pO w.heap.size 58 w (TkSt.next s 1) [.slice none 0 0, .int .i64 0, .int .i64 0, .int .i64 0, .int .i64 0, .int .u64 0, .int .i64 0, .int .i64 0] W from hI); go_simp; refine (Try_take_at hI HA.out HP.out (TkSt.num s 1) (by omega)).mono ?_; rintro e w' ⟨rfl, h2⟩; refine ⟨?_, h2⟩; rfl
    simp only [Act.put, List.setIfInBounds_toArray, List.set_cons_zero, List.set_cons_succ]
    refine wpChain_det (by decide) (by decide) (by rfl) (fun cc W hlo hhi hI => ?_) ?_
    · go_simp; refine ⟨Below.refl _ _, ?_⟩; rfl
    simp only [Act.put, List.setIfInBounds_toArray, List.set_cons_zero, List.set_cons_succ]
    refine wpChain_writes (by decide) (by rfl) (fun W hI => ?_) ?_
    · have hI := (show TryDecAt S pT pN pR pO w.heap.size 58 w (TkSt.skip s) [.slice none 0 0, .int .i64 0, .int .i64 0, .int .i64 0, .int .i64 0, .int .u64 0, .int .i64 0, .int .i64 0] W from hI); have q1 := hI.x.cells; have q3 := hI.x.marks; have q2 := hI.x.lt; have h2 := hI.setX (i := 0) (v := cntV s) HP.out HPT.out HPN.out HSP.out (Nat.le_refl _); unfold cntV at h2 q1; go_simp; refine ⟨?_, h2⟩; rfl
    simp only [Act.put, List.setIfInBounds_toArray, List.set_cons_zero, List.set_cons_succ]
    refine wpChain_end fun W1 hI1 => ?_
    have HD1 := Lib.hid (show TryDecAt S pT pN pR pO w.heap.size 58 w s.skip [cntV s, .int .i64 0, .int .i64 0, .int .i64 0, .int .i64 0, .int .u64 0, .int .i64 0, .int .i64 0] W1 from hI1)
    clear hI1
    have e1 := E1.out
    have e2 := E2.out
    have e3 := E3.out
    go_wp2_with fail
    refine' wp_region_chain (fun c => TryDecAt S pT pN pR pO w.heap.size 58 w ([s.skip, (k2 s), (k3 s), (k4 s), (k4 s), (k4 s), (k4 s)].getD c s) ([[cntV s, .int .i64 0, .int .i64 0, .int .i64 0, .int .i64 0, .int .u64 0, .int .i64 0, .int .i64 0], [cntV s, .int .i64 0, .int .i64 0, .int .i64 0, .int .i64 0, .int .u64 0, .int .i64 0, .int .i64 0], [cntV s, .int .i64 0, .int .i64 0, .int .i64 0, .int .i64 0, .int .u64 0, .int .i64 0, .int .i64 0], [cntV s, .int .i64 0, .int .i64 0, .int .i64 0, .int .i64 0, .int .u64 0, .int .i64 0, .int .i64 0], [cntV s, .int .i64 (s.skip.num 4 : Nat), .int .i64 0, .int .i64 0, .int .i64 0, .int .u64 0, .int .i64 0, .int .i64 0], [cntV s, .int .i64 (s.skip.num 4 : Nat), .int .i64 ((k2 s).num 4 : Nat), .int .i64 0, .int .i64 0, .int .u64 0, .int .i64 0, .int .i64 0], [cntV s, .int .i64 (s.skip.num 4 : Nat), .int .i64 ((k2 s).num 4 : Nat), .int .i64 ((k3 s).num 4 : Nat), .int .i64 0, .int .u64 0, .int .i64 0, .int .i64 0]].getD c [])) [1, 4, 7, 10, 13, 16] [_, _, _, _, _, _, _, _, _, _, _, _, _, _, _, _, _] (by kernel_rfl) (by kernel_rfl) (fun c W W' h hb => h.ext hb) (HD1.out) ?main2
    case main2 =>
      refine wpChain_det (by decide) (by decide) (by rfl) (fun cc W hlo hhi hI => ?_) ?_
      · have q2 := hI.nm.cells; unfold TryNumV at q2; go_simp; refine ⟨Below.refl _ _, ?_⟩; rfl
      simp only [Act.put, List.setIfInBounds_toArray, List.set_cons_zero, List.set_cons_succ]
      refine wpChain_writes (by decide) (by rfl) (fun W hI => ?_) ?_
      · have hI := (show TryDecAt S pT pN pR pO w.heap.size 58 w s.skip [cntV s, .int .i64 0, .int .i64 0, .int .i64 0, .int .i64 0, .int .u64 0, .int .i64 0, .int .i64 0] W from hI); go_simp; refine (Try_num_4 hI HA.out HP.out).mono ?_; rintro e w' ⟨rfl, h2⟩; refine ⟨?_, h2⟩; rfl
      simp only [Act.put, List.setIfInBounds_toArray, List.set_cons_zero, List.set_cons_succ]
      refine wpChain_det (by decide) (by decide) (by rfl) (fun cc W hlo hhi hI => ?_) ?_
      · go_simp; refine ⟨Below.refl _ _, ?_⟩; rfl
      simp only [Act.put, List.setIfInBounds_toArray, List.set_cons_zero, List.set_cons_succ]
      refine wpChain_det (by decide) (by decide) (by rfl) (fun cc W hlo hhi hI => ?_) ?_
      · have q2 := hI.nm.cells; unfold TryNumV at q2; go_simp; refine ⟨Below.refl _ _, ?_⟩; rfl
      simp only [Act.put, List.setIfInBounds_toArray, List.set_cons_zero, List.set_cons_succ]
      refine wpChain_writes (by decide) (by rfl) (fun W hI => ?_) ?_
      · have hI := (show TryDecAt S pT pN pR pO w.heap.size 58 w (k2 s) [cntV s, .int .i64 0, .int .i64 0, .int .i64 0, .int .i64 0, .int .u64 0, .int .i64 0, .int .i64 0] W from hI); go_simp; refine (Try_num_4 hI HA.out HP.out).mono ?_; rintro e w' ⟨rfl, h2⟩; refine ⟨?_, h2⟩; rfl
      simp only [Act.put, List.setIfInBounds_toArray, List.set_cons_zero, List.set_cons_succ]
      refine wpChain_det (by decide) (by decide) (by rfl) (fun cc W hlo hhi hI => ?_) ?_
      · go_simp; refine ⟨Below.refl _ _, ?_⟩; rfl
      simp only [Act.put, List.setIfInBounds_toArray, List.set_cons_zero, List.set_cons_succ]
      refine wpChain_det (by decide) (by decide) (by rfl) (fun cc W hlo hhi hI => ?_) ?_
      · have q2 := hI.nm.cells; unfold TryNumV at q2; go_simp; refine ⟨Below.refl _ _, ?_⟩; rfl
      simp only [Act.put, List.setIfInBounds_toArray, List.set_cons_zero, List.set_cons_succ]
      refine wpChain_writes (by decide) (by rfl) (fun W hI => ?_) ?_
      · have hI := (show TryDecAt S pT pN pR pO w.heap.size 58 w (k3 s) [cntV s, .int .i64 0, .int .i64 0, .int .i64 0, .int .i64 0, .int .u64 0, .int .i64 0, .int .i64 0] W from hI); go_simp; refine (Try_num_4 hI HA.out HP.out).mono ?_; rintro e w' ⟨rfl, h2⟩; refine ⟨?_, h2⟩; rfl
      simp only [Act.put, List.setIfInBounds_toArray, List.set_cons_zero, List.set_cons_succ]
      refine wpChain_det (by decide) (by decide) (by rfl) (fun cc W hlo hhi hI => ?_) ?_
      · go_simp; refine ⟨Below.refl _ _, ?_⟩; rfl
      simp only [Act.put, List.setIfInBounds_toArray, List.set_cons_zero, List.set_cons_succ]
      refine wpChain_det (by decide) (by decide) (by rfl) (fun cc W hlo hhi hI => ?_) ?_
      · go_simp; refine ⟨Below.refl _ _, ?_⟩; rfl
      simp only [Act.put, List.setIfInBounds_toArray, List.set_cons_zero, List.set_cons_succ]
      refine wpChain_writes (by decide) (by rfl) (fun W hI => ?_) ?_
      · have hI := (show TryDecAt S pT pN pR pO w.heap.size 58 w (k4 s) [cntV s, .int .i64 0, .int .i64 0, .int .i64 0, .int .i64 0, .int .u64 0, .int .i64 0, .int .i64 0] W from hI); have q1 := hI.x.cells; have q3 := hI.x.marks; have q2 := hI.x.lt; have h2 := hI.setX (i := 1) (v := .int .i64 (s.skip.num 4 : Nat)) HP.out HPT.out HPN.out HSP.out (Nat.le_refl _); unfold cntV at h2 q1; go_simp; refine ⟨?_, h2⟩; rfl
      simp only [Act.put, List.setIfInBounds_toArray, List.set_cons_zero, List.set_cons_succ]
      refine wpChain_det (by decide) (by decide) (by rfl) (fun cc W hlo hhi hI => ?_) ?_
      · go_simp; refine ⟨Below.refl _ _, ?_⟩; rfl
      simp only [Act.put, List.setIfInBounds_toArray, List.set_cons_zero, List.set_cons_succ]
      refine wpChain_det (by decide) (by decide) (by rfl) (fun cc W hlo hhi hI => ?_) ?_
      · go_simp; refine ⟨Below.refl _ _, ?_⟩; rfl
      simp only [Act.put, List.setIfInBounds_toArray, List.set_cons_zero, List.set_cons_succ]
      refine wpChain_writes (by decide) (by rfl) (fun W hI => ?_) ?_
      · have hI := (show TryDecAt S pT pN pR pO w.heap.size 58 w (k4 s) [cntV s, .int .i64 (s.skip.num 4 : Nat), .int .i64 0, .int .i64 0, .int .i64 0, .int .u64 0, .int .i64 0, .int .i64 0] W from hI); have q1 := hI.x.cells; have q3 := hI.x.marks; have q2 := hI.x.lt; have h2 := hI.setX (i := 2) (v := .int .i64 ((k2 s).num 4 : Nat)) HP.out HPT.out HPN.out HSP.out (Nat.le_refl _); unfold cntV at h2 q1; go_simp; refine ⟨?_, h2⟩; rfl
      simp only [Act.put, List.setIfInBounds_toArray, List.set_cons_zero, List.set_cons_succ]
      refine wpChain_det (by decide) (by decide) (by rfl) (fun cc W hlo hhi hI => ?_) ?_
      · go_simp; refine ⟨Below.refl _ _, ?_⟩; rfl
      simp only [Act.put, List.setIfInBounds_toArray, List.set_cons_zero, List.set_cons_succ]
      refine wpChain_det (by decide) (by decide) (by rfl) (fun cc W hlo hhi hI => ?_) ?_
      · go_simp; refine ⟨Below.refl _ _, ?_⟩; rfl
      simp only [Act.put, List.setIfInBounds_toArray, List.set_cons_zero, List.set_cons_succ]
      refine wpChain_writes (by decide) (by rfl) (fun W hI => ?_) ?_
      · have hI := (show TryDecAt S pT pN pR pO w.heap.size 58 w (k4 s) [cntV s, .int .i64 (s.skip.num 4 : Nat), .int .i64 ((k2 s).num 4 : Nat), .int .i64 0, .int .i64 0, .int .u64 0, .int .i64 0, .int .i64 0] W from hI); have q1 := hI.x.cells; have q3 := hI.x.marks; have q2 := hI.x.lt; have h2 := hI.setX (i := 3) (v := .int .i64 ((k3 s).num 4 : Nat)) HP.out HPT.out HPN.out HSP.out (Nat.le_refl _); unfold cntV at h2 q1; go_simp; refine ⟨?_, h2⟩; rfl
      simp only [Act.put, List.setIfInBounds_toArray, List.set_cons_zero, List.set_cons_succ]
      refine wpChain_end fun W2 hI2 => ?_
      have HD2 := Lib.hid (show TryDecAt S pT pN pR pO w.heap.size 58 w (k4 s) [cntV s, .int .i64 (s.skip.num 4 : Nat), .int .i64 ((k2 s).num 4 : Nat), .int .i64 ((k3 s).num 4 : Nat), .int .i64 0, .int .u64 0, .int .i64 0, .int .i64 0] W2 from hI2)
      clear hI2 e1 e2 e3
      have e4 := E4.out ((k4 s).num 8 : Nat)
      go_wp2_with fail
      refine' wp_region_chain (fun c => TryDecAt S pT pN pR pO w.heap.size 58 w ([(k4 s), (k5 s), (k6 s), (k6 s), (k6 s)].getD c s) ([[cntV s, .int .i64 (s.skip.num 4 : Nat), .int .i64 ((k2 s).num 4 : Nat), .int .i64 ((k3 s).num 4 : Nat), .int .i64 0, .int .u64 0, .int .i64 0, .int .i64 0], [cntV s, .int .i64 (s.skip.num 4 : Nat), .int .i64 ((k2 s).num 4 : Nat), .int .i64 ((k3 s).num 4 : Nat), .int .i64 0, .int .u64 0, .int .i64 0, .int .i64 0], [cntV s, .int .i64 (s.skip.num 4 : Nat), .int .i64 ((k2 s).num 4 : Nat), .int .i64 ((k3 s).num 4 : Nat), .int .i64 0, .int .u64 0, .int .i64 0, .int .i64 0], [cntV s, .int .i64 (s.skip.num 4 : Nat), .int .i64 ((k2 s).num 4 : Nat), .int .i64 ((k3 s).num 4 : Nat), .int .i64 (wrap64 ((k4 s).num 8 : Nat)), .int .u64 0, .int .i64 0, .int .i64 0], [cntV s, .int .i64 (s.skip.num 4 : Nat), .int .i64 ((k2 s).num 4 : Nat), .int .i64 ((k3 s).num 4 : Nat), .int .i64 (wrap64 ((k4 s).num 8 : Nat)), .int .u64 ((k5 s).num 8 : Nat), .int .i64 0, .int .i64 0]].getD c [])) [1, 4, 7, 10] [_, _, _, _, _, _, _, _, _, _, _] (by kernel_rfl) (by kernel_rfl) (fun c W W' h hb => h.ext hb) (HD2.out) ?main3
      case main3 =>
        refine wpChain_det (by decide) (by decide) (by rfl) (fun cc W hlo hhi hI => ?_) ?_
        · have q2 := hI.nm.cells; unfold TryNumV at q2; go_simp; refine ⟨Below.refl _ _, ?_⟩; rfl
        simp only [Act.put, List.setIfInBounds_toArray, List.set_cons_zero, List.set_cons_succ]
        refine wpChain_writes (by decide) (by rfl) (fun W hI => ?_) ?_
        · have hI := (show TryDecAt S pT pN pR pO w.heap.size 58 w (k4 s) [cntV s, .int .i64 (s.skip.num 4 : Nat), .int .i64 ((k2 s).num 4 : Nat), .int .i64 ((k3 s).num 4 : Nat), .int .i64 0, .int .u64 0, .int .i64 0, .int .i64 0] W from hI); go_simp; refine (Try_num_8 hI HA.out HP.out).mono ?_; rintro e w' ⟨rfl, h2⟩; refine ⟨?_, h2⟩; rfl
        simp only [Act.put, List.setIfInBounds_toArray, List.set_cons_zero, List.set_cons_succ]
        refine wpChain_det (by decide) (by decide) (by rfl) (fun cc W hlo hhi hI => ?_) ?_
        · go_simp; refine ⟨Below.refl _ _, ?_⟩; rfl
        simp only [Act.put, List.setIfInBounds_toArray, List.set_cons_zero, List.set_cons_succ]
        refine wpChain_det (by decide) (by decide) (by rfl) (fun cc W hlo hhi hI => ?_) ?_
        · have q2 := hI.nm.cells; unfold TryNumV at q2; go_simp; refine ⟨Below.refl _ _, ?_⟩; rfl
        simp only [Act.put, List.setIfInBounds_toArray, List.set_cons_zero, List.set_cons_succ]
        refine wpChain_writes (by decide) (by rfl) (fun W hI => ?_) ?_
        · have hI := (show TryDecAt S pT pN pR pO w.heap.size 58 w (k5 s) [cntV s, .int .i64 (s.skip.num 4 : Nat), .int .i64 ((k2 s).num 4 : Nat), .int .i64 ((k3 s).num 4 : Nat), .int .i64 0, .int .u64 0, .int .i64 0, .int .i64 0] W from hI); go_simp; refine (Try_num_8 hI HA.out HP.out).mono ?_; rintro e w' ⟨rfl, h2⟩; refine ⟨?_, h2⟩; rfl
        simp only [Act.put, List.setIfInBounds_toArray, List.set_cons_zero, List.set_cons_succ]
        refine wpChain_det (by decide) (by decide) (by rfl) (fun cc W hlo hhi hI => ?_) ?_
        · go_simp; refine ⟨Below.refl _ _, ?_⟩; rfl
        simp only [Act.put, List.setIfInBounds_toArray, List.set_cons_zero, List.set_cons_succ]
        refine wpChain_det (by decide) (by decide) (by rfl) (fun cc W hlo hhi hI => ?_) ?_
        · go_simp; refine ⟨Below.refl _ _, ?_⟩; rfl
        simp only [Act.put, List.setIfInBounds_toArray, List.set_cons_zero, List.set_cons_succ]
        refine wpChain_writes (by decide) (by rfl) (fun W hI => ?_) ?_
        · have hI := (show TryDecAt S pT pN pR pO w.heap.size 58 w (k6 s) [cntV s, .int .i64 (s.skip.num 4 : Nat), .int .i64 ((k2 s).num 4 : Nat), .int .i64 ((k3 s).num 4 : Nat), .int .i64 0, .int .u64 0, .int .i64 0, .int .i64 0] W from hI); have q1 := hI.x.cells; have q3 := hI.x.marks; have q2 := hI.x.lt; have h2 := hI.setX (i := 4) (v := .int .i64 (wrap64 ((k4 s).num 8 : Nat))) HP.out HPT.out HPN.out HSP.out (Nat.le_refl _); unfold cntV at h2 q1; go_simp; refine ⟨?_, h2⟩; rfl
        simp only [Act.put, List.setIfInBounds_toArray, List.set_cons_zero, List.set_cons_succ]
        refine wpChain_det (by decide) (by decide) (by rfl) (fun cc W hlo hhi hI => ?_) ?_
        · go_simp; refine ⟨Below.refl _ _, ?_⟩; rfl
        simp only [Act.put, List.setIfInBounds_toArray, List.set_cons_zero, List.set_cons_succ]
        refine wpChain_det (by decide) (by decide) (by rfl) (fun cc W hlo hhi hI => ?_) ?_
        · go_simp; refine ⟨Below.refl _ _, ?_⟩; rfl
        simp only [Act.put, List.setIfInBounds_toArray, List.set_cons_zero, List.set_cons_succ]
        refine wpChain_writes (by decide) (by rfl) (fun W hI => ?_) ?_
        · have hI := (show TryDecAt S pT pN pR pO w.heap.size 58 w (k6 s) [cntV s, .int .i64 (s.skip.num 4 : Nat), .int .i64 ((k2 s).num 4 : Nat), .int .i64 ((k3 s).num 4 : Nat), .int .i64 (wrap64 ((k4 s).num 8 : Nat)), .int .u64 0, .int .i64 0, .int .i64 0] W from hI); have q1 := hI.x.cells; have q3 := hI.x.marks; have q2 := hI.x.lt; have h2 := hI.setX (i := 5) (v := .int .u64 ((k5 s).num 8 : Nat)) HP.out HPT.out HPN.out HSP.out (Nat.le_refl _); unfold cntV at h2 q1; go_simp; refine ⟨?_, h2⟩; rfl
        simp only [Act.put, List.setIfInBounds_toArray, List.set_cons_zero, List.set_cons_succ]
        refine wpChain_end fun W3 hI3 => ?_
        have HD3 := Lib.hid (show TryDecAt S pT pN pR pO w.heap.size 58 w (k6 s) [cntV s, .int .i64 (s.skip.num 4 : Nat), .int .i64 ((k2 s).num 4 : Nat), .int .i64 ((k3 s).num 4 : Nat), .int .i64 (wrap64 ((k4 s).num 8 : Nat)), .int .u64 ((k5 s).num 8 : Nat), .int .i64 0, .int .i64 0] W3 from hI3)
        clear hI3 e4
        have e6 := E4.out ((k6 s).num 8 : Nat)
        have e7 := E4.out ((k7 s).num 8 : Nat)
        go_wp2_with fail
        refine' wp_region_chain (fun c => TryDecAt S pT pN pR pO w.heap.size 58 w ([(k6 s), (k7 s), (rdKidS s), (rdKidS s), (rdKidS s)].getD c s) ([[cntV s, .int .i64 (s.skip.num 4 : Nat), .int .i64 ((k2 s).num 4 : Nat), .int .i64 ((k3 s).num 4 : Nat), .int .i64 (wrap64 ((k4 s).num 8 : Nat)), .int .u64 ((k5 s).num 8 : Nat), .int .i64 0, .int .i64 0], [cntV s, .int .i64 (s.skip.num 4 : Nat), .int .i64 ((k2 s).num 4 : Nat), .int .i64 ((k3 s).num 4 : Nat), .int .i64 (wrap64 ((k4 s).num 8 : Nat)), .int .u64 ((k5 s).num 8 : Nat), .int .i64 0, .int .i64 0], [cntV s, .int .i64 (s.skip.num 4 : Nat), .int .i64 ((k2 s).num 4 : Nat), .int .i64 ((k3 s).num 4 : Nat), .int .i64 (wrap64 ((k4 s).num 8 : Nat)), .int .u64 ((k5 s).num 8 : Nat), .int .i64 0, .int .i64 0], [cntV s, .int .i64 (s.skip.num 4 : Nat), .int .i64 ((k2 s).num 4 : Nat), .int .i64 ((k3 s).num 4 : Nat), .int .i64 (wrap64 ((k4 s).num 8 : Nat)), .int .u64 ((k5 s).num 8 : Nat), .int .i64 (wrap64 ((k6 s).num 8 : Nat)), .int .i64 0], [cntV s, .int .i64 (s.skip.num 4 : Nat), .int .i64 ((k2 s).num 4 : Nat), .int .i64 ((k3 s).num 4 : Nat), .int .i64 (wrap64 ((k4 s).num 8 : Nat)), .int .u64 ((k5 s).num 8 : Nat), .int .i64 (wrap64 ((k6 s).num 8 : Nat)), .int .i64 (wrap64 ((k7 s).num 8 : Nat))]].getD c [])) [1, 4, 8, 11] [_, _, _, _, _, _, _, _, _, _, _, _] (by kernel_rfl) (by kernel_rfl) (fun c W W' h hb => h.ext hb) (HD3.out) ?main4
        case main4 =>
          refine wpChain_det (by decide) (by decide) (by rfl) (fun cc W hlo hhi hI => ?_) ?_
          · have q2 := hI.nm.cells; unfold TryNumV at q2; go_simp; refine ⟨Below.refl _ _, ?_⟩; rfl
          simp only [Act.put, List.setIfInBounds_toArray, List.set_cons_zero, List.set_cons_succ]
          refine wpChain_writes (by decide) (by rfl) (fun W hI => ?_) ?_
          · have hI := (show TryDecAt S pT pN pR pO w.heap.size 58 w (k6 s) [cntV s, .int .i64 (s.skip.num 4 : Nat), .int .i64 ((k2 s).num 4 : Nat), .int .i64 ((k3 s).num 4 : Nat), .int .i64 (wrap64 ((k4 s).num 8 : Nat)), .int .u64 ((k5 s).num 8 : Nat), .int .i64 0, .int .i64 0] W from hI); go_simp; refine (Try_num_8 hI HA.out HP.out).mono ?_; rintro e w' ⟨rfl, h2⟩; refine ⟨?_, h2⟩; rfl
          simp only [Act.put, List.setIfInBounds_toArray, List.set_cons_zero, List.set_cons_succ]
          refine wpChain_det (by decide) (by decide) (by rfl) (fun cc W hlo hhi hI => ?_) ?_
          · go_simp; refine ⟨Below.refl _ _, ?_⟩; rfl
          simp only [Act.put, List.setIfInBounds_toArray, List.set_cons_zero, List.set_cons_succ]
          refine wpChain_det (by decide) (by decide) (by rfl) (fun cc W hlo hhi hI => ?_) ?_
          · have q2 := hI.nm.cells; unfold TryNumV at q2; go_simp; refine ⟨Below.refl _ _, ?_⟩; rfl
          simp only [Act.put, List.setIfInBounds_toArray, List.set_cons_zero, List.set_cons_succ]
          refine wpChain_writes (by decide) (by rfl) (fun W hI => ?_) ?_
          · have hI := (show TryDecAt S pT pN pR pO w.heap.size 58 w (k7 s) [cntV s, .int .i64 (s.skip.num 4 : Nat), .int .i64 ((k2 s).num 4 : Nat), .int .i64 ((k3 s).num 4 : Nat), .int .i64 (wrap64 ((k4 s).num 8 : Nat)), .int .u64 ((k5 s).num 8 : Nat), .int .i64 0, .int .i64 0] W from hI); go_simp; refine (Try_num_8 hI HA.out HP.out).mono ?_; rintro e w' ⟨rfl, h2⟩; refine ⟨?_, h2⟩; rfl
          simp only [Act.put, List.setIfInBounds_toArray, List.set_cons_zero, List.set_cons_succ]
          refine wpChain_det (by decide) (by decide) (by rfl) (fun cc W hlo hhi hI => ?_) ?_
          · go_simp; refine ⟨Below.refl _ _, ?_⟩; rfl
          simp only [Act.put, List.setIfInBounds_toArray, List.set_cons_zero, List.set_cons_succ]
          refine wpChain_det (by decide) (by decide) (by rfl) (fun cc W hlo hhi hI => ?_) ?_
          · go_simp; refine ⟨Below.refl _ _, ?_⟩; rfl
          simp only [Act.put, List.setIfInBounds_toArray, List.set_cons_zero, List.set_cons_succ]
          refine wpChain_det (by decide) (by decide) (by rfl) (fun cc W hlo hhi hI => ?_) ?_
          · go_simp; refine ⟨Below.refl _ _, ?_⟩; rfl
          simp only [Act.put, List.setIfInBounds_toArray, List.set_cons_zero, List.set_cons_succ]
          refine wpChain_writes (by decide) (by rfl) (fun W hI => ?_) ?_
          · have hI := (show TryDecAt S pT pN pR pO w.heap.size 58 w (rdKidS s) [cntV s, .int .i64 (s.skip.num 4 : Nat), .int .i64 ((k2 s).num 4 : Nat), .int .i64 ((k3 s).num 4 : Nat), .int .i64 (wrap64 ((k4 s).num 8 : Nat)), .int .u64 ((k5 s).num 8 : Nat), .int .i64 0, .int .i64 0] W from hI); have q1 := hI.x.cells; have q3 := hI.x.marks; have q2 := hI.x.lt; have h2 := hI.setX (i := 6) (v := .int .i64 (wrap64 ((k6 s).num 8 : Nat))) HP.out HPT.out HPN.out HSP.out (Nat.le_refl _); unfold cntV at h2 q1; go_simp; refine ⟨?_, h2⟩; rfl
          simp only [Act.put, List.setIfInBounds_toArray, List.set_cons_zero, List.set_cons_succ]
          refine wpChain_det (by decide) (by decide) (by rfl) (fun cc W hlo hhi hI => ?_) ?_
          · go_simp; refine ⟨Below.refl _ _, ?_⟩; rfl
          simp only [Act.put, List.setIfInBounds_toArray, List.set_cons_zero, List.set_cons_succ]
          refine wpChain_det (by decide) (by decide) (by rfl) (fun cc W hlo hhi hI => ?_) ?_
          · go_simp; refine ⟨Below.refl _ _, ?_⟩; rfl
          simp only [Act.put, List.setIfInBounds_toArray, List.set_cons_zero, List.set_cons_succ]
          refine wpChain_writes (by decide) (by rfl) (fun W hI => ?_) ?_
          · have hI := (show TryDecAt S pT pN pR pO w.heap.size 58 w (rdKidS s) [cntV s, .int .i64 (s.skip.num 4 : Nat), .int .i64 ((k2 s).num 4 : Nat), .int .i64 ((k3 s).num 4 : Nat), .int .i64 (wrap64 ((k4 s).num 8 : Nat)), .int .u64 ((k5 s).num 8 : Nat), .int .i64 (wrap64 ((k6 s).num 8 : Nat)), .int .i64 0] W from hI); have q1 := hI.x.cells; have q3 := hI.x.marks; have q2 := hI.x.lt; have h2 := hI.setX (i := 7) (v := .int .i64 (wrap64 ((k7 s).num 8 : Nat))) HP.out HPT.out HPN.out HSP.out (Nat.le_refl _); unfold cntV at h2 q1; go_simp; refine ⟨?_, h2⟩; rfl
          simp only [Act.put, List.setIfInBounds_toArray, List.set_cons_zero, List.set_cons_succ]
          refine wpChain_end fun W4 hI4 => ?_
          have HD4 := Lib.hid (show TryDecAt S pT pN pR pO w.heap.size 58 w (rdKidS s) [cntV s, .int .i64 (s.skip.num 4 : Nat), .int .i64 ((k2 s).num 4 : Nat), .int .i64 ((k3 s).num 4 : Nat), .int .i64 (wrap64 ((k4 s).num 8 : Nat)), .int .u64 ((k5 s).num 8 : Nat), .int .i64 (wrap64 ((k6 s).num 8 : Nat)), .int .i64 (wrap64 ((k7 s).num 8 : Nat))] W4 from hI4)
          clear hI4 e6 e7
          go_wp2_with fail
          refine' wp_region_chain (fun c => TryDecAt S pT pN pR pO w.heap.size 58 w (rdKidS s) [cntV s, .int .i64 (s.skip.num 4 : Nat), .int .i64 ((k2 s).num 4 : Nat), .int .i64 ((k3 s).num 4 : Nat), .int .i64 (wrap64 ((k4 s).num 8 : Nat)), .int .u64 ((k5 s).num 8 : Nat), .int .i64 (wrap64 ((k6 s).num 8 : Nat)), .int .i64 (wrap64 ((k7 s).num 8 : Nat))]) [2] [_, _, _, _] (by kernel_rfl) (by kernel_rfl) (fun c W W' h hb => h.ext hb) (HD4.out) ?main5
          case main5 =>
            refine wpChain_det (by decide) (by decide) (by rfl) (fun cc W hlo hhi hI => ?_) ?_
            · have q1 := hI.x.cells; unfold cntV at q1; go_simp; refine ⟨Below.refl _ _, ?_⟩; rfl
            simp only [Act.put, List.setIfInBounds_toArray, List.set_cons_zero, List.set_cons_succ]
            refine wpChain_det (by decide) (by decide) (by rfl) (fun cc W hlo hhi hI => ?_) ?_
            · have q1 := hI.st.hO.cells; go_simp; refine ⟨Below.refl _ _, ?_⟩; rfl
            simp only [Act.put, List.setIfInBounds_toArray, List.set_cons_zero, List.set_cons_succ]
            refine wpChain_writes (by decide) (by rfl) (fun W hI => ?_) ?_
            · have q1 := hI.x.cells; have q2 := hI.x.marks; have q3 := hI.x.lt; have h2 := ((((((((hI.setX (i := 0) (v := cntV s) HP.out HPT.out HPN.out HSP.out (Nat.le_refl _)).setX (i := 1) (v := .int .i64 (s.skip.num 4 : Nat)) HP.out HPT.out HPN.out HSP.out (Nat.le_refl _)).setX (i := 2) (v := .int .i64 ((k2 s).num 4 : Nat)) HP.out HPT.out HPN.out HSP.out (Nat.le_refl _)).setX (i := 3) (v := .int .i64 ((k3 s).num 4 : Nat)) HP.out HPT.out HPN.out HSP.out (Nat.le_refl _)).setX (i := 4) (v := .int .i64 (wrap64 ((k4 s).num 8 : Nat))) HP.out HPT.out HPN.out HSP.out (Nat.le_refl _)).setX (i := 5) (v := .int .u64 ((k5 s).num 8 : Nat)) HP.out HPT.out HPN.out HSP.out (Nat.le_refl _)).setX (i := 6) (v := .int .i64 (wrap64 ((k6 s).num 8 : Nat))) HP.out HPT.out HPN.out HSP.out (Nat.le_refl _)).setX (i := 7) (v := .int .i64 (wrap64 ((k7 s).num 8 : Nat))) HP.out HPT.out HPN.out HSP.out (Nat.le_refl _)); unfold cntV at h2 q1; go_simp; refine ⟨?_, h2⟩; rfl
            simp only [Act.put, List.setIfInBounds_toArray, List.set_cons_zero, List.set_cons_succ]
            refine wpChain_det (by decide) (by decide) (by rfl) (fun cc W hlo hhi hI => ?_) ?_
            · go_simp; refine ⟨Below.refl _ _, ?_⟩; rfl
            simp only [Act.put, List.setIfInBounds_toArray, List.set_cons_zero, List.set_cons_succ]
            refine wpChain_end fun W7 hI7 => ?_
            have HD7 := Lib.hid (show TryDecAt S pT pN pR pO w.heap.size 58 w (rdKidS s) [cntV s, .int .i64 (s.skip.num 4 : Nat), .int .i64 ((k2 s).num 4 : Nat), .int .i64 ((k3 s).num 4 : Nat), .int .i64 (wrap64 ((k4 s).num 8 : Nat)), .int .u64 ((k5 s).num 8 : Nat), .int .i64 (wrap64 ((k6 s).num 8 : Nat)), .int .i64 (wrap64 ((k7 s).num 8 : Nat))] W7 from hI7)
            have c7 := HD7.out.x.cells
            unfold cntV at c7
            clear hI7
            go_wp2
            refine bodyPost_ret (v := .tuple #[.agg #[cntV s, .int .i64 (s.skip.num 4 : Nat), .int .i64 ((k2 s).num 4 : Nat), .int .i64 ((k3 s).num 4 : Nat), .int .i64 (wrap64 ((k4 s).num 8 : Nat)), .int .u64 ((k5 s).num 8 : Nat), .int .i64 (wrap64 ((k6 s).num 8 : Nat)), .int .i64 (wrap64 ((k7 s).num 8 : Nat))], .bool (rdKidS s).ok]) (by simp [results, Try.results38, go_sem, c7, cntV]) rfl ⟨rfl, HD7.out.st, HD7.out.only⟩
end Go.Proofs.Ytfhhcpolicdfpaa
