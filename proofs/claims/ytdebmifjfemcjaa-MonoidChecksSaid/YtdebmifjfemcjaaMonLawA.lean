/-
  MonoidChecks, walked: the law answers true.
-/
import Derived.Test.YtdebmifjfemcjaaMonWakes
import Derived.Test.YtdebmifjfemcjaaMonRefC
namespace Go.Proofs.Ytdebmifjfemcjaa
set_option linter.unusedVariables false
set_option linter.unusedSimpArgs false
open Go.RowKit Go.Dav
attribute [local go_sem] Gives ite_val ite_val_true

set_option maxRecDepth 8000 in
set_option maxHeartbeats 8000000 in
theorem Try_MonoidChecks_ok_int (r : Red) (a1 a2 : Option Addr) (l1 c1 l2 c2 : Nat) (x : Int) (w : World) (hl : I64 r.l) (hm : I64 r.m) (hx : I64 x) (hok : r.ok = true) :
    Calls Try.prog 3 #[.agg #[.int .i64 r.c, .int .i64 r.n, .int .i64 (hi r.s), .int .u64 (lo r.s), .int .i64 r.l, .int .i64 r.m], .agg #[.slice a1 l1 c1, .slice a2 l2 c2, .bool true, .int .i64 x]] w fun e w' =>
      e = .returned (.bool true) ∧ Below w.heap.size w w' := by
  have er : redE r.ok = 0 := by rw [hok]; rfl
  have ch := fun w => Try_Check r w hl hm
  have rt := fun w => Try_Right r w hl hm
  rw [er] at ch
  rw [hok] at rt
  clear er hok
  have c1 := fun w => Try_Check ⟨1, 1, x, x, x⟩ w hx hx
  rw [show redE (Red.ok ⟨1, 1, x, x, x⟩) = 0 from by rw [one_ok]; rfl] at c1
  have CH := Lib.hid ch; clear ch
  have RT := Lib.hid rt; clear rt
  have C1 := Lib.hid c1; clear c1
  go_enter Try.func3, Try.ntmps3
  go_wp2_with fail
  refine (Try_wakes _).mono ?_; rintro e w1 ⟨rfl, hb1⟩; obtain ⟨hc1, hf1, hs1⟩ := after hb1
  simp at hs1
  have lt_w1_0_0 : w.heap.size < w1.heap.size := by omega
  have lt_w1_0_1 : w.heap.size < w1.heap.size + 1 := by omega
  have lt_w1_1_0 : w.heap.size + 1 < w1.heap.size := by omega
  have lt_w1_1_1 : w.heap.size + 1 < w1.heap.size + 1 := by omega
  go_wp2_with fail
  refine' wp_region_seq [.inl _, .inl _, .inl _, .inl _, .inl _, .inl _, .inl _, .inl _, .inl _, .inl _, .inl _, .inl undef, .inl undef, .inl undef, .inl _, .inl _, .inl _, .inl _, .inl _, .inl _, .inl _, .inl _, .inl _, .inl _, .inl _, .inl _, .inl _, .inl _, .inl _, .inl _] (by kernel_rfl) (by kernel_rfl) ?main
  case main =>
    refine wpParts_det (by rfl) (fun W hE hN => ?_) ?_
    · have hc := fun b o h => hE.cell (p := ⟨b, o, none⟩) h
      go_simp; refine ⟨Below.refl _ _, ?_⟩; rfl
    simp only [Act.put, List.setIfInBounds_toArray, List.set_cons_zero, List.set_cons_succ]
    refine wpParts_det (by rfl) (fun W hE hN => ?_) ?_
    · go_simp; refine ⟨Below.refl _ _, ?_⟩; refine (CH.out _).mono ?_; rintro e w' ⟨rfl, hb⟩; refine ⟨?_, hb⟩; rfl
    simp only [Act.put, List.setIfInBounds_toArray, List.set_cons_zero, List.set_cons_succ]
    refine wpParts_det (by rfl) (fun W hE hN => ?_) ?_
    · go_simp; refine ⟨Below.refl _ _, ?_⟩; rfl
    simp only [Act.put, List.setIfInBounds_toArray, List.set_cons_zero, List.set_cons_succ]
    refine wpParts_det (by rfl) (fun W hE hN => ?_) ?_
    · have hc := fun b o h => hE.cell (p := ⟨b, o, none⟩) h
      go_simp; refine ⟨Below.refl _ _, ?_⟩; rfl
    simp only [Act.put, List.setIfInBounds_toArray, List.set_cons_zero, List.set_cons_succ]
    refine wpParts_det (by rfl) (fun W hE hN => ?_) ?_
    · go_simp; refine ⟨Below.refl _ _, ?_⟩; refine (RT.out _).mono ?_; rintro e w' ⟨rfl, hb⟩; refine ⟨?_, hb⟩; rfl
    simp only [Act.put, List.setIfInBounds_toArray, List.set_cons_zero, List.set_cons_succ]
    refine wpParts_det (by rfl) (fun W hE hN => ?_) ?_
    · go_simp; refine ⟨Below.refl _ _, ?_⟩; rfl
    simp only [Act.put, List.setIfInBounds_toArray, List.set_cons_zero, List.set_cons_succ]
    refine wpParts_det (by rfl) (fun W hE hN => ?_) ?_
    · go_simp; refine ⟨Below.refl _ _, ?_⟩; rfl
    simp only [Act.put, List.setIfInBounds_toArray, List.set_cons_zero, List.set_cons_succ]
    refine wpParts_det (by rfl) (fun W hE hN => ?_) ?_
    · have hc := fun b o h => hE.cell (p := ⟨b, o, none⟩) h
      go_simp; refine ⟨Below.refl _ _, ?_⟩; rfl
    simp only [Act.put, List.setIfInBounds_toArray, List.set_cons_zero, List.set_cons_succ]
    refine wpParts_det (by rfl) (fun W hE hN => ?_) ?_
    · go_simp; refine ⟨Below.refl _ _, ?_⟩; refine (CH.out _).mono ?_; rintro e w' ⟨rfl, hb⟩; refine ⟨?_, hb⟩; rfl
    simp only [Act.put, List.setIfInBounds_toArray, List.set_cons_zero, List.set_cons_succ]
    refine wpParts_det (by rfl) (fun W hE hN => ?_) ?_
    · go_simp; refine ⟨Below.refl _ _, ?_⟩; rfl
    simp only [Act.put, List.setIfInBounds_toArray, List.set_cons_zero, List.set_cons_succ]
    refine wpParts_det (by rfl) (fun W hE hN => ?_) ?_
    · go_simp; refine ⟨Below.refl _ _, ?_⟩; rfl
    simp only [Act.put, List.setIfInBounds_toArray, List.set_cons_zero, List.set_cons_succ]
    refine wpParts_skip ?_ ?_
    · rfl
    simp only [Act.put, List.setIfInBounds_toArray, List.set_cons_zero, List.set_cons_succ]
    refine wpParts_skip ?_ ?_
    · rfl
    simp only [Act.put, List.setIfInBounds_toArray, List.set_cons_zero, List.set_cons_succ]
    refine wpParts_skip ?_ ?_
    · rfl
    simp only [Act.put, List.setIfInBounds_toArray, List.set_cons_zero, List.set_cons_succ]
    refine wpParts_det (by rfl) (fun W hE hN => ?_) ?_
    · go_simp; refine ⟨Below.refl _ _, ?_⟩; rfl
    simp only [Act.put, List.setIfInBounds_toArray, List.set_cons_zero, List.set_cons_succ]
    refine wpParts_det (by rfl) (fun W hE hN => ?_) ?_
    · go_simp; refine ⟨Below.refl _ _, ?_⟩; rfl
    simp only [Act.put, List.setIfInBounds_toArray, List.set_cons_zero, List.set_cons_succ]
    refine wpParts_det (by rfl) (fun W hE hN => ?_) ?_
    · go_simp; refine ⟨Below.refl _ _, ?_⟩; rfl
    simp only [Act.put, List.setIfInBounds_toArray, List.set_cons_zero, List.set_cons_succ]
    refine wpParts_det (by rfl) (fun W hE hN => ?_) ?_
    · have hc := fun b o h => hE.cell (p := ⟨b, o, none⟩) h
      go_simp; refine ⟨Below.refl _ _, ?_⟩; rfl
    simp only [Act.put, List.setIfInBounds_toArray, List.set_cons_zero, List.set_cons_succ]
    refine wpParts_det (by rfl) (fun W hE hN => ?_) ?_
    · go_simp; refine ⟨Below.refl _ _, ?_⟩; refine (Try_One_yes _ _ _ _ hx).mono ?_; rintro e w' ⟨rfl, hb⟩; refine ⟨?_, hb⟩; rfl
    simp only [Act.put, List.setIfInBounds_toArray, List.set_cons_zero, List.set_cons_succ]
    refine wpParts_det (by rfl) (fun W hE hN => ?_) ?_
    · have hc := fun b o h => hE.cell (p := ⟨b, o, none⟩) h
      go_simp; refine ⟨Below.refl _ _, ?_⟩; rfl
    simp only [Act.put, List.setIfInBounds_toArray, List.set_cons_zero, List.set_cons_succ]
    refine wpParts_det (by rfl) (fun W hE hN => ?_) ?_
    · go_simp; refine ⟨Below.refl _ _, ?_⟩; refine (Try_rOne_yes _ _ _ _ hx).mono ?_; rintro e w' ⟨rfl, hb⟩; refine ⟨?_, hb⟩; rfl
    simp only [Act.put, List.setIfInBounds_toArray, List.set_cons_zero, List.set_cons_succ]
    refine wpParts_det (by rfl) (fun W hE hN => ?_) ?_
    · go_simp; refine ⟨Below.refl _ _, ?_⟩; rfl
    simp only [Act.put, List.setIfInBounds_toArray, List.set_cons_zero, List.set_cons_succ]
    refine wpParts_det (by rfl) (fun W hE hN => ?_) ?_
    · go_simp; refine ⟨Below.refl _ _, ?_⟩; rfl
    simp only [Act.put, List.setIfInBounds_toArray, List.set_cons_zero, List.set_cons_succ]
    refine wpParts_det (by rfl) (fun W hE hN => ?_) ?_
    · go_simp; refine ⟨Below.refl _ _, ?_⟩; rfl
    simp only [Act.put, List.setIfInBounds_toArray, List.set_cons_zero, List.set_cons_succ]
    refine wpParts_det (by rfl) (fun W hE hN => ?_) ?_
    · have hc := fun b o h => hE.cell (p := ⟨b, o, none⟩) h
      go_simp; refine ⟨Below.refl _ _, ?_⟩; rfl
    simp only [Act.put, List.setIfInBounds_toArray, List.set_cons_zero, List.set_cons_succ]
    refine wpParts_det (by rfl) (fun W hE hN => ?_) ?_
    · go_simp; refine ⟨Below.refl _ _, ?_⟩; refine (Try_One_yes _ _ _ _ hx).mono ?_; rintro e w' ⟨rfl, hb⟩; refine ⟨?_, hb⟩; rfl
    simp only [Act.put, List.setIfInBounds_toArray, List.set_cons_zero, List.set_cons_succ]
    refine wpParts_det (by rfl) (fun W hE hN => ?_) ?_
    · go_simp; refine ⟨Below.refl _ _, ?_⟩; refine (C1.out _).mono ?_; rintro e w' ⟨rfl, hb⟩; refine ⟨?_, hb⟩; rfl
    simp only [Act.put, List.setIfInBounds_toArray, List.set_cons_zero, List.set_cons_succ]
    refine wpParts_det (by rfl) (fun W hE hN => ?_) ?_
    · go_simp; refine ⟨Below.refl _ _, ?_⟩; rfl
    simp only [Act.put, List.setIfInBounds_toArray, List.set_cons_zero, List.set_cons_succ]
    refine wpParts_det (by rfl) (fun W hE hN => ?_) ?_
    · go_simp; refine ⟨Below.refl _ _, ?_⟩; rfl
    simp only [Act.put, List.setIfInBounds_toArray, List.set_cons_zero, List.set_cons_succ]
    refine wpParts_det (by rfl) (fun W hE hN => ?_) ?_
    · go_simp; refine ⟨Below.refl _ _, ?_⟩; rfl
    simp only [Act.put, List.setIfInBounds_toArray, List.set_cons_zero, List.set_cons_succ]
    refine wpParts_end fun W2 hE2 hG2 => ?_
    have hcW2 := fun b o h => hE2.cell (p := ⟨b, o, none⟩) h
    have hfW2 := fun b o h => hE2.frozen (p := ⟨b, o, none⟩) h
    go_wp2
    go_ret
    exact ⟨rfl, (by repeat (first | (with_reducible exact Below.refl _ _) | (with_reducible exact Below.refl _ _) | (with_reducible refine Below.setCell ?_ (by first | omega | (simp; done) | (simp; omega)) _) | (with_reducible refine Below.alloc ?_ (by first | omega | (simp; done) | (simp; omega)) _) | (with_reducible refine Below.drew ?_) | (with_reducible refine Below.trans ?_ (hE2.mono (by first | omega | (simp; done) | (simp; omega)))) | (with_reducible refine Below.trans ?_ (hb1.mono (by first | omega | (simp; done) | (simp; omega))))))⟩

set_option maxRecDepth 8000 in
set_option maxHeartbeats 8000000 in
theorem Try_MonoidChecks_ok_none (r : Red) (a1 a2 : Option Addr) (l1 c1 l2 c2 : Nat) (x : Int) (w : World) (hl : I64 r.l) (hm : I64 r.m) (hx : I64 x) (hok : r.ok = true) :
    Calls Try.prog 3 #[.agg #[.int .i64 r.c, .int .i64 r.n, .int .i64 (hi r.s), .int .u64 (lo r.s), .int .i64 r.l, .int .i64 r.m], .agg #[.slice a1 l1 c1, .slice a2 l2 c2, .bool false, .int .i64 x]] w fun e w' =>
      e = .returned (.bool true) ∧ Below w.heap.size w w' := by
  have er : redE r.ok = 0 := by rw [hok]; rfl
  have ch := fun w => Try_Check r w hl hm
  have rt := fun w => Try_Right r w hl hm
  rw [er] at ch
  rw [hok] at rt
  clear er hok
  have c1 := fun w => Try_Check ⟨1, 0, 0, 0, 0⟩ w (by simp [I64]) (by simp [I64])
  rw [show redE (Red.ok ⟨1, 0, 0, 0, 0⟩) = 0 from by decide +kernel] at c1
  have CH := Lib.hid ch; clear ch
  have RT := Lib.hid rt; clear rt
  have C1 := Lib.hid c1; clear c1
  go_enter Try.func3, Try.ntmps3
  go_wp2_with fail
  refine (Try_wakes _).mono ?_; rintro e w1 ⟨rfl, hb1⟩; obtain ⟨hc1, hf1, hs1⟩ := after hb1
  simp at hs1
  have lt_w1_0_0 : w.heap.size < w1.heap.size := by omega
  have lt_w1_0_1 : w.heap.size < w1.heap.size + 1 := by omega
  have lt_w1_1_0 : w.heap.size + 1 < w1.heap.size := by omega
  have lt_w1_1_1 : w.heap.size + 1 < w1.heap.size + 1 := by omega
  go_wp2_with fail
  refine' wp_region_seq [.inl _, .inl _, .inl _, .inl _, .inl _, .inl _, .inl _, .inl _, .inl _, .inl _, .inl _, .inl undef, .inl undef, .inl undef, .inl _, .inl _, .inl _, .inl _, .inl _, .inl _, .inl _, .inl _, .inl _, .inl _, .inl _, .inl _, .inl _, .inl _, .inl _, .inl _] (by kernel_rfl) (by kernel_rfl) ?main
  case main =>
    refine wpParts_det (by rfl) (fun W hE hN => ?_) ?_
    · have hc := fun b o h => hE.cell (p := ⟨b, o, none⟩) h
      go_simp; refine ⟨Below.refl _ _, ?_⟩; rfl
    simp only [Act.put, List.setIfInBounds_toArray, List.set_cons_zero, List.set_cons_succ]
    refine wpParts_det (by rfl) (fun W hE hN => ?_) ?_
    · go_simp; refine ⟨Below.refl _ _, ?_⟩; refine (CH.out _).mono ?_; rintro e w' ⟨rfl, hb⟩; refine ⟨?_, hb⟩; rfl
    simp only [Act.put, List.setIfInBounds_toArray, List.set_cons_zero, List.set_cons_succ]
    refine wpParts_det (by rfl) (fun W hE hN => ?_) ?_
    · go_simp; refine ⟨Below.refl _ _, ?_⟩; rfl
    simp only [Act.put, List.setIfInBounds_toArray, List.set_cons_zero, List.set_cons_succ]
    refine wpParts_det (by rfl) (fun W hE hN => ?_) ?_
    · have hc := fun b o h => hE.cell (p := ⟨b, o, none⟩) h
      go_simp; refine ⟨Below.refl _ _, ?_⟩; rfl
    simp only [Act.put, List.setIfInBounds_toArray, List.set_cons_zero, List.set_cons_succ]
    refine wpParts_det (by rfl) (fun W hE hN => ?_) ?_
    · go_simp; refine ⟨Below.refl _ _, ?_⟩; refine (RT.out _).mono ?_; rintro e w' ⟨rfl, hb⟩; refine ⟨?_, hb⟩; rfl
    simp only [Act.put, List.setIfInBounds_toArray, List.set_cons_zero, List.set_cons_succ]
    refine wpParts_det (by rfl) (fun W hE hN => ?_) ?_
    · go_simp; refine ⟨Below.refl _ _, ?_⟩; rfl
    simp only [Act.put, List.setIfInBounds_toArray, List.set_cons_zero, List.set_cons_succ]
    refine wpParts_det (by rfl) (fun W hE hN => ?_) ?_
    · go_simp; refine ⟨Below.refl _ _, ?_⟩; rfl
    simp only [Act.put, List.setIfInBounds_toArray, List.set_cons_zero, List.set_cons_succ]
    refine wpParts_det (by rfl) (fun W hE hN => ?_) ?_
    · have hc := fun b o h => hE.cell (p := ⟨b, o, none⟩) h
      go_simp; refine ⟨Below.refl _ _, ?_⟩; rfl
    simp only [Act.put, List.setIfInBounds_toArray, List.set_cons_zero, List.set_cons_succ]
    refine wpParts_det (by rfl) (fun W hE hN => ?_) ?_
    · go_simp; refine ⟨Below.refl _ _, ?_⟩; refine (CH.out _).mono ?_; rintro e w' ⟨rfl, hb⟩; refine ⟨?_, hb⟩; rfl
    simp only [Act.put, List.setIfInBounds_toArray, List.set_cons_zero, List.set_cons_succ]
    refine wpParts_det (by rfl) (fun W hE hN => ?_) ?_
    · go_simp; refine ⟨Below.refl _ _, ?_⟩; rfl
    simp only [Act.put, List.setIfInBounds_toArray, List.set_cons_zero, List.set_cons_succ]
    refine wpParts_det (by rfl) (fun W hE hN => ?_) ?_
    · go_simp; refine ⟨Below.refl _ _, ?_⟩; rfl
    simp only [Act.put, List.setIfInBounds_toArray, List.set_cons_zero, List.set_cons_succ]
    refine wpParts_skip ?_ ?_
    · rfl
    simp only [Act.put, List.setIfInBounds_toArray, List.set_cons_zero, List.set_cons_succ]
    refine wpParts_skip ?_ ?_
    · rfl
    simp only [Act.put, List.setIfInBounds_toArray, List.set_cons_zero, List.set_cons_succ]
    refine wpParts_skip ?_ ?_
    · rfl
    simp only [Act.put, List.setIfInBounds_toArray, List.set_cons_zero, List.set_cons_succ]
    refine wpParts_det (by rfl) (fun W hE hN => ?_) ?_
    · go_simp; refine ⟨Below.refl _ _, ?_⟩; rfl
    simp only [Act.put, List.setIfInBounds_toArray, List.set_cons_zero, List.set_cons_succ]
    refine wpParts_det (by rfl) (fun W hE hN => ?_) ?_
    · go_simp; refine ⟨Below.refl _ _, ?_⟩; rfl
    simp only [Act.put, List.setIfInBounds_toArray, List.set_cons_zero, List.set_cons_succ]
    refine wpParts_det (by rfl) (fun W hE hN => ?_) ?_
    · go_simp; refine ⟨Below.refl _ _, ?_⟩; rfl
    simp only [Act.put, List.setIfInBounds_toArray, List.set_cons_zero, List.set_cons_succ]
    refine wpParts_det (by rfl) (fun W hE hN => ?_) ?_
    · have hc := fun b o h => hE.cell (p := ⟨b, o, none⟩) h
      go_simp; refine ⟨Below.refl _ _, ?_⟩; rfl
    simp only [Act.put, List.setIfInBounds_toArray, List.set_cons_zero, List.set_cons_succ]
    refine wpParts_det (by rfl) (fun W hE hN => ?_) ?_
    · go_simp; refine ⟨Below.refl _ _, ?_⟩; refine (Try_One_no _ _ _ _ rfl rfl).mono ?_; rintro e w' ⟨rfl, hb⟩; refine ⟨?_, hb⟩; rfl
    simp only [Act.put, List.setIfInBounds_toArray, List.set_cons_zero, List.set_cons_succ]
    refine wpParts_det (by rfl) (fun W hE hN => ?_) ?_
    · have hc := fun b o h => hE.cell (p := ⟨b, o, none⟩) h
      go_simp; refine ⟨Below.refl _ _, ?_⟩; rfl
    simp only [Act.put, List.setIfInBounds_toArray, List.set_cons_zero, List.set_cons_succ]
    refine wpParts_det (by rfl) (fun W hE hN => ?_) ?_
    · go_simp; refine ⟨Below.refl _ _, ?_⟩; refine (Try_rOne_no _ _ _ _).mono ?_; rintro e w' ⟨rfl, hb⟩; refine ⟨?_, hb⟩; rfl
    simp only [Act.put, List.setIfInBounds_toArray, List.set_cons_zero, List.set_cons_succ]
    refine wpParts_det (by rfl) (fun W hE hN => ?_) ?_
    · go_simp; refine ⟨Below.refl _ _, ?_⟩; rfl
    simp only [Act.put, List.setIfInBounds_toArray, List.set_cons_zero, List.set_cons_succ]
    refine wpParts_det (by rfl) (fun W hE hN => ?_) ?_
    · go_simp; refine ⟨Below.refl _ _, ?_⟩; rfl
    simp only [Act.put, List.setIfInBounds_toArray, List.set_cons_zero, List.set_cons_succ]
    refine wpParts_det (by rfl) (fun W hE hN => ?_) ?_
    · go_simp; refine ⟨Below.refl _ _, ?_⟩; rfl
    simp only [Act.put, List.setIfInBounds_toArray, List.set_cons_zero, List.set_cons_succ]
    refine wpParts_det (by rfl) (fun W hE hN => ?_) ?_
    · have hc := fun b o h => hE.cell (p := ⟨b, o, none⟩) h
      go_simp; refine ⟨Below.refl _ _, ?_⟩; rfl
    simp only [Act.put, List.setIfInBounds_toArray, List.set_cons_zero, List.set_cons_succ]
    refine wpParts_det (by rfl) (fun W hE hN => ?_) ?_
    · go_simp; refine ⟨Below.refl _ _, ?_⟩; refine (Try_One_no _ _ _ _ rfl rfl).mono ?_; rintro e w' ⟨rfl, hb⟩; refine ⟨?_, hb⟩; rfl
    simp only [Act.put, List.setIfInBounds_toArray, List.set_cons_zero, List.set_cons_succ]
    refine wpParts_det (by rfl) (fun W hE hN => ?_) ?_
    · go_simp; refine ⟨Below.refl _ _, ?_⟩; refine (C1.out _).mono ?_; rintro e w' ⟨rfl, hb⟩; refine ⟨?_, hb⟩; rfl
    simp only [Act.put, List.setIfInBounds_toArray, List.set_cons_zero, List.set_cons_succ]
    refine wpParts_det (by rfl) (fun W hE hN => ?_) ?_
    · go_simp; refine ⟨Below.refl _ _, ?_⟩; rfl
    simp only [Act.put, List.setIfInBounds_toArray, List.set_cons_zero, List.set_cons_succ]
    refine wpParts_det (by rfl) (fun W hE hN => ?_) ?_
    · go_simp; refine ⟨Below.refl _ _, ?_⟩; rfl
    simp only [Act.put, List.setIfInBounds_toArray, List.set_cons_zero, List.set_cons_succ]
    refine wpParts_det (by rfl) (fun W hE hN => ?_) ?_
    · go_simp; refine ⟨Below.refl _ _, ?_⟩; rfl
    simp only [Act.put, List.setIfInBounds_toArray, List.set_cons_zero, List.set_cons_succ]
    refine wpParts_end fun W2 hE2 hG2 => ?_
    have hcW2 := fun b o h => hE2.cell (p := ⟨b, o, none⟩) h
    have hfW2 := fun b o h => hE2.frozen (p := ⟨b, o, none⟩) h
    go_wp2
    go_ret
    exact ⟨rfl, (by repeat (first | (with_reducible exact Below.refl _ _) | (with_reducible exact Below.refl _ _) | (with_reducible refine Below.setCell ?_ (by first | omega | (simp; done) | (simp; omega)) _) | (with_reducible refine Below.alloc ?_ (by first | omega | (simp; done) | (simp; omega)) _) | (with_reducible refine Below.drew ?_) | (with_reducible refine Below.trans ?_ (hE2.mono (by first | omega | (simp; done) | (simp; omega)))) | (with_reducible refine Below.trans ?_ (hb1.mono (by first | omega | (simp; done) | (simp; omega))))))⟩

set_option maxRecDepth 8000 in
set_option maxHeartbeats 8000000 in
theorem Try_MonoidChecks_no_int (r : Red) (a1 a2 : Option Addr) (l1 c1 l2 c2 : Nat) (x : Int) (w : World) (hl : I64 r.l) (hm : I64 r.m) (hx : I64 x) (hok : r.ok = false) :
    Calls Try.prog 3 #[.agg #[.int .i64 r.c, .int .i64 r.n, .int .i64 (hi r.s), .int .u64 (lo r.s), .int .i64 r.l, .int .i64 r.m], .agg #[.slice a1 l1 c1, .slice a2 l2 c2, .bool true, .int .i64 x]] w fun e w' =>
      e = .returned (.bool true) ∧ Below w.heap.size w w' := by
  have er : redE r.ok = 230 := by rw [hok]; rfl
  have ch := fun w => Try_Check r w hl hm
  have rt := fun w => Try_Right r w hl hm
  rw [er] at ch
  rw [hok] at rt
  clear er hok
  have c1 := fun w => Try_Check ⟨1, 1, x, x, x⟩ w hx hx
  rw [show redE (Red.ok ⟨1, 1, x, x, x⟩) = 0 from by rw [one_ok]; rfl] at c1
  have CH := Lib.hid ch; clear ch
  have RT := Lib.hid rt; clear rt
  have C1 := Lib.hid c1; clear c1
  go_enter Try.func3, Try.ntmps3
  go_wp2_with fail
  refine (Try_wakes _).mono ?_; rintro e w1 ⟨rfl, hb1⟩; obtain ⟨hc1, hf1, hs1⟩ := after hb1
  simp at hs1
  have lt_w1_0_0 : w.heap.size < w1.heap.size := by omega
  have lt_w1_0_1 : w.heap.size < w1.heap.size + 1 := by omega
  have lt_w1_1_0 : w.heap.size + 1 < w1.heap.size := by omega
  have lt_w1_1_1 : w.heap.size + 1 < w1.heap.size + 1 := by omega
  go_wp2_with fail
  refine' wp_region_seq [.inl _, .inl _, .inl _, .inl _, .inl _, .inl _, .inl _, .inl _, .inl _, .inl _, .inl _, .inl _, .inl _, .inl _, .inl _, .inl _, .inl _, .inl _, .inl _, .inl _, .inl _, .inl _, .inl _, .inl _, .inl _, .inl _, .inl _, .inl _, .inl _, .inl _] (by kernel_rfl) (by kernel_rfl) ?main
  case main =>
    refine wpParts_det (by rfl) (fun W hE hN => ?_) ?_
    · have hc := fun b o h => hE.cell (p := ⟨b, o, none⟩) h
      go_simp; refine ⟨Below.refl _ _, ?_⟩; rfl
    simp only [Act.put, List.setIfInBounds_toArray, List.set_cons_zero, List.set_cons_succ]
    refine wpParts_det (by rfl) (fun W hE hN => ?_) ?_
    · go_simp; refine ⟨Below.refl _ _, ?_⟩; refine (CH.out _).mono ?_; rintro e w' ⟨rfl, hb⟩; refine ⟨?_, hb⟩; rfl
    simp only [Act.put, List.setIfInBounds_toArray, List.set_cons_zero, List.set_cons_succ]
    refine wpParts_det (by rfl) (fun W hE hN => ?_) ?_
    · go_simp; refine ⟨Below.refl _ _, ?_⟩; rfl
    simp only [Act.put, List.setIfInBounds_toArray, List.set_cons_zero, List.set_cons_succ]
    refine wpParts_det (by rfl) (fun W hE hN => ?_) ?_
    · have hc := fun b o h => hE.cell (p := ⟨b, o, none⟩) h
      go_simp; refine ⟨Below.refl _ _, ?_⟩; rfl
    simp only [Act.put, List.setIfInBounds_toArray, List.set_cons_zero, List.set_cons_succ]
    refine wpParts_det (by rfl) (fun W hE hN => ?_) ?_
    · go_simp; refine ⟨Below.refl _ _, ?_⟩; refine (RT.out _).mono ?_; rintro e w' ⟨rfl, hb⟩; refine ⟨?_, hb⟩; rfl
    simp only [Act.put, List.setIfInBounds_toArray, List.set_cons_zero, List.set_cons_succ]
    refine wpParts_det (by rfl) (fun W hE hN => ?_) ?_
    · go_simp; refine ⟨Below.refl _ _, ?_⟩; rfl
    simp only [Act.put, List.setIfInBounds_toArray, List.set_cons_zero, List.set_cons_succ]
    refine wpParts_det (by rfl) (fun W hE hN => ?_) ?_
    · go_simp; refine ⟨Below.refl _ _, ?_⟩; rfl
    simp only [Act.put, List.setIfInBounds_toArray, List.set_cons_zero, List.set_cons_succ]
    refine wpParts_det (by rfl) (fun W hE hN => ?_) ?_
    · have hc := fun b o h => hE.cell (p := ⟨b, o, none⟩) h
      go_simp; refine ⟨Below.refl _ _, ?_⟩; rfl
    simp only [Act.put, List.setIfInBounds_toArray, List.set_cons_zero, List.set_cons_succ]
    refine wpParts_det (by rfl) (fun W hE hN => ?_) ?_
    · go_simp; refine ⟨Below.refl _ _, ?_⟩; refine (CH.out _).mono ?_; rintro e w' ⟨rfl, hb⟩; refine ⟨?_, hb⟩; rfl
    simp only [Act.put, List.setIfInBounds_toArray, List.set_cons_zero, List.set_cons_succ]
    refine wpParts_det (by rfl) (fun W hE hN => ?_) ?_
    · go_simp; refine ⟨Below.refl _ _, ?_⟩; rfl
    simp only [Act.put, List.setIfInBounds_toArray, List.set_cons_zero, List.set_cons_succ]
    refine wpParts_det (by rfl) (fun W hE hN => ?_) ?_
    · go_simp; refine ⟨Below.refl _ _, ?_⟩; rfl
    simp only [Act.put, List.setIfInBounds_toArray, List.set_cons_zero, List.set_cons_succ]
    refine wpParts_det (by rfl) (fun W hE hN => ?_) ?_
    · have hc := fun b o h => hE.cell (p := ⟨b, o, none⟩) h
      go_simp; refine ⟨Below.refl _ _, ?_⟩; rfl
    simp only [Act.put, List.setIfInBounds_toArray, List.set_cons_zero, List.set_cons_succ]
    refine wpParts_det (by rfl) (fun W hE hN => ?_) ?_
    · go_simp; refine ⟨Below.refl _ _, ?_⟩; refine (CH.out _).mono ?_; rintro e w' ⟨rfl, hb⟩; refine ⟨?_, hb⟩; rfl
    simp only [Act.put, List.setIfInBounds_toArray, List.set_cons_zero, List.set_cons_succ]
    refine wpParts_det (by rfl) (fun W hE hN => ?_) ?_
    · go_simp; refine ⟨Below.refl _ _, ?_⟩; rfl
    simp only [Act.put, List.setIfInBounds_toArray, List.set_cons_zero, List.set_cons_succ]
    refine wpParts_det (by rfl) (fun W hE hN => ?_) ?_
    · go_simp; refine ⟨Below.refl _ _, ?_⟩; rfl
    simp only [Act.put, List.setIfInBounds_toArray, List.set_cons_zero, List.set_cons_succ]
    refine wpParts_det (by rfl) (fun W hE hN => ?_) ?_
    · go_simp; refine ⟨Below.refl _ _, ?_⟩; rfl
    simp only [Act.put, List.setIfInBounds_toArray, List.set_cons_zero, List.set_cons_succ]
    refine wpParts_det (by rfl) (fun W hE hN => ?_) ?_
    · go_simp; refine ⟨Below.refl _ _, ?_⟩; rfl
    simp only [Act.put, List.setIfInBounds_toArray, List.set_cons_zero, List.set_cons_succ]
    refine wpParts_det (by rfl) (fun W hE hN => ?_) ?_
    · have hc := fun b o h => hE.cell (p := ⟨b, o, none⟩) h
      go_simp; refine ⟨Below.refl _ _, ?_⟩; rfl
    simp only [Act.put, List.setIfInBounds_toArray, List.set_cons_zero, List.set_cons_succ]
    refine wpParts_det (by rfl) (fun W hE hN => ?_) ?_
    · go_simp; refine ⟨Below.refl _ _, ?_⟩; refine (Try_One_yes _ _ _ _ hx).mono ?_; rintro e w' ⟨rfl, hb⟩; refine ⟨?_, hb⟩; rfl
    simp only [Act.put, List.setIfInBounds_toArray, List.set_cons_zero, List.set_cons_succ]
    refine wpParts_det (by rfl) (fun W hE hN => ?_) ?_
    · have hc := fun b o h => hE.cell (p := ⟨b, o, none⟩) h
      go_simp; refine ⟨Below.refl _ _, ?_⟩; rfl
    simp only [Act.put, List.setIfInBounds_toArray, List.set_cons_zero, List.set_cons_succ]
    refine wpParts_det (by rfl) (fun W hE hN => ?_) ?_
    · go_simp; refine ⟨Below.refl _ _, ?_⟩; refine (Try_rOne_yes _ _ _ _ hx).mono ?_; rintro e w' ⟨rfl, hb⟩; refine ⟨?_, hb⟩; rfl
    simp only [Act.put, List.setIfInBounds_toArray, List.set_cons_zero, List.set_cons_succ]
    refine wpParts_det (by rfl) (fun W hE hN => ?_) ?_
    · go_simp; refine ⟨Below.refl _ _, ?_⟩; rfl
    simp only [Act.put, List.setIfInBounds_toArray, List.set_cons_zero, List.set_cons_succ]
    refine wpParts_det (by rfl) (fun W hE hN => ?_) ?_
    · go_simp; refine ⟨Below.refl _ _, ?_⟩; rfl
    simp only [Act.put, List.setIfInBounds_toArray, List.set_cons_zero, List.set_cons_succ]
    refine wpParts_det (by rfl) (fun W hE hN => ?_) ?_
    · go_simp; refine ⟨Below.refl _ _, ?_⟩; rfl
    simp only [Act.put, List.setIfInBounds_toArray, List.set_cons_zero, List.set_cons_succ]
    refine wpParts_det (by rfl) (fun W hE hN => ?_) ?_
    · have hc := fun b o h => hE.cell (p := ⟨b, o, none⟩) h
      go_simp; refine ⟨Below.refl _ _, ?_⟩; rfl
    simp only [Act.put, List.setIfInBounds_toArray, List.set_cons_zero, List.set_cons_succ]
    refine wpParts_det (by rfl) (fun W hE hN => ?_) ?_
    · go_simp; refine ⟨Below.refl _ _, ?_⟩; refine (Try_One_yes _ _ _ _ hx).mono ?_; rintro e w' ⟨rfl, hb⟩; refine ⟨?_, hb⟩; rfl
    simp only [Act.put, List.setIfInBounds_toArray, List.set_cons_zero, List.set_cons_succ]
    refine wpParts_det (by rfl) (fun W hE hN => ?_) ?_
    · go_simp; refine ⟨Below.refl _ _, ?_⟩; refine (C1.out _).mono ?_; rintro e w' ⟨rfl, hb⟩; refine ⟨?_, hb⟩; rfl
    simp only [Act.put, List.setIfInBounds_toArray, List.set_cons_zero, List.set_cons_succ]
    refine wpParts_det (by rfl) (fun W hE hN => ?_) ?_
    · go_simp; refine ⟨Below.refl _ _, ?_⟩; rfl
    simp only [Act.put, List.setIfInBounds_toArray, List.set_cons_zero, List.set_cons_succ]
    refine wpParts_det (by rfl) (fun W hE hN => ?_) ?_
    · go_simp; refine ⟨Below.refl _ _, ?_⟩; rfl
    simp only [Act.put, List.setIfInBounds_toArray, List.set_cons_zero, List.set_cons_succ]
    refine wpParts_det (by rfl) (fun W hE hN => ?_) ?_
    · go_simp; refine ⟨Below.refl _ _, ?_⟩; rfl
    simp only [Act.put, List.setIfInBounds_toArray, List.set_cons_zero, List.set_cons_succ]
    refine wpParts_end fun W2 hE2 hG2 => ?_
    have hcW2 := fun b o h => hE2.cell (p := ⟨b, o, none⟩) h
    have hfW2 := fun b o h => hE2.frozen (p := ⟨b, o, none⟩) h
    go_wp2
    go_ret
    exact ⟨rfl, (by repeat (first | (with_reducible exact Below.refl _ _) | (with_reducible exact Below.refl _ _) | (with_reducible refine Below.setCell ?_ (by first | omega | (simp; done) | (simp; omega)) _) | (with_reducible refine Below.alloc ?_ (by first | omega | (simp; done) | (simp; omega)) _) | (with_reducible refine Below.drew ?_) | (with_reducible refine Below.trans ?_ (hE2.mono (by first | omega | (simp; done) | (simp; omega)))) | (with_reducible refine Below.trans ?_ (hb1.mono (by first | omega | (simp; done) | (simp; omega))))))⟩

set_option maxRecDepth 8000 in
set_option maxHeartbeats 8000000 in
theorem Try_MonoidChecks_no_none (r : Red) (a1 a2 : Option Addr) (l1 c1 l2 c2 : Nat) (x : Int) (w : World) (hl : I64 r.l) (hm : I64 r.m) (hx : I64 x) (hok : r.ok = false) :
    Calls Try.prog 3 #[.agg #[.int .i64 r.c, .int .i64 r.n, .int .i64 (hi r.s), .int .u64 (lo r.s), .int .i64 r.l, .int .i64 r.m], .agg #[.slice a1 l1 c1, .slice a2 l2 c2, .bool false, .int .i64 x]] w fun e w' =>
      e = .returned (.bool true) ∧ Below w.heap.size w w' := by
  have er : redE r.ok = 230 := by rw [hok]; rfl
  have ch := fun w => Try_Check r w hl hm
  have rt := fun w => Try_Right r w hl hm
  rw [er] at ch
  rw [hok] at rt
  clear er hok
  have c1 := fun w => Try_Check ⟨1, 0, 0, 0, 0⟩ w (by simp [I64]) (by simp [I64])
  rw [show redE (Red.ok ⟨1, 0, 0, 0, 0⟩) = 0 from by decide +kernel] at c1
  have CH := Lib.hid ch; clear ch
  have RT := Lib.hid rt; clear rt
  have C1 := Lib.hid c1; clear c1
  go_enter Try.func3, Try.ntmps3
  go_wp2_with fail
  refine (Try_wakes _).mono ?_; rintro e w1 ⟨rfl, hb1⟩; obtain ⟨hc1, hf1, hs1⟩ := after hb1
  simp at hs1
  have lt_w1_0_0 : w.heap.size < w1.heap.size := by omega
  have lt_w1_0_1 : w.heap.size < w1.heap.size + 1 := by omega
  have lt_w1_1_0 : w.heap.size + 1 < w1.heap.size := by omega
  have lt_w1_1_1 : w.heap.size + 1 < w1.heap.size + 1 := by omega
  go_wp2_with fail
  refine' wp_region_seq [.inl _, .inl _, .inl _, .inl _, .inl _, .inl _, .inl _, .inl _, .inl _, .inl _, .inl _, .inl _, .inl _, .inl _, .inl _, .inl _, .inl _, .inl _, .inl _, .inl _, .inl _, .inl _, .inl _, .inl _, .inl _, .inl _, .inl _, .inl _, .inl _, .inl _] (by kernel_rfl) (by kernel_rfl) ?main
  case main =>
    refine wpParts_det (by rfl) (fun W hE hN => ?_) ?_
    · have hc := fun b o h => hE.cell (p := ⟨b, o, none⟩) h
      go_simp; refine ⟨Below.refl _ _, ?_⟩; rfl
    simp only [Act.put, List.setIfInBounds_toArray, List.set_cons_zero, List.set_cons_succ]
    refine wpParts_det (by rfl) (fun W hE hN => ?_) ?_
    · go_simp; refine ⟨Below.refl _ _, ?_⟩; refine (CH.out _).mono ?_; rintro e w' ⟨rfl, hb⟩; refine ⟨?_, hb⟩; rfl
    simp only [Act.put, List.setIfInBounds_toArray, List.set_cons_zero, List.set_cons_succ]
    refine wpParts_det (by rfl) (fun W hE hN => ?_) ?_
    · go_simp; refine ⟨Below.refl _ _, ?_⟩; rfl
    simp only [Act.put, List.setIfInBounds_toArray, List.set_cons_zero, List.set_cons_succ]
    refine wpParts_det (by rfl) (fun W hE hN => ?_) ?_
    · have hc := fun b o h => hE.cell (p := ⟨b, o, none⟩) h
      go_simp; refine ⟨Below.refl _ _, ?_⟩; rfl
    simp only [Act.put, List.setIfInBounds_toArray, List.set_cons_zero, List.set_cons_succ]
    refine wpParts_det (by rfl) (fun W hE hN => ?_) ?_
    · go_simp; refine ⟨Below.refl _ _, ?_⟩; refine (RT.out _).mono ?_; rintro e w' ⟨rfl, hb⟩; refine ⟨?_, hb⟩; rfl
    simp only [Act.put, List.setIfInBounds_toArray, List.set_cons_zero, List.set_cons_succ]
    refine wpParts_det (by rfl) (fun W hE hN => ?_) ?_
    · go_simp; refine ⟨Below.refl _ _, ?_⟩; rfl
    simp only [Act.put, List.setIfInBounds_toArray, List.set_cons_zero, List.set_cons_succ]
    refine wpParts_det (by rfl) (fun W hE hN => ?_) ?_
    · go_simp; refine ⟨Below.refl _ _, ?_⟩; rfl
    simp only [Act.put, List.setIfInBounds_toArray, List.set_cons_zero, List.set_cons_succ]
    refine wpParts_det (by rfl) (fun W hE hN => ?_) ?_
    · have hc := fun b o h => hE.cell (p := ⟨b, o, none⟩) h
      go_simp; refine ⟨Below.refl _ _, ?_⟩; rfl
    simp only [Act.put, List.setIfInBounds_toArray, List.set_cons_zero, List.set_cons_succ]
    refine wpParts_det (by rfl) (fun W hE hN => ?_) ?_
    · go_simp; refine ⟨Below.refl _ _, ?_⟩; refine (CH.out _).mono ?_; rintro e w' ⟨rfl, hb⟩; refine ⟨?_, hb⟩; rfl
    simp only [Act.put, List.setIfInBounds_toArray, List.set_cons_zero, List.set_cons_succ]
    refine wpParts_det (by rfl) (fun W hE hN => ?_) ?_
    · go_simp; refine ⟨Below.refl _ _, ?_⟩; rfl
    simp only [Act.put, List.setIfInBounds_toArray, List.set_cons_zero, List.set_cons_succ]
    refine wpParts_det (by rfl) (fun W hE hN => ?_) ?_
    · go_simp; refine ⟨Below.refl _ _, ?_⟩; rfl
    simp only [Act.put, List.setIfInBounds_toArray, List.set_cons_zero, List.set_cons_succ]
    refine wpParts_det (by rfl) (fun W hE hN => ?_) ?_
    · have hc := fun b o h => hE.cell (p := ⟨b, o, none⟩) h
      go_simp; refine ⟨Below.refl _ _, ?_⟩; rfl
    simp only [Act.put, List.setIfInBounds_toArray, List.set_cons_zero, List.set_cons_succ]
    refine wpParts_det (by rfl) (fun W hE hN => ?_) ?_
    · go_simp; refine ⟨Below.refl _ _, ?_⟩; refine (CH.out _).mono ?_; rintro e w' ⟨rfl, hb⟩; refine ⟨?_, hb⟩; rfl
    simp only [Act.put, List.setIfInBounds_toArray, List.set_cons_zero, List.set_cons_succ]
    refine wpParts_det (by rfl) (fun W hE hN => ?_) ?_
    · go_simp; refine ⟨Below.refl _ _, ?_⟩; rfl
    simp only [Act.put, List.setIfInBounds_toArray, List.set_cons_zero, List.set_cons_succ]
    refine wpParts_det (by rfl) (fun W hE hN => ?_) ?_
    · go_simp; refine ⟨Below.refl _ _, ?_⟩; rfl
    simp only [Act.put, List.setIfInBounds_toArray, List.set_cons_zero, List.set_cons_succ]
    refine wpParts_det (by rfl) (fun W hE hN => ?_) ?_
    · go_simp; refine ⟨Below.refl _ _, ?_⟩; rfl
    simp only [Act.put, List.setIfInBounds_toArray, List.set_cons_zero, List.set_cons_succ]
    refine wpParts_det (by rfl) (fun W hE hN => ?_) ?_
    · go_simp; refine ⟨Below.refl _ _, ?_⟩; rfl
    simp only [Act.put, List.setIfInBounds_toArray, List.set_cons_zero, List.set_cons_succ]
    refine wpParts_det (by rfl) (fun W hE hN => ?_) ?_
    · have hc := fun b o h => hE.cell (p := ⟨b, o, none⟩) h
      go_simp; refine ⟨Below.refl _ _, ?_⟩; rfl
    simp only [Act.put, List.setIfInBounds_toArray, List.set_cons_zero, List.set_cons_succ]
    refine wpParts_det (by rfl) (fun W hE hN => ?_) ?_
    · go_simp; refine ⟨Below.refl _ _, ?_⟩; refine (Try_One_no _ _ _ _ rfl rfl).mono ?_; rintro e w' ⟨rfl, hb⟩; refine ⟨?_, hb⟩; rfl
    simp only [Act.put, List.setIfInBounds_toArray, List.set_cons_zero, List.set_cons_succ]
    refine wpParts_det (by rfl) (fun W hE hN => ?_) ?_
    · have hc := fun b o h => hE.cell (p := ⟨b, o, none⟩) h
      go_simp; refine ⟨Below.refl _ _, ?_⟩; rfl
    simp only [Act.put, List.setIfInBounds_toArray, List.set_cons_zero, List.set_cons_succ]
    refine wpParts_det (by rfl) (fun W hE hN => ?_) ?_
    · go_simp; refine ⟨Below.refl _ _, ?_⟩; refine (Try_rOne_no _ _ _ _).mono ?_; rintro e w' ⟨rfl, hb⟩; refine ⟨?_, hb⟩; rfl
    simp only [Act.put, List.setIfInBounds_toArray, List.set_cons_zero, List.set_cons_succ]
    refine wpParts_det (by rfl) (fun W hE hN => ?_) ?_
    · go_simp; refine ⟨Below.refl _ _, ?_⟩; rfl
    simp only [Act.put, List.setIfInBounds_toArray, List.set_cons_zero, List.set_cons_succ]
    refine wpParts_det (by rfl) (fun W hE hN => ?_) ?_
    · go_simp; refine ⟨Below.refl _ _, ?_⟩; rfl
    simp only [Act.put, List.setIfInBounds_toArray, List.set_cons_zero, List.set_cons_succ]
    refine wpParts_det (by rfl) (fun W hE hN => ?_) ?_
    · go_simp; refine ⟨Below.refl _ _, ?_⟩; rfl
    simp only [Act.put, List.setIfInBounds_toArray, List.set_cons_zero, List.set_cons_succ]
    refine wpParts_det (by rfl) (fun W hE hN => ?_) ?_
    · have hc := fun b o h => hE.cell (p := ⟨b, o, none⟩) h
      go_simp; refine ⟨Below.refl _ _, ?_⟩; rfl
    simp only [Act.put, List.setIfInBounds_toArray, List.set_cons_zero, List.set_cons_succ]
    refine wpParts_det (by rfl) (fun W hE hN => ?_) ?_
    · go_simp; refine ⟨Below.refl _ _, ?_⟩; refine (Try_One_no _ _ _ _ rfl rfl).mono ?_; rintro e w' ⟨rfl, hb⟩; refine ⟨?_, hb⟩; rfl
    simp only [Act.put, List.setIfInBounds_toArray, List.set_cons_zero, List.set_cons_succ]
    refine wpParts_det (by rfl) (fun W hE hN => ?_) ?_
    · go_simp; refine ⟨Below.refl _ _, ?_⟩; refine (C1.out _).mono ?_; rintro e w' ⟨rfl, hb⟩; refine ⟨?_, hb⟩; rfl
    simp only [Act.put, List.setIfInBounds_toArray, List.set_cons_zero, List.set_cons_succ]
    refine wpParts_det (by rfl) (fun W hE hN => ?_) ?_
    · go_simp; refine ⟨Below.refl _ _, ?_⟩; rfl
    simp only [Act.put, List.setIfInBounds_toArray, List.set_cons_zero, List.set_cons_succ]
    refine wpParts_det (by rfl) (fun W hE hN => ?_) ?_
    · go_simp; refine ⟨Below.refl _ _, ?_⟩; rfl
    simp only [Act.put, List.setIfInBounds_toArray, List.set_cons_zero, List.set_cons_succ]
    refine wpParts_det (by rfl) (fun W hE hN => ?_) ?_
    · go_simp; refine ⟨Below.refl _ _, ?_⟩; rfl
    simp only [Act.put, List.setIfInBounds_toArray, List.set_cons_zero, List.set_cons_succ]
    refine wpParts_end fun W2 hE2 hG2 => ?_
    have hcW2 := fun b o h => hE2.cell (p := ⟨b, o, none⟩) h
    have hfW2 := fun b o h => hE2.frozen (p := ⟨b, o, none⟩) h
    go_wp2
    go_ret
    exact ⟨rfl, (by repeat (first | (with_reducible exact Below.refl _ _) | (with_reducible exact Below.refl _ _) | (with_reducible refine Below.setCell ?_ (by first | omega | (simp; done) | (simp; omega)) _) | (with_reducible refine Below.alloc ?_ (by first | omega | (simp; done) | (simp; omega)) _) | (with_reducible refine Below.drew ?_) | (with_reducible refine Below.trans ?_ (hE2.mono (by first | omega | (simp; done) | (simp; omega)))) | (with_reducible refine Below.trans ?_ (hb1.mono (by first | omega | (simp; done) | (simp; omega))))))⟩

end Go.Proofs.Ytdebmifjfemcjaa
