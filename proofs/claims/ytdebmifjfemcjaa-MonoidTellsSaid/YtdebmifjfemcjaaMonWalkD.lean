/-
  Layer 13: Check, walked.
-/
import Derived.Test.YtdebmifjfemcjaaMonWalkC
namespace Go.Proofs.Ytdebmifjfemcjaa
set_option linter.unusedVariables false
set_option linter.unusedSimpArgs false
open Go.RowKit Go.Dav
attribute [local go_sem] Gives ite_val ite_val_true

set_option maxRecDepth 4000 in
theorem Try_Check_bad (c n s l m : Int) (w : World) (h : n < 0 ∨ c < n ∨ 1073741824 < c) :
    Calls Try.prog 9 #[.agg #[.int .i64 c, .int .i64 n, .int .i64 (hi s), .int .u64 (lo s), .int .i64 l, .int .i64 m]] w fun e w' =>
      e = .returned (.int .i64 230) ∧ Below w.heap.size w w' := by
  by_cases h1 : c < 0
  · go_enter Try.func9, Try.ntmps9
    go_wp2
    go_ret
    exact ⟨rfl, (by repeat (first | (with_reducible exact Below.refl _ _) | (with_reducible exact Below.refl _ _) | (with_reducible refine Below.setCell ?_ (by first | omega | (simp; done) | (simp; omega)) _) | (with_reducible refine Below.alloc ?_ (by first | omega | (simp; done) | (simp; omega)) _) | (with_reducible refine Below.drew ?_) | (with_reducible refine below_drewN ?_ _)))⟩
  by_cases h2 : 1073741824 < c
  · go_enter Try.func9, Try.ntmps9
    go_wp2
    go_ret
    exact ⟨rfl, (by repeat (first | (with_reducible exact Below.refl _ _) | (with_reducible exact Below.refl _ _) | (with_reducible refine Below.setCell ?_ (by first | omega | (simp; done) | (simp; omega)) _) | (with_reducible refine Below.alloc ?_ (by first | omega | (simp; done) | (simp; omega)) _) | (with_reducible refine Below.drew ?_) | (with_reducible refine below_drewN ?_ _)))⟩
  by_cases h3 : n < 0
  · go_enter Try.func9, Try.ntmps9
    go_wp2
    go_ret
    exact ⟨rfl, (by repeat (first | (with_reducible exact Below.refl _ _) | (with_reducible exact Below.refl _ _) | (with_reducible refine Below.setCell ?_ (by first | omega | (simp; done) | (simp; omega)) _) | (with_reducible refine Below.alloc ?_ (by first | omega | (simp; done) | (simp; omega)) _) | (with_reducible refine Below.drew ?_) | (with_reducible refine below_drewN ?_ _)))⟩
  have h4 : c < n := by omega
  go_enter Try.func9, Try.ntmps9
  go_wp2
  go_ret
  exact ⟨rfl, (by repeat (first | (with_reducible exact Below.refl _ _) | (with_reducible exact Below.refl _ _) | (with_reducible refine Below.setCell ?_ (by first | omega | (simp; done) | (simp; omega)) _) | (with_reducible refine Below.alloc ?_ (by first | omega | (simp; done) | (simp; omega)) _) | (with_reducible refine Below.drew ?_) | (with_reducible refine below_drewN ?_ _)))⟩

set_option maxRecDepth 4000 in
theorem Try_Check_0 (c s l m : Int) (w : World) (h1 : 0 ≤ c) (h2 : c ≤ 1073741824) :
    Calls Try.prog 9 #[.agg #[.int .i64 c, .int .i64 0, .int .i64 (hi s), .int .u64 (lo s), .int .i64 l, .int .i64 m]] w fun e w' =>
      e = .returned (.int .i64 (redE (decide (hi s = 0 ∧ lo s = 0 ∧ l = 0 ∧ m = 0)))) ∧ Below w.heap.size w w' := by
  generalize hb : decide (hi s = 0 ∧ lo s = 0 ∧ l = 0 ∧ m = 0) = b
  have Hb := Lib.hid hb; clear hb
  go_enter Try.func9, Try.ntmps9
  go_wp2
  all_goals (go_ret; refine ⟨ret_int ?_, (by repeat (first | (with_reducible exact Below.refl _ _) | (with_reducible exact Below.refl _ _) | (with_reducible refine Below.setCell ?_ (by first | omega | (simp; done) | (simp; omega)) _) | (with_reducible refine Below.alloc ?_ (by first | omega | (simp; done) | (simp; omega)) _) | (with_reducible refine Below.drew ?_) | (with_reducible refine below_drewN ?_ _)))⟩; have hb := Hb.out; cases b <;> simp_all [redE] <;> omega)

set_option maxRecDepth 4000 in
theorem Try_Check_1 (c s l m : Int) (w : World) (h1 : 1 ≤ c) (h2 : c ≤ 1073741824) (hl : I64 l) :
    Calls Try.prog 9 #[.agg #[.int .i64 c, .int .i64 1, .int .i64 (hi s), .int .u64 (lo s), .int .i64 l, .int .i64 m]] w fun e w' =>
      e = .returned (.int .i64 (redE (decide (l = m ∧ hi s = hi l ∧ lo s = lo l)))) ∧ Below w.heap.size w w' := by
  generalize hb : decide (l = m ∧ hi s = hi l ∧ lo s = lo l) = b
  have Hb := Lib.hid hb; clear hb
  by_cases hlm : l = m
  · subst hlm
    go_enter Try.func9, Try.ntmps9
    go_wp2_with fail
    refine' wp_region_seq [.inl _, .inl _, .inl _, .inl _, .inl _, .inl _, .inl _, .inl _, .inl _, .inl _, .inl _, .inl _, .inl _, .inl _] (by kernel_rfl) (by kernel_rfl) ?main1
    case main1 =>
      refine wpParts_det (by rfl) (fun W hE hN => ?_) ?_
      · go_simp; refine ⟨Below.refl _ _, ?_⟩; rfl
      simp only [Act.put, List.setIfInBounds_toArray, List.set_cons_zero, List.set_cons_succ]
      refine wpParts_det (by rfl) (fun W hE hN => ?_) ?_
      · have hc := fun b o h => hE.cell (p := ⟨b, o, none⟩) h
        go_simp; refine ⟨Below.refl _ _, ?_⟩; rfl
      simp only [Act.put, List.setIfInBounds_toArray, List.set_cons_zero, List.set_cons_succ]
      refine wpParts_det (by rfl) (fun W hE hN => ?_) ?_
      · go_simp; refine ⟨Below.refl _ _, ?_⟩; rfl
      simp only [Act.put, List.setIfInBounds_toArray, List.set_cons_zero, List.set_cons_succ]
      refine wpParts_det (by rfl) (fun W hE hN => ?_) ?_
      · have hc := fun b o h => hE.cell (p := ⟨b, o, none⟩) h
        go_simp; refine ⟨Below.refl _ _, ?_⟩; rfl
      simp only [Act.put, List.setIfInBounds_toArray, List.set_cons_zero, List.set_cons_succ]
      refine wpParts_det (by rfl) (fun W hE hN => ?_) ?_
      · go_simp; refine ⟨Below.refl _ _, ?_⟩; rfl
      simp only [Act.put, List.setIfInBounds_toArray, List.set_cons_zero, List.set_cons_succ]
      refine wpParts_det (by rfl) (fun W hE hN => ?_) ?_
      · go_simp; refine ⟨Below.refl _ _, ?_⟩; rfl
      simp only [Act.put, List.setIfInBounds_toArray, List.set_cons_zero, List.set_cons_succ]
      refine wpParts_det (by rfl) (fun W hE hN => ?_) ?_
      · have hc := fun b o h => hE.cell (p := ⟨b, o, none⟩) h
        go_simp; refine ⟨Below.refl _ _, ?_⟩; rfl
      simp only [Act.put, List.setIfInBounds_toArray, List.set_cons_zero, List.set_cons_succ]
      refine wpParts_det (by rfl) (fun W hE hN => ?_) ?_
      · go_simp; refine ⟨Below.refl _ _, ?_⟩; refine (Try_total _ _ _ _ _ _).mono ?_; rintro e w' ⟨rfl, hb⟩; refine ⟨?_, hb⟩; rfl
      simp only [Act.put, List.setIfInBounds_toArray, List.set_cons_zero, List.set_cons_succ]
      refine wpParts_det (by rfl) (fun W hE hN => ?_) ?_
      · go_simp; refine ⟨Below.refl _ _, ?_⟩; rfl
      simp only [Act.put, List.setIfInBounds_toArray, List.set_cons_zero, List.set_cons_succ]
      refine wpParts_det (by rfl) (fun W hE hN => ?_) ?_
      · have hc := fun b o h => hE.cell (p := ⟨b, o, none⟩) h
        go_simp; refine ⟨Below.refl _ _, ?_⟩; rfl
      simp only [Act.put, List.setIfInBounds_toArray, List.set_cons_zero, List.set_cons_succ]
      refine wpParts_det (by rfl) (fun W hE hN => ?_) ?_
      · go_simp; refine ⟨Below.refl _ _, ?_⟩; refine (Try_of _ _ hl).mono ?_; rintro e w' ⟨rfl, hb⟩; refine ⟨?_, hb⟩; rfl
      simp only [Act.put, List.setIfInBounds_toArray, List.set_cons_zero, List.set_cons_succ]
      refine wpParts_det (by rfl) (fun W hE hN => ?_) ?_
      · go_simp; refine ⟨Below.refl _ _, ?_⟩; rfl
      simp only [Act.put, List.setIfInBounds_toArray, List.set_cons_zero, List.set_cons_succ]
      refine wpParts_det (by rfl) (fun W hE hN => ?_) ?_
      · go_simp; refine ⟨Below.refl _ _, ?_⟩; rfl
      simp only [Act.put, List.setIfInBounds_toArray, List.set_cons_zero, List.set_cons_succ]
      refine wpParts_det (by rfl) (fun W hE hN => ?_) ?_
      · go_simp; refine ⟨Below.refl _ _, ?_⟩; rfl
      simp only [Act.put, List.setIfInBounds_toArray, List.set_cons_zero, List.set_cons_succ]
      refine wpParts_end fun W1 hE1 hG1 => ?_
      have hcW1 := fun b o h => hE1.cell (p := ⟨b, o, none⟩) h
      have hfW1 := fun b o h => hE1.frozen (p := ⟨b, o, none⟩) h
      go_wp2
      all_goals (go_ret; refine ⟨ret_int ?_, (by repeat (first | (with_reducible exact Below.refl _ _) | (with_reducible exact Below.refl _ _) | (with_reducible refine Below.setCell ?_ (by first | omega | (simp; done) | (simp; omega)) _) | (with_reducible refine Below.alloc ?_ (by first | omega | (simp; done) | (simp; omega)) _) | (with_reducible refine Below.drew ?_) | (with_reducible refine below_drewN ?_ _) | (with_reducible refine Below.trans ?_ (hE1.mono (by first | omega | (simp; done) | (simp; omega))))))⟩; have hb := Hb.out; cases b <;> simp_all [redE] <;> omega)
  · have hlm' : (l == m) = false := by simpa using hlm
    have hd : decide (l = m) = false := by simpa using hlm
    go_enter Try.func9, Try.ntmps9
    go_wp2_with fail
    refine' wp_region_seq [.inl _, .inl _, .inl _, .inl _, .inl _, .inl _, .inl undef, .inl undef, .inl undef, .inl undef, .inl undef, .inl undef, .inl _, .inl _] (by kernel_rfl) (by kernel_rfl) ?main2
    case main2 =>
      refine wpParts_det (by rfl) (fun W hE hN => ?_) ?_
      · go_simp; refine ⟨Below.refl _ _, ?_⟩; rfl
      simp only [Act.put, List.setIfInBounds_toArray, List.set_cons_zero, List.set_cons_succ]
      refine wpParts_det (by rfl) (fun W hE hN => ?_) ?_
      · have hc := fun b o h => hE.cell (p := ⟨b, o, none⟩) h
        go_simp; refine ⟨Below.refl _ _, ?_⟩; rfl
      simp only [Act.put, List.setIfInBounds_toArray, List.set_cons_zero, List.set_cons_succ]
      refine wpParts_det (by rfl) (fun W hE hN => ?_) ?_
      · go_simp; refine ⟨Below.refl _ _, ?_⟩; rfl
      simp only [Act.put, List.setIfInBounds_toArray, List.set_cons_zero, List.set_cons_succ]
      refine wpParts_det (by rfl) (fun W hE hN => ?_) ?_
      · have hc := fun b o h => hE.cell (p := ⟨b, o, none⟩) h
        go_simp; refine ⟨Below.refl _ _, ?_⟩; rfl
      simp only [Act.put, List.setIfInBounds_toArray, List.set_cons_zero, List.set_cons_succ]
      refine wpParts_det (by rfl) (fun W hE hN => ?_) ?_
      · go_simp; refine ⟨Below.refl _ _, ?_⟩; rfl
      simp only [Act.put, List.setIfInBounds_toArray, List.set_cons_zero, List.set_cons_succ]
      refine wpParts_det (by rfl) (fun W hE hN => ?_) ?_
      · go_simp; refine ⟨Below.refl _ _, ?_⟩; rfl
      simp only [Act.put, List.setIfInBounds_toArray, List.set_cons_zero, List.set_cons_succ]
      refine wpParts_skip ?_ ?_
      · rfl
      simp only [Act.put, List.setIfInBounds_toArray, List.set_cons_zero, List.set_cons_succ]
      refine wpParts_skip ?_ ?_
      · rfl
      simp only [Act.put, List.setIfInBounds_toArray, List.set_cons_zero, List.set_cons_succ]
      refine wpParts_skip ?_ ?_
      · rfl
      simp only [Act.put, List.setIfInBounds_toArray, List.set_cons_zero, List.set_cons_succ]
      refine wpParts_skip ?_ ?_
      · rfl
      simp only [Act.put, List.setIfInBounds_toArray, List.set_cons_zero, List.set_cons_succ]
      refine wpParts_skip ?_ ?_
      · rfl
      simp only [Act.put, List.setIfInBounds_toArray, List.set_cons_zero, List.set_cons_succ]
      refine wpParts_skip ?_ ?_
      · rfl
      simp only [Act.put, List.setIfInBounds_toArray, List.set_cons_zero, List.set_cons_succ]
      refine wpParts_det (by rfl) (fun W hE hN => ?_) ?_
      · go_simp; refine ⟨Below.refl _ _, ?_⟩; rfl
      simp only [Act.put, List.setIfInBounds_toArray, List.set_cons_zero, List.set_cons_succ]
      refine wpParts_det (by rfl) (fun W hE hN => ?_) ?_
      · go_simp; refine ⟨Below.refl _ _, ?_⟩; rfl
      simp only [Act.put, List.setIfInBounds_toArray, List.set_cons_zero, List.set_cons_succ]
      refine wpParts_end fun W1 hE1 hG1 => ?_
      have hcW1 := fun b o h => hE1.cell (p := ⟨b, o, none⟩) h
      have hfW1 := fun b o h => hE1.frozen (p := ⟨b, o, none⟩) h
      go_wp2
      all_goals (go_ret; refine ⟨ret_int ?_, (by repeat (first | (with_reducible exact Below.refl _ _) | (with_reducible exact Below.refl _ _) | (with_reducible refine Below.setCell ?_ (by first | omega | (simp; done) | (simp; omega)) _) | (with_reducible refine Below.alloc ?_ (by first | omega | (simp; done) | (simp; omega)) _) | (with_reducible refine Below.drew ?_) | (with_reducible refine below_drewN ?_ _) | (with_reducible refine Below.trans ?_ (hE1.mono (by first | omega | (simp; done) | (simp; omega))))))⟩; have hb := Hb.out; cases b <;> simp_all [redE] <;> omega)

set_option maxRecDepth 4000 in
theorem Try_Check_2 (c n s l m : Int) (w : World) (h0 : 2 ≤ n) (h1 : n ≤ c) (h2 : c ≤ 1073741824) (hl : I64 l) (hm : I64 m) :
    Calls Try.prog 9 #[.agg #[.int .i64 c, .int .i64 n, .int .i64 (hi s), .int .u64 (lo s), .int .i64 l, .int .i64 m]] w fun e w' =>
      e = .returned (.int .i64 (redE (decide (l ≤ m) && (!aboveB (l + m + l * (n - 2)) s && !aboveB s (l + m + m * (n - 2)))))) ∧ Below w.heap.size w w' := by
  generalize hb : (decide (l ≤ m) && (!aboveB (l + m + l * (n - 2)) s && !aboveB s (l + m + m * (n - 2)))) = b
  have Hb := Lib.hid hb; clear hb
  have hn' : I64 n := by unfold I64; omega
  by_cases hlm : l ≤ m
  · go_enter Try.func9, Try.ntmps9
    go_wp2_with fail
    refine (Try_bounds _ _ _ _ _ _ h0 hn' hl hm).mono ?_; rintro e w1 ⟨rfl, hb1⟩; obtain ⟨hc1, hf1, hs1⟩ := after hb1
    simp at hs1
    have lt_w1_0_0 : w.heap.size < w1.heap.size := by omega
    have lt_w1_0_1 : w.heap.size < w1.heap.size + 1 := by omega
    have lt_w1_0_2 : w.heap.size < w1.heap.size + 1 + 1 := by omega
    generalize g1 : l + m + l * (n - 2) = x at *
    generalize g2 : l + m + m * (n - 2) = y at *
    clear g1 g2
    by_cases ha : aboveB x s = true
    · go_wp2_with fail
      refine' wp_region_seq [.inl _, .inl _, .inl _, .inl _, .inl _, .inl _, .inl _, .inl _, .inl _, .inl _, .inl _, .inl _, .inl _, .inl undef, .inl undef, .inl undef, .inl undef, .inl undef, .inl _, .inl _] (by kernel_rfl) (by kernel_rfl) ?main3
      case main3 =>
        refine wpParts_det (by rfl) (fun W hE hN => ?_) ?_
        · go_simp; refine ⟨Below.refl _ _, ?_⟩; rfl
        simp only [Act.put, List.setIfInBounds_toArray, List.set_cons_zero, List.set_cons_succ]
        refine wpParts_det (by rfl) (fun W hE hN => ?_) ?_
        · have hc := fun b o h => hE.cell (p := ⟨b, o, none⟩) h
          go_simp; refine ⟨Below.refl _ _, ?_⟩; rfl
        simp only [Act.put, List.setIfInBounds_toArray, List.set_cons_zero, List.set_cons_succ]
        refine wpParts_det (by rfl) (fun W hE hN => ?_) ?_
        · go_simp; refine ⟨Below.refl _ _, ?_⟩; rfl
        simp only [Act.put, List.setIfInBounds_toArray, List.set_cons_zero, List.set_cons_succ]
        refine wpParts_det (by rfl) (fun W hE hN => ?_) ?_
        · have hc := fun b o h => hE.cell (p := ⟨b, o, none⟩) h
          go_simp; refine ⟨Below.refl _ _, ?_⟩; rfl
        simp only [Act.put, List.setIfInBounds_toArray, List.set_cons_zero, List.set_cons_succ]
        refine wpParts_det (by rfl) (fun W hE hN => ?_) ?_
        · go_simp; refine ⟨Below.refl _ _, ?_⟩; rfl
        simp only [Act.put, List.setIfInBounds_toArray, List.set_cons_zero, List.set_cons_succ]
        refine wpParts_det (by rfl) (fun W hE hN => ?_) ?_
        · go_simp; refine ⟨Below.refl _ _, ?_⟩; rfl
        simp only [Act.put, List.setIfInBounds_toArray, List.set_cons_zero, List.set_cons_succ]
        refine wpParts_det (by rfl) (fun W hE hN => ?_) ?_
        · have hc := fun b o h => hE.cell (p := ⟨b, o, none⟩) h
          go_simp; refine ⟨Below.refl _ _, ?_⟩; rfl
        simp only [Act.put, List.setIfInBounds_toArray, List.set_cons_zero, List.set_cons_succ]
        refine wpParts_det (by rfl) (fun W hE hN => ?_) ?_
        · have hc := fun b o h => hE.cell (p := ⟨b, o, none⟩) h
          go_simp; refine ⟨Below.refl _ _, ?_⟩; rfl
        simp only [Act.put, List.setIfInBounds_toArray, List.set_cons_zero, List.set_cons_succ]
        refine wpParts_det (by rfl) (fun W hE hN => ?_) ?_
        · go_simp; refine ⟨Below.refl _ _, ?_⟩; refine (Try_total _ _ _ _ _ _).mono ?_; rintro e w' ⟨rfl, hb⟩; refine ⟨?_, hb⟩; rfl
        simp only [Act.put, List.setIfInBounds_toArray, List.set_cons_zero, List.set_cons_succ]
        refine wpParts_det (by rfl) (fun W hE hN => ?_) ?_
        · go_simp; refine ⟨Below.refl _ _, ?_⟩; refine (Try_above _ _ _).mono ?_; rintro e w' ⟨rfl, hb⟩; refine ⟨?_, hb⟩; rfl
        simp only [Act.put, List.setIfInBounds_toArray, List.set_cons_zero, List.set_cons_succ]
        refine wpParts_det (by rfl) (fun W hE hN => ?_) ?_
        · go_simp; refine ⟨Below.refl _ _, ?_⟩; rfl
        simp only [Act.put, List.setIfInBounds_toArray, List.set_cons_zero, List.set_cons_succ]
        refine wpParts_det (by rfl) (fun W hE hN => ?_) ?_
        · go_simp; refine ⟨Below.refl _ _, ?_⟩; rfl
        simp only [Act.put, List.setIfInBounds_toArray, List.set_cons_zero, List.set_cons_succ]
        refine wpParts_det (by rfl) (fun W hE hN => ?_) ?_
        · go_simp; refine ⟨Below.refl _ _, ?_⟩; rfl
        simp only [Act.put, List.setIfInBounds_toArray, List.set_cons_zero, List.set_cons_succ]
        refine wpParts_skip ?_ ?_
        · rfl
        simp only [Act.put, List.setIfInBounds_toArray, List.set_cons_zero, List.set_cons_succ]
        refine wpParts_skip ?_ ?_
        · rfl
        simp only [Act.put, List.setIfInBounds_toArray, List.set_cons_zero, List.set_cons_succ]
        refine wpParts_skip ?_ ?_
        · rfl
        simp only [Act.put, List.setIfInBounds_toArray, List.set_cons_zero, List.set_cons_succ]
        refine wpParts_skip ?_ ?_
        · rfl
        simp only [Act.put, List.setIfInBounds_toArray, List.set_cons_zero, List.set_cons_succ]
        refine wpParts_skip ?_ ?_
        · rfl
        simp only [Act.put, List.setIfInBounds_toArray, List.set_cons_zero, List.set_cons_succ]
        refine wpParts_det (by rfl) (fun W hE hN => ?_) ?_
        · go_simp; refine ⟨Below.refl _ _, ?_⟩; rfl
        simp only [Act.put, List.setIfInBounds_toArray, List.set_cons_zero, List.set_cons_succ]
        refine wpParts_det (by rfl) (fun W hE hN => ?_) ?_
        · go_simp; refine ⟨Below.refl _ _, ?_⟩; rfl
        simp only [Act.put, List.setIfInBounds_toArray, List.set_cons_zero, List.set_cons_succ]
        refine wpParts_end fun W2 hE2 hG2 => ?_
        have hcW2 := fun b o h => hE2.cell (p := ⟨b, o, none⟩) h
        have hfW2 := fun b o h => hE2.frozen (p := ⟨b, o, none⟩) h
        go_wp2
        all_goals (go_ret; refine ⟨ret_int ?_, (by repeat (first | (with_reducible exact Below.refl _ _) | (with_reducible exact Below.refl _ _) | (with_reducible refine Below.setCell ?_ (by first | omega | (simp; done) | (simp; omega)) _) | (with_reducible refine Below.alloc ?_ (by first | omega | (simp; done) | (simp; omega)) _) | (with_reducible refine Below.drew ?_) | (with_reducible refine below_drewN ?_ _) | (with_reducible refine Below.trans ?_ (hE2.mono (by first | omega | (simp; done) | (simp; omega)))) | (with_reducible refine Below.trans ?_ (hb1.mono (by first | omega | (simp; done) | (simp; omega))))))⟩; have hb := Hb.out; cases b <;> simp_all [redE] <;> omega)
    · have ha' : aboveB x s = false := by simpa using ha
      clear ha
      go_wp2_with fail
      refine' wp_region_seq [.inl _, .inl _, .inl _, .inl _, .inl _, .inl _, .inl _, .inl _, .inl _, .inl _, .inl _, .inl _, .inl _, .inl _, .inl _, .inl _, .inl _, .inl _, .inl _, .inl _] (by kernel_rfl) (by kernel_rfl) ?main4
      case main4 =>
        refine wpParts_det (by rfl) (fun W hE hN => ?_) ?_
        · go_simp; refine ⟨Below.refl _ _, ?_⟩; rfl
        simp only [Act.put, List.setIfInBounds_toArray, List.set_cons_zero, List.set_cons_succ]
        refine wpParts_det (by rfl) (fun W hE hN => ?_) ?_
        · have hc := fun b o h => hE.cell (p := ⟨b, o, none⟩) h
          go_simp; refine ⟨Below.refl _ _, ?_⟩; rfl
        simp only [Act.put, List.setIfInBounds_toArray, List.set_cons_zero, List.set_cons_succ]
        refine wpParts_det (by rfl) (fun W hE hN => ?_) ?_
        · go_simp; refine ⟨Below.refl _ _, ?_⟩; rfl
        simp only [Act.put, List.setIfInBounds_toArray, List.set_cons_zero, List.set_cons_succ]
        refine wpParts_det (by rfl) (fun W hE hN => ?_) ?_
        · have hc := fun b o h => hE.cell (p := ⟨b, o, none⟩) h
          go_simp; refine ⟨Below.refl _ _, ?_⟩; rfl
        simp only [Act.put, List.setIfInBounds_toArray, List.set_cons_zero, List.set_cons_succ]
        refine wpParts_det (by rfl) (fun W hE hN => ?_) ?_
        · go_simp; refine ⟨Below.refl _ _, ?_⟩; rfl
        simp only [Act.put, List.setIfInBounds_toArray, List.set_cons_zero, List.set_cons_succ]
        refine wpParts_det (by rfl) (fun W hE hN => ?_) ?_
        · go_simp; refine ⟨Below.refl _ _, ?_⟩; rfl
        simp only [Act.put, List.setIfInBounds_toArray, List.set_cons_zero, List.set_cons_succ]
        refine wpParts_det (by rfl) (fun W hE hN => ?_) ?_
        · have hc := fun b o h => hE.cell (p := ⟨b, o, none⟩) h
          go_simp; refine ⟨Below.refl _ _, ?_⟩; rfl
        simp only [Act.put, List.setIfInBounds_toArray, List.set_cons_zero, List.set_cons_succ]
        refine wpParts_det (by rfl) (fun W hE hN => ?_) ?_
        · have hc := fun b o h => hE.cell (p := ⟨b, o, none⟩) h
          go_simp; refine ⟨Below.refl _ _, ?_⟩; rfl
        simp only [Act.put, List.setIfInBounds_toArray, List.set_cons_zero, List.set_cons_succ]
        refine wpParts_det (by rfl) (fun W hE hN => ?_) ?_
        · go_simp; refine ⟨Below.refl _ _, ?_⟩; refine (Try_total _ _ _ _ _ _).mono ?_; rintro e w' ⟨rfl, hb⟩; refine ⟨?_, hb⟩; rfl
        simp only [Act.put, List.setIfInBounds_toArray, List.set_cons_zero, List.set_cons_succ]
        refine wpParts_det (by rfl) (fun W hE hN => ?_) ?_
        · go_simp; refine ⟨Below.refl _ _, ?_⟩; refine (Try_above _ _ _).mono ?_; rintro e w' ⟨rfl, hb⟩; refine ⟨?_, hb⟩; rfl
        simp only [Act.put, List.setIfInBounds_toArray, List.set_cons_zero, List.set_cons_succ]
        refine wpParts_det (by rfl) (fun W hE hN => ?_) ?_
        · go_simp; refine ⟨Below.refl _ _, ?_⟩; rfl
        simp only [Act.put, List.setIfInBounds_toArray, List.set_cons_zero, List.set_cons_succ]
        refine wpParts_det (by rfl) (fun W hE hN => ?_) ?_
        · go_simp; refine ⟨Below.refl _ _, ?_⟩; rfl
        simp only [Act.put, List.setIfInBounds_toArray, List.set_cons_zero, List.set_cons_succ]
        refine wpParts_det (by rfl) (fun W hE hN => ?_) ?_
        · go_simp; refine ⟨Below.refl _ _, ?_⟩; rfl
        simp only [Act.put, List.setIfInBounds_toArray, List.set_cons_zero, List.set_cons_succ]
        refine wpParts_det (by rfl) (fun W hE hN => ?_) ?_
        · have hc := fun b o h => hE.cell (p := ⟨b, o, none⟩) h
          go_simp; refine ⟨Below.refl _ _, ?_⟩; rfl
        simp only [Act.put, List.setIfInBounds_toArray, List.set_cons_zero, List.set_cons_succ]
        refine wpParts_det (by rfl) (fun W hE hN => ?_) ?_
        · go_simp; refine ⟨Below.refl _ _, ?_⟩; refine (Try_total _ _ _ _ _ _).mono ?_; rintro e w' ⟨rfl, hb⟩; refine ⟨?_, hb⟩; rfl
        simp only [Act.put, List.setIfInBounds_toArray, List.set_cons_zero, List.set_cons_succ]
        refine wpParts_det (by rfl) (fun W hE hN => ?_) ?_
        · have hc := fun b o h => hE.cell (p := ⟨b, o, none⟩) h
          go_simp; refine ⟨Below.refl _ _, ?_⟩; rfl
        simp only [Act.put, List.setIfInBounds_toArray, List.set_cons_zero, List.set_cons_succ]
        refine wpParts_det (by rfl) (fun W hE hN => ?_) ?_
        · go_simp; refine ⟨Below.refl _ _, ?_⟩; refine (Try_above _ _ _).mono ?_; rintro e w' ⟨rfl, hb⟩; refine ⟨?_, hb⟩; rfl
        simp only [Act.put, List.setIfInBounds_toArray, List.set_cons_zero, List.set_cons_succ]
        refine wpParts_det (by rfl) (fun W hE hN => ?_) ?_
        · go_simp; refine ⟨Below.refl _ _, ?_⟩; rfl
        simp only [Act.put, List.setIfInBounds_toArray, List.set_cons_zero, List.set_cons_succ]
        refine wpParts_det (by rfl) (fun W hE hN => ?_) ?_
        · go_simp; refine ⟨Below.refl _ _, ?_⟩; rfl
        simp only [Act.put, List.setIfInBounds_toArray, List.set_cons_zero, List.set_cons_succ]
        refine wpParts_det (by rfl) (fun W hE hN => ?_) ?_
        · go_simp; refine ⟨Below.refl _ _, ?_⟩; rfl
        simp only [Act.put, List.setIfInBounds_toArray, List.set_cons_zero, List.set_cons_succ]
        refine wpParts_end fun W2 hE2 hG2 => ?_
        have hcW2 := fun b o h => hE2.cell (p := ⟨b, o, none⟩) h
        have hfW2 := fun b o h => hE2.frozen (p := ⟨b, o, none⟩) h
        go_wp2
        all_goals (go_ret; refine ⟨ret_int ?_, (by repeat (first | (with_reducible exact Below.refl _ _) | (with_reducible exact Below.refl _ _) | (with_reducible refine Below.setCell ?_ (by first | omega | (simp; done) | (simp; omega)) _) | (with_reducible refine Below.alloc ?_ (by first | omega | (simp; done) | (simp; omega)) _) | (with_reducible refine Below.drew ?_) | (with_reducible refine below_drewN ?_ _) | (with_reducible refine Below.trans ?_ (hE2.mono (by first | omega | (simp; done) | (simp; omega)))) | (with_reducible refine Below.trans ?_ (hb1.mono (by first | omega | (simp; done) | (simp; omega))))))⟩; have hb := Hb.out; cases b <;> simp_all [redE] <;> omega)
  · have hd : decide (l ≤ m) = false := by simpa using hlm
    go_enter Try.func9, Try.ntmps9
    go_wp2_with fail
    refine (Try_bounds _ _ _ _ _ _ h0 hn' hl hm).mono ?_; rintro e w1 ⟨rfl, hb1⟩; obtain ⟨hc1, hf1, hs1⟩ := after hb1
    simp at hs1
    have lt_w1_0_0 : w.heap.size < w1.heap.size := by omega
    have lt_w1_0_1 : w.heap.size < w1.heap.size + 1 := by omega
    have lt_w1_0_2 : w.heap.size < w1.heap.size + 1 + 1 := by omega
    generalize g1 : l + m + l * (n - 2) = x at *
    generalize g2 : l + m + m * (n - 2) = y at *
    clear g1 g2
    go_wp2_with fail
    refine' wp_region_seq [.inl _, .inl _, .inl _, .inl _, .inl _, .inl _, .inl undef, .inl undef, .inl undef, .inl undef, .inl undef, .inl _, .inl _, .inl undef, .inl undef, .inl undef, .inl undef, .inl undef, .inl _, .inl _] (by kernel_rfl) (by kernel_rfl) ?main5
    case main5 =>
      refine wpParts_det (by rfl) (fun W hE hN => ?_) ?_
      · go_simp; refine ⟨Below.refl _ _, ?_⟩; rfl
      simp only [Act.put, List.setIfInBounds_toArray, List.set_cons_zero, List.set_cons_succ]
      refine wpParts_det (by rfl) (fun W hE hN => ?_) ?_
      · have hc := fun b o h => hE.cell (p := ⟨b, o, none⟩) h
        go_simp; refine ⟨Below.refl _ _, ?_⟩; rfl
      simp only [Act.put, List.setIfInBounds_toArray, List.set_cons_zero, List.set_cons_succ]
      refine wpParts_det (by rfl) (fun W hE hN => ?_) ?_
      · go_simp; refine ⟨Below.refl _ _, ?_⟩; rfl
      simp only [Act.put, List.setIfInBounds_toArray, List.set_cons_zero, List.set_cons_succ]
      refine wpParts_det (by rfl) (fun W hE hN => ?_) ?_
      · have hc := fun b o h => hE.cell (p := ⟨b, o, none⟩) h
        go_simp; refine ⟨Below.refl _ _, ?_⟩; rfl
      simp only [Act.put, List.setIfInBounds_toArray, List.set_cons_zero, List.set_cons_succ]
      refine wpParts_det (by rfl) (fun W hE hN => ?_) ?_
      · go_simp; refine ⟨Below.refl _ _, ?_⟩; rfl
      simp only [Act.put, List.setIfInBounds_toArray, List.set_cons_zero, List.set_cons_succ]
      refine wpParts_det (by rfl) (fun W hE hN => ?_) ?_
      · go_simp; refine ⟨Below.refl _ _, ?_⟩; rfl
      simp only [Act.put, List.setIfInBounds_toArray, List.set_cons_zero, List.set_cons_succ]
      refine wpParts_skip ?_ ?_
      · rfl
      simp only [Act.put, List.setIfInBounds_toArray, List.set_cons_zero, List.set_cons_succ]
      refine wpParts_skip ?_ ?_
      · rfl
      simp only [Act.put, List.setIfInBounds_toArray, List.set_cons_zero, List.set_cons_succ]
      refine wpParts_skip ?_ ?_
      · rfl
      simp only [Act.put, List.setIfInBounds_toArray, List.set_cons_zero, List.set_cons_succ]
      refine wpParts_skip ?_ ?_
      · rfl
      simp only [Act.put, List.setIfInBounds_toArray, List.set_cons_zero, List.set_cons_succ]
      refine wpParts_skip ?_ ?_
      · rfl
      simp only [Act.put, List.setIfInBounds_toArray, List.set_cons_zero, List.set_cons_succ]
      refine wpParts_det (by rfl) (fun W hE hN => ?_) ?_
      · go_simp; refine ⟨Below.refl _ _, ?_⟩; rfl
      simp only [Act.put, List.setIfInBounds_toArray, List.set_cons_zero, List.set_cons_succ]
      refine wpParts_det (by rfl) (fun W hE hN => ?_) ?_
      · go_simp; refine ⟨Below.refl _ _, ?_⟩; rfl
      simp only [Act.put, List.setIfInBounds_toArray, List.set_cons_zero, List.set_cons_succ]
      refine wpParts_skip ?_ ?_
      · rfl
      simp only [Act.put, List.setIfInBounds_toArray, List.set_cons_zero, List.set_cons_succ]
      refine wpParts_skip ?_ ?_
      · rfl
      simp only [Act.put, List.setIfInBounds_toArray, List.set_cons_zero, List.set_cons_succ]
      refine wpParts_skip ?_ ?_
      · rfl
      simp only [Act.put, List.setIfInBounds_toArray, List.set_cons_zero, List.set_cons_succ]
      refine wpParts_skip ?_ ?_
      · rfl
      simp only [Act.put, List.setIfInBounds_toArray, List.set_cons_zero, List.set_cons_succ]
      refine wpParts_skip ?_ ?_
      · rfl
      simp only [Act.put, List.setIfInBounds_toArray, List.set_cons_zero, List.set_cons_succ]
      refine wpParts_det (by rfl) (fun W hE hN => ?_) ?_
      · go_simp; refine ⟨Below.refl _ _, ?_⟩; rfl
      simp only [Act.put, List.setIfInBounds_toArray, List.set_cons_zero, List.set_cons_succ]
      refine wpParts_det (by rfl) (fun W hE hN => ?_) ?_
      · go_simp; refine ⟨Below.refl _ _, ?_⟩; rfl
      simp only [Act.put, List.setIfInBounds_toArray, List.set_cons_zero, List.set_cons_succ]
      refine wpParts_end fun W2 hE2 hG2 => ?_
      have hcW2 := fun b o h => hE2.cell (p := ⟨b, o, none⟩) h
      have hfW2 := fun b o h => hE2.frozen (p := ⟨b, o, none⟩) h
      go_wp2
      all_goals (go_ret; refine ⟨ret_int ?_, (by repeat (first | (with_reducible exact Below.refl _ _) | (with_reducible exact Below.refl _ _) | (with_reducible refine Below.setCell ?_ (by first | omega | (simp; done) | (simp; omega)) _) | (with_reducible refine Below.alloc ?_ (by first | omega | (simp; done) | (simp; omega)) _) | (with_reducible refine Below.drew ?_) | (with_reducible refine below_drewN ?_ _) | (with_reducible refine Below.trans ?_ (hE2.mono (by first | omega | (simp; done) | (simp; omega)))) | (with_reducible refine Below.trans ?_ (hb1.mono (by first | omega | (simp; done) | (simp; omega))))))⟩; have hb := Hb.out; cases b <;> simp_all [redE] <;> omega)
end Go.Proofs.Ytdebmifjfemcjaa
